/- Package place: Pick. Condition: utf8's two tables are laid; columns, owners, who is alive are read; names have at most 2^63 - 4 bytes. -/
import Derived.Test.YtfgmgcnbponknaaDoorVc6
namespace Go.Proofs.YtfgmgcnbponknaaDoor.Val
open Go.RowKit Go.Proofs.YtfgmgcnbponknaaDoor.G Go.Proofs.YtfgmgcnbponknaaDoor.Lx Go.Proofs.YtfgmgcnbponknaaDoor.Opn Go.Proofs.YtfgmgcnbponknaaDoorW.PrintWords Go.Proofs.YtfgmgcnbponknaaDoorW.PrintLast Go.Proofs.YtfgmgcnbponknaaDoorW.PrintMore
set_option linter.unusedVariables false
set_option linter.unusedSimpArgs false
theorem clone_f (l : List Int) (h : l.length < 17592186044416) : slices_Clone_int_int.f l = some l := by
  unfold slices_Clone_int_int.f
  simp
  omega
theorem clone_blk {w : World} {base : Nat} {ok : Nat → Prop} {v : Value} {l : List Int} (h : Kd.R (Kd.int .i64) 3 w base ok v l) (hne : l ≠ []) :
    ∃ (g cap : Nat) (cur : List Value), v = .slice (some ⟨g, 0, none⟩) l.length cap ∧ base ≤ g ∧ w.heap[g]? = some (.cells cur.toArray 3 (0, 0)) ∧ l.length ≤ cap ∧ cur.length = cap ∧ cur.take l.length = ints l := by
  have ho : w.ownsRow base 3 1 v l.length (encs (Value.int .i64) l) := Kd.own_of_R h
  rcases ho.2 with ⟨_, h0⟩ | ⟨g, cap, cur, e, hb, hh, hnc, _, hcs, ht⟩
  · exact absurd (List.length_eq_zero_iff.1 h0) hne
  · refine ⟨g, cap, cur.toList, e, hb, by simpa using hh, hnc, by simpa using hcs, ?_⟩
    rw [Nat.mul_one] at ht
    exact ht
theorem cell_at7 {w : World} {g n : Nat} {L : List Int} (h : Kd.C (Kd.int .i64) w (some ⟨g, 0, none⟩) n L) {j : Nat} (hj : j < n) : w.cell? ⟨g, j, none⟩ = some (.int .i64 (L.getD j 0)) := by
  obtain ⟨ad, eA, x0⟩ := cell_int h hj
  obtain rfl := Option.some.inj eA
  rcases Nat.eq_zero_or_pos j with h | h
  · subst h; simpa [Addr.add] using x0
  · simpa [Addr.add, Nat.ne_of_gt h] using x0
def pickG (b : List Bool) : List (List Int) → Nat → List Int → List Int × Int
  | [], _, out => (out, 0)
  | o :: r, s, out => if (keepL b o).length = 0 then ([], 18) else pickG b r (s + 1) (out ++ [(keepL b o).getD (s % (keepL b o).length) 0])
def pickV (n0 n1 n2 : Int) (nm : ByteArray) (l : List S97) (m : List (List Int)) (b : List Bool) : List Int × Int :=
  if claimV n0 n1 n2 nm l m ≠ 0 then ([], claimV n0 n1 n2 nm l m) else pickG b m 0 []
def PickPost (w : World) (r : List Int × Int) (e : Ending) (w' : World) : Prop := ∃ v0, e = .returned (.tuple #[v0, .int .i64 r.2]) ∧ Kd.R (Kd.int .i64) 3 w' w.heap.size (fun _ => True) v0 r.1 ∧ Below w.heap.size w w'
/-- owners that may be picked of -/
def Good (m : List (List Int)) : Prop := ∀ x ∈ m, x ≠ [] ∧ x.length < 17592186044416 ∧ ∀ y ∈ x, 0 ≤ y
set_option maxHeartbeats 8000000 in
set_option maxRecDepth 100000 in
theorem pick_calls (n0 n1 n2 b0 b1 : Int) (nm : ByteArray) (A B C : Option Addr) (c d e0 : Nat) (l : List S97) (m : List (List Int)) (b : List Bool) (w : World) (ha : Kd.C k97 w A l.length l) (hc : l.length ≤ c) (hl : l.length < 4611686018427387904) (hn : nm.size ≤ 9223372036854775807) (hs : ShortC l)
    (hb : Kd.C (Kd.slice 3 (Kd.int .i64)) w B m.length m) (hd : m.length ≤ d) (hm : m.length < 17592186044416) (hr : Reach m) (hb2 : Kd.C Kd.bool w C b.length b) (he0 : b.length ≤ e0) (hgood : claimV n0 n1 n2 nm l m = 0 → Good m) (hT : Lib.Utf8Tabs 0 1 w) :
    Calls Tryd.prog 22 #[.agg #[.int .i64 n0, .int .i64 n1, .int .i64 n2], .agg #[.string nm, .slice A l.length c, .int .u64 b0, .int .u64 b1, .slice B m.length d], .slice C b.length e0] w (PickPost w (pickV n0 n1 n2 nm l m b)) := by
  have HB := Lib.hid (Below.refl w.heap.size w)
  have HCL := Lib.hid (fun (wx : World) (hx : Below w.heap.size w wx) => claim_calls n0 n1 n2 b0 b1 nm A B c d l m wx (Kd.C_below ha hx) hc hl hn hs (Kd.C_below hb hx) hd (by omega) hr (Utf8Tabs_below hT hx))
  have HM := Lib.hid hb
  have HL := Lib.hid hb2
  clear ha hT hs hr hb hb2
  obtain ⟨v, hv⟩ : ∃ v, v = claimV n0 n1 n2 nm l m := ⟨_, rfl⟩
  have hX : pickV n0 n1 n2 nm l m b = if v ≠ 0 then ([], v) else pickG b m 0 [] := by rw [hv]; rfl
  rw [hX]
  rw [← hv] at hgood
  have HV := Lib.hid hv.symm
  clear hX hv
  obtain ⟨n, hn1⟩ : ∃ n, n = l.length := ⟨_, rfl⟩
  obtain ⟨o, ho1⟩ : ∃ o, o = m.length := ⟨_, rfl⟩
  obtain ⟨p, hp1⟩ : ∃ p, p = b.length := ⟨_, rfl⟩
  rw [← hn1] at HCL hc hl ⊢
  rw [← ho1] at HCL HM hd hm ⊢
  rw [← hp1] at HL he0 ⊢
  have HO := Lib.hid ho1
  have HP := Lib.hid hp1
  clear hn1 ho1 hp1
  by_cases hv0 : v = 0
  · have HGD := Lib.hid (hgood hv0)
    rw [if_neg (fun h => h hv0)]
    subst hv0
    clear hgood
    obtain ⟨res, hres⟩ : ∃ res, res = pickG b m 0 [] := ⟨_, rfl⟩
    rw [← hres]
    have HRES := Lib.hid hres
    clear hres
    go_enter Tryd.func22, Tryd.ntmps22
    go_wp2_with (first
      | ((with_reducible refine gate_dst (N := 3) rfl ?_); refine box_event ?hg (N := 3) ?hd (cs := #[.int .i64 n0, .int .i64 n1, .int .i64 n2]) (t := 23) ?hr ?_; (case hd => rfl); (case hg => rfl); (case hr => first | (go_simp; done) | (go_simp; rfl)); intro g3 hg wb3 hbx hb; have nHB := Lib.hid (below_step HB.out hb); clear HB; have HB := nHB; clear nHB; have B3 := Lib.hid hbx; clear hg hbx hb)
      | ((with_reducible refine gate_dst (N := 4) rfl ?_); refine box_event ?hg (N := 4) ?hd (cs := #[.string nm, .slice A n c, .int .u64 b0, .int .u64 b1, .slice B o d]) (t := 54) ?hr ?_; (case hd => rfl); (case hg => rfl); (case hr => first | (go_simp; done) | (go_simp; rfl)); intro g4 hg wb4 hbx hb; have nB := Lib.hid (blk_below B3.out hb); clear B3; have B3 := nB; clear nB; have nHB := Lib.hid (below_step HB.out hb); clear HB; have HB := nHB; clear nHB; have B4 := Lib.hid hbx; clear hg hbx hb)
      | ((with_reducible refine gate_dst (N := 5) rfl ?_); refine box_event ?hg (N := 5) ?hd (cs := #[.slice C p e0]) (t := 55) ?hr ?_; (case hd => rfl); (case hg => rfl); (case hr => first | (go_simp; done) | (go_simp; rfl)); intro g5 hg wb5 hbx hb; have nB := Lib.hid (blk_below B3.out hb); clear B3; have B3 := nB; clear nB; have nB := Lib.hid (blk_below B4.out hb); clear B4; have B4 := nB; clear nB; have nHB := Lib.hid (below_step HB.out hb); clear HB; have HB := nHB; clear nHB; have B5 := Lib.hid hbx; clear hg hbx hb; have l3 := blk_lt B3.out; have l4 := blk_lt B4.out; have l5 := blk_lt B5.out; have p0 := (blk_cell B3.out 0).trans rfl; have p1 := (blk_cell B3.out 1).trans rfl; have p2 := (blk_cell B3.out 2).trans rfl; have q0 := (blk_cell B4.out 0).trans rfl; have q1 := (blk_cell B4.out 1).trans rfl; have q2 := (blk_cell B4.out 2).trans rfl; have q3 := (blk_cell B4.out 3).trans rfl; have q4 := (blk_cell B4.out 4).trans rfl; have r0 := (blk_cell B5.out 0).trans rfl)
      | (go_at_call 24; refine (HCL.out _ HB.out).mono ?_; rw [HV.out]; rintro e w6 ⟨rfl, hb⟩; clear p0 p1 p2 q0 q1 q2 q3 q4 r0; have nB := Lib.hid (blk_below B3.out hb); clear B3; have B3 := nB; clear nB; have nB := Lib.hid (blk_below B4.out hb); clear B4; have B4 := nB; clear nB; have nB := Lib.hid (blk_below B5.out hb); clear B5; have B5 := nB; clear nB; have nHB := Lib.hid (below_step HB.out hb); clear HB hb; have HB := nHB; clear nHB; have p0 := (blk_cell B3.out 0).trans rfl; have p1 := (blk_cell B3.out 1).trans rfl; have p2 := (blk_cell B3.out 2).trans rfl; have q0 := (blk_cell B4.out 0).trans rfl; have q1 := (blk_cell B4.out 1).trans rfl; have q2 := (blk_cell B4.out 2).trans rfl; have q3 := (blk_cell B4.out 3).trans rfl; have q4 := (blk_cell B4.out 4).trans rfl; have r0 := (blk_cell B5.out 0).trans rfl))
    have HLV : Hid (Lives b 5 w) ∨ True := Or.inr trivial
    clear HLV
    have hw0 := fun (wr : World) (hB5 : wr.heap[g5]? = some (.cells #[.slice C p e0] 55 (0, 0))) (hx : Below w.heap.size w wr) => (show Lives b g5 wr from fun w1 x h1 hx0 => dead_calls x g5 C e0 b w1 hx0 (by rw [← HP.out]; exact Kd.C_below HL.out (below_step hx h1)) (by rw [← HP.out]; exact blk_below hB5 h1))
    have HLI := Lib.hid hw0
    clear hw0 p0 p1 p2 q0 q1 q2 q3 q4 r0
    go_loopw [9, 22] (fun v9 v22 wr => ∃ (k : Nat) (X : List Int), v22 = .int .i64 k ∧ k ≤ o ∧ X.length ≤ k ∧ Hid (res = pickG b (m.drop k) k X) ∧ Hid (Kd.R (Kd.int .i64) 3 wr w.heap.size (fun _ => True) v9 X) ∧ Hid (wr.heap[g5]? = some (.cells #[.slice C p e0] 55 (0, 0))) ∧ Hid (Below w.heap.size w wr)) (fun _ v22 _ => o - (intOf v22).toNat)
    case atStart => exact ⟨0, [], rfl, Nat.zero_le _, Nat.zero_le _, HRES, Lib.hid (Kd.R_nil _ _ _ _ _), B5, HB⟩
    case round =>
      clear B3 B4 B5 HB l3 l4 l5 HRES
      obtain ⟨k, X, rfl, hk, hXk, HE, HX, B5, HB⟩ := hrel
      by_cases h1 : k < o
      · have hkl : k < m.length := by rw [← HO.out]; exact h1
        obtain ⟨ad, A0, c0, eA, x0, hc0, hC0⟩ := at_L7 (Kd.C_below HM.out HB.out) (k : Int) (by omega) (by omega)
        simp only [Int.toNat_natCast] at x0
        have hx : rd_L7 m (k : Int) = m.getD k [] := by simp [rd_L7]
        rw [hx] at x0 hc0 hC0
        subst eA
        have hE := HE.out
        rw [dropL hkl] at hE
        obtain ⟨g1, g2, g3⟩ := HGD.out _ (show m.getD k [] ∈ m by rw [List.getD_eq_getElem?_getD, List.getElem?_eq_getElem hkl]; exact List.getElem_mem hkl)
        obtain ⟨F, hF⟩ : ∃ F, F = m.getD k [] := ⟨_, rfl⟩
        rw [← hF] at x0 hE hc0 hC0 g1 g2 g3
        have HC0 := Lib.hid hC0
        have HG1 := Lib.hid g1
        have HG3 := Lib.hid g3
        have hkk : (k : Int) < (o : Int) := by omega
        clear HE hF hx hC0 g1 g3
        obtain ⟨L, hL⟩ : ∃ L, L = keepL b F := ⟨_, rfl⟩
        obtain ⟨n7, hn7⟩ : ∃ n7, n7 = L.length := ⟨_, rfl⟩
        rw [pickG, ← hL, ← hn7] at hE
        have HLK := Lib.hid hL
        have HN7 := Lib.hid hn7
        clear hL hn7
        by_cases hz : n7 = 0
        · rw [if_pos hz] at hE
          have HE := Lib.hid hE
          subst hz
          clear hE
          go_wp2_with (first
            | (go_at_call 36; refine (slices_Clone_int_int.calls A0 c0 F F _ HC0.out hc0 (clone_f F g2)).mono ?_; rintro e w6 ⟨v0, rfl, ho, hb⟩; obtain ⟨g, cap, cur, rfl, hbg, hG, hlc, hcl, hct⟩ := clone_blk ho HG1.out; have HG := Lib.hid hG; have HCT := Lib.hid hct; have HCL2 := Lib.hid hcl; have HBG := Lib.hid hbg; have HB6 := Lib.hid hb; clear ho hG hct hcl hbg hb x0)
            | (go_at_call 35; refine (deleteD_calls g cap g5 cur F b wr _ HB6.out HBG.out HG.out HCT.out hlc HCL2.out (by omega) HG3.out (HLI.out wr B5.out HB.out)).mono ?_; rw [← HLK.out, ← HN7.out]; rintro e w7 ⟨rfl, HC7, HB7⟩; have nX := Lib.hid (Kd.R_below HX.out HB7.out); have n5 := Lib.hid (blk_below B5.out HB7.out); have nB := Lib.hid (below_step HB.out HB7.out); clear HX B5 HB HB7; have HX := nX; have B5 := n5; have HB := nB; clear nX n5 nB))
          go_ret2
          rw [HE.out]
          exact ⟨_, rfl, Kd.R_nil _ _ _ _ _, HB.out⟩
        · rw [if_neg hz] at hE
          obtain ⟨V, hV⟩ : ∃ V, V = L.getD (k % n7) 0 := ⟨_, rfl⟩
          rw [← hV] at hE
          have HVV := Lib.hid hV
          have HE := Lib.hid hE
          clear hE hV
          have e1 : ((n7 : Int) == 0) = false := by simp; omega
          have hq : k % n7 < n7 := Nat.mod_lt _ (by omega)
          have i0 : (0 : Int) ≤ (k : Int) % (n7 : Int) := by omega
          have i1 : (k : Int) % (n7 : Int) < (n7 : Int) := by exact Int.emod_lt_of_pos _ (by omega)
          go_wp2_with (first
            | (go_at_call 36; refine (slices_Clone_int_int.calls A0 c0 F F _ HC0.out hc0 (clone_f F g2)).mono ?_; rintro e w6 ⟨v0, rfl, ho, hb⟩; obtain ⟨g, cap, cur, rfl, hbg, hG, hlc, hcl, hct⟩ := clone_blk ho HG1.out; have HG := Lib.hid hG; have HCT := Lib.hid hct; have HCL2 := Lib.hid hcl; have HBG := Lib.hid hbg; have HB6 := Lib.hid hb; clear ho hG hct hcl hbg hb x0)
            | (go_at_call 35; refine (deleteD_calls g cap g5 cur F b wr _ HB6.out HBG.out HG.out HCT.out hlc HCL2.out (by omega) HG3.out (HLI.out wr B5.out HB.out)).mono ?_; rw [← HLK.out, ← HN7.out]; rintro e w7 ⟨rfl, HC7, HB7⟩; have nX := Lib.hid (Kd.R_below HX.out HB7.out); have n5 := Lib.hid (blk_below B5.out HB7.out); have nB := Lib.hid (below_step HB.out HB7.out); clear HX B5 HB HB7; have HX := nX; have B5 := n5; have HB := nB; clear nX n5 nB; have x9 : w7.cell? ⟨g, k % n7, none⟩ = some (.int .i64 V) := (by have := cell_at7 HC7.out (j := k % n7) hq; rw [HVV.out]; exact this); clear HC7)
            | ((with_reducible refine gate_builtin (b := .append) (xs := #[.tmp 34, .tmp 42]) rfl ?_); at_builtin; refine Kd.R_append (Kd.int .i64) (w0 := w) w.heap.size rfl (.tmp 34) (.tmp 42) 42 3 (.int .i64 0) 8 rfl Tryd.underlying42 info3 rfl (by decide) (by omega) u9 X V [.int .i64 V] (fun _ => True) (fun _ => False) rfl rfl ?aP (fun _ hk => hk.elim) ?aF ?aO ?aB ?aS ?aL ?_; (case aP => exact rfl); (case aB => exact HB.out); (case aF => exact (fun _ _ => trivial)); (case aO => exact HX.out); (case aS => exact HB.out.size); (case aL => omega); intro v8 w8 ho hb hg hat; have nX := Lib.hid ho; have nB := Lib.hid hb; have n5 := Lib.hid (blk_grown B5.out hg (Kd.R_ne HX.out B5.out (by decide))); clear ho hb hg hat HX HB B5 x9; have HX := nX; have HB := nB; have B5 := n5; clear nX nB n5))
          go_roundw
          case rel => exact ⟨k + 1, X ++ [V], by simp, h1, by simp; omega, HE, HX, B5, HB⟩
          case measure => simp [intOf]; omega
      · obtain rfl : k = o := by omega
        have HR2 := Lib.hid (show res = (X, 0) by rw [HE.out, show m.drop k = [] from List.drop_of_length_le (by rw [← HO.out]; exact Nat.le_refl _)]; rfl)
        go_wp2
        go_ret2
        rw [HR2.out]
        exact ⟨_, rfl, HX.out, HB.out⟩
  · have e1 : (v != 0) = true := by simpa using hv0
    rw [if_pos hv0]
    clear hv0 hgood
    go_enter Tryd.func22, Tryd.ntmps22
    go_wp2_with (first
      | ((with_reducible refine gate_dst (N := 3) rfl ?_); refine box_event ?hg (N := 3) ?hd (cs := #[.int .i64 n0, .int .i64 n1, .int .i64 n2]) (t := 23) ?hr ?_; (case hd => rfl); (case hg => rfl); (case hr => first | (go_simp; done) | (go_simp; rfl)); intro g3 hg wb3 hbx hb; have nHB := Lib.hid (below_step HB.out hb); clear HB; have HB := nHB; clear nHB; have B3 := Lib.hid hbx; clear hg hbx hb)
      | ((with_reducible refine gate_dst (N := 4) rfl ?_); refine box_event ?hg (N := 4) ?hd (cs := #[.string nm, .slice A n c, .int .u64 b0, .int .u64 b1, .slice B o d]) (t := 54) ?hr ?_; (case hd => rfl); (case hg => rfl); (case hr => first | (go_simp; done) | (go_simp; rfl)); intro g4 hg wb4 hbx hb; have nB := Lib.hid (blk_below B3.out hb); clear B3; have B3 := nB; clear nB; have nHB := Lib.hid (below_step HB.out hb); clear HB; have HB := nHB; clear nHB; have B4 := Lib.hid hbx; clear hg hbx hb)
      | ((with_reducible refine gate_dst (N := 5) rfl ?_); refine box_event ?hg (N := 5) ?hd (cs := #[.slice C p e0]) (t := 55) ?hr ?_; (case hd => rfl); (case hg => rfl); (case hr => first | (go_simp; done) | (go_simp; rfl)); intro g5 hg wb5 hbx hb; have nB := Lib.hid (blk_below B3.out hb); clear B3; have B3 := nB; clear nB; have nB := Lib.hid (blk_below B4.out hb); clear B4; have B4 := nB; clear nB; have nHB := Lib.hid (below_step HB.out hb); clear HB; have HB := nHB; clear nHB; have B5 := Lib.hid hbx; clear hg hbx hb; have l3 := blk_lt B3.out; have l4 := blk_lt B4.out; have l5 := blk_lt B5.out; have p0 := (blk_cell B3.out 0).trans rfl; have p1 := (blk_cell B3.out 1).trans rfl; have p2 := (blk_cell B3.out 2).trans rfl; have q0 := (blk_cell B4.out 0).trans rfl; have q1 := (blk_cell B4.out 1).trans rfl; have q2 := (blk_cell B4.out 2).trans rfl; have q3 := (blk_cell B4.out 3).trans rfl; have q4 := (blk_cell B4.out 4).trans rfl; have r0 := (blk_cell B5.out 0).trans rfl)
      | (go_at_call 24; refine (HCL.out _ HB.out).mono ?_; rw [HV.out]; rintro e w6 ⟨rfl, hb⟩; clear p0 p1 p2 q0 q1 q2 q3 q4 r0; have nB := Lib.hid (blk_below B3.out hb); clear B3; have B3 := nB; clear nB; have nB := Lib.hid (blk_below B4.out hb); clear B4; have B4 := nB; clear nB; have nB := Lib.hid (blk_below B5.out hb); clear B5; have B5 := nB; clear nB; have nHB := Lib.hid (below_step HB.out hb); clear HB hb; have HB := nHB; clear nHB; have p0 := (blk_cell B3.out 0).trans rfl; have p1 := (blk_cell B3.out 1).trans rfl; have p2 := (blk_cell B3.out 2).trans rfl; have q0 := (blk_cell B4.out 0).trans rfl; have q1 := (blk_cell B4.out 1).trans rfl; have q2 := (blk_cell B4.out 2).trans rfl; have q3 := (blk_cell B4.out 3).trans rfl; have q4 := (blk_cell B4.out 4).trans rfl; have r0 := (blk_cell B5.out 0).trans rfl))
    go_ret2
    exact ⟨_, rfl, Kd.R_nil _ _ _ _ _, HB.out⟩
end Go.Proofs.YtfgmgcnbponknaaDoor.Val
