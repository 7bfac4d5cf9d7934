/- Package place: Split. Condition: utf8's two tables are laid; columns, rows are read; names have at most 2^63 - 4 bytes. Printed by gvc8.py. -/
import Derived.Test.YtfgmgcnbponknaaDoorLp9
import Derived.Test.YtfgmgcnbponknaaDoorVc4
namespace Go.Proofs.YtfgmgcnbponknaaDoor.Val
open Go.RowKit Go.Proofs.YtfgmgcnbponknaaDoor.G Go.Proofs.YtfgmgcnbponknaaDoor.Lx Go.Proofs.YtfgmgcnbponknaaDoor.Opn Go.Proofs.YtfgmgcnbponknaaDoorW.PrintWords Go.Proofs.YtfgmgcnbponknaaDoorW.PrintLast Go.Proofs.YtfgmgcnbponknaaDoorW.PrintMore
set_option linter.unusedVariables false
set_option linter.unusedSimpArgs false
theorem info25 : (Tryd.prog.info? 25).map (fun i => (i.zero, i.size, i.bytes)) = some (some (.slice none 0 0), 1, 24) := by kernel_rfl
abbrev D1 := Kd.slice 38 k38
abbrev D2 := Kd.slice 35 D1
theorem cloneR_f (l : List S38) (h : l.length < 4398046511104) : api_Value.f l = some l := by
  unfold api_Value.f
  simp
  omega
/-- the shard of a row's first value -/
def ofV (n1 : Int) (x : S38) : Nat := (hashV x.f0 x.f1 x.f2 x.f3).toNat % n1.toNat
theorem wrapu (x : Int) : 0 ≤ IntKind.u64.wrap x ∧ IntKind.u64.wrap x < 18446744073709551616 := by
  simp only [IntKind.wrap, IntKind.bits, IntKind.signed]
  constructor
  · first | (apply Int.emod_nonneg; decide) | omega
  · first | (apply Int.emod_lt_of_pos; decide) | omega
theorem hash_range (k : Int) (b : Bool) (n : Int) (s : ByteArray) : 0 ≤ hashV k b n s ∧ hashV k b n s < 18446744073709551616 := by
  have key : ∀ (l : List Int) (h : Int), (0 ≤ h ∧ h < 18446744073709551616) → 0 ≤ fnv h l ∧ fnv h l < 18446744073709551616 := by
    intro l
    induction l with
    | nil => intro h hh; exact hh
    | cons x l ih => intro h hh; exact ih _ (wrapu _)
  exact key _ _ ⟨by decide, by decide⟩
theorem of_f (n1 : Int) (x : S38) (h1 : 1 ≤ n1) (h2 : n1 ≤ 8) (hs : x.f3.size ≤ 9223372036854775807) : place_Of.f x.f0 x.f1 x.f2 x.f3 n1 = some ((ofV n1 x : Nat) : Int) := by
  obtain ⟨a1, a2⟩ := hash_range x.f0 x.f1 x.f2 x.f3
  have hw : IntKind.u64.wrap n1 = n1 := by simp only [IntKind.wrap, IntKind.bits, IntKind.signed]; first | omega | (simp; omega)
  unfold place_Of.f value_Hash.f ofV
  rw [if_pos hs, Option.bind_some, hw, if_neg (by omega)]
  obtain ⟨a, ha⟩ : ∃ a : Nat, hashV x.f0 x.f1 x.f2 x.f3 = a := ⟨_, (Int.toNat_of_nonneg a1).symm⟩
  obtain ⟨b, rfl⟩ : ∃ b : Nat, n1 = b := ⟨_, (Int.toNat_of_nonneg (by omega)).symm⟩
  rw [ha, Int.toNat_natCast, Int.toNat_natCast]
  have ht : Int.tmod (a : Int) (b : Int) = ((a % b : Nat) : Int) := rfl
  have := Nat.mod_lt a (show 0 < b by omega)
  rw [ht]
  congr 1
  unfold wrap64
  omega
theorem ofV_lt (n1 : Int) (x : S38) (h1 : 1 ≤ n1) : ofV n1 x < n1.toNat := Nat.mod_lt _ (by omega)
def splitG (n1 : Int) : List (List S38) → List (List (List S38)) → List (List (List S38))
  | [], X => X
  | r :: t, X => splitG n1 t (X.set (ofV n1 (rd_T38 r 0)) (X.getD (ofV n1 (rd_T38 r 0)) [] ++ [r]))
section
variable {W : World} {base g n cap : Nat} {X : List (List (List S38))} {s : Nat} {ok : Nat → Prop} {v v1 : Value} {xs : List (List S38)}
theorem elem_out (h : Kd.S D2 25 W base (fun _ => True) (.slice (some ⟨g, 0, none⟩) n cap) X) (hi : s < n) :
    ∃ (v' : Value) (oki : Nat → Prop), W.cell? ⟨g, s, none⟩ = some v' ∧ (∀ k, W.heap.size ≤ k → oki k) ∧ Kd.R D1 35 W base oki v' (X.getD s []) ∧ Kd.H D2 25 W base (fun _ => True) (.slice (some ⟨g, 0, none⟩) n cap) X (s : Int) oki [v'] := by
  obtain ⟨oki, c, hcl, hM, hcc, hfr, hok, hH⟩ := Kd.S_elem h ([] : List (List S38)) (s : Int) (by omega) (by omega)
  obtain ⟨v', rfl, hR⟩ := hM
  have h0 := hcc 0 v' rfl
  rw [Int.toNat_natCast, show D2.sz = 1 from rfl, Nat.mul_one, Nat.add_zero] at h0
  rw [Int.toNat_natCast] at hR
  exact ⟨v', _, h0, fun k hk => .inr ⟨trivial, hk⟩, Kd.R_mono hR (fun k hk => .inl hk), Kd.H_widen hH⟩
theorem elem_back (hH : Kd.H D2 25 W base (fun _ => True) (.slice (some ⟨g, 0, none⟩) n cap) X (s : Int) ok [v]) (h0 : (0 : Int) ≤ (s : Int)) (h1 : (s : Int) < n) (hR : Kd.R D1 35 W base ok v1 xs) :
    Kd.S D2 25 (W.setCell ⟨g, s, none⟩ v1) base (fun _ => True) (.slice (some ⟨g, 0, none⟩) n cap) (X.set s xs) ∧ W.grownBy (W.setCell ⟨g, s, none⟩ v1) (some g) := by
  have := Kd.S_seg0 hH h0 h1 (seg := [v1]) (j := 0) (by show 0 + 1 ≤ 1; decide) (x' := xs) (Kd.M_row hR) (fun _ hk => hk)
  simp only [Int.toNat_natCast, show D2.sz = 1 from rfl, Nat.mul_one, Nat.add_zero] at this
  exact this
end
def SplitPost (w : World) (X : List (List (List S38))) (r : Int) (e : Ending) (w' : World) : Prop := ∃ v0, e = .returned (.tuple #[v0, .int .i64 r]) ∧ Kd.R D2 25 w' w.heap.size (fun _ => True) v0 X ∧ Below w.heap.size w w'
/-- rows that may be parted -/
def GoodR (m : List (List S38)) : Prop := m.length ≤ 64 ∧ ∀ r ∈ m, 0 < r.length ∧ r.length < 4398046511104 ∧ (rd_T38 r 0).f3.size ≤ 9223372036854775807
theorem dropR {l : List (List S38)} {k : Nat} (h : k < l.length) : l.drop k = l.getD k [] :: l.drop (k + 1) := by
  rw [List.getD_eq_getElem?_getD, List.getElem?_eq_getElem h]
  exact List.drop_eq_getElem_cons h
def sumL (X : List (List (List S38))) : Nat := (X.map List.length).sum
theorem sumL_set (X : List (List (List S38))) (s : Nat) (x : List (List S38)) (hs : s < X.length) : sumL (X.set s x) + (X.getD s []).length = sumL X + x.length := by
  unfold sumL
  induction X generalizing s with
  | nil => simp at hs
  | cons y X ih =>
    cases s with
    | zero => simp; omega
    | succ s =>
      have := ih s (by simpa using hs)
      simp at this ⊢
      omega
theorem sumL_get (X : List (List (List S38))) (s : Nat) (hs : s < X.length) : (X.getD s []).length ≤ sumL X := by
  have := sumL_set X s [] hs
  simp at this
  simp
  omega
set_option maxHeartbeats 8000000 in
set_option maxRecDepth 100000 in
theorem split_main (n0 n1 n2 : Int) (nm : ByteArray) (A D : Option Addr) (c d : Nat) (l : List S97) (m : List (List S38)) (w : World) (ha : Kd.C k97 w A l.length l) (hc : l.length ≤ c) (hl : l.length < 4611686018427387904) (hn : nm.size ≤ 9223372036854775807) (hs : ShortC l)
    (hb : Kd.C (Kd.slice 38 k38) w D m.length m) (hd : m.length ≤ d) (hm : Rows9 m) (hT : Lib.Utf8Tabs 0 1 w) (hv : layV n0 n1 n2 = 0) (ht : tabV nm l m = 0) (hgood : GoodR m) :
    Calls Tryd.prog 12 #[.agg #[.int .i64 n0, .int .i64 n1, .int .i64 n2], .agg #[.string nm, .slice A l.length c, .slice D m.length d]] w (SplitPost w (splitG n1 m (List.replicate n1.toNat [])) 0) := by
  have HB := Lib.hid (Below.refl w.heap.size w)
  have HTB := Lib.hid (fun (wx : World) (hx : Below w.heap.size w wx) => value_CheckTable.calls (m.length + l.length + 20) nm A c l D d m _ wx (Kd.C_below ha hx) hc (Kd.C_below hb hx) hd (vtab_f _ nm l m hn hl hs hm (by omega)) (Utf8Tabs_below hT hx))
  have HT1 := Lib.hid ht
  have HV := Lib.hid hv
  have HM := Lib.hid hb
  obtain ⟨hn1, hn8⟩ : 1 ≤ n1 ∧ n1 ≤ 8 := by
    unfold layV at hv
    split at hv
    · cases hv
    · omega
  have HG := Lib.hid hgood.2
  have ho64 := hgood.1
  clear ha hT hs hm hb hv ht hgood
  obtain ⟨n, hn1_⟩ : ∃ n, n = l.length := ⟨_, rfl⟩
  obtain ⟨o, ho1⟩ : ∃ o, o = m.length := ⟨_, rfl⟩
  rw [← hn1_] at HTB hc hl ⊢
  rw [← ho1] at HTB HM hd ho64 ⊢
  have HO := Lib.hid ho1
  clear hn1_ ho1
  obtain ⟨res, hres⟩ : ∃ res, res = splitG n1 m (List.replicate n1.toNat []) := ⟨_, rfl⟩
  rw [← hres]
  have HRES := Lib.hid hres
  clear hres
  have hn0 : 0 ≤ n1 := by omega
  have hnl : n1.toNat * 24 ≤ 281474976710656 := by omega
  have hnM : n1.toNat ≤ 8 := by omega
  · go_enter Tryd.func12, Tryd.ntmps12
    go_wp2_with (first
      | ((with_reducible refine gate_dst (N := 2) rfl ?_); refine box_event ?hg (N := 2) ?hd (cs := #[.int .i64 n0, .int .i64 n1, .int .i64 n2]) (t := 23) ?hr ?_; (case hd => rfl); (case hg => rfl); (case hr => first | (go_simp; done) | (go_simp; rfl)); intro g2 hg wb2 hbx hb; have nHB := Lib.hid (below_step HB.out hb); clear HB; have HB := nHB; clear nHB; have B2 := Lib.hid hbx; clear hg hbx hb)
      | ((with_reducible refine gate_dst (N := 3) rfl ?_); refine box_event ?hg (N := 3) ?hd (cs := #[.string nm, .slice A n c, .slice D o d]) (t := 27) ?hr ?_; (case hd => rfl); (case hg => rfl); (case hr => first | (go_simp; done) | (go_simp; rfl)); intro g3 hg wb3 hbx hb; have nB := Lib.hid (blk_below B2.out hb); clear B2; have B2 := nB; clear nB; have nHB := Lib.hid (below_step HB.out hb); clear HB; have HB := nHB; clear nHB; have B3 := Lib.hid hbx; clear hg hbx hb; have l2 := blk_lt B2.out; have l3 := blk_lt B3.out; have p0 := (blk_cell B2.out 0).trans rfl; have p1 := (blk_cell B2.out 1).trans rfl; have p2 := (blk_cell B2.out 2).trans rfl; have q0 := (blk_cell B3.out 0).trans rfl; have q1 := (blk_cell B3.out 1).trans rfl; have q2 := (blk_cell B3.out 2).trans rfl)
      | (go_at_call 15; refine (lay_calls n0 n1 n2 _).mono ?_; rw [HV.out]; rintro e w5 ⟨rfl, hb⟩; clear p0 p1 p2 q0 q1 q2; have nB := Lib.hid (blk_below B2.out hb); clear B2; have B2 := nB; clear nB; have nB := Lib.hid (blk_below B3.out hb); clear B3; have B3 := nB; clear nB; have nHB := Lib.hid (below_step HB.out hb); clear HB; have HB := nHB; clear nHB; clear hb; have p0 := (blk_cell B2.out 0).trans rfl; have p1 := (blk_cell B2.out 1).trans rfl; have p2 := (blk_cell B2.out 2).trans rfl; have q0 := (blk_cell B3.out 0).trans rfl; have q1 := (blk_cell B3.out 1).trans rfl; have q2 := (blk_cell B3.out 2).trans rfl)
      | (go_at_call 28; refine (HTB.out _ HB.out).mono ?_; rw [HT1.out]; rintro e w6 ⟨rfl, hb⟩; clear p0 p1 p2 q0 q1 q2; have nB := Lib.hid (blk_below B2.out hb); clear B2; have B2 := nB; clear nB; have nB := Lib.hid (blk_below B3.out hb); clear B3; have B3 := nB; clear nB; have nHB := Lib.hid (below_step HB.out hb); clear HB; have HB := nHB; clear nHB; clear hb; have p0 := (blk_cell B2.out 0).trans rfl; have p1 := (blk_cell B2.out 1).trans rfl; have p2 := (blk_cell B2.out 2).trans rfl; have q0 := (blk_cell B3.out 0).trans rfl; have q1 := (blk_cell B3.out 1).trans rfl; have q2 := (blk_cell B3.out 2).trans rfl)
      | ((with_reducible refine gate_dst (N := 24) rfl ?_); refine Kd.S_make D2 (w0 := w) w.heap.size 25 rfl (N := 24) rfl 30 _ _ rfl n1 rfl rfl Tryd.underlying30 (.slice none 0 0) 24 info25 rfl (by decide) (by omega) ([] : List (List S38)) (ok := fun _ => True) (okp := fun _ => False) (Kd.M_row (Kd.R_nil _ _ _ _ _)) (fun _ _ => trivial) trivial hn0 hnl HB.out HB.out.size ?_; intro v24 w24 ho hb hg hat; clear p0 p1 p2 q0 q1 q2; have nB := Lib.hid (blk_grown B2.out hg (by simp)); clear B2; have B2 := nB; clear nB; have nB := Lib.hid (blk_grown B3.out hg (by simp)); clear B3; have B3 := nB; clear nB; have nHB := Lib.hid hb; clear HB; have HB := nHB; clear nHB; have HX := Lib.hid ho; clear ho hb hg hat; have p0 := (blk_cell B2.out 0).trans rfl; have p1 := (blk_cell B2.out 1).trans rfl; have p2 := (blk_cell B2.out 2).trans rfl; have q0 := (blk_cell B3.out 0).trans rfl; have q1 := (blk_cell B3.out 1).trans rfl; have q2 := (blk_cell B3.out 2).trans rfl))
    obtain ⟨g, cap, e24, hbg, hlt, hgc⟩ := Kd.S_form HX.out (by rw [List.length_replicate]; omega)
    subst e24
    obtain ⟨N, hN⟩ : ∃ N, N = n1.toNat := ⟨_, rfl⟩
    have HXL : (List.replicate n1.toNat ([] : List (List S38))).length = N := by rw [List.length_replicate, hN]
    rw [HXL] at HX ⊢
    have HNN := Lib.hid hN
    have hN1 : 1 ≤ N := by omega
    have hne : some g2 ≠ some g := Kd.R_ne (Kd.S_R HX.out) B2.out (by decide)
    have hbg : w.heap.size ≤ g := hbg
    clear p0 p1 p2 q0 q1 q2 hgc hN
    go_loopw [28] (fun v28 wr => ∃ (k : Nat) (X : List (List (List S38))), v28 = .int .i64 k ∧ k ≤ o ∧ X.length = N ∧ sumL X ≤ k ∧ Hid (res = splitG n1 (m.drop k) X) ∧ Hid (Kd.S D2 25 wr w.heap.size (fun _ => True) (.slice (some ⟨g, 0, none⟩) N cap) X) ∧ Hid (wr.heap[g2]? = some (.cells #[.int .i64 n0, .int .i64 n1, .int .i64 n2] 23 (0, 0))) ∧ Hid (Below w.heap.size w wr)) (fun v28 _ => o - (intOf v28).toNat)
    case atStart => exact ⟨0, _, rfl, Nat.zero_le _, HXL, by unfold sumL; simp, HRES, HX, B2, HB⟩
    case round =>
      clear B2 B3 HB HX HXL HRES
      obtain ⟨k, X, rfl, hk, hXN, hXs, HE, HX, B2, HB⟩ := hrel
      by_cases h1 : k < o
      · have hkl : k < m.length := by rw [← HO.out]; exact h1
        obtain ⟨ad, A0, c0, eA, x0, hc0, hC0⟩ := at_L6 (Kd.C_below HM.out HB.out) (k : Int) (by omega) (by omega)
        simp only [Int.toNat_natCast] at x0
        have hx : rd_L6 m (k : Int) = m.getD k [] := by simp [rd_L6]
        rw [hx] at x0 hc0 hC0
        subst eA
        have hE := HE.out
        rw [dropR hkl, splitG] at hE
        obtain ⟨f1, f2, f3⟩ := HG.out _ (show m.getD k [] ∈ m by rw [List.getD_eq_getElem?_getD, List.getElem?_eq_getElem hkl]; exact List.getElem_mem hkl)
        obtain ⟨F, hF⟩ : ∃ F, F = m.getD k [] := ⟨_, rfl⟩
        rw [← hF] at x0 hE hc0 hC0 f1 f2 f3
        obtain ⟨ad8, e8, h8_0, h8_1, h8_2, h8_3⟩ := at_T38 hC0 0 (by omega) (by omega)
        subst e8
        rw [show ((0 : Int)).toNat * 4 = 0 from rfl] at h8_0 h8_1 h8_2 h8_3
        rw [Addr.add_zero'] at h8_0 h8_1 h8_2 h8_3
        obtain ⟨s, hsv⟩ : ∃ s, s = ofV n1 (rd_T38 F 0) := ⟨_, rfl⟩
        have hsN0 : s < N := by rw [hsv, HNN.out]; exact ofV_lt n1 _ hn1
        have hOF := of_f n1 (rd_T38 F 0) hn1 hn8 f3
        rw [← hsv] at hE hOF
        obtain ⟨x0_, hx0_⟩ : ∃ y, y = (rd_T38 F 0).f0 := ⟨_, rfl⟩
        obtain ⟨x1_, hx1_⟩ : ∃ y, y = (rd_T38 F 0).f1 := ⟨_, rfl⟩
        obtain ⟨x2_, hx2_⟩ : ∃ y, y = (rd_T38 F 0).f2 := ⟨_, rfl⟩
        obtain ⟨x3_, hx3_⟩ : ∃ y, y = (rd_T38 F 0).f3 := ⟨_, rfl⟩
        rw [← hx0_] at h8_0 hOF
        rw [← hx1_] at h8_1 hOF
        rw [← hx2_] at h8_2 hOF
        rw [← hx3_] at h8_3 hOF
        have HOF := Lib.hid hOF
        have HE2 := Lib.hid hE
        clear HE
        have HE := HE2
        clear HE2
        have HC0 := Lib.hid hC0
        have HF4 := Lib.hid f2
        have hkk : (k : Int) < (o : Int) := by omega
        have hfl : (0 : Int) < (F.length : Int) := by omega
        have hsL := sumL_get X s (by omega)
        have hlim : ((X.getD s []).length + 1) * 24 ≤ 140737488355328 := by omega
        have hs0 : (0 : Int) ≤ (s : Int) := by omega
        have hsN : (s : Int) < (N : Int) := by omega
        clear hE hF hx hC0 f2 f3 hOF hx0_ hx1_ hx2_ hx3_ hsv
        go_wp2
        refine start_ (n := 7) (S := fun w' => w'.cell? ⟨g2, 1, none⟩ = some (.int .i64 n1) ∧ w'.cell? ad8 = some (.int .u8 x0_) ∧ w'.cell? ⟨ad8.block, ad8.off + 1, none⟩ = some (.bool x1_) ∧ w'.cell? ⟨ad8.block, ad8.off + 2, none⟩ = some (.int .i64 x2_) ∧ w'.cell? ⟨ad8.block, ad8.off + 3, none⟩ = some (.string x3_)) (ds := []) #[false, false, false, false, false, false, false] (by kernel_rfl) rfl rfl ⟨(blk_cell B2.out 1).trans rfl, h8_0, h8_1, h8_2, h8_3⟩ (fun hHeld => ?_)
        generalize hw8 : World.drew _ = w8 at hHeld ⊢
        have nX := Lib.hid (by rw [← hw8]; exact Kd.S_drew HX.out : Kd.S D2 25 w8 w.heap.size (fun _ => True) (.slice (some ⟨g, 0, none⟩) N cap) X)
        have nB2 := Lib.hid (by rw [← hw8]; exact blk_drew B2.out : w8.heap[g2]? = some (.cells #[.int .i64 n0, .int .i64 n1, .int .i64 n2] 23 (0, 0)))
        have nHB := Lib.hid (by rw [← hw8]; exact below_drew1 HB.out : Below w.heap.size w w8)
        have nHC := Lib.hid (by rw [← hw8]; exact Kd.C_drew HC0.out : Kd.C k38 w8 (some ad8) F.length F)
        clear HX B2 HB HC0 hw8 h8_0 h8_1 h8_2 h8_3
        have HX := nX
        have B2 := nB2
        have HB := nHB
        have HC0 := nHC
        clear nX nB2 nHB nHC
        refine pure_ (i := 0) (N := some 32) (v := ?_) (a' := ?_) #[true, false, false, false, false, false, false] rfl rfl (by kernel_rfl) (fun _ _ _ h => h) (Or.inl ⟨by rfl, ?_⟩) ?_ ?_
        rotate_left
        · intro w'
          go_simp
          with_reducible rfl
        rotate_left
        · simp only [Act.put, List.setIfInBounds_toArray, List.set_cons_zero, List.set_cons_succ, i64_w, i32_w]
          rfl
        refine pure_ (i := 1) (N := some 33) (v := ?_) (a' := ?_) #[true, true, false, false, false, false, false] rfl rfl (by kernel_rfl) (fun _ _ _ h => h) (Or.inl ⟨by rfl, ?_⟩) ?_ ?_
        rotate_left
        · intro w'
          go_simp
          with_reducible rfl
        rotate_left
        · simp only [Act.put, List.setIfInBounds_toArray, List.set_cons_zero, List.set_cons_succ, i64_w, i32_w]
          rfl
        refine pure_ (i := 3) (N := some 35) (v := ?_) (a' := ?_) #[true, true, false, true, false, false, false] rfl rfl (by kernel_rfl) (fun _ _ _ h => h) (Or.inl ⟨by rfl, ?_⟩) ?_ ?_
        rotate_left
        · intro w'
          go_simp
          with_reducible rfl
        rotate_left
        · simp only [Act.put, List.setIfInBounds_toArray, List.set_cons_zero, List.set_cons_succ, i64_w, i32_w]
          rfl
        refine take_ (i := 2) (N := some 34) (v := ?_) (a' := ?_) #[true, true, true, true, false, false, false] rfl rfl (by kernel_rfl) (fun _ _ _ h => h) (Or.inl ⟨by rfl, ?_⟩) hHeld ?_ ?_
        rotate_left
        · rintro w' ⟨s0, s1, s2, s3, s4⟩
          go_simp
          with_reducible rfl
        rotate_left
        · simp only [Act.put, List.setIfInBounds_toArray, List.set_cons_zero, List.set_cons_succ, i64_w, i32_w]
          rfl
        refine take_ (i := 4) (N := some 36) (v := ?_) (a' := ?_) #[true, true, true, true, true, false, false] rfl rfl (by kernel_rfl) (fun _ _ _ h => h) (Or.inl ⟨by rfl, ?_⟩) hHeld ?_ ?_
        rotate_left
        · rintro w' ⟨s0, s1, s2, s3, s4⟩
          go_simp
          with_reducible rfl
        rotate_left
        · simp only [Act.put, List.setIfInBounds_toArray, List.set_cons_zero, List.set_cons_succ, i64_w, i32_w]
          rfl
        refine one_ (i := 5) (N := some 37) #[true, true, true, true, true, true, false] rfl rfl (by kernel_rfl) (by decide) (fun K hK => ?_)
        refine goes_ Tryd.func29 (by kernel_rfl) rfl #[.agg #[.int .u8 x0_, .bool x1_, .int .i64 x2_, .string x3_], .int .i64 n1] (by rfl) rfl rfl (by (try simp only [List.map_toArray, List.map_cons, List.map_nil]); first | done | rfl) ?_
        refine (place_Of.calls x0_ x1_ x2_ x3_ n1 (s : Int) _ HOF.out).mono ?_
        rintro e w9 ⟨rfl, hb⟩
        refine ⟨_, rfl, ?_⟩
        have nX := Lib.hid (Kd.S_below HX.out hb)
        have nB2 := Lib.hid (blk_below B2.out hb)
        have nHB := Lib.hid (below_step HB.out hb)
        have nHC := Lib.hid (Kd.C_below HC0.out hb)
        have y0 := (hb.cell (World.block_lt_of_cell? _ _ hHeld.2.1)).trans hHeld.2.1
        have y1 := (hb.cell (World.block_lt_of_cell? _ _ hHeld.2.2.1)).trans hHeld.2.2.1
        have y2 := (hb.cell (World.block_lt_of_cell? _ _ hHeld.2.2.2.1)).trans hHeld.2.2.2.1
        have y3 := (hb.cell (World.block_lt_of_cell? _ _ hHeld.2.2.2.2)).trans hHeld.2.2.2.2
        clear HX B2 HB HC0 hb hHeld
        have HX := nX
        have B2 := nB2
        have HB := nHB
        have HC0 := nHC
        clear nX nB2 nHB nHC
        refine hK.out _ _ ⟨(blk_cell B2.out 1).trans rfl, y0, y1, y2, y3⟩ (fun hHeld => ?_)
        clear hK K y0 y1 y2 y3
        refine norm_ (a' := ?_) ?_ ?_
        rotate_left
        · show Act.put _ (some 37) _ = _
          simp only [Act.put, List.setIfInBounds_toArray, List.set_cons_zero, List.set_cons_succ, i64_w, i32_w]
          rfl
        refine pure_ (i := 6) (N := some 11) (v := ?_) (a' := ?_) #[true, true, true, true, true, true, true] rfl rfl (by kernel_rfl) (fun _ _ _ h => h) (Or.inl ⟨by rfl, ?_⟩) ?_ ?_
        rotate_left
        · intro w'
          go_simp
          with_reducible rfl
        rotate_left
        · simp only [Act.put, List.setIfInBounds_toArray, List.set_cons_zero, List.set_cons_succ, i64_w, i32_w]
          rfl
        refine done_ (by kernel_rfl) ?_
        obtain ⟨v', oki', hcell, HFR0, hRI, hHI⟩ := elem_out HX.out hsN0
        obtain ⟨Y, hY⟩ : ∃ Y, Y = X.getD s [] := ⟨_, rfl⟩
        obtain ⟨Z, hZ⟩ : ∃ Z, Z = Y ++ [F] := ⟨_, rfl⟩
        have HE2 := Lib.hid (show res = splitG n1 (m.drop (k + 1)) (X.set s Z) by rw [hZ, hY]; exact HE.out)
        have h6 : Z.length = Y.length + 1 := by rw [hZ]; simp
        have h5 := sumL_set X s Z (by omega)
        rw [← hY] at h5
        have hZl : sumL (X.set s Z) ≤ k + 1 := by omega
        clear h5 h6
        rw [← hY] at hRI hlim
        have HZ := Lib.hid hZ
        clear HE hY hZ hsL
        have HHI := Lib.hid hHI
        have HRI := Lib.hid hRI
        have HFR := Lib.hid HFR0
        clear hHI hRI HFR0 hHeld HX
        try go_wp2
        refine start_ (n := 12) (S := fun w' => w'.cell? ⟨g, s, none⟩ = some v') (ds := [11]) #[false, false, false, false, false, false, false, false, false, false, false, false] (by kernel_rfl) rfl rfl hcell (fun hHeld => ?_)
        generalize hw10 : World.drew _ = w10 at hHeld ⊢
        have nHI := Lib.hid (by rw [← hw10]; exact Kd.H_drew HHI.out : Kd.H D2 25 w10 w.heap.size (fun _ => True) (.slice (some ⟨g, 0, none⟩) N cap) X s oki' [v'])
        have nR := Lib.hid (by rw [← hw10]; exact Kd.R_drew HRI.out : Kd.R D1 35 w10 w.heap.size oki' v' Y)
        have nB2 := Lib.hid (by rw [← hw10]; exact blk_drew B2.out : w10.heap[g2]? = some (.cells #[.int .i64 n0, .int .i64 n1, .int .i64 n2] 23 (0, 0)))
        have nHB := Lib.hid (by rw [← hw10]; exact below_drew1 HB.out : Below w.heap.size w w10)
        have nHC := Lib.hid (by rw [← hw10]; exact Kd.C_drew HC0.out : Kd.C k38 w10 (some ad8) F.length F)
        have nF := Lib.hid (by rw [← hw10]; exact HFR.out : ∀ k, w10.heap.size ≤ k → oki' k)
        clear HHI HRI B2 HB HC0 hw10 hcell HFR
        have HFR := nF
        clear nF
        have HHI := nHI
        have HRI := nR
        have B2 := nB2
        have HB := nHB
        have HC0 := nHC
        clear nHI nR nB2 nHB nHC
        refine pure_ (i := 0) (N := some 38) (v := ?_) (a' := ?_) #[true, false, false, false, false, false, false, false, false, false, false, false] rfl rfl (by kernel_rfl) (fun _ _ _ h => h) (Or.inl ⟨by rfl, ?_⟩) ?_ ?_
        rotate_left
        · intro w'
          go_simp
          with_reducible rfl
        rotate_left
        · simp only [Act.put, List.setIfInBounds_toArray, List.set_cons_zero, List.set_cons_succ, i64_w, i32_w]
          rfl
        refine pure_ (i := 1) (N := some 39) (v := ?_) (a' := ?_) #[true, true, false, false, false, false, false, false, false, false, false, false] rfl rfl (by kernel_rfl) (fun _ _ _ h => h) (Or.inl ⟨by rfl, ?_⟩) ?_ ?_
        rotate_left
        · intro w'
          go_simp
          with_reducible rfl
        rotate_left
        · simp only [Act.put, List.setIfInBounds_toArray, List.set_cons_zero, List.set_cons_succ, i64_w, i32_w]
          rfl
        refine pure_ (i := 2) (N := some 40) (v := ?_) (a' := ?_) #[true, true, true, false, false, false, false, false, false, false, false, false] rfl rfl (by kernel_rfl) (fun _ _ _ h => h) (Or.inl ⟨by rfl, ?_⟩) ?_ ?_
        rotate_left
        · intro w'
          go_simp
          with_reducible rfl
        rotate_left
        · simp only [Act.put, List.setIfInBounds_toArray, List.set_cons_zero, List.set_cons_succ, i64_w, i32_w]
          rfl
        refine pure_ (i := 3) (N := some 41) (v := ?_) (a' := ?_) #[true, true, true, true, false, false, false, false, false, false, false, false] rfl rfl (by kernel_rfl) (fun _ _ _ h => h) (Or.inl ⟨by rfl, ?_⟩) ?_ ?_
        rotate_left
        · intro w'
          go_simp
          with_reducible rfl
        rotate_left
        · simp only [Act.put, List.setIfInBounds_toArray, List.set_cons_zero, List.set_cons_succ, i64_w, i32_w]
          rfl
        refine pure_ (i := 4) (N := some 42) (v := ?_) (a' := ?_) #[true, true, true, true, true, false, false, false, false, false, false, false] rfl rfl (by kernel_rfl) (fun _ _ _ h => h) (Or.inl ⟨by rfl, ?_⟩) ?_ ?_
        rotate_left
        · intro w'
          go_simp
          with_reducible rfl
        rotate_left
        · simp only [Act.put, List.setIfInBounds_toArray, List.set_cons_zero, List.set_cons_succ, i64_w, i32_w]
          rfl
        refine take_ (i := 5) (N := some 43) (v := ?_) (a' := ?_) #[true, true, true, true, true, true, false, false, false, false, false, false] rfl rfl (by kernel_rfl) (fun _ _ _ h => h) (Or.inl ⟨by rfl, ?_⟩) hHeld ?_ ?_
        rotate_left
        · rintro w' s0
          go_simp
          with_reducible rfl
        rotate_left
        · simp only [Act.put, List.setIfInBounds_toArray, List.set_cons_zero, List.set_cons_succ, i64_w, i32_w]
          rfl
        refine pure_ (i := 6) (N := some 44) (v := ?_) (a' := ?_) #[true, true, true, true, true, true, true, false, false, false, false, false] rfl rfl (by kernel_rfl) (fun _ _ _ h => h) (Or.inl ⟨by rfl, ?_⟩) ?_ ?_
        rotate_left
        · intro w'
          go_simp
          with_reducible rfl
        rotate_left
        · simp only [Act.put, List.setIfInBounds_toArray, List.set_cons_zero, List.set_cons_succ, i64_w, i32_w]
          rfl
        refine one_ (i := 7) (N := some 45) #[true, true, true, true, true, true, true, true, false, false, false, false] rfl rfl (by kernel_rfl) (by decide) (fun K hK => ?_)
        refine goes_ Tryd.func30 (by kernel_rfl) rfl #[.slice (some ad8) F.length c0] (by rfl) rfl rfl (by (try simp only [List.map_toArray, List.map_cons, List.map_nil]); first | done | rfl) ?_
        refine (api_Value.calls (some ad8) c0 F F _ HC0.out hc0 (cloneR_f F HF4.out)).mono ?_
        rintro e w11 ⟨vc, rfl, ho, hb⟩
        refine ⟨_, rfl, ?_⟩
        have nHI := Lib.hid (Kd.H_below HHI.out hb)
        have nR := Lib.hid (Kd.R_below HRI.out hb)
        have nB2 := Lib.hid (blk_below B2.out hb)
        have nHB := Lib.hid (below_step HB.out hb)
        have HVC := Lib.hid (Kd.R_lower (Kd.R_tight rfl ho) (HB.out.size))
        have HAP := Lib.hid (fun k (hk : some k = vc.ownBlock) => (⟨HFR.out k (Kd.R_base ho k hk.symm), fun e => by
          obtain ⟨c1, e1⟩ := Kd.R_typed ho k hk.symm
          obtain ⟨c2, e2⟩ := Kd.R_typed nR.out k e.symm
          rw [e1] at e2
          cases e2⟩ : oki' k ∧ some k ≠ v'.ownBlock))
        have nF := Lib.hid (fun k (hk : w11.heap.size ≤ k) => HFR.out k (Nat.le_trans hb.size hk))
        have y0 := (hb.cell (World.block_lt_of_cell? _ _ hHeld)).trans hHeld
        clear HHI HRI B2 HB HC0 hb hHeld ho HFR
        have HHI := nHI
        have HRI := nR
        have B2 := nB2
        have HB := nHB
        have HFR := nF
        clear nHI nR nB2 nHB nF
        refine hK.out _ _ y0 (fun hHeld => ?_)
        clear hK K y0
        refine norm_ (a' := ?_) ?_ ?_
        rotate_left
        · show Act.put _ (some 45) _ = _
          simp only [Act.put, List.setIfInBounds_toArray, List.set_cons_zero, List.set_cons_succ, i64_w, i32_w]
          rfl
        refine one_ (i := 8) (N := some 46) #[true, true, true, true, true, true, true, true, true, false, false, false] rfl rfl (by kernel_rfl) (by decide) (fun K hK => ?_)
        refine event_step (v := .slice (some ⟨w11.heap.size, 0, none⟩) 1 1) (w1 := w11.alloc (.cells #[vc] 35)) (by rfl) ?hr ?_
        case hr =>
          obtain ⟨Ac, cc, rfl⟩ := Kd.R_slice HVC.out
          first | (go_simp; done) | (go_simp; rfl)
        have y0 : (w11.alloc (.cells #[vc] 35)).cell? ⟨g, s, none⟩ = some v' := ((below_alloc (Below.refl _ _) _).cell (World.block_lt_of_cell? _ _ hHeld)).trans hHeld
        clear hHeld
        refine hK.out _ _ y0 (fun hHeld => ?_)
        clear hK K y0
        refine norm_ (a' := ?_) ?_ ?_
        rotate_left
        · show Act.put _ (some 46) _ = _
          simp only [Act.put, List.setIfInBounds_toArray, List.set_cons_zero, List.set_cons_succ, i64_w, i32_w]
          rfl
        refine one_ (i := 9) (N := some 47) #[true, true, true, true, true, true, true, true, true, true, false, false] rfl rfl (by kernel_rfl) (by decide) (fun K hK => ?_)
        refine Kd.R_append_step D1 (w0 := w) w.heap.size (by rfl) (.tmp 43) (.tmp 46) 25 35 (.slice none 0 0) 24 rfl Tryd.underlying25 info35 rfl (by decide) (by omega) v' Y F [vc] oki' (fun k => some k = vc.ownBlock) rfl rfl (Kd.M_row HVC.out) HAP.out HFR.out HRI.out HB.out HB.out.size hlim ?_
        intro v1 w12 ho hb hg hat
        have nHI := Lib.hid (Kd.H_grown HHI.out hg (fun k hk => HRI.out.1 k hk))
        have nB2 := Lib.hid (blk_grown B2.out hg (Kd.R_ne HRI.out B2.out (by decide)))
        have nHB := Lib.hid hb
        rw [← HZ.out] at ho
        have HR1 := Lib.hid ho
        have y0 : w12.cell? ⟨g, s, none⟩ = some v' := by have z0 := (Kd.H_at nHI.out hs0 hsN).1 0 v' rfl; simpa only [Int.toNat_natCast, show D2.sz = 1 from rfl, Nat.mul_one, Nat.add_zero] using z0
        clear HHI B2 HB hHeld hb hg ho hat
        have HHI := nHI
        have B2 := nB2
        have HB := nHB
        clear nHI nB2 nHB
        refine hK.out _ _ y0 (fun hHeld => ?_)
        clear hK K y0
        refine norm_ (a' := ?_) ?_ ?_
        rotate_left
        · show Act.put _ (some 47) _ = _
          simp only [Act.put, List.setIfInBounds_toArray, List.set_cons_zero, List.set_cons_succ, i64_w, i32_w]
          rfl
        refine pure_ (i := 10) (N := some 48) (v := ?_) (a' := ?_) #[true, true, true, true, true, true, true, true, true, true, true, false] rfl rfl (by kernel_rfl) (fun _ _ _ h => h) (Or.inl ⟨by rfl, ?_⟩) ?_ ?_
        rotate_left
        · intro w'
          go_simp
          with_reducible rfl
        rotate_left
        · simp only [Act.put, List.setIfInBounds_toArray, List.set_cons_zero, List.set_cons_succ, i64_w, i32_w]
          rfl
        obtain ⟨A1, cc1, e1_⟩ := Kd.R_slice HR1.out
        subst e1_
        have HPB := elem_back HHI.out hs0 hsN HR1.out
        have f0 : w12.frozen? ⟨g, s, none⟩ = false := by have z0 := (Kd.H_at HHI.out hs0 hsN).2 0; simpa only [Int.toNat_natCast, show D2.sz = 1 from rfl, Nat.mul_one, Nat.add_zero] using z0
        refine last_ (i := 11) (N := none) #[true, true, true, true, true, true, true, true, true, true, true, true] rfl rfl (by kernel_rfl) (by decide) (fun K hK => ?_)
        refine skip_ (w1 := (w12.setCell ⟨g, s, none⟩ (.slice A1 Z.length cc1))) (by rfl) rfl ?_ ?_
        · first | (go_simp; done) | (go_simp; rfl)
        refine hK.out _ _ ?_
        clear hK K
        refine done_ (by kernel_rfl) ?_
        go_wp2
        go_roundw
        case rel => exact ⟨k + 1, X.set s Z, by simp, h1, by rw [List.length_set]; exact hXN, hZl, HE2, Lib.hid HPB.1, Lib.hid (blk_grown B2.out HPB.2 hne), Lib.hid (below_set HB.out hbg)⟩
        case measure => simp [intOf]; omega
      · obtain rfl : k = o := by omega
        have HR2 := Lib.hid (show res = X by rw [HE.out, show m.drop k = [] from List.drop_of_length_le (by rw [← HO.out]; exact Nat.le_refl _)]; rfl)
        go_wp2
        go_ret2
        rw [HR2.out]
        exact ⟨_, rfl, Kd.S_R HX.out, HB.out⟩
def splitV (n0 n1 n2 : Int) (nm : ByteArray) (l : List S97) (m : List (List S38)) : List (List (List S38)) × Int :=
  if layV n0 n1 n2 ≠ 0 then ([], layV n0 n1 n2) else if tabV nm l m ≠ 0 then ([], tabV nm l m) else (splitG n1 m (List.replicate n1.toNat []), 0)
set_option maxHeartbeats 8000000 in
set_option maxRecDepth 100000 in
theorem split_calls (n0 n1 n2 : Int) (nm : ByteArray) (A D : Option Addr) (c d : Nat) (l : List S97) (m : List (List S38)) (w : World) (ha : Kd.C k97 w A l.length l) (hc : l.length ≤ c) (hl : l.length < 4611686018427387904) (hn : nm.size ≤ 9223372036854775807) (hs : ShortC l)
    (hb : Kd.C (Kd.slice 38 k38) w D m.length m) (hd : m.length ≤ d) (hm : Rows9 m) (hT : Lib.Utf8Tabs 0 1 w) (hgood : tabV nm l m = 0 → GoodR m) :
    Calls Tryd.prog 12 #[.agg #[.int .i64 n0, .int .i64 n1, .int .i64 n2], .agg #[.string nm, .slice A l.length c, .slice D m.length d]] w (SplitPost w (splitV n0 n1 n2 nm l m).1 (splitV n0 n1 n2 nm l m).2) := by
  by_cases hv : layV n0 n1 n2 = 0
  · by_cases ht : tabV nm l m = 0
    · rw [show splitV n0 n1 n2 nm l m = (splitG n1 m (List.replicate n1.toNat []), 0) by unfold splitV; rw [if_neg (fun h => h hv), if_neg (fun h => h ht)]]
      exact split_main n0 n1 n2 nm A D c d l m w ha hc hl hn hs hb hd hm hT hv ht (hgood ht)
    · rw [show splitV n0 n1 n2 nm l m = ([], tabV nm l m) by unfold splitV; rw [if_neg (fun h => h hv), if_pos ht]]
      have HB := Lib.hid (Below.refl w.heap.size w)
      have HTB := Lib.hid (fun (wx : World) (hx : Below w.heap.size w wx) => value_CheckTable.calls (m.length + l.length + 20) nm A c l D d m _ wx (Kd.C_below ha hx) hc (Kd.C_below hb hx) hd (vtab_f _ nm l m hn hl hs hm (by omega)) (Utf8Tabs_below hT hx))
      obtain ⟨T, hT1⟩ : ∃ T, T = tabV nm l m := ⟨_, rfl⟩
      rw [← hT1] at ht ⊢
      have HT1 := Lib.hid hT1.symm
      have HV := Lib.hid hv
      have e1 : (T != 0) = true := by simpa using ht
      clear ha hT hs hm hb hv ht hgood hT1
      obtain ⟨n, hn1_⟩ : ∃ n, n = l.length := ⟨_, rfl⟩
      obtain ⟨o, ho1⟩ : ∃ o, o = m.length := ⟨_, rfl⟩
      rw [← hn1_] at HTB hc hl ⊢
      rw [← ho1] at HTB hd ⊢
      clear hn1_ ho1
      go_enter Tryd.func12, Tryd.ntmps12; go_wp2_with (first | ((with_reducible refine gate_dst (N := 2) rfl ?_); refine box_event ?hg (N := 2) ?hd (cs := #[.int .i64 n0, .int .i64 n1, .int .i64 n2]) (t := 23) ?hr ?_; (case hd => rfl); (case hg => rfl); (case hr => first | (go_simp; done) | (go_simp; rfl)); intro g2 hg wb2 hbx hb; have nHB := Lib.hid (below_step HB.out hb); clear HB; have HB := nHB; clear nHB; have B2 := Lib.hid hbx; clear hg hbx hb) | ((with_reducible refine gate_dst (N := 3) rfl ?_); refine box_event ?hg (N := 3) ?hd (cs := #[.string nm, .slice A n c, .slice D o d]) (t := 27) ?hr ?_; (case hd => rfl); (case hg => rfl); (case hr => first | (go_simp; done) | (go_simp; rfl)); intro g3 hg wb3 hbx hb; have nB := Lib.hid (blk_below B2.out hb); clear B2; have B2 := nB; clear nB; have nHB := Lib.hid (below_step HB.out hb); clear HB; have HB := nHB; clear nHB; have B3 := Lib.hid hbx; clear hg hbx hb; have l2 := blk_lt B2.out; have l3 := blk_lt B3.out; have p0 := (blk_cell B2.out 0).trans rfl; have p1 := (blk_cell B2.out 1).trans rfl; have p2 := (blk_cell B2.out 2).trans rfl; have q0 := (blk_cell B3.out 0).trans rfl; have q1 := (blk_cell B3.out 1).trans rfl; have q2 := (blk_cell B3.out 2).trans rfl) | (go_at_call 15; refine (lay_calls n0 n1 n2 _).mono ?_; rw [HV.out]; rintro e w5 ⟨rfl, hb⟩; clear p0 p1 p2 q0 q1 q2; have nB := Lib.hid (blk_below B2.out hb); clear B2; have B2 := nB; clear nB; have nB := Lib.hid (blk_below B3.out hb); clear B3; have B3 := nB; clear nB; have nHB := Lib.hid (below_step HB.out hb); clear HB; have HB := nHB; clear nHB; clear hb; have p0 := (blk_cell B2.out 0).trans rfl; have p1 := (blk_cell B2.out 1).trans rfl; have p2 := (blk_cell B2.out 2).trans rfl; have q0 := (blk_cell B3.out 0).trans rfl; have q1 := (blk_cell B3.out 1).trans rfl; have q2 := (blk_cell B3.out 2).trans rfl) | (go_at_call 28; refine (HTB.out _ HB.out).mono ?_; rw [HT1.out]; rintro e w6 ⟨rfl, hb⟩; clear p0 p1 p2 q0 q1 q2; have nB := Lib.hid (blk_below B2.out hb); clear B2; have B2 := nB; clear nB; have nB := Lib.hid (blk_below B3.out hb); clear B3; have B3 := nB; clear nB; have nHB := Lib.hid (below_step HB.out hb); clear HB; have HB := nHB; clear nHB; clear hb; have p0 := (blk_cell B2.out 0).trans rfl; have p1 := (blk_cell B2.out 1).trans rfl; have p2 := (blk_cell B2.out 2).trans rfl; have q0 := (blk_cell B3.out 0).trans rfl; have q1 := (blk_cell B3.out 1).trans rfl; have q2 := (blk_cell B3.out 2).trans rfl))
      go_ret2
      exact ⟨_, rfl, Kd.R_nil _ _ _ _ _, HB.out⟩
  · rw [show splitV n0 n1 n2 nm l m = ([], layV n0 n1 n2) by unfold splitV; rw [if_pos hv]]
    have HB := Lib.hid (Below.refl w.heap.size w)
    have HTB := Lib.hid (fun (wx : World) (hx : Below w.heap.size w wx) => value_CheckTable.calls (m.length + l.length + 20) nm A c l D d m _ wx (Kd.C_below ha hx) hc (Kd.C_below hb hx) hd (vtab_f _ nm l m hn hl hs hm (by omega)) (Utf8Tabs_below hT hx))
    obtain ⟨T, hT1⟩ : ∃ T, T = layV n0 n1 n2 := ⟨_, rfl⟩
    rw [← hT1] at hv ⊢
    have HV := Lib.hid hT1.symm
    have HT1 := Lib.hid (show tabV nm l m = tabV nm l m from rfl)
    have e1 : (T != 0) = true := by simpa using hv
    clear ha hT hs hm hb hv hgood hT1
    obtain ⟨n, hn1_⟩ : ∃ n, n = l.length := ⟨_, rfl⟩
    obtain ⟨o, ho1⟩ : ∃ o, o = m.length := ⟨_, rfl⟩
    rw [← hn1_] at HTB hc hl ⊢
    rw [← ho1] at HTB hd ⊢
    clear hn1_ ho1
    go_enter Tryd.func12, Tryd.ntmps12; go_wp2_with (first | ((with_reducible refine gate_dst (N := 2) rfl ?_); refine box_event ?hg (N := 2) ?hd (cs := #[.int .i64 n0, .int .i64 n1, .int .i64 n2]) (t := 23) ?hr ?_; (case hd => rfl); (case hg => rfl); (case hr => first | (go_simp; done) | (go_simp; rfl)); intro g2 hg wb2 hbx hb; have nHB := Lib.hid (below_step HB.out hb); clear HB; have HB := nHB; clear nHB; have B2 := Lib.hid hbx; clear hg hbx hb) | ((with_reducible refine gate_dst (N := 3) rfl ?_); refine box_event ?hg (N := 3) ?hd (cs := #[.string nm, .slice A n c, .slice D o d]) (t := 27) ?hr ?_; (case hd => rfl); (case hg => rfl); (case hr => first | (go_simp; done) | (go_simp; rfl)); intro g3 hg wb3 hbx hb; have nB := Lib.hid (blk_below B2.out hb); clear B2; have B2 := nB; clear nB; have nHB := Lib.hid (below_step HB.out hb); clear HB; have HB := nHB; clear nHB; have B3 := Lib.hid hbx; clear hg hbx hb; have l2 := blk_lt B2.out; have l3 := blk_lt B3.out; have p0 := (blk_cell B2.out 0).trans rfl; have p1 := (blk_cell B2.out 1).trans rfl; have p2 := (blk_cell B2.out 2).trans rfl; have q0 := (blk_cell B3.out 0).trans rfl; have q1 := (blk_cell B3.out 1).trans rfl; have q2 := (blk_cell B3.out 2).trans rfl) | (go_at_call 15; refine (lay_calls n0 n1 n2 _).mono ?_; rw [HV.out]; rintro e w5 ⟨rfl, hb⟩; clear p0 p1 p2 q0 q1 q2; have nB := Lib.hid (blk_below B2.out hb); clear B2; have B2 := nB; clear nB; have nB := Lib.hid (blk_below B3.out hb); clear B3; have B3 := nB; clear nB; have nHB := Lib.hid (below_step HB.out hb); clear HB; have HB := nHB; clear nHB; clear hb; have p0 := (blk_cell B2.out 0).trans rfl; have p1 := (blk_cell B2.out 1).trans rfl; have p2 := (blk_cell B2.out 2).trans rfl; have q0 := (blk_cell B3.out 0).trans rfl; have q1 := (blk_cell B3.out 1).trans rfl; have q2 := (blk_cell B3.out 2).trans rfl) | (go_at_call 28; refine (HTB.out _ HB.out).mono ?_; rw [HT1.out]; rintro e w6 ⟨rfl, hb⟩; clear p0 p1 p2 q0 q1 q2; have nB := Lib.hid (blk_below B2.out hb); clear B2; have B2 := nB; clear nB; have nB := Lib.hid (blk_below B3.out hb); clear B3; have B3 := nB; clear nB; have nHB := Lib.hid (below_step HB.out hb); clear HB; have HB := nHB; clear nHB; clear hb; have p0 := (blk_cell B2.out 0).trans rfl; have p1 := (blk_cell B2.out 1).trans rfl; have p2 := (blk_cell B2.out 2).trans rfl; have q0 := (blk_cell B3.out 0).trans rfl; have q1 := (blk_cell B3.out 1).trans rfl; have q2 := (blk_cell B3.out 2).trans rfl))
    go_ret2
    exact ⟨_, rfl, Kd.R_nil _ _ _ _ _, HB.out⟩
end Go.Proofs.YtfgmgcnbponknaaDoor.Val
