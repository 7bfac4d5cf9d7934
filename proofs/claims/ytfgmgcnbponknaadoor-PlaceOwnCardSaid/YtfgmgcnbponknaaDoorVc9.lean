/- The reference's Split of package potsherdref06. Condition: columns, rows are read; what its checks and its Of answer is known. Printed by gvc9.py. -/
import Derived.Test.YtfgmgcnbponknaaDoorVc8
namespace Go.Proofs.YtfgmgcnbponknaaDoor.Val
open Go.RowKit Go.Proofs.YtfgmgcnbponknaaDoor.G Go.Proofs.YtfgmgcnbponknaaDoor.Lx Go.Proofs.YtfgmgcnbponknaaDoor.Opn Go.Proofs.YtfgmgcnbponknaaDoorW.PrintWords Go.Proofs.YtfgmgcnbponknaaDoorW.PrintLast Go.Proofs.YtfgmgcnbponknaaDoorW.PrintMore
set_option linter.unusedVariables false
set_option linter.unusedSimpArgs false
def innerG (n1 : Int) (s : Nat) : List (List S38) → List (List (List S38)) → List (List (List S38))
  | [], X => X
  | r :: t, X => innerG n1 s t (if ofV n1 (rd_T38 r 0) = s then X.set s (X.getD s [] ++ [r]) else X)
def outerG (n1 : Int) (m : List (List S38)) : Nat → Nat → List (List (List S38)) → List (List (List S38))
  | 0, _, X => X
  | d + 1, s, X => outerG n1 m d (s + 1) (innerG n1 s m X)
def OfOk (kk : Nat) (n1 : Int) (m : List (List S38)) : Prop := ∀ r ∈ m, potsherdref06_Of.f kk (rd_T38 r 0).f0 (rd_T38 r 0).f1 (rd_T38 r 0).f2 (rd_T38 r 0).f3 n1 = some ((ofV n1 (rd_T38 r 0) : Nat) : Int)
set_option maxHeartbeats 16000000 in
set_option maxRecDepth 100000 in
theorem rsplit_main (n0 n1 n2 : Int) (nm : ByteArray) (A D : Option Addr) (c d : Nat) (l : List S97) (m : List (List S38)) (w : World) (kt kk : Nat) (ha : Kd.C k97 w A l.length l) (hc : l.length ≤ c)
    (hb : Kd.C (Kd.slice 38 k38) w D m.length m) (hd : m.length ≤ d) (hv : potsherdref06_Check.f n0 n1 n2 = some 0) (hn1 : 1 ≤ n1) (hn8 : n1 ≤ 8) (ht : potsherdref01_CheckTable.f kt nm l m = some 0) (hgood : GoodR m) (hof : OfOk kk n1 m) :
    Calls Tryd.prog 20 #[.agg #[.int .i64 n0, .int .i64 n1, .int .i64 n2], .agg #[.string nm, .slice A l.length c, .slice D m.length d]] w (SplitPost w (outerG n1 m n1.toNat 0 (List.replicate n1.toNat [])) 0) := by
  have HB := Lib.hid (Below.refl w.heap.size w)
  have HTB := Lib.hid (fun (wx : World) (hx : Below w.heap.size w wx) => potsherdref01_CheckTable.calls kt nm A c l D d m _ wx (Kd.C_below ha hx) hc (Kd.C_below hb hx) hd ht)
  have HV := Lib.hid hv
  have HM := Lib.hid hb
  have HG := Lib.hid hgood.2
  have HOFM := Lib.hid hof
  have ho64 := hgood.1
  clear ha hb hv ht hgood hof
  obtain ⟨n, hn1_⟩ : ∃ n, n = l.length := ⟨_, rfl⟩
  obtain ⟨o, ho1⟩ : ∃ o, o = m.length := ⟨_, rfl⟩
  rw [← hn1_] at HTB hc ⊢
  rw [← ho1] at HTB HM hd ho64 ⊢
  have HO := Lib.hid ho1
  clear hn1_ ho1
  obtain ⟨res, hres⟩ : ∃ res, res = outerG n1 m n1.toNat 0 (List.replicate n1.toNat []) := ⟨_, rfl⟩
  rw [← hres]
  have HRES := Lib.hid hres
  clear hres
  have hn0 : 0 ≤ n1 := by omega
  have hnl : n1.toNat * 24 ≤ 281474976710656 := by omega
  have hnM : n1.toNat ≤ 8 := by omega
  obtain ⟨N, hN⟩ : ∃ N, N = n1.toNat := ⟨_, rfl⟩
  have HXL : (List.replicate N ([] : List (List S38))).length = N := List.length_replicate
  rw [← hN] at hnM
  have HRES2 := Lib.hid (show res = outerG n1 m (N - 0) 0 (List.replicate N []) by rw [hN]; exact HRES.out)
  have HNN := Lib.hid hN
  have hN1 : 1 ≤ N := by omega
  clear hN HRES
  go_enter Tryd.func20, Tryd.ntmps20
  go_wp2_with (first
    | ((with_reducible refine gate_dst (N := 2) rfl ?_); refine box_event ?hg (N := 2) ?hd (cs := #[.int .i64 n0, .int .i64 n1, .int .i64 n2]) (t := 23) ?hr ?_; (case hd => rfl); (case hg => rfl); (case hr => first | (go_simp; done) | (go_simp; rfl)); intro g2 hg wb2 hbx hb; have nHB := Lib.hid (below_step HB.out hb); clear HB; have HB := nHB; clear nHB; have B2 := Lib.hid hbx; clear hg hbx hb)
    | ((with_reducible refine gate_dst (N := 3) rfl ?_); refine box_event ?hg (N := 3) ?hd (cs := #[.string nm, .slice A n c, .slice D o d]) (t := 27) ?hr ?_; (case hd => rfl); (case hg => rfl); (case hr => first | (go_simp; done) | (go_simp; rfl)); intro g3 hg wb3 hbx hb; have nB := Lib.hid (blk_below B2.out hb); clear B2; have B2 := nB; clear nB; have nHB := Lib.hid (below_step HB.out hb); clear HB; have HB := nHB; clear nHB; have B3 := Lib.hid hbx; clear hg hbx hb; have l2 := blk_lt B2.out; have l3 := blk_lt B3.out; have p0 := (blk_cell B2.out 0).trans rfl; have p1 := (blk_cell B2.out 1).trans rfl; have p2 := (blk_cell B2.out 2).trans rfl; have q0 := (blk_cell B3.out 0).trans rfl; have q1 := (blk_cell B3.out 1).trans rfl; have q2 := (blk_cell B3.out 2).trans rfl)
    | (go_at_call 14; refine (potsherdref06_Check.calls n0 n1 n2 _ _ HV.out).mono ?_; rintro e w5 ⟨rfl, hb⟩; clear p0 p1 p2 q0 q1 q2; have nB := Lib.hid (blk_below B2.out hb); clear B2; have B2 := nB; clear nB; have nB := Lib.hid (blk_below B3.out hb); clear B3; have B3 := nB; clear nB; have nHB := Lib.hid (below_step HB.out hb); clear HB; have HB := nHB; clear nHB; clear hb; have p0 := (blk_cell B2.out 0).trans rfl; have p1 := (blk_cell B2.out 1).trans rfl; have p2 := (blk_cell B2.out 2).trans rfl; have q0 := (blk_cell B3.out 0).trans rfl; have q1 := (blk_cell B3.out 1).trans rfl; have q2 := (blk_cell B3.out 2).trans rfl)
    | (go_at_call 34; refine (HTB.out _ HB.out).mono ?_; rintro e w6 ⟨rfl, hb⟩; clear p0 p1 p2 q0 q1 q2; have nB := Lib.hid (blk_below B2.out hb); clear B2; have B2 := nB; clear nB; have nB := Lib.hid (blk_below B3.out hb); clear B3; have B3 := nB; clear nB; have nHB := Lib.hid (below_step HB.out hb); clear HB; have HB := nHB; clear nHB; clear hb; have p0 := (blk_cell B2.out 0).trans rfl; have p1 := (blk_cell B2.out 1).trans rfl; have p2 := (blk_cell B2.out 2).trans rfl; have q0 := (blk_cell B3.out 0).trans rfl; have q1 := (blk_cell B3.out 1).trans rfl; have q2 := (blk_cell B3.out 2).trans rfl)
    | ((with_reducible refine gate_dst (N := 21) rfl ?_); refine Kd.S_make D2 (w0 := w) w.heap.size 25 rfl (N := 21) rfl 30 _ _ rfl n1 rfl rfl Tryd.underlying30 (.slice none 0 0) 24 info25 rfl (by decide) (by omega) ([] : List (List S38)) (ok := fun _ => True) (okp := fun _ => False) (Kd.M_row (Kd.R_nil _ _ _ _ _)) (fun _ _ => trivial) trivial hn0 hnl HB.out HB.out.size ?_; intro v21 w21 ho hb hg hat; rw [← HNN.out] at ho; obtain ⟨g, cap, e24, hbg, hlt, hgc⟩ := Kd.S_form ho (by rw [List.length_replicate]; omega); subst e24; rw [List.length_replicate] at ho ⊢; clear p0 p1 p2 q0 q1 q2; have nB := Lib.hid (blk_grown B2.out hg (by simp)); clear B2; have B2 := nB; clear nB; have nB := Lib.hid (blk_grown B3.out hg (by simp)); clear B3; have B3 := nB; clear nB; have nHB := Lib.hid hb; clear HB; have HB := nHB; clear nHB; have HX := Lib.hid ho; clear ho hb hg hat; have p0 := (blk_cell B2.out 0).trans rfl; have p1 := (blk_cell B2.out 1).trans rfl; have p2 := (blk_cell B2.out 2).trans rfl; have q0 := (blk_cell B3.out 0).trans rfl; have q1 := (blk_cell B3.out 1).trans rfl; have q2 := (blk_cell B3.out 2).trans rfl))
  have hne : some g2 ≠ some g := Kd.R_ne (Kd.S_R HX.out) B2.out (by decide)
  have hne3 : some g3 ≠ some g := Kd.R_ne (Kd.S_R HX.out) B3.out (by decide)
  have hbg : w.heap.size ≤ g := hbg
  clear p0 p1 p2 q0 q1 q2 hgc
  go_loopw [24] (fun v24 wr => ∃ (s : Nat) (X : List (List (List S38))), v24 = .int .i64 s ∧ s ≤ N ∧ X.length = N ∧ sumL X ≤ 64 * s ∧ Hid (res = outerG n1 m (N - s) s X) ∧ Hid (Kd.S D2 25 wr w.heap.size (fun _ => True) (.slice (some ⟨g, 0, none⟩) N cap) X) ∧ Hid (wr.heap[g2]? = some (.cells #[.int .i64 n0, .int .i64 n1, .int .i64 n2] 23 (0, 0))) ∧ Hid (wr.heap[g3]? = some (.cells #[.string nm, .slice A n c, .slice D o d] 27 (0, 0))) ∧ Hid (Below w.heap.size w wr)) (fun v24 _ => N - (intOf v24).toNat)
  case atStart => exact ⟨0, _, rfl, Nat.zero_le _, HXL, by unfold sumL; simp, HRES2, HX, B2, B3, HB⟩
  case round =>
    clear B2 B3 HB HX HXL HRES2
    obtain ⟨s, X, rfl, hsN1, hXN, hXs, HE, HX, B2, B3, HB⟩ := hrel
    by_cases hs1 : s < N
    · have hs0 : (0 : Int) ≤ (s : Int) := by omega
      have hsN : (s : Int) < (N : Int) := by omega
      have HE0 := Lib.hid (show res = outerG n1 m (N - (s + 1)) (s + 1) (innerG n1 s (m.drop 0) X) by rw [HE.out, show N - s = (N - (s + 1)) + 1 by omega]; rfl)
      have q2 := (blk_cell B3.out 2).trans rfl
      have hss : (s : Int) < (N : Int) := hsN
      go_wp2
      clear q2
      go_loopw [30] (fun v30 wr => ∃ (k : Nat) (X : List (List (List S38))), v30 = .int .i64 k ∧ k ≤ o ∧ X.length = N ∧ sumL X ≤ 64 * s + k ∧ Hid (res = outerG n1 m (N - (s + 1)) (s + 1) (innerG n1 s (m.drop k) X)) ∧ Hid (Kd.S D2 25 wr w.heap.size (fun _ => True) (.slice (some ⟨g, 0, none⟩) N cap) X) ∧ Hid (wr.heap[g2]? = some (.cells #[.int .i64 n0, .int .i64 n1, .int .i64 n2] 23 (0, 0))) ∧ Hid (wr.heap[g3]? = some (.cells #[.string nm, .slice A n c, .slice D o d] 27 (0, 0))) ∧ Hid (Below w.heap.size w wr)) (fun v30 _ => o - (intOf v30).toNat)
      case atStart => exact ⟨0, X, rfl, Nat.zero_le _, hXN, by omega, HE0, HX, B2, B3, HB⟩
      case round =>
        clear B2 B3 HB HX HE HE0 hXN hXs X
        obtain ⟨k, X, rfl, hk, hXN, hXs, HE, HX, B2, B3, HB⟩ := hrel
        by_cases h1 : k < o
        · have hkl : k < m.length := by rw [← HO.out]; exact h1
          obtain ⟨ad, A0, c0, eA, x0, hc0, hC0⟩ := at_L6 (Kd.C_below HM.out HB.out) (k : Int) (by omega) (by omega)
          simp only [Int.toNat_natCast] at x0
          have hx : rd_L6 m (k : Int) = m.getD k [] := by simp [rd_L6]
          rw [hx] at x0 hc0 hC0
          subst eA
          have hE := HE.out
          rw [dropR hkl, innerG] at hE
          have hmem : m.getD k [] ∈ m := by rw [List.getD_eq_getElem?_getD, List.getElem?_eq_getElem hkl]; exact List.getElem_mem hkl
          obtain ⟨f1, f2, f3⟩ := HG.out _ hmem
          have hOF := HOFM.out _ hmem
          obtain ⟨F, hF⟩ : ∃ F, F = m.getD k [] := ⟨_, rfl⟩
          rw [← hF] at x0 hE hc0 hC0 f1 f2 f3 hOF
          obtain ⟨ad8, e8, h8_0, h8_1, h8_2, h8_3⟩ := at_T38 hC0 0 (by omega) (by omega)
          subst e8
          rw [show ((0 : Int)).toNat * 4 = 0 from rfl] at h8_0 h8_1 h8_2 h8_3
          rw [Addr.add_zero'] at h8_0 h8_1 h8_2 h8_3
          obtain ⟨q, hqv⟩ : ∃ q, q = ofV n1 (rd_T38 F 0) := ⟨_, rfl⟩
          rw [← hqv] at hE hOF
          obtain ⟨x0_, hx0_⟩ : ∃ y, y = (rd_T38 F 0).f0 := ⟨_, rfl⟩
          obtain ⟨x1_, hx1_⟩ : ∃ y, y = (rd_T38 F 0).f1 := ⟨_, rfl⟩
          obtain ⟨x2_, hx2_⟩ : ∃ y, y = (rd_T38 F 0).f2 := ⟨_, rfl⟩
          obtain ⟨x3_, hx3_⟩ : ∃ y, y = (rd_T38 F 0).f3 := ⟨_, rfl⟩
          rw [← hx0_] at h8_0 hOF
          rw [← hx1_] at h8_1 hOF
          rw [← hx2_] at h8_2 hOF
          rw [← hx3_] at h8_3 hOF
          have HOF := Lib.hid hOF
          have HE2 := Lib.hid hE
          clear HE
          have HC0 := Lib.hid hC0
          have hlim2 : (([] : List S38).length + F.length) * 32 ≤ 140737488355328 := by rw [List.length_nil]; omega
          have hkk : (k : Int) < (o : Int) := by omega
          have hfl : (0 : Int) < (F.length : Int) := by omega
          have hsL := sumL_get X s (by omega)
          have hlim : ((X.getD s []).length + 1) * 24 ≤ 140737488355328 := by omega
          clear hE hF hx hC0 f2 f3 hOF hx0_ hx1_ hx2_ hx3_ hqv hmem
          by_cases hq : q = s
          · have HE := Lib.hid (show res = outerG n1 m (N - (s + 1)) (s + 1) (innerG n1 s (m.drop (k + 1)) (X.set s (X.getD s [] ++ [F]))) by rw [HE2.out, if_pos hq])
            clear HE2
            have e2 : ((q : Int) == (s : Int)) = true := beq_iff_eq.2 (by omega)
            clear hq
            go_wp2
            refine start_ (n := 8) (S := fun w' => w'.cell? ⟨g2, 1, none⟩ = some (.int .i64 n1) ∧ w'.cell? ad8 = some (.int .u8 x0_) ∧ w'.cell? ⟨ad8.block, ad8.off + 1, none⟩ = some (.bool x1_) ∧ w'.cell? ⟨ad8.block, ad8.off + 2, none⟩ = some (.int .i64 x2_) ∧ w'.cell? ⟨ad8.block, ad8.off + 3, none⟩ = some (.string x3_)) (ds := []) #[false, false, false, false, false, false, false, false] (by kernel_rfl) rfl rfl ⟨(blk_cell B2.out 1).trans rfl, h8_0, h8_1, h8_2, h8_3⟩ (fun hHeld => ?_)
            generalize hw8 : World.drew _ = w8 at hHeld ⊢
            have nX := Lib.hid (by rw [← hw8]; exact Kd.S_drew HX.out : Kd.S D2 25 w8 w.heap.size (fun _ => True) (.slice (some ⟨g, 0, none⟩) N cap) X)
            have nB2 := Lib.hid (by rw [← hw8]; exact blk_drew B2.out : w8.heap[g2]? = some (.cells #[.int .i64 n0, .int .i64 n1, .int .i64 n2] 23 (0, 0)))
            have nB3 := Lib.hid (by rw [← hw8]; exact blk_drew B3.out : w8.heap[g3]? = some (.cells #[.string nm, .slice A n c, .slice (some ad) o d] 27 (0, 0)))
            have nHB := Lib.hid (by rw [← hw8]; exact below_drew1 HB.out : Below w.heap.size w w8)
            have nHC := Lib.hid (by rw [← hw8]; exact Kd.C_drew HC0.out : Kd.C k38 w8 (some ad8) F.length F)
            clear HX B2 B3 HB HC0 hw8 h8_0 h8_1 h8_2 h8_3
            have HX := nX
            have B2 := nB2
            have B3 := nB3
            have HB := nHB
            have HC0 := nHC
            clear nX nB2 nB3 nHB nHC
            refine pure_ (i := 0) (N := some 34) (v := ?_) (a' := ?_) #[true, false, false, false, false, false, false, false] rfl rfl (by kernel_rfl) (fun _ _ _ h => h) (Or.inl ⟨by rfl, ?_⟩) ?_ ?_
            rotate_left
            · intro w'
              go_simp
              with_reducible rfl
            rotate_left
            · simp only [Act.put, List.setIfInBounds_toArray, List.set_cons_zero, List.set_cons_succ, i64_w, i32_w]
              rfl
            refine pure_ (i := 1) (N := some 35) (v := ?_) (a' := ?_) #[true, true, false, false, false, false, false, false] rfl rfl (by kernel_rfl) (fun _ _ _ h => h) (Or.inl ⟨by rfl, ?_⟩) ?_ ?_
            rotate_left
            · intro w'
              go_simp
              with_reducible rfl
            rotate_left
            · simp only [Act.put, List.setIfInBounds_toArray, List.set_cons_zero, List.set_cons_succ, i64_w, i32_w]
              rfl
            refine pure_ (i := 3) (N := some 37) (v := ?_) (a' := ?_) #[true, true, false, true, false, false, false, false] rfl rfl (by kernel_rfl) (fun _ _ _ h => h) (Or.inl ⟨by rfl, ?_⟩) ?_ ?_
            rotate_left
            · intro w'
              go_simp
              with_reducible rfl
            rotate_left
            · simp only [Act.put, List.setIfInBounds_toArray, List.set_cons_zero, List.set_cons_succ, i64_w, i32_w]
              rfl
            refine pure_ (i := 6) (N := some 40) (v := ?_) (a' := ?_) #[true, true, false, true, false, false, true, false] rfl rfl (by kernel_rfl) (fun _ _ _ h => h) (Or.inl ⟨by rfl, ?_⟩) ?_ ?_
            rotate_left
            · intro w'
              go_simp
              with_reducible rfl
            rotate_left
            · simp only [Act.put, List.setIfInBounds_toArray, List.set_cons_zero, List.set_cons_succ, i64_w, i32_w]
              rfl
            refine take_ (i := 2) (N := some 36) (v := ?_) (a' := ?_) #[true, true, true, true, false, false, true, false] rfl rfl (by kernel_rfl) (fun _ _ _ h => h) (Or.inl ⟨by rfl, ?_⟩) hHeld ?_ ?_
            rotate_left
            · rintro w' ⟨s0, s1, s2, s3, s4⟩
              go_simp
              with_reducible rfl
            rotate_left
            · simp only [Act.put, List.setIfInBounds_toArray, List.set_cons_zero, List.set_cons_succ, i64_w, i32_w]
              rfl
            refine take_ (i := 4) (N := some 38) (v := ?_) (a' := ?_) #[true, true, true, true, true, false, true, false] rfl rfl (by kernel_rfl) (fun _ _ _ h => h) (Or.inl ⟨by rfl, ?_⟩) hHeld ?_ ?_
            rotate_left
            · rintro w' ⟨s0, s1, s2, s3, s4⟩
              go_simp
              with_reducible rfl
            rotate_left
            · simp only [Act.put, List.setIfInBounds_toArray, List.set_cons_zero, List.set_cons_succ, i64_w, i32_w]
              rfl
            refine one_ (i := 5) (N := some 39) #[true, true, true, true, true, true, true, false] rfl rfl (by kernel_rfl) (by decide) (fun K hK => ?_)
            refine goes_ Tryd.func33 (by kernel_rfl) rfl #[.agg #[.int .u8 x0_, .bool x1_, .int .i64 x2_, .string x3_], .int .i64 n1] (by rfl) rfl rfl (by (try simp only [List.map_toArray, List.map_cons, List.map_nil]); first | done | rfl) ?_
            refine (potsherdref06_Of.calls kk x0_ x1_ x2_ x3_ n1 (q : Int) _ HOF.out).mono ?_
            rintro e w9 ⟨rfl, hb⟩
            refine ⟨_, rfl, ?_⟩
            have nX := Lib.hid (Kd.S_below HX.out hb)
            have nB2 := Lib.hid (blk_below B2.out hb)
            have nHB := Lib.hid (below_step HB.out hb)
            have nB3 := Lib.hid (blk_below B3.out hb)
            have nHC := Lib.hid (Kd.C_below HC0.out hb)
            have y0 := (hb.cell (World.block_lt_of_cell? _ _ hHeld.2.1)).trans hHeld.2.1
            have y1 := (hb.cell (World.block_lt_of_cell? _ _ hHeld.2.2.1)).trans hHeld.2.2.1
            have y2 := (hb.cell (World.block_lt_of_cell? _ _ hHeld.2.2.2.1)).trans hHeld.2.2.2.1
            have y3 := (hb.cell (World.block_lt_of_cell? _ _ hHeld.2.2.2.2)).trans hHeld.2.2.2.2
            clear B3
            have B3 := nB3
            clear nB3
            clear HX B2 HB HC0 hb hHeld
            have HX := nX
            have B2 := nB2
            have HB := nHB
            have HC0 := nHC
            clear nX nB2 nHB nHC
            refine hK.out _ _ ⟨(blk_cell B2.out 1).trans rfl, y0, y1, y2, y3⟩ (fun hHeld => ?_)
            clear hK K y0 y1 y2 y3
            refine norm_ (a' := ?_) ?_ ?_
            rotate_left
            · show Act.put _ (some 39) _ = _
              simp only [Act.put, List.setIfInBounds_toArray, List.set_cons_zero, List.set_cons_succ, i64_w, i32_w]
              rfl
            refine pure_ (i := 7) (N := some 41) (v := ?_) (a' := ?_) #[true, true, true, true, true, true, true, true] rfl rfl (by kernel_rfl) (fun _ _ _ h => h) (Or.inl ⟨by rfl, ?_⟩) ?_ ?_
            rotate_left
            · intro w'
              go_simp
              with_reducible rfl
            rotate_left
            · simp only [Act.put, List.setIfInBounds_toArray, List.set_cons_zero, List.set_cons_succ, i64_w, i32_w]
              rfl
            refine done_ (by kernel_rfl) ?_
            obtain ⟨v', oki', hcell, HFR0, hRI, hHI⟩ := elem_out HX.out hs1
            obtain ⟨Y, hY⟩ : ∃ Y, Y = X.getD s [] := ⟨_, rfl⟩
            obtain ⟨Z, hZ⟩ : ∃ Z, Z = Y ++ [F] := ⟨_, rfl⟩
            have HE2 := Lib.hid (show res = outerG n1 m (N - (s + 1)) (s + 1) (innerG n1 s (m.drop (k + 1)) (X.set s Z)) by rw [hZ, hY]; exact HE.out)
            have h6 : Z.length = Y.length + 1 := by rw [hZ]; simp
            have h5 := sumL_set X s Z (by omega)
            rw [← hY] at h5
            have hZl : sumL (X.set s Z) ≤ 64 * s + (k + 1) := by omega
            clear h5 h6
            rw [← hY] at hRI hlim
            have HZ := Lib.hid hZ
            clear HE hY hZ hsL
            have HHI := Lib.hid hHI
            have HRI := Lib.hid hRI
            have HFR := Lib.hid HFR0
            clear hHI hRI HFR0 hHeld HX
            go_wp2
            refine start_ (n := 13) (S := fun w' => w'.cell? ⟨g, s, none⟩ = some v') (ds := [12]) #[false, false, false, false, false, false, false, false, false, false, false, false, false] (by kernel_rfl) rfl rfl hcell (fun hHeld => ?_)
            generalize hw10 : World.drew _ = w10 at hHeld ⊢
            have nHI := Lib.hid (by rw [← hw10]; exact Kd.H_drew HHI.out : Kd.H D2 25 w10 w.heap.size (fun _ => True) (.slice (some ⟨g, 0, none⟩) N cap) X s oki' [v'])
            have nR := Lib.hid (by rw [← hw10]; exact Kd.R_drew HRI.out : Kd.R D1 35 w10 w.heap.size oki' v' Y)
            have nB2 := Lib.hid (by rw [← hw10]; exact blk_drew B2.out : w10.heap[g2]? = some (.cells #[.int .i64 n0, .int .i64 n1, .int .i64 n2] 23 (0, 0)))
            have nB3 := Lib.hid (by rw [← hw10]; exact blk_drew B3.out : w10.heap[g3]? = some (.cells #[.string nm, .slice A n c, .slice (some ad) o d] 27 (0, 0)))
            have nHB := Lib.hid (by rw [← hw10]; exact below_drew1 HB.out : Below w.heap.size w w10)
            have nHC := Lib.hid (by rw [← hw10]; exact Kd.C_drew HC0.out : Kd.C k38 w10 (some ad8) F.length F)
            have nF := Lib.hid (by rw [← hw10]; exact HFR.out : ∀ k, w10.heap.size ≤ k → oki' k)
            clear HHI HRI B2 B3 HB HC0 hw10 hcell HFR
            have HFR := nF
            clear nF
            have HHI := nHI
            have HRI := nR
            have B2 := nB2
            have B3 := nB3
            have HB := nHB
            have HC0 := nHC
            clear nHI nR nB2 nB3 nHB nHC
            refine pure_ (i := 0) (N := some 42) (v := ?_) (a' := ?_) #[true, false, false, false, false, false, false, false, false, false, false, false, false] rfl rfl (by kernel_rfl) (fun _ _ _ h => h) (Or.inl ⟨by rfl, ?_⟩) ?_ ?_
            rotate_left
            · intro w'
              go_simp
              with_reducible rfl
            rotate_left
            · simp only [Act.put, List.setIfInBounds_toArray, List.set_cons_zero, List.set_cons_succ, i64_w, i32_w]
              rfl
            refine pure_ (i := 1) (N := some 43) (v := ?_) (a' := ?_) #[true, true, false, false, false, false, false, false, false, false, false, false, false] rfl rfl (by kernel_rfl) (fun _ _ _ h => h) (Or.inl ⟨by rfl, ?_⟩) ?_ ?_
            rotate_left
            · intro w'
              go_simp
              with_reducible rfl
            rotate_left
            · simp only [Act.put, List.setIfInBounds_toArray, List.set_cons_zero, List.set_cons_succ, i64_w, i32_w]
              rfl
            refine pure_ (i := 2) (N := some 44) (v := ?_) (a' := ?_) #[true, true, true, false, false, false, false, false, false, false, false, false, false] rfl rfl (by kernel_rfl) (fun _ _ _ h => h) (Or.inl ⟨by rfl, ?_⟩) ?_ ?_
            rotate_left
            · intro w'
              go_simp
              with_reducible rfl
            rotate_left
            · simp only [Act.put, List.setIfInBounds_toArray, List.set_cons_zero, List.set_cons_succ, i64_w, i32_w]
              rfl
            refine pure_ (i := 3) (N := some 45) (v := ?_) (a' := ?_) #[true, true, true, true, false, false, false, false, false, false, false, false, false] rfl rfl (by kernel_rfl) (fun _ _ _ h => h) (Or.inl ⟨by rfl, ?_⟩) ?_ ?_
            rotate_left
            · intro w'
              go_simp
              with_reducible rfl
            rotate_left
            · simp only [Act.put, List.setIfInBounds_toArray, List.set_cons_zero, List.set_cons_succ, i64_w, i32_w]
              rfl
            refine pure_ (i := 4) (N := some 46) (v := ?_) (a' := ?_) #[true, true, true, true, true, false, false, false, false, false, false, false, false] rfl rfl (by kernel_rfl) (fun _ _ _ h => h) (Or.inl ⟨by rfl, ?_⟩) ?_ ?_
            rotate_left
            · intro w'
              go_simp
              with_reducible rfl
            rotate_left
            · simp only [Act.put, List.setIfInBounds_toArray, List.set_cons_zero, List.set_cons_succ, i64_w, i32_w]
              rfl
            refine pure_ (i := 7) (N := some 49) (v := ?_) (a' := ?_) #[true, true, true, true, true, false, false, true, false, false, false, false, false] rfl rfl (by kernel_rfl) (fun _ _ _ h => h) (Or.inl ⟨by rfl, ?_⟩) ?_ ?_
            rotate_left
            · intro w'
              go_simp
              with_reducible rfl
            rotate_left
            · simp only [Act.put, List.setIfInBounds_toArray, List.set_cons_zero, List.set_cons_succ, i64_w, i32_w]
              rfl
            refine take_ (i := 5) (N := some 47) (v := ?_) (a' := ?_) #[true, true, true, true, true, true, false, true, false, false, false, false, false] rfl rfl (by kernel_rfl) (fun _ _ _ h => h) (Or.inl ⟨by rfl, ?_⟩) hHeld ?_ ?_
            rotate_left
            · rintro w' s0
              go_simp
              with_reducible rfl
            rotate_left
            · simp only [Act.put, List.setIfInBounds_toArray, List.set_cons_zero, List.set_cons_succ, i64_w, i32_w]
              rfl
            refine one_ (i := 6) (N := some 48) #[true, true, true, true, true, true, true, true, false, false, false, false, false] rfl rfl (by kernel_rfl) (by decide) (fun K hK => ?_)
            refine Kd.R_lit_step k38 (w0 := w10) w10.heap.size 38 (by rfl) (N := 48) rfl (xs := ([] : List S38)) (inner := []) (ok := fun _ => True) (okp := fun _ => True) ?hr (Reps.none _ _) (fun _ hk => hk) trivial (Below.refl _ _) (Nat.le_refl _) (by simp) ?_
            case hr => first | (go_simp; done) | (go_simp; rfl)
            intro v48 w48 ho hb hg hat
            have HO48 := Lib.hid ho
            have HB48 := Lib.hid hb
            have y0 := (hb.cell (World.block_lt_of_cell? _ _ hHeld)).trans hHeld
            clear hHeld ho hb hg hat
            refine hK.out _ _ y0 (fun hHeld => ?_)
            clear hK K y0
            refine norm_ (a' := ?_) ?_ ?_
            rotate_left
            · show Act.put _ (some 48) _ = _
              simp only [Act.put, List.setIfInBounds_toArray, List.set_cons_zero, List.set_cons_succ, i64_w, i32_w]
              rfl
            refine one_ (i := 8) (N := some 50) #[true, true, true, true, true, true, true, true, true, false, false, false, false] rfl rfl (by kernel_rfl) (by decide) (fun K hK => ?_)
            refine Kd.R_append_rows_step k38 (w0 := w10) w10.heap.size (by rfl) (.tmp 48) (.tmp 49) 35 38 (.agg #[(.int .u8 0), (.bool false), (.int .i64 0), (.string ⟨#[]⟩)]) 32 rfl Tryd.underlying35 info38 rfl (by decide) (by omega) v48 ([] : List S38) F _ _ _ (fun _ => True) (fun _ => False) rfl rfl HO48.out (Kd.C_below HC0.out HB48.out) (fun _ _ h => h) (fun _ h => h.elim) (fun _ _ => trivial) HB48.out HB48.out.size hlim2 ?_
            intro vc w11 ho hb hg_ hat_
            rw [List.nil_append] at ho
            have nHI := Lib.hid (Kd.H_below HHI.out hb)
            have nR := Lib.hid (Kd.R_below HRI.out hb)
            have nB2 := Lib.hid (blk_below B2.out hb)
            have nB3 := Lib.hid (blk_below B3.out hb)
            have nHB := Lib.hid (below_step HB.out hb)
            have HVC := Lib.hid (Kd.R_lower (Kd.R_tight rfl ho) (HB.out.size))
            have HAP := Lib.hid (fun k (hk : some k = vc.ownBlock) => (⟨HFR.out k (Kd.R_base ho k hk.symm), fun e => by
              obtain ⟨c1, e1⟩ := Kd.R_typed ho k hk.symm
              obtain ⟨c2, e2⟩ := Kd.R_typed nR.out k e.symm
              rw [e1] at e2
              cases e2⟩ : oki' k ∧ some k ≠ v'.ownBlock))
            have nF := Lib.hid (fun k (hk : w11.heap.size ≤ k) => HFR.out k (Nat.le_trans hb.size hk))
            have y0 : w11.cell? ⟨g, s, none⟩ = some v' := by have z0 := (Kd.H_at nHI.out hs0 hsN).1 0 v' rfl; simpa only [Int.toNat_natCast, show D2.sz = 1 from rfl, Nat.mul_one, Nat.add_zero] using z0
            clear HHI HRI B2 B3 HB HC0 hb hHeld ho HFR HO48 HB48 hg_ hat_
            have HHI := nHI
            have HRI := nR
            have B2 := nB2
            have B3 := nB3
            have HB := nHB
            have HFR := nF
            clear nHI nR nB2 nB3 nHB nF
            refine hK.out _ _ y0 (fun hHeld => ?_)
            clear hK K y0
            refine norm_ (a' := ?_) ?_ ?_
            rotate_left
            · show Act.put _ (some 50) _ = _
              simp only [Act.put, List.setIfInBounds_toArray, List.set_cons_zero, List.set_cons_succ, i64_w, i32_w]
              rfl
            refine one_ (i := 9) (N := some 51) #[true, true, true, true, true, true, true, true, true, true, false, false, false] rfl rfl (by kernel_rfl) (by decide) (fun K hK => ?_)
            refine event_step (v := .slice (some ⟨w11.heap.size, 0, none⟩) 1 1) (w1 := w11.alloc (.cells #[vc] 35)) (by rfl) ?hr ?_
            case hr =>
              obtain ⟨Ac, cc, rfl⟩ := Kd.R_slice HVC.out
              first | (go_simp; done) | (go_simp; rfl)
            have y0 : (w11.alloc (.cells #[vc] 35)).cell? ⟨g, s, none⟩ = some v' := ((below_alloc (Below.refl _ _) _).cell (World.block_lt_of_cell? _ _ hHeld)).trans hHeld
            clear hHeld
            refine hK.out _ _ y0 (fun hHeld => ?_)
            clear hK K y0
            refine norm_ (a' := ?_) ?_ ?_
            rotate_left
            · show Act.put _ (some 51) _ = _
              simp only [Act.put, List.setIfInBounds_toArray, List.set_cons_zero, List.set_cons_succ, i64_w, i32_w]
              rfl
            refine one_ (i := 10) (N := some 52) #[true, true, true, true, true, true, true, true, true, true, true, false, false] rfl rfl (by kernel_rfl) (by decide) (fun K hK => ?_)
            refine Kd.R_append_step D1 (w0 := w) w.heap.size (by rfl) (.tmp 47) (.tmp 51) 25 35 (.slice none 0 0) 24 rfl Tryd.underlying25 info35 rfl (by decide) (by omega) v' Y F [vc] oki' (fun k => some k = vc.ownBlock) rfl rfl (Kd.M_row HVC.out) HAP.out HFR.out HRI.out HB.out HB.out.size hlim ?_
            intro v1 w12 ho hb hg hat
            have nHI := Lib.hid (Kd.H_grown HHI.out hg (fun k hk => HRI.out.1 k hk))
            have nB2 := Lib.hid (blk_grown B2.out hg (Kd.R_ne HRI.out B2.out (by decide)))
            have nHB := Lib.hid hb
            have nB3 := Lib.hid (blk_grown B3.out hg (Kd.R_ne HRI.out B3.out (by decide)))
            clear B3
            have B3 := nB3
            clear nB3
            rw [← HZ.out] at ho
            have HR1 := Lib.hid ho
            have y0 : w12.cell? ⟨g, s, none⟩ = some v' := by have z0 := (Kd.H_at nHI.out hs0 hsN).1 0 v' rfl; simpa only [Int.toNat_natCast, show D2.sz = 1 from rfl, Nat.mul_one, Nat.add_zero] using z0
            clear HHI B2 HB hHeld hb hg ho hat
            have HHI := nHI
            have B2 := nB2
            have HB := nHB
            clear nHI nB2 nHB
            refine hK.out _ _ y0 (fun hHeld => ?_)
            clear hK K y0
            refine norm_ (a' := ?_) ?_ ?_
            rotate_left
            · show Act.put _ (some 52) _ = _
              simp only [Act.put, List.setIfInBounds_toArray, List.set_cons_zero, List.set_cons_succ, i64_w, i32_w]
              rfl
            refine pure_ (i := 11) (N := some 53) (v := ?_) (a' := ?_) #[true, true, true, true, true, true, true, true, true, true, true, true, false] rfl rfl (by kernel_rfl) (fun _ _ _ h => h) (Or.inl ⟨by rfl, ?_⟩) ?_ ?_
            rotate_left
            · intro w'
              go_simp
              with_reducible rfl
            rotate_left
            · simp only [Act.put, List.setIfInBounds_toArray, List.set_cons_zero, List.set_cons_succ, i64_w, i32_w]
              rfl
            obtain ⟨A1, cc1, e1_⟩ := Kd.R_slice HR1.out
            subst e1_
            have HPB := elem_back HHI.out hs0 hsN HR1.out
            have f0 : w12.frozen? ⟨g, s, none⟩ = false := by have z0 := (Kd.H_at HHI.out hs0 hsN).2 0; simpa only [Int.toNat_natCast, show D2.sz = 1 from rfl, Nat.mul_one, Nat.add_zero] using z0
            refine last_ (i := 12) (N := none) #[true, true, true, true, true, true, true, true, true, true, true, true, true] rfl rfl (by kernel_rfl) (by decide) (fun K hK => ?_)
            refine skip_ (w1 := (w12.setCell ⟨g, s, none⟩ (.slice A1 Z.length cc1))) (by rfl) rfl ?_ ?_
            · first | (go_simp; done) | (go_simp; rfl)
            refine hK.out _ _ ?_
            clear hK K
            refine done_ (by kernel_rfl) ?_
            go_wp2
            go_roundw
            case rel => exact ⟨k + 1, X.set s Z, by simp, h1, by rw [List.length_set]; exact hXN, hZl, HE2, Lib.hid HPB.1, Lib.hid (blk_grown B2.out HPB.2 hne), Lib.hid (blk_grown B3.out HPB.2 hne3), Lib.hid (below_set HB.out hbg)⟩
            case measure => simp [intOf]; omega
          · have HE := Lib.hid (show res = outerG n1 m (N - (s + 1)) (s + 1) (innerG n1 s (m.drop (k + 1)) X) by rw [HE2.out, if_neg hq])
            clear HE2
            have e2 : ((q : Int) == (s : Int)) = false := beq_eq_false_iff_ne.2 (by omega)
            clear hq
            go_wp2
            refine start_ (n := 8) (S := fun w' => w'.cell? ⟨g2, 1, none⟩ = some (.int .i64 n1) ∧ w'.cell? ad8 = some (.int .u8 x0_) ∧ w'.cell? ⟨ad8.block, ad8.off + 1, none⟩ = some (.bool x1_) ∧ w'.cell? ⟨ad8.block, ad8.off + 2, none⟩ = some (.int .i64 x2_) ∧ w'.cell? ⟨ad8.block, ad8.off + 3, none⟩ = some (.string x3_)) (ds := []) #[false, false, false, false, false, false, false, false] (by kernel_rfl) rfl rfl ⟨(blk_cell B2.out 1).trans rfl, h8_0, h8_1, h8_2, h8_3⟩ (fun hHeld => ?_)
            generalize hw8 : World.drew _ = w8 at hHeld ⊢
            have nX := Lib.hid (by rw [← hw8]; exact Kd.S_drew HX.out : Kd.S D2 25 w8 w.heap.size (fun _ => True) (.slice (some ⟨g, 0, none⟩) N cap) X)
            have nB2 := Lib.hid (by rw [← hw8]; exact blk_drew B2.out : w8.heap[g2]? = some (.cells #[.int .i64 n0, .int .i64 n1, .int .i64 n2] 23 (0, 0)))
            have nB3 := Lib.hid (by rw [← hw8]; exact blk_drew B3.out : w8.heap[g3]? = some (.cells #[.string nm, .slice A n c, .slice (some ad) o d] 27 (0, 0)))
            have nHB := Lib.hid (by rw [← hw8]; exact below_drew1 HB.out : Below w.heap.size w w8)
            have nHC := Lib.hid (by rw [← hw8]; exact Kd.C_drew HC0.out : Kd.C k38 w8 (some ad8) F.length F)
            clear HX B2 B3 HB HC0 hw8 h8_0 h8_1 h8_2 h8_3
            have HX := nX
            have B2 := nB2
            have B3 := nB3
            have HB := nHB
            have HC0 := nHC
            clear nX nB2 nB3 nHB nHC
            refine pure_ (i := 0) (N := some 34) (v := ?_) (a' := ?_) #[true, false, false, false, false, false, false, false] rfl rfl (by kernel_rfl) (fun _ _ _ h => h) (Or.inl ⟨by rfl, ?_⟩) ?_ ?_
            rotate_left
            · intro w'
              go_simp
              with_reducible rfl
            rotate_left
            · simp only [Act.put, List.setIfInBounds_toArray, List.set_cons_zero, List.set_cons_succ, i64_w, i32_w]
              rfl
            refine pure_ (i := 1) (N := some 35) (v := ?_) (a' := ?_) #[true, true, false, false, false, false, false, false] rfl rfl (by kernel_rfl) (fun _ _ _ h => h) (Or.inl ⟨by rfl, ?_⟩) ?_ ?_
            rotate_left
            · intro w'
              go_simp
              with_reducible rfl
            rotate_left
            · simp only [Act.put, List.setIfInBounds_toArray, List.set_cons_zero, List.set_cons_succ, i64_w, i32_w]
              rfl
            refine pure_ (i := 3) (N := some 37) (v := ?_) (a' := ?_) #[true, true, false, true, false, false, false, false] rfl rfl (by kernel_rfl) (fun _ _ _ h => h) (Or.inl ⟨by rfl, ?_⟩) ?_ ?_
            rotate_left
            · intro w'
              go_simp
              with_reducible rfl
            rotate_left
            · simp only [Act.put, List.setIfInBounds_toArray, List.set_cons_zero, List.set_cons_succ, i64_w, i32_w]
              rfl
            refine pure_ (i := 6) (N := some 40) (v := ?_) (a' := ?_) #[true, true, false, true, false, false, true, false] rfl rfl (by kernel_rfl) (fun _ _ _ h => h) (Or.inl ⟨by rfl, ?_⟩) ?_ ?_
            rotate_left
            · intro w'
              go_simp
              with_reducible rfl
            rotate_left
            · simp only [Act.put, List.setIfInBounds_toArray, List.set_cons_zero, List.set_cons_succ, i64_w, i32_w]
              rfl
            refine take_ (i := 2) (N := some 36) (v := ?_) (a' := ?_) #[true, true, true, true, false, false, true, false] rfl rfl (by kernel_rfl) (fun _ _ _ h => h) (Or.inl ⟨by rfl, ?_⟩) hHeld ?_ ?_
            rotate_left
            · rintro w' ⟨s0, s1, s2, s3, s4⟩
              go_simp
              with_reducible rfl
            rotate_left
            · simp only [Act.put, List.setIfInBounds_toArray, List.set_cons_zero, List.set_cons_succ, i64_w, i32_w]
              rfl
            refine take_ (i := 4) (N := some 38) (v := ?_) (a' := ?_) #[true, true, true, true, true, false, true, false] rfl rfl (by kernel_rfl) (fun _ _ _ h => h) (Or.inl ⟨by rfl, ?_⟩) hHeld ?_ ?_
            rotate_left
            · rintro w' ⟨s0, s1, s2, s3, s4⟩
              go_simp
              with_reducible rfl
            rotate_left
            · simp only [Act.put, List.setIfInBounds_toArray, List.set_cons_zero, List.set_cons_succ, i64_w, i32_w]
              rfl
            refine one_ (i := 5) (N := some 39) #[true, true, true, true, true, true, true, false] rfl rfl (by kernel_rfl) (by decide) (fun K hK => ?_)
            refine goes_ Tryd.func33 (by kernel_rfl) rfl #[.agg #[.int .u8 x0_, .bool x1_, .int .i64 x2_, .string x3_], .int .i64 n1] (by rfl) rfl rfl (by (try simp only [List.map_toArray, List.map_cons, List.map_nil]); first | done | rfl) ?_
            refine (potsherdref06_Of.calls kk x0_ x1_ x2_ x3_ n1 (q : Int) _ HOF.out).mono ?_
            rintro e w9 ⟨rfl, hb⟩
            refine ⟨_, rfl, ?_⟩
            have nX := Lib.hid (Kd.S_below HX.out hb)
            have nB2 := Lib.hid (blk_below B2.out hb)
            have nHB := Lib.hid (below_step HB.out hb)
            have nB3 := Lib.hid (blk_below B3.out hb)
            have nHC := Lib.hid (Kd.C_below HC0.out hb)
            have y0 := (hb.cell (World.block_lt_of_cell? _ _ hHeld.2.1)).trans hHeld.2.1
            have y1 := (hb.cell (World.block_lt_of_cell? _ _ hHeld.2.2.1)).trans hHeld.2.2.1
            have y2 := (hb.cell (World.block_lt_of_cell? _ _ hHeld.2.2.2.1)).trans hHeld.2.2.2.1
            have y3 := (hb.cell (World.block_lt_of_cell? _ _ hHeld.2.2.2.2)).trans hHeld.2.2.2.2
            clear B3
            have B3 := nB3
            clear nB3
            clear HX B2 HB HC0 hb hHeld
            have HX := nX
            have B2 := nB2
            have HB := nHB
            have HC0 := nHC
            clear nX nB2 nHB nHC
            refine hK.out _ _ ⟨(blk_cell B2.out 1).trans rfl, y0, y1, y2, y3⟩ (fun hHeld => ?_)
            clear hK K y0 y1 y2 y3
            refine norm_ (a' := ?_) ?_ ?_
            rotate_left
            · show Act.put _ (some 39) _ = _
              simp only [Act.put, List.setIfInBounds_toArray, List.set_cons_zero, List.set_cons_succ, i64_w, i32_w]
              rfl
            refine pure_ (i := 7) (N := some 41) (v := ?_) (a' := ?_) #[true, true, true, true, true, true, true, true] rfl rfl (by kernel_rfl) (fun _ _ _ h => h) (Or.inl ⟨by rfl, ?_⟩) ?_ ?_
            rotate_left
            · intro w'
              go_simp
              with_reducible rfl
            rotate_left
            · simp only [Act.put, List.setIfInBounds_toArray, List.set_cons_zero, List.set_cons_succ, i64_w, i32_w]
              rfl
            refine done_ (by kernel_rfl) ?_
            go_wp2
            go_roundw
            case rel => exact ⟨k + 1, X, by simp, h1, hXN, by omega, HE, HX, B2, B3, HB⟩
            case measure => simp [intOf]; omega
        · obtain rfl : k = o := by omega
          have HR2 := Lib.hid (show res = outerG n1 m (N - (s + 1)) (s + 1) X by rw [HE.out, show m.drop k = [] from List.drop_of_length_le (by rw [← HO.out]; exact Nat.le_refl _)]; rfl)
          go_wp2
          go_roundw
          case rel => exact ⟨s + 1, X, by simp, hs1, hXN, by omega, HR2, HX, B2, B3, HB⟩
          case measure => simp [intOf]; omega
    · obtain rfl : s = N := by omega
      have HR2 := Lib.hid (show res = X by rw [HE.out, Nat.sub_self]; rfl)
      go_wp2
      go_ret2
      rw [HR2.out]
      exact ⟨_, rfl, Kd.S_R HX.out, HB.out⟩
def rsplitV (n0 n1 n2 : Int) (nm : ByteArray) (l : List S97) (m : List (List S38)) : List (List (List S38)) × Int :=
  if layV n0 n1 n2 ≠ 0 then ([], 2) else if tabV nm l m ≠ 0 then ([], tabV nm l m) else (outerG n1 m n1.toNat 0 (List.replicate n1.toNat []), 0)
set_option maxHeartbeats 8000000 in
set_option maxRecDepth 100000 in
theorem rsplit_calls (n0 n1 n2 : Int) (nm : ByteArray) (A D : Option Addr) (c d : Nat) (l : List S97) (m : List (List S38)) (w : World) (kt kk : Nat) (ha : Kd.C k97 w A l.length l) (hc : l.length ≤ c)
    (hb : Kd.C (Kd.slice 38 k38) w D m.length m) (hd : m.length ≤ d) (hck : potsherdref06_Check.f n0 n1 n2 = some (layV n0 n1 n2)) (htab : potsherdref01_CheckTable.f kt nm l m = some (tabV nm l m)) (hgood : tabV nm l m = 0 → GoodR m) (hof : layV n0 n1 n2 = 0 → tabV nm l m = 0 → OfOk kk n1 m) :
    Calls Tryd.prog 20 #[.agg #[.int .i64 n0, .int .i64 n1, .int .i64 n2], .agg #[.string nm, .slice A l.length c, .slice D m.length d]] w (SplitPost w (rsplitV n0 n1 n2 nm l m).1 (rsplitV n0 n1 n2 nm l m).2) := by
  by_cases hv : layV n0 n1 n2 = 0
  · by_cases ht : tabV nm l m = 0
    · rw [show rsplitV n0 n1 n2 nm l m = (outerG n1 m n1.toNat 0 (List.replicate n1.toNat []), 0) by unfold rsplitV; rw [if_neg (fun h => h hv), if_neg (fun h => h ht)]]
      have hh := hv
      unfold layV at hh
      split at hh
      · cases hh
      · exact rsplit_main n0 n1 n2 nm A D c d l m w kt kk ha hc hb hd (by rw [hck, hv]) (by omega) (by omega) (by rw [htab, ht]) (hgood ht) (hof hv ht)
    · rw [show rsplitV n0 n1 n2 nm l m = ([], tabV nm l m) by unfold rsplitV; rw [if_neg (fun h => h hv), if_pos ht]]
      have HB := Lib.hid (Below.refl w.heap.size w)
      obtain ⟨T, hT1⟩ : ∃ T, T = tabV nm l m := ⟨_, rfl⟩
      rw [← hT1] at ht htab ⊢
      have HTB := Lib.hid (fun (wx : World) (hx : Below w.heap.size w wx) => potsherdref01_CheckTable.calls kt nm A c l D d m _ wx (Kd.C_below ha hx) hc (Kd.C_below hb hx) hd htab)
      have HV := Lib.hid (show potsherdref06_Check.f n0 n1 n2 = some 0 by rw [hck, hv])
      have e1 : (T != 0) = true := by simpa using ht
      clear ha hb hv ht hgood hT1 hck htab hof
      obtain ⟨n, hn1_⟩ : ∃ n, n = l.length := ⟨_, rfl⟩
      obtain ⟨o, ho1⟩ : ∃ o, o = m.length := ⟨_, rfl⟩
      rw [← hn1_] at HTB hc ⊢
      rw [← ho1] at HTB hd ⊢
      clear hn1_ ho1
      go_enter Tryd.func20, Tryd.ntmps20; go_wp2_with (first | ((with_reducible refine gate_dst (N := 2) rfl ?_); refine box_event ?hg (N := 2) ?hd (cs := #[.int .i64 n0, .int .i64 n1, .int .i64 n2]) (t := 23) ?hr ?_; (case hd => rfl); (case hg => rfl); (case hr => first | (go_simp; done) | (go_simp; rfl)); intro g2 hg wb2 hbx hb; have nHB := Lib.hid (below_step HB.out hb); clear HB; have HB := nHB; clear nHB; have B2 := Lib.hid hbx; clear hg hbx hb) | ((with_reducible refine gate_dst (N := 3) rfl ?_); refine box_event ?hg (N := 3) ?hd (cs := #[.string nm, .slice A n c, .slice D o d]) (t := 27) ?hr ?_; (case hd => rfl); (case hg => rfl); (case hr => first | (go_simp; done) | (go_simp; rfl)); intro g3 hg wb3 hbx hb; have nB := Lib.hid (blk_below B2.out hb); clear B2; have B2 := nB; clear nB; have nHB := Lib.hid (below_step HB.out hb); clear HB; have HB := nHB; clear nHB; have B3 := Lib.hid hbx; clear hg hbx hb; have l2 := blk_lt B2.out; have l3 := blk_lt B3.out; have p0 := (blk_cell B2.out 0).trans rfl; have p1 := (blk_cell B2.out 1).trans rfl; have p2 := (blk_cell B2.out 2).trans rfl; have q0 := (blk_cell B3.out 0).trans rfl; have q1 := (blk_cell B3.out 1).trans rfl; have q2 := (blk_cell B3.out 2).trans rfl) | (go_at_call 14; refine (potsherdref06_Check.calls n0 n1 n2 _ _ HV.out).mono ?_; rintro e w5 ⟨rfl, hb⟩; clear p0 p1 p2 q0 q1 q2; have nB := Lib.hid (blk_below B2.out hb); clear B2; have B2 := nB; clear nB; have nB := Lib.hid (blk_below B3.out hb); clear B3; have B3 := nB; clear nB; have nHB := Lib.hid (below_step HB.out hb); clear HB; have HB := nHB; clear nHB; clear hb; have p0 := (blk_cell B2.out 0).trans rfl; have p1 := (blk_cell B2.out 1).trans rfl; have p2 := (blk_cell B2.out 2).trans rfl; have q0 := (blk_cell B3.out 0).trans rfl; have q1 := (blk_cell B3.out 1).trans rfl; have q2 := (blk_cell B3.out 2).trans rfl) | (go_at_call 34; refine (HTB.out _ HB.out).mono ?_; rintro e w6 ⟨rfl, hb⟩; clear p0 p1 p2 q0 q1 q2; have nB := Lib.hid (blk_below B2.out hb); clear B2; have B2 := nB; clear nB; have nB := Lib.hid (blk_below B3.out hb); clear B3; have B3 := nB; clear nB; have nHB := Lib.hid (below_step HB.out hb); clear HB; have HB := nHB; clear nHB; clear hb; have p0 := (blk_cell B2.out 0).trans rfl; have p1 := (blk_cell B2.out 1).trans rfl; have p2 := (blk_cell B2.out 2).trans rfl; have q0 := (blk_cell B3.out 0).trans rfl; have q1 := (blk_cell B3.out 1).trans rfl; have q2 := (blk_cell B3.out 2).trans rfl))
      go_ret2
      exact ⟨_, rfl, Kd.R_nil _ _ _ _ _, HB.out⟩
  · rw [show rsplitV n0 n1 n2 nm l m = ([], 2) by unfold rsplitV; rw [if_pos hv]]
    have HB := Lib.hid (Below.refl w.heap.size w)
    obtain ⟨T, hT1⟩ : ∃ T, T = layV n0 n1 n2 := ⟨_, rfl⟩
    rw [← hT1] at hv hck
    have HTB := Lib.hid (fun (wx : World) (hx : Below w.heap.size w wx) => potsherdref01_CheckTable.calls kt nm A c l D d m _ wx (Kd.C_below ha hx) hc (Kd.C_below hb hx) hd htab)
    have HV := Lib.hid hck
    have e1 : (T != 0) = true := by simpa using hv
    clear ha hb hv hgood hT1 hck htab hof
    obtain ⟨n, hn1_⟩ : ∃ n, n = l.length := ⟨_, rfl⟩
    obtain ⟨o, ho1⟩ : ∃ o, o = m.length := ⟨_, rfl⟩
    rw [← hn1_] at HTB hc ⊢
    rw [← ho1] at HTB hd ⊢
    clear hn1_ ho1
    go_enter Tryd.func20, Tryd.ntmps20; go_wp2_with (first | ((with_reducible refine gate_dst (N := 2) rfl ?_); refine box_event ?hg (N := 2) ?hd (cs := #[.int .i64 n0, .int .i64 n1, .int .i64 n2]) (t := 23) ?hr ?_; (case hd => rfl); (case hg => rfl); (case hr => first | (go_simp; done) | (go_simp; rfl)); intro g2 hg wb2 hbx hb; have nHB := Lib.hid (below_step HB.out hb); clear HB; have HB := nHB; clear nHB; have B2 := Lib.hid hbx; clear hg hbx hb) | ((with_reducible refine gate_dst (N := 3) rfl ?_); refine box_event ?hg (N := 3) ?hd (cs := #[.string nm, .slice A n c, .slice D o d]) (t := 27) ?hr ?_; (case hd => rfl); (case hg => rfl); (case hr => first | (go_simp; done) | (go_simp; rfl)); intro g3 hg wb3 hbx hb; have nB := Lib.hid (blk_below B2.out hb); clear B2; have B2 := nB; clear nB; have nHB := Lib.hid (below_step HB.out hb); clear HB; have HB := nHB; clear nHB; have B3 := Lib.hid hbx; clear hg hbx hb; have l2 := blk_lt B2.out; have l3 := blk_lt B3.out; have p0 := (blk_cell B2.out 0).trans rfl; have p1 := (blk_cell B2.out 1).trans rfl; have p2 := (blk_cell B2.out 2).trans rfl; have q0 := (blk_cell B3.out 0).trans rfl; have q1 := (blk_cell B3.out 1).trans rfl; have q2 := (blk_cell B3.out 2).trans rfl) | (go_at_call 14; refine (potsherdref06_Check.calls n0 n1 n2 _ _ HV.out).mono ?_; rintro e w5 ⟨rfl, hb⟩; clear p0 p1 p2 q0 q1 q2; have nB := Lib.hid (blk_below B2.out hb); clear B2; have B2 := nB; clear nB; have nB := Lib.hid (blk_below B3.out hb); clear B3; have B3 := nB; clear nB; have nHB := Lib.hid (below_step HB.out hb); clear HB; have HB := nHB; clear nHB; clear hb; have p0 := (blk_cell B2.out 0).trans rfl; have p1 := (blk_cell B2.out 1).trans rfl; have p2 := (blk_cell B2.out 2).trans rfl; have q0 := (blk_cell B3.out 0).trans rfl; have q1 := (blk_cell B3.out 1).trans rfl; have q2 := (blk_cell B3.out 2).trans rfl) | (go_at_call 34; refine (HTB.out _ HB.out).mono ?_; rintro e w6 ⟨rfl, hb⟩; clear p0 p1 p2 q0 q1 q2; have nB := Lib.hid (blk_below B2.out hb); clear B2; have B2 := nB; clear nB; have nB := Lib.hid (blk_below B3.out hb); clear B3; have B3 := nB; clear nB; have nHB := Lib.hid (below_step HB.out hb); clear HB; have HB := nHB; clear nHB; clear hb; have p0 := (blk_cell B2.out 0).trans rfl; have p1 := (blk_cell B2.out 1).trans rfl; have p2 := (blk_cell B2.out 2).trans rfl; have q0 := (blk_cell B3.out 0).trans rfl; have q1 := (blk_cell B3.out 1).trans rfl; have q2 := (blk_cell B3.out 2).trans rfl))
    go_ret2
    exact ⟨_, rfl, Kd.R_nil _ _ _ _ _, HB.out⟩
end Go.Proofs.YtfgmgcnbponknaaDoor.Val
