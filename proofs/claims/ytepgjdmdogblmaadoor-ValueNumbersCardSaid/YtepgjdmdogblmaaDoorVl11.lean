/- Package value: Compare. Condition: utf8's two tables are laid. -/
import Derived.Test.YtepgjdmdogblmaaDoorVl10
namespace Go.Proofs.YtepgjdmdogblmaaDoor.Val
open Go.RowKit Go.Proofs.YtepgjdmdogblmaaDoor.G Go.Proofs.YtepgjdmdogblmaaDoorW.PrintWords Go.Proofs.YtepgjdmdogblmaaDoorW.PrintLast Go.Proofs.YtepgjdmdogblmaaDoorW.PrintMore
set_option linter.unusedVariables false
set_option linter.unusedSimpArgs false
def cmpV (a b : S27) : Int :=
  if a.f0 ≠ b.f0 then cmpI a.f0 b.f0 else if a.f0 = 1 then (if a.f1 = b.f1 then 0 else if a.f1 = true then 1 else -1) else if a.f0 = 2 then cmpI a.f2 b.f2 else if a.f0 = 3 then cmpR (runesL a.f3) (runesL b.f3) else 0
set_option maxHeartbeats 4000000 in
set_option maxRecDepth 100000 in
theorem compare_calls (k0 k1 : Int) (b0 b1 : Bool) (n0 n1 : Int) (s0 s1 : ByteArray) (w : World) (h0 : s0.size ≤ 9223372036854775807) (h1 : s1.size ≤ 9223372036854775807) (hT : Lib.Utf8Tabs 0 1 w) :
    Calls Tryd.prog 16 #[.agg #[.int .u8 k0, .bool b0, .int .i64 n0, .string s0], .agg #[.int .u8 k1, .bool b1, .int .i64 n1, .string s1]] w fun e w' => e = .returned (.int .i64 (cmpV ⟨k0, b0, n0, s0⟩ ⟨k1, b1, n1, s1⟩)) ∧ Below w.heap.size w w' := by
  have HB := Lib.hid (Below.refl w.heap.size w)
  have HT := Lib.hid hT
  clear hT
  by_cases hk : k0 = k1
  · subst hk
    by_cases hk1 : k0 = 1
    · subst hk1
      cases b0 <;> cases b1
      all_goals
        go_enter Tryd.func16, Tryd.ntmps16
        go_wp2_with (first
          | ((with_reducible refine gate_dst (N := 2) rfl ?_); refine box_event ?hg (N := 2) ?hd (cs := #[.int .u8 1, .bool b0, .int .i64 n0, .string s0]) (t := 27) ?hr ?_; (case hd => rfl); (case hg => rfl); (case hr => first | (go_simp; done) | (go_simp; rfl)); intro g2 hg w3 hbx hb; have Eg2 : w.heap.size ≤ g2 := (by rw [hg]; exact HB.out.size); have nHB := Lib.hid (below_step HB.out hb); clear HB; have HB := nHB; have Bg2 := Lib.hid hbx; clear nHB hg hbx hb)
          | ((with_reducible refine gate_dst (N := 3) rfl ?_); refine box_event ?hg (N := 3) ?hd (cs := #[.int .u8 1, .bool b1, .int .i64 n1, .string s1]) (t := 27) ?hr ?_; (case hd => rfl); (case hg => rfl); (case hr => first | (go_simp; done) | (go_simp; rfl)); intro g3 hg w4 hbx hb; have Eg3 : w.heap.size ≤ g3 := (by rw [hg]; exact HB.out.size); have Ng2g3 : g2 ≠ g3 := (by rw [hg]; exact Nat.ne_of_lt (blk_lt Bg2.out)); have Ng3g2 : g3 ≠ g2 := Ng2g3.symm; have nBg2 := Lib.hid (blk_below Bg2.out hb); have nHB := Lib.hid (below_step HB.out hb); clear Bg2 HB; have Bg2 := nBg2; have HB := nHB; have Bg3 := Lib.hid hbx; clear nBg2 nHB hg hbx hb; have q0 := (blk_cell Bg2.out 0).trans rfl; have q1 := (blk_cell Bg2.out 1).trans rfl; have q2 := (blk_cell Bg2.out 2).trans rfl; have q3 := (blk_cell Bg2.out 3).trans rfl; have r0 := (blk_cell Bg3.out 0).trans rfl; have r1 := (blk_cell Bg3.out 1).trans rfl; have r2 := (blk_cell Bg3.out 2).trans rfl; have r3 := (blk_cell Bg3.out 3).trans rfl))
        all_goals
          go_ret
          first | exact ⟨rfl, HB.out⟩ | exact ⟨rfl, (HB.out.alloc (Nat.le_refl _) _).alloc (HB.out.alloc (Nat.le_refl _) _).size _⟩
    · by_cases hk2 : k0 = 2
      · subst hk2
        show Calls Tryd.prog 16 _ w fun e w' => e = .returned (.int .i64 (cmpI n0 n1)) ∧ Below w.heap.size w w'
        clear hk1
        go_enter Tryd.func16, Tryd.ntmps16
        go_wp2_with (first
          | ((with_reducible refine gate_dst (N := 2) rfl ?_); refine box_event ?hg (N := 2) ?hd (cs := #[.int .u8 2, .bool b0, .int .i64 n0, .string s0]) (t := 27) ?hr ?_; (case hd => rfl); (case hg => rfl); (case hr => first | (go_simp; done) | (go_simp; rfl)); intro g2 hg w3 hbx hb; have Eg2 : w.heap.size ≤ g2 := (by rw [hg]; exact HB.out.size); have nHB := Lib.hid (below_step HB.out hb); clear HB; have HB := nHB; have Bg2 := Lib.hid hbx; clear nHB hg hbx hb)
          | ((with_reducible refine gate_dst (N := 3) rfl ?_); refine box_event ?hg (N := 3) ?hd (cs := #[.int .u8 2, .bool b1, .int .i64 n1, .string s1]) (t := 27) ?hr ?_; (case hd => rfl); (case hg => rfl); (case hr => first | (go_simp; done) | (go_simp; rfl)); intro g3 hg w4 hbx hb; have Eg3 : w.heap.size ≤ g3 := (by rw [hg]; exact HB.out.size); have Ng2g3 : g2 ≠ g3 := (by rw [hg]; exact Nat.ne_of_lt (blk_lt Bg2.out)); have Ng3g2 : g3 ≠ g2 := Ng2g3.symm; have nBg2 := Lib.hid (blk_below Bg2.out hb); have nHB := Lib.hid (below_step HB.out hb); clear Bg2 HB; have Bg2 := nBg2; have HB := nHB; have Bg3 := Lib.hid hbx; clear nBg2 nHB hg hbx hb; have q0 := (blk_cell Bg2.out 0).trans rfl; have q1 := (blk_cell Bg2.out 1).trans rfl; have q2 := (blk_cell Bg2.out 2).trans rfl; have q3 := (blk_cell Bg2.out 3).trans rfl; have r0 := (blk_cell Bg3.out 0).trans rfl; have r1 := (blk_cell Bg3.out 1).trans rfl; have r2 := (blk_cell Bg3.out 2).trans rfl; have r3 := (blk_cell Bg3.out 3).trans rfl)
          | (go_at_call 45; refine (num_calls n0 n1 _).mono ?_; rintro e w6 ⟨rfl, hb⟩; have nB := Lib.hid (below_step HB.out hb); clear HB hb; have HB := nB; clear nB))
        all_goals
          go_ret
          first | exact ⟨rfl, HB.out⟩ | exact ⟨rfl, (HB.out.alloc (Nat.le_refl _) _).alloc (HB.out.alloc (Nat.le_refl _) _).size _⟩
      · by_cases hk3 : k0 = 3
        · subst hk3
          show Calls Tryd.prog 16 _ w fun e w' => e = .returned (.int .i64 (cmpR (runesL s0) (runesL s1))) ∧ Below w.heap.size w w'
          clear hk1 hk2
          go_enter Tryd.func16, Tryd.ntmps16
          go_wp2_with (first
            | ((with_reducible refine gate_dst (N := 2) rfl ?_); refine box_event ?hg (N := 2) ?hd (cs := #[.int .u8 3, .bool b0, .int .i64 n0, .string s0]) (t := 27) ?hr ?_; (case hd => rfl); (case hg => rfl); (case hr => first | (go_simp; done) | (go_simp; rfl)); intro g2 hg w3 hbx hb; have Eg2 : w.heap.size ≤ g2 := (by rw [hg]; exact HB.out.size); have nHB := Lib.hid (below_step HB.out hb); clear HB; have HB := nHB; have Bg2 := Lib.hid hbx; clear nHB hg hbx hb)
            | ((with_reducible refine gate_dst (N := 3) rfl ?_); refine box_event ?hg (N := 3) ?hd (cs := #[.int .u8 3, .bool b1, .int .i64 n1, .string s1]) (t := 27) ?hr ?_; (case hd => rfl); (case hg => rfl); (case hr => first | (go_simp; done) | (go_simp; rfl)); intro g3 hg w4 hbx hb; have Eg3 : w.heap.size ≤ g3 := (by rw [hg]; exact HB.out.size); have Ng2g3 : g2 ≠ g3 := (by rw [hg]; exact Nat.ne_of_lt (blk_lt Bg2.out)); have Ng3g2 : g3 ≠ g2 := Ng2g3.symm; have nBg2 := Lib.hid (blk_below Bg2.out hb); have nHB := Lib.hid (below_step HB.out hb); clear Bg2 HB; have Bg2 := nBg2; have HB := nHB; have Bg3 := Lib.hid hbx; clear nBg2 nHB hg hbx hb; have q0 := (blk_cell Bg2.out 0).trans rfl; have q1 := (blk_cell Bg2.out 1).trans rfl; have q2 := (blk_cell Bg2.out 2).trans rfl; have q3 := (blk_cell Bg2.out 3).trans rfl; have r0 := (blk_cell Bg3.out 0).trans rfl; have r1 := (blk_cell Bg3.out 1).trans rfl; have r2 := (blk_cell Bg3.out 2).trans rfl; have r3 := (blk_cell Bg3.out 3).trans rfl)
            | (go_at_call 46; refine (texts_calls s0 s1 _ h0 h1 (Utf8Tabs_below HT.out HB.out)).mono ?_; rintro e w6 ⟨rfl, hb⟩; have nB := Lib.hid (below_step HB.out hb); clear HB hb; have HB := nB; clear nB))
          all_goals
            go_ret
            first | exact ⟨rfl, HB.out⟩ | exact ⟨rfl, (HB.out.alloc (Nat.le_refl _) _).alloc (HB.out.alloc (Nat.le_refl _) _).size _⟩
        · have hX : cmpV ⟨k0, b0, n0, s0⟩ ⟨k0, b1, n1, s1⟩ = 0 := by
            unfold cmpV
            rw [if_neg (by simp), if_neg hk1, if_neg hk2, if_neg hk3]
          rw [hX]
          have d1 : (k0 == 1) = false := by simpa using hk1
          have d2 : (k0 == 2) = false := by simpa using hk2
          have d3 : (k0 == 3) = false := by simpa using hk3
          clear hX hk1 hk2 hk3
          go_enter Tryd.func16, Tryd.ntmps16
          go_wp2_with (first
            | ((with_reducible refine gate_dst (N := 2) rfl ?_); refine box_event ?hg (N := 2) ?hd (cs := #[.int .u8 k0, .bool b0, .int .i64 n0, .string s0]) (t := 27) ?hr ?_; (case hd => rfl); (case hg => rfl); (case hr => first | (go_simp; done) | (go_simp; rfl)); intro g2 hg w3 hbx hb; have Eg2 : w.heap.size ≤ g2 := (by rw [hg]; exact HB.out.size); have nHB := Lib.hid (below_step HB.out hb); clear HB; have HB := nHB; have Bg2 := Lib.hid hbx; clear nHB hg hbx hb)
            | ((with_reducible refine gate_dst (N := 3) rfl ?_); refine box_event ?hg (N := 3) ?hd (cs := #[.int .u8 k0, .bool b1, .int .i64 n1, .string s1]) (t := 27) ?hr ?_; (case hd => rfl); (case hg => rfl); (case hr => first | (go_simp; done) | (go_simp; rfl)); intro g3 hg w4 hbx hb; have Eg3 : w.heap.size ≤ g3 := (by rw [hg]; exact HB.out.size); have Ng2g3 : g2 ≠ g3 := (by rw [hg]; exact Nat.ne_of_lt (blk_lt Bg2.out)); have Ng3g2 : g3 ≠ g2 := Ng2g3.symm; have nBg2 := Lib.hid (blk_below Bg2.out hb); have nHB := Lib.hid (below_step HB.out hb); clear Bg2 HB; have Bg2 := nBg2; have HB := nHB; have Bg3 := Lib.hid hbx; clear nBg2 nHB hg hbx hb; have q0 := (blk_cell Bg2.out 0).trans rfl; have q1 := (blk_cell Bg2.out 1).trans rfl; have q2 := (blk_cell Bg2.out 2).trans rfl; have q3 := (blk_cell Bg2.out 3).trans rfl; have r0 := (blk_cell Bg3.out 0).trans rfl; have r1 := (blk_cell Bg3.out 1).trans rfl; have r2 := (blk_cell Bg3.out 2).trans rfl; have r3 := (blk_cell Bg3.out 3).trans rfl))
          all_goals
            go_ret
            first | exact ⟨rfl, HB.out⟩ | exact ⟨rfl, (HB.out.alloc (Nat.le_refl _) _).alloc (HB.out.alloc (Nat.le_refl _) _).size _⟩
  · have hX : cmpV ⟨k0, b0, n0, s0⟩ ⟨k1, b1, n1, s1⟩ = cmpI k0 k1 := if_pos hk
    rw [hX]
    have d1 : (k0 != k1) = true := by rw [bne_iff_ne]; exact hk
    clear hX hk
    go_enter Tryd.func16, Tryd.ntmps16
    go_wp2_with (first
      | ((with_reducible refine gate_dst (N := 2) rfl ?_); refine box_event ?hg (N := 2) ?hd (cs := #[.int .u8 k0, .bool b0, .int .i64 n0, .string s0]) (t := 27) ?hr ?_; (case hd => rfl); (case hg => rfl); (case hr => first | (go_simp; done) | (go_simp; rfl)); intro g2 hg w3 hbx hb; have Eg2 : w.heap.size ≤ g2 := (by rw [hg]; exact HB.out.size); have nHB := Lib.hid (below_step HB.out hb); clear HB; have HB := nHB; have Bg2 := Lib.hid hbx; clear nHB hg hbx hb)
      | ((with_reducible refine gate_dst (N := 3) rfl ?_); refine box_event ?hg (N := 3) ?hd (cs := #[.int .u8 k1, .bool b1, .int .i64 n1, .string s1]) (t := 27) ?hr ?_; (case hd => rfl); (case hg => rfl); (case hr => first | (go_simp; done) | (go_simp; rfl)); intro g3 hg w4 hbx hb; have Eg3 : w.heap.size ≤ g3 := (by rw [hg]; exact HB.out.size); have Ng2g3 : g2 ≠ g3 := (by rw [hg]; exact Nat.ne_of_lt (blk_lt Bg2.out)); have Ng3g2 : g3 ≠ g2 := Ng2g3.symm; have nBg2 := Lib.hid (blk_below Bg2.out hb); have nHB := Lib.hid (below_step HB.out hb); clear Bg2 HB; have Bg2 := nBg2; have HB := nHB; have Bg3 := Lib.hid hbx; clear nBg2 nHB hg hbx hb; have q0 := (blk_cell Bg2.out 0).trans rfl; have q1 := (blk_cell Bg2.out 1).trans rfl; have q2 := (blk_cell Bg2.out 2).trans rfl; have q3 := (blk_cell Bg2.out 3).trans rfl; have r0 := (blk_cell Bg3.out 0).trans rfl; have r1 := (blk_cell Bg3.out 1).trans rfl; have r2 := (blk_cell Bg3.out 2).trans rfl; have r3 := (blk_cell Bg3.out 3).trans rfl)
      | (go_at_call 44; refine (kind_calls k0 k1 _).mono ?_; rintro e w6 ⟨rfl, hb⟩; have nB := Lib.hid (below_step HB.out hb); clear HB hb; have HB := nB; clear nB))
    all_goals
      go_ret
      first | exact ⟨rfl, HB.out⟩ | exact ⟨rfl, (HB.out.alloc (Nat.le_refl _) _).alloc (HB.out.alloc (Nat.le_refl _) _).size _⟩
end Go.Proofs.YtepgjdmdogblmaaDoor.Val
