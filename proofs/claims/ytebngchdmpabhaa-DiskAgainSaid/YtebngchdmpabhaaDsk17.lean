/- Package disk: DiskAgain answers true, whatever a disk is. No condition but the bound on a slice's length. -/
import Derived.Test.YtebngchdmpabhaaDsk14
namespace Go.Proofs.Ytebngchdmpabhaa.Disk
open Go.RowKit Go.Proofs.Ytebngchdmpabhaa.G Go.Proofs.YtebngchdmpabhaaW.PrintWords Go.Proofs.YtebngchdmpabhaaW.PrintLast Go.Proofs.YtebngchdmpabhaaW.PrintMore Go.Proofs.YtebngchdmpabhaaW.Raw
set_option linter.unusedVariables false
set_option linter.unusedSimpArgs false
set_option maxHeartbeats 4000000 in
set_option maxRecDepth 100000 in
theorem again_calls (A : Option Addr) (c : Nat) (l : List S41) (down : Bool) (fuse keep again : Int) (w : World) (hr : Kd.C k41 w A l.length l) (hn : l.length < 3518437208883) :
    Calls Try.prog 7 #[.agg #[.slice A l.length c, .bool down, .int .i64 fuse], .int .i64 keep, .int .i64 again] w fun e w' => e = .returned (.bool true) ∧ Below w.heap.size w w' := by
  have HR := Lib.hid hr
  clear hr
  have HB := Lib.hid (Below.refl w.heap.size w)
  rcases ho : ok l with _ | _
  · have HA : Hid (crashA l keep = ⟨[], false, 0, 6⟩) := Lib.hid (if_neg (by simp [ho]))
    clear ho
    go_enter Try.func7, Try.ntmps7
    go_wp2_with (first
      | ((with_reducible refine gate_dst (N := 3) rfl ?_); refine box_event ?hg (N := 3) ?hd (cs := #[.slice A l.length c, .bool down, .int .i64 fuse]) (t := 24) ?hr ?_; (case hd => rfl); (case hg => rfl); (case hr => first | (go_simp; done) | (go_simp; rfl)); intro g3 hg w3 hbx hb; have Eg3 : w.heap.size ≤ g3 := (by rw [hg]; exact HB.out.size); have nHB := Lib.hid (below_step HB.out hb); clear HB; have HB := nHB; have Bg3 := Lib.hid hbx; clear nHB hg hbx hb)
      | (go_at_call 16; refine (lives_calls _).mono ?_; rintro e w4 ⟨rfl, hb⟩; have nBg3 := Lib.hid (blk_below Bg3.out hb); have nHB := Lib.hid (below_step HB.out hb); clear Bg3 HB; have Bg3 := nBg3; have HB := nHB; clear nBg3 nHB hb; have q0 := (blk_cell Bg3.out 0).trans rfl; have q1 := (blk_cell Bg3.out 1).trans rfl; have q2 := (blk_cell Bg3.out 2).trans rfl)
      | (go_at_call 14; have M0 := q0; refine (crash_calls A c l down fuse keep _ (Kd.C_below HR.out HB.out) hn).mono ?_; rw [HA.out]; rintro e w5 ⟨v5, rfl, hr5, hb⟩; have HR5 := Lib.hid hr5; have nHB := Lib.hid (below_step HB.out hb); clear HB Bg3 q0 q1 q2 M0 hr5 hb; have HB := nHB; clear nHB; obtain ⟨A5, c5, e5, hlc5, hC5⟩ := Kd.R_reads HR5.out; subst e5; have HC5 := Lib.hid hC5; clear hC5)
      | (go_at_call 17; refine (same_calls A5 none c5 0 [] false 0 _ (Kd.C_alloc HC5.out _) (Kd.R_reads' (Kd.R_nil k41 41 _ 0 (fun _ => True))).2.2 (by simp)).mono ?_; rintro e w6 ⟨rfl, hb⟩; have nHB := Lib.hid (below_step (HB.out.alloc HB.out.size _) hb); clear HB hb; have HB := nHB; clear nHB))
    go_ret
    exact ⟨rfl, HB.out⟩
  · have HA : Hid (crashA l keep = ⟨l.map (crashF keep), false, -1, 0⟩) := Lib.hid (if_pos ho)
    have HA2 : Hid (crashA (l.map (crashF keep)) again = ⟨l.map (crashF keep), false, -1, 0⟩) := Lib.hid ((if_pos (crash_ok_all keep ho)).trans (by rw [crash_again keep again ho]))
    have hn2 : (l.map (crashF keep)).length < 3518437208883 := by simpa using hn
    clear ho
    obtain ⟨L, hL⟩ : ∃ L, L = l.map (crashF keep) := ⟨_, rfl⟩
    rw [← hL] at HA HA2 hn2
    clear hL
    go_enter Try.func7, Try.ntmps7
    go_wp2_with (first
      | ((with_reducible refine gate_dst (N := 3) rfl ?_); refine box_event ?hg (N := 3) ?hd (cs := #[.slice A l.length c, .bool down, .int .i64 fuse]) (t := 24) ?hr ?_; (case hd => rfl); (case hg => rfl); (case hr => first | (go_simp; done) | (go_simp; rfl)); intro g3 hg w3 hbx hb; have Eg3 : w.heap.size ≤ g3 := (by rw [hg]; exact HB.out.size); have nHB := Lib.hid (below_step HB.out hb); clear HB; have HB := nHB; have Bg3 := Lib.hid hbx; clear nHB hg hbx hb)
      | (go_at_call 16; refine (lives_calls _).mono ?_; rintro e w4 ⟨rfl, hb⟩; have nBg3 := Lib.hid (blk_below Bg3.out hb); have nHB := Lib.hid (below_step HB.out hb); clear Bg3 HB; have Bg3 := nBg3; have HB := nHB; clear nBg3 nHB hb; have q0 := (blk_cell Bg3.out 0).trans rfl; have q1 := (blk_cell Bg3.out 1).trans rfl; have q2 := (blk_cell Bg3.out 2).trans rfl)
      | (go_at_call 14; have M0 := q0; refine (crash_calls A c l down fuse keep _ (Kd.C_below HR.out HB.out) hn).mono ?_; rw [HA.out]; rintro e w5 ⟨v5, rfl, hr5, hb⟩; have HR5 := Lib.hid hr5; have nHB := Lib.hid (below_step HB.out hb); clear HB Bg3 q0 q1 q2 M0 hr5 hb; have HB := nHB; clear nHB; obtain ⟨A5, c5, e5, hlc5, hC5⟩ := Kd.R_reads HR5.out; subst e5; have HC5 := Lib.hid hC5; clear hC5)
      | (go_at_call 14; have M1 := HC5; refine (crash_calls A5 c5 L false (-1) again _ (Kd.C_alloc HC5.out _) hn2).mono ?_; rw [HA2.out]; rintro e w6 ⟨v6, rfl, hr6, hb⟩; have HR6 := Lib.hid hr6; have B5 := Lib.hid (blk_below (blk_new w5 _) hb); have nHB := Lib.hid (below_step (HB.out.alloc HB.out.size _) hb); have nHC := Lib.hid (Kd.C_below (Kd.C_alloc HC5.out _) hb); clear HB HC5 HR5 M1 hr6 hb; have HB := nHB; have HCa := nHC; clear nHB nHC; obtain ⟨A6, c6, e6, hlc6, hC6⟩ := Kd.R_reads HR6.out; subst e6; have HCb := Lib.hid hC6; clear hC6; have hl5 := blk_lt B5.out; have r0 := (blk_cell B5.out 0).trans rfl; have r1 := (blk_cell B5.out 1).trans rfl; have r2 := (blk_cell B5.out 2).trans rfl)
      | (go_at_call 17; refine (same_calls A5 A6 c5 c6 L false (-1) _ (Kd.C_alloc HCa.out _) (Kd.C_alloc HCb.out _) (by omega)).mono ?_; rintro e w7 ⟨rfl, hb⟩; have nHB := Lib.hid (below_step (HB.out.alloc HB.out.size _) hb); clear HB hb; have HB := nHB; clear nHB))
    go_ret
    exact ⟨rfl, HB.out⟩
end Go.Proofs.Ytebngchdmpabhaa.Disk
