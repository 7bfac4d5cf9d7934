/- Package disk: DiskRefused answers true, whatever a disk, a step and another name are. No condition but the bounds on a slice's and a string's length. -/
import Derived.Test.YtebngchdmpabhaaDsk18
namespace Go.Proofs.Ytebngchdmpabhaa.Disk
open Go.RowKit Go.Proofs.Ytebngchdmpabhaa.G Go.Proofs.YtebngchdmpabhaaW.PrintWords Go.Proofs.YtebngchdmpabhaaW.PrintLast Go.Proofs.YtebngchdmpabhaaW.PrintMore Go.Proofs.YtebngchdmpabhaaW.Raw
set_option linter.unusedVariables false
set_option linter.unusedSimpArgs false
set_option maxHeartbeats 8000000 in
set_option maxRecDepth 100000 in
theorem refused_bad (A : Option Addr) (c : Nat) (l : List S41) (down : Bool) (fuse kind : Int) (name dst data other : ByteArray) (w : World) (hr : Kd.C k41 w A l.length l) (hn : l.length < 3518437208883) (hlc : l.length ≤ c) (hd : data.size ≤ 9223372036854775807) (hf : fuse ≤ 9223372036854775807) (ho : ok l = false) :
    Calls Try.prog 5 #[.agg #[.slice A l.length c, .bool down, .int .i64 fuse], .agg #[.int .u8 kind, .string name, .string dst, .string data], .string other] w fun e w' => e = .returned (.bool true) ∧ Below w.heap.size w w' := by
  have HR := Lib.hid hr
  clear hr
  have HB := Lib.hid (Below.refl w.heap.size w)
  have HK : Hid (okN l = 6) := Lib.hid (by simp [okN, ho])
  have HA : Hid (doA l down fuse kind name dst data = ⟨[], false, 0, 6⟩) := Lib.hid (if_pos ho)
  clear ho
  go_enter Try.func5, Try.ntmps5
  go_wp2_with (first
    | ((with_reducible refine gate_dst (N := 3) rfl ?_); refine box_event ?hg (N := 3) ?hd (cs := #[.slice A l.length c, .bool down, .int .i64 fuse]) (t := 24) ?hr ?_; (case hd => rfl); (case hg => rfl); (case hr => first | (go_simp; done) | (go_simp; rfl)); intro g3 hg w3 hbx hb; have Eg3 : w.heap.size ≤ g3 := (by rw [hg]; exact HB.out.size); have nHB := Lib.hid (below_step HB.out hb); clear HB; have HB := nHB; have Bg3 := Lib.hid hbx; clear nHB hg hbx hb)
    | ((with_reducible refine gate_dst (N := 4) rfl ?_); refine box_event ?hg (N := 4) ?hd (cs := #[.int .u8 kind, .string name, .string dst, .string data]) (t := 27) ?hr ?_; (case hd => rfl); (case hg => rfl); (case hr => first | (go_simp; done) | (go_simp; rfl)); intro g4 hg w4 hbx hb; have Eg4 : w.heap.size ≤ g4 := (by rw [hg]; exact HB.out.size); have Ng3g4 : g3 ≠ g4 := (by rw [hg]; exact Nat.ne_of_lt (blk_lt Bg3.out)); have Ng4g3 : g4 ≠ g3 := Ng3g4.symm; have nBg3 := Lib.hid (blk_below Bg3.out hb); have nHB := Lib.hid (below_step HB.out hb); clear Bg3 HB; have Bg3 := nBg3; have HB := nHB; have Bg4 := Lib.hid hbx; clear nBg3 nHB hg hbx hb)
    | (go_at_call 16; refine (lives_calls _).mono ?_; rintro e wa ⟨rfl, hb⟩; have nBg3 := Lib.hid (blk_below Bg3.out hb); have nBg4 := Lib.hid (blk_below Bg4.out hb); have nHB := Lib.hid (below_step HB.out hb); clear Bg3 Bg4 HB; have Bg3 := nBg3; have Bg4 := nBg4; have HB := nHB; clear nBg3 nBg4 nHB hb; have q0 := (blk_cell Bg3.out 0).trans rfl; have q1 := (blk_cell Bg3.out 1).trans rfl; have q2 := (blk_cell Bg3.out 2).trans rfl; have s0 := (blk_cell Bg4.out 0).trans rfl; have s1 := (blk_cell Bg4.out 1).trans rfl; have s2 := (blk_cell Bg4.out 2).trans rfl; have s3 := (blk_cell Bg4.out 3).trans rfl)
    | (go_at_call 10; have M0 := q0; refine (do_calls A c l down fuse kind name dst data _ (Kd.C_below HR.out HB.out) hn hd hf).mono ?_; rw [HA.out]; rintro e w5 ⟨v5, rfl, hr5, hb⟩; have HR5 := Lib.hid hr5; clear q0 q1 q2 s0 s1 s2 s3 M0 hr5; have nBg3 := Lib.hid (blk_below Bg3.out hb); have nBg4 := Lib.hid (blk_below Bg4.out hb); have nHB := Lib.hid (below_step HB.out hb); clear Bg3 Bg4 HB; have Bg3 := nBg3; have Bg4 := nBg4; have HB := nHB; clear nBg3 nBg4 nHB hb; obtain ⟨A5, c5, e5, hlc5, hC5⟩ := Kd.R_reads HR5.out; subst e5; have HC5 := Lib.hid hC5; clear hC5 HR5; have l3 := blk_lt Bg3.out; have q0 := (blk_cell Bg3.out 0).trans rfl; have q1 := (blk_cell Bg3.out 1).trans rfl; have q2 := (blk_cell Bg3.out 2).trans rfl)
    | (go_at_call 18; refine (check_calls A c l down fuse _ (Kd.C_alloc (Kd.C_below HR.out HB.out) _)).mono ?_; rintro e w6 ⟨rfl, hb⟩; rw [HK.out]; have B5 := Lib.hid (blk_below (blk_new w5 _) hb); have nHC := Lib.hid (Kd.C_below (Kd.C_alloc HC5.out _) hb); have nB3 := Lib.hid (blk_below (blk_alloc Bg3.out _) hb); have nB4 := Lib.hid (blk_below (blk_alloc Bg4.out _) hb); have nHB := Lib.hid (below_step (HB.out.alloc HB.out.size _) hb); clear Bg3 Bg4 HB HC5 hb q0 q1 q2 l3; have Bg3 := nB3; have Bg4 := nB4; have HB := nHB; have HC5 := nHC; clear nB3 nB4 nHB nHC; have r0 := (blk_cell B5.out 0).trans rfl; have r1 := (blk_cell B5.out 1).trans rfl; have r2 := (blk_cell B5.out 2).trans rfl; have q0 := (blk_cell Bg3.out 0).trans rfl; have q1 := (blk_cell Bg3.out 1).trans rfl; have q2 := (blk_cell Bg3.out 2).trans rfl; have s0 := (blk_cell Bg4.out 0).trans rfl; have s1 := (blk_cell Bg4.out 1).trans rfl; have s2 := (blk_cell Bg4.out 2).trans rfl; have s3 := (blk_cell Bg4.out 3).trans rfl)
    | (go_at_call 17; refine (same_calls A5 none c5 0 [] false 0 _ HC5.out (Kd.R_reads' (Kd.R_nil k41 41 _ 0 (fun _ => True))).2.2 (by simp)).mono ?_; rintro e w7 ⟨rfl, hb⟩; have nB5 := Lib.hid (blk_below B5.out hb); have nHC := Lib.hid (Kd.C_below HC5.out hb); clear r0 r1 r2 q0 q1 q2 s0 s1 s2 s3; have nBg3 := Lib.hid (blk_below Bg3.out hb); have nBg4 := Lib.hid (blk_below Bg4.out hb); have nHB := Lib.hid (below_step HB.out hb); clear Bg3 Bg4 HB; have Bg3 := nBg3; have Bg4 := nBg4; have HB := nHB; clear nBg3 nBg4 nHB hb; clear B5 HC5; have B5 := nB5; have HC5 := nHC; clear nB5 nHC; have r0 := (blk_cell B5.out 0).trans rfl; have r1 := (blk_cell B5.out 1).trans rfl; have r2 := (blk_cell B5.out 2).trans rfl; have q0 := (blk_cell Bg3.out 0).trans rfl; have q1 := (blk_cell Bg3.out 1).trans rfl; have q2 := (blk_cell Bg3.out 2).trans rfl; have s0 := (blk_cell Bg4.out 0).trans rfl; have s1 := (blk_cell Bg4.out 1).trans rfl; have s2 := (blk_cell Bg4.out 2).trans rfl; have s3 := (blk_cell Bg4.out 3).trans rfl))
  go_ret
  exact ⟨rfl, HB.out⟩
set_option maxHeartbeats 8000000 in
set_option maxRecDepth 100000 in
theorem refused_kept12_3 (A : Option Addr) (c : Nat) (l : List S41) (down : Bool) (fuse : Int) (name dst data other : ByteArray) (w : World) (hr : Kd.C k41 w A l.length l) (hn : l.length < 3518437208883) (hlc : l.length ≤ c) (hd : data.size ≤ 9223372036854775807) (hf : fuse ≤ 9223372036854775807) (ho : ok l = true) (hdn : down = true) (ha : doA l down fuse 3 name dst data = ⟨l, down, fuse, 12⟩) :
    Calls Try.prog 5 #[.agg #[.slice A l.length c, .bool down, .int .i64 fuse], .agg #[.int .u8 3, .string name, .string dst, .string data], .string other] w fun e w' => e = .returned (.bool true) ∧ Below w.heap.size w w' := by
  have HR := Lib.hid hr
  clear hr
  have HB := Lib.hid (Below.refl w.heap.size w)
  have HK : Hid (okN l = 0) := Lib.hid (by simp [okN, ho])
  subst hdn
  have HA := Lib.hid ha
  clear ho ha
  rcases b1 : eqS other name with _ | _ <;> rcases b3 : eqS other dst with _ | _
  all_goals
    have c1 : (other.toList == name.toList) = _ := b1
    have c3 : (other.toList == dst.toList) = _ := b3
    have p1 := c1
    have p3 := c3
    simp only [beq_iff_eq, beq_eq_false_iff_ne, ne_eq] at p1 p3
    go_enter Try.func5, Try.ntmps5
    go_wp2_with (first
      | ((with_reducible refine gate_dst (N := 3) rfl ?_); refine box_event ?hg (N := 3) ?hd (cs := #[.slice A l.length c, .bool true, .int .i64 fuse]) (t := 24) ?hr ?_; (case hd => rfl); (case hg => rfl); (case hr => first | (go_simp; done) | (go_simp; rfl)); intro g3 hg w3 hbx hb; have Eg3 : w.heap.size ≤ g3 := (by rw [hg]; exact HB.out.size); have nHB := Lib.hid (below_step HB.out hb); clear HB; have HB := nHB; have Bg3 := Lib.hid hbx; clear nHB hg hbx hb)
      | ((with_reducible refine gate_dst (N := 4) rfl ?_); refine box_event ?hg (N := 4) ?hd (cs := #[.int .u8 3, .string name, .string dst, .string data]) (t := 27) ?hr ?_; (case hd => rfl); (case hg => rfl); (case hr => first | (go_simp; done) | (go_simp; rfl)); intro g4 hg w4 hbx hb; have Eg4 : w.heap.size ≤ g4 := (by rw [hg]; exact HB.out.size); have Ng3g4 : g3 ≠ g4 := (by rw [hg]; exact Nat.ne_of_lt (blk_lt Bg3.out)); have Ng4g3 : g4 ≠ g3 := Ng3g4.symm; have nBg3 := Lib.hid (blk_below Bg3.out hb); have nHB := Lib.hid (below_step HB.out hb); clear Bg3 HB; have Bg3 := nBg3; have HB := nHB; have Bg4 := Lib.hid hbx; clear nBg3 nHB hg hbx hb)
      | (go_at_call 16; refine (lives_calls _).mono ?_; rintro e wa ⟨rfl, hb⟩; have nBg3 := Lib.hid (blk_below Bg3.out hb); have nBg4 := Lib.hid (blk_below Bg4.out hb); have nHB := Lib.hid (below_step HB.out hb); clear Bg3 Bg4 HB; have Bg3 := nBg3; have Bg4 := nBg4; have HB := nHB; clear nBg3 nBg4 nHB hb; have q0 := (blk_cell Bg3.out 0).trans rfl; have q1 := (blk_cell Bg3.out 1).trans rfl; have q2 := (blk_cell Bg3.out 2).trans rfl; have s0 := (blk_cell Bg4.out 0).trans rfl; have s1 := (blk_cell Bg4.out 1).trans rfl; have s2 := (blk_cell Bg4.out 2).trans rfl; have s3 := (blk_cell Bg4.out 3).trans rfl)
      | (go_at_call 10; have M0 := q0; refine (do_calls A c l true fuse 3 name dst data _ (Kd.C_below HR.out HB.out) hn hd hf).mono ?_; rw [HA.out]; rintro e w5 ⟨v5, rfl, hr5, hb⟩; have HR5 := Lib.hid hr5; clear q0 q1 q2 s0 s1 s2 s3 M0 hr5; have nBg3 := Lib.hid (blk_below Bg3.out hb); have nBg4 := Lib.hid (blk_below Bg4.out hb); have nHB := Lib.hid (below_step HB.out hb); clear Bg3 Bg4 HB; have Bg3 := nBg3; have Bg4 := nBg4; have HB := nHB; clear nBg3 nBg4 nHB hb; obtain ⟨A5, c5, e5, hlc5, hC5⟩ := Kd.R_reads HR5.out; subst e5; have HC5 := Lib.hid hC5; clear hC5 HR5; have l3 := blk_lt Bg3.out; have q0 := (blk_cell Bg3.out 0).trans rfl; have q1 := (blk_cell Bg3.out 1).trans rfl; have q2 := (blk_cell Bg3.out 2).trans rfl)
      | (go_at_call 18; refine (check_calls A c l true fuse _ (Kd.C_alloc (Kd.C_below HR.out HB.out) _)).mono ?_; rintro e w6 ⟨rfl, hb⟩; rw [HK.out]; have B5 := Lib.hid (blk_below (blk_new w5 _) hb); have nHC := Lib.hid (Kd.C_below (Kd.C_alloc HC5.out _) hb); have nB3 := Lib.hid (blk_below (blk_alloc Bg3.out _) hb); have nB4 := Lib.hid (blk_below (blk_alloc Bg4.out _) hb); have nHB := Lib.hid (below_step (HB.out.alloc HB.out.size _) hb); clear Bg3 Bg4 HB HC5 hb q0 q1 q2 l3; have Bg3 := nB3; have Bg4 := nB4; have HB := nHB; have HC5 := nHC; clear nB3 nB4 nHB nHC; have r0 := (blk_cell B5.out 0).trans rfl; have r1 := (blk_cell B5.out 1).trans rfl; have r2 := (blk_cell B5.out 2).trans rfl; have q0 := (blk_cell Bg3.out 0).trans rfl; have q1 := (blk_cell Bg3.out 1).trans rfl; have q2 := (blk_cell Bg3.out 2).trans rfl; have s0 := (blk_cell Bg4.out 0).trans rfl; have s1 := (blk_cell Bg4.out 1).trans rfl; have s2 := (blk_cell Bg4.out 2).trans rfl; have s3 := (blk_cell Bg4.out 3).trans rfl)
      | (go_at_call 17; refine (same_calls A A5 c c5 l true fuse _ (Kd.C_below HR.out HB.out) HC5.out (by omega)).mono ?_; rintro e w7 ⟨rfl, hb⟩; have nB5 := Lib.hid (blk_below B5.out hb); have nHC := Lib.hid (Kd.C_below HC5.out hb); clear r0 r1 r2 q0 q1 q2 s0 s1 s2 s3; have nBg3 := Lib.hid (blk_below Bg3.out hb); have nBg4 := Lib.hid (blk_below Bg4.out hb); have nHB := Lib.hid (below_step HB.out hb); clear Bg3 Bg4 HB; have Bg3 := nBg3; have Bg4 := nBg4; have HB := nHB; clear nBg3 nBg4 nHB hb; clear B5 HC5; have B5 := nB5; have HC5 := nHC; clear nB5 nHC; have r0 := (blk_cell B5.out 0).trans rfl; have r1 := (blk_cell B5.out 1).trans rfl; have r2 := (blk_cell B5.out 2).trans rfl; have q0 := (blk_cell Bg3.out 0).trans rfl; have q1 := (blk_cell Bg3.out 1).trans rfl; have q2 := (blk_cell Bg3.out 2).trans rfl; have s0 := (blk_cell Bg4.out 0).trans rfl; have s1 := (blk_cell Bg4.out 1).trans rfl; have s2 := (blk_cell Bg4.out 2).trans rfl; have s3 := (blk_cell Bg4.out 3).trans rfl)
      | (go_at_call 12; have M1 := s0; refine (read_calls A c l true fuse other _ (Kd.C_below HR.out HB.out) (by omega) hlc).mono ?_; rintro e w8 ⟨rfl, hb⟩; have nB5 := Lib.hid (blk_below B5.out hb); have nHC := Lib.hid (Kd.C_below HC5.out hb); clear r0 r1 r2 q0 q1 q2 s0 s1 s2 s3 M1; have nBg3 := Lib.hid (blk_below Bg3.out hb); have nBg4 := Lib.hid (blk_below Bg4.out hb); have nHB := Lib.hid (below_step HB.out hb); clear Bg3 Bg4 HB; have Bg3 := nBg3; have Bg4 := nBg4; have HB := nHB; clear nBg3 nBg4 nHB hb; clear B5 HC5; have B5 := nB5; have HC5 := nHC; clear nB5 nHC; have r0 := (blk_cell B5.out 0).trans rfl; have r1 := (blk_cell B5.out 1).trans rfl; have r2 := (blk_cell B5.out 2).trans rfl)
      | (go_at_call 12; refine (read_calls A5 c5 l true fuse other _ HC5.out (by omega) hlc5).mono ?_; rintro e w9 ⟨rfl, hb⟩; have nHB := Lib.hid (below_step HB.out hb); clear HB hb r0 r1 r2; have HB := nHB; clear nHB; skip))
    all_goals
      go_ret
      exact ⟨rfl, HB.out⟩
set_option maxHeartbeats 8000000 in
set_option maxRecDepth 100000 in
theorem refused_kept12_n (A : Option Addr) (c : Nat) (l : List S41) (down : Bool) (fuse kind : Int) (name dst data other : ByteArray) (w : World) (hr : Kd.C k41 w A l.length l) (hn : l.length < 3518437208883) (hlc : l.length ≤ c) (hd : data.size ≤ 9223372036854775807) (hf : fuse ≤ 9223372036854775807) (ho : ok l = true) (hk : ¬ kind = 3) (hdn : down = true) (ha : doA l down fuse kind name dst data = ⟨l, down, fuse, 12⟩) :
    Calls Try.prog 5 #[.agg #[.slice A l.length c, .bool down, .int .i64 fuse], .agg #[.int .u8 kind, .string name, .string dst, .string data], .string other] w fun e w' => e = .returned (.bool true) ∧ Below w.heap.size w w' := by
  have HR := Lib.hid hr
  clear hr
  have HB := Lib.hid (Below.refl w.heap.size w)
  have HK : Hid (okN l = 0) := Lib.hid (by simp [okN, ho])
  subst hdn
  have HA := Lib.hid ha
  clear ho ha
  rcases b1 : eqS other name with _ | _ <;> rcases b3 : eqS other dst with _ | _
  all_goals
    have b2 : (kind == 3) = false := by simpa using hk
    have c1 : (other.toList == name.toList) = _ := b1
    have c3 : (other.toList == dst.toList) = _ := b3
    have p1 := c1
    have p3 := c3
    simp only [beq_iff_eq, beq_eq_false_iff_ne, ne_eq] at p1 p3
    go_enter Try.func5, Try.ntmps5
    go_wp2_with (first
      | ((with_reducible refine gate_dst (N := 3) rfl ?_); refine box_event ?hg (N := 3) ?hd (cs := #[.slice A l.length c, .bool true, .int .i64 fuse]) (t := 24) ?hr ?_; (case hd => rfl); (case hg => rfl); (case hr => first | (go_simp; done) | (go_simp; rfl)); intro g3 hg w3 hbx hb; have Eg3 : w.heap.size ≤ g3 := (by rw [hg]; exact HB.out.size); have nHB := Lib.hid (below_step HB.out hb); clear HB; have HB := nHB; have Bg3 := Lib.hid hbx; clear nHB hg hbx hb)
      | ((with_reducible refine gate_dst (N := 4) rfl ?_); refine box_event ?hg (N := 4) ?hd (cs := #[.int .u8 kind, .string name, .string dst, .string data]) (t := 27) ?hr ?_; (case hd => rfl); (case hg => rfl); (case hr => first | (go_simp; done) | (go_simp; rfl)); intro g4 hg w4 hbx hb; have Eg4 : w.heap.size ≤ g4 := (by rw [hg]; exact HB.out.size); have Ng3g4 : g3 ≠ g4 := (by rw [hg]; exact Nat.ne_of_lt (blk_lt Bg3.out)); have Ng4g3 : g4 ≠ g3 := Ng3g4.symm; have nBg3 := Lib.hid (blk_below Bg3.out hb); have nHB := Lib.hid (below_step HB.out hb); clear Bg3 HB; have Bg3 := nBg3; have HB := nHB; have Bg4 := Lib.hid hbx; clear nBg3 nHB hg hbx hb)
      | (go_at_call 16; refine (lives_calls _).mono ?_; rintro e wa ⟨rfl, hb⟩; have nBg3 := Lib.hid (blk_below Bg3.out hb); have nBg4 := Lib.hid (blk_below Bg4.out hb); have nHB := Lib.hid (below_step HB.out hb); clear Bg3 Bg4 HB; have Bg3 := nBg3; have Bg4 := nBg4; have HB := nHB; clear nBg3 nBg4 nHB hb; have q0 := (blk_cell Bg3.out 0).trans rfl; have q1 := (blk_cell Bg3.out 1).trans rfl; have q2 := (blk_cell Bg3.out 2).trans rfl; have s0 := (blk_cell Bg4.out 0).trans rfl; have s1 := (blk_cell Bg4.out 1).trans rfl; have s2 := (blk_cell Bg4.out 2).trans rfl; have s3 := (blk_cell Bg4.out 3).trans rfl)
      | (go_at_call 10; have M0 := q0; refine (do_calls A c l true fuse kind name dst data _ (Kd.C_below HR.out HB.out) hn hd hf).mono ?_; rw [HA.out]; rintro e w5 ⟨v5, rfl, hr5, hb⟩; have HR5 := Lib.hid hr5; clear q0 q1 q2 s0 s1 s2 s3 M0 hr5; have nBg3 := Lib.hid (blk_below Bg3.out hb); have nBg4 := Lib.hid (blk_below Bg4.out hb); have nHB := Lib.hid (below_step HB.out hb); clear Bg3 Bg4 HB; have Bg3 := nBg3; have Bg4 := nBg4; have HB := nHB; clear nBg3 nBg4 nHB hb; obtain ⟨A5, c5, e5, hlc5, hC5⟩ := Kd.R_reads HR5.out; subst e5; have HC5 := Lib.hid hC5; clear hC5 HR5; have l3 := blk_lt Bg3.out; have q0 := (blk_cell Bg3.out 0).trans rfl; have q1 := (blk_cell Bg3.out 1).trans rfl; have q2 := (blk_cell Bg3.out 2).trans rfl)
      | (go_at_call 18; refine (check_calls A c l true fuse _ (Kd.C_alloc (Kd.C_below HR.out HB.out) _)).mono ?_; rintro e w6 ⟨rfl, hb⟩; rw [HK.out]; have B5 := Lib.hid (blk_below (blk_new w5 _) hb); have nHC := Lib.hid (Kd.C_below (Kd.C_alloc HC5.out _) hb); have nB3 := Lib.hid (blk_below (blk_alloc Bg3.out _) hb); have nB4 := Lib.hid (blk_below (blk_alloc Bg4.out _) hb); have nHB := Lib.hid (below_step (HB.out.alloc HB.out.size _) hb); clear Bg3 Bg4 HB HC5 hb q0 q1 q2 l3; have Bg3 := nB3; have Bg4 := nB4; have HB := nHB; have HC5 := nHC; clear nB3 nB4 nHB nHC; have r0 := (blk_cell B5.out 0).trans rfl; have r1 := (blk_cell B5.out 1).trans rfl; have r2 := (blk_cell B5.out 2).trans rfl; have q0 := (blk_cell Bg3.out 0).trans rfl; have q1 := (blk_cell Bg3.out 1).trans rfl; have q2 := (blk_cell Bg3.out 2).trans rfl; have s0 := (blk_cell Bg4.out 0).trans rfl; have s1 := (blk_cell Bg4.out 1).trans rfl; have s2 := (blk_cell Bg4.out 2).trans rfl; have s3 := (blk_cell Bg4.out 3).trans rfl)
      | (go_at_call 17; refine (same_calls A A5 c c5 l true fuse _ (Kd.C_below HR.out HB.out) HC5.out (by omega)).mono ?_; rintro e w7 ⟨rfl, hb⟩; have nB5 := Lib.hid (blk_below B5.out hb); have nHC := Lib.hid (Kd.C_below HC5.out hb); clear r0 r1 r2 q0 q1 q2 s0 s1 s2 s3; have nBg3 := Lib.hid (blk_below Bg3.out hb); have nBg4 := Lib.hid (blk_below Bg4.out hb); have nHB := Lib.hid (below_step HB.out hb); clear Bg3 Bg4 HB; have Bg3 := nBg3; have Bg4 := nBg4; have HB := nHB; clear nBg3 nBg4 nHB hb; clear B5 HC5; have B5 := nB5; have HC5 := nHC; clear nB5 nHC; have r0 := (blk_cell B5.out 0).trans rfl; have r1 := (blk_cell B5.out 1).trans rfl; have r2 := (blk_cell B5.out 2).trans rfl; have q0 := (blk_cell Bg3.out 0).trans rfl; have q1 := (blk_cell Bg3.out 1).trans rfl; have q2 := (blk_cell Bg3.out 2).trans rfl; have s0 := (blk_cell Bg4.out 0).trans rfl; have s1 := (blk_cell Bg4.out 1).trans rfl; have s2 := (blk_cell Bg4.out 2).trans rfl; have s3 := (blk_cell Bg4.out 3).trans rfl)
      | (go_at_call 12; have M1 := s0; refine (read_calls A c l true fuse other _ (Kd.C_below HR.out HB.out) (by omega) hlc).mono ?_; rintro e w8 ⟨rfl, hb⟩; have nB5 := Lib.hid (blk_below B5.out hb); have nHC := Lib.hid (Kd.C_below HC5.out hb); clear r0 r1 r2 q0 q1 q2 s0 s1 s2 s3 M1; have nBg3 := Lib.hid (blk_below Bg3.out hb); have nBg4 := Lib.hid (blk_below Bg4.out hb); have nHB := Lib.hid (below_step HB.out hb); clear Bg3 Bg4 HB; have Bg3 := nBg3; have Bg4 := nBg4; have HB := nHB; clear nBg3 nBg4 nHB hb; clear B5 HC5; have B5 := nB5; have HC5 := nHC; clear nB5 nHC; have r0 := (blk_cell B5.out 0).trans rfl; have r1 := (blk_cell B5.out 1).trans rfl; have r2 := (blk_cell B5.out 2).trans rfl)
      | (go_at_call 12; refine (read_calls A5 c5 l true fuse other _ HC5.out (by omega) hlc5).mono ?_; rintro e w9 ⟨rfl, hb⟩; have nHB := Lib.hid (below_step HB.out hb); clear HB hb r0 r1 r2; have HB := nHB; clear nHB; skip))
    all_goals
      go_ret
      exact ⟨rfl, HB.out⟩
set_option maxHeartbeats 8000000 in
set_option maxRecDepth 100000 in
theorem refused_keptd_3 (A : Option Addr) (c : Nat) (l : List S41) (down : Bool) (fuse : Int) (name dst data other : ByteArray) (w : World) (hr : Kd.C k41 w A l.length l) (hn : l.length < 3518437208883) (hlc : l.length ≤ c) (hd : data.size ≤ 9223372036854775807) (hf : fuse ≤ 9223372036854775807) (ho : ok l = true) (n : Int) (hn0 : n ≠ 0) (h12 : n ≠ 12) (hdn : down = true) (ha : doA l down fuse 3 name dst data = ⟨l, down, fuse, n⟩) :
    Calls Try.prog 5 #[.agg #[.slice A l.length c, .bool down, .int .i64 fuse], .agg #[.int .u8 3, .string name, .string dst, .string data], .string other] w fun e w' => e = .returned (.bool true) ∧ Below w.heap.size w w' := by
  have HR := Lib.hid hr
  clear hr
  have HB := Lib.hid (Below.refl w.heap.size w)
  have HK : Hid (okN l = 0) := Lib.hid (by simp [okN, ho])
  subst hdn
  have HA := Lib.hid ha
  clear ho ha
  have d0 : (n != 0) = true := by simpa using hn0
  have d12 : (n != 12) = true := by simpa using h12
  rcases b1 : eqS other name with _ | _ <;> rcases b3 : eqS other dst with _ | _
  all_goals
    have c1 : (other.toList == name.toList) = _ := b1
    have c3 : (other.toList == dst.toList) = _ := b3
    have p1 := c1
    have p3 := c3
    simp only [beq_iff_eq, beq_eq_false_iff_ne, ne_eq] at p1 p3
    go_enter Try.func5, Try.ntmps5
    go_wp2_with (first
      | ((with_reducible refine gate_dst (N := 3) rfl ?_); refine box_event ?hg (N := 3) ?hd (cs := #[.slice A l.length c, .bool true, .int .i64 fuse]) (t := 24) ?hr ?_; (case hd => rfl); (case hg => rfl); (case hr => first | (go_simp; done) | (go_simp; rfl)); intro g3 hg w3 hbx hb; have Eg3 : w.heap.size ≤ g3 := (by rw [hg]; exact HB.out.size); have nHB := Lib.hid (below_step HB.out hb); clear HB; have HB := nHB; have Bg3 := Lib.hid hbx; clear nHB hg hbx hb)
      | ((with_reducible refine gate_dst (N := 4) rfl ?_); refine box_event ?hg (N := 4) ?hd (cs := #[.int .u8 3, .string name, .string dst, .string data]) (t := 27) ?hr ?_; (case hd => rfl); (case hg => rfl); (case hr => first | (go_simp; done) | (go_simp; rfl)); intro g4 hg w4 hbx hb; have Eg4 : w.heap.size ≤ g4 := (by rw [hg]; exact HB.out.size); have Ng3g4 : g3 ≠ g4 := (by rw [hg]; exact Nat.ne_of_lt (blk_lt Bg3.out)); have Ng4g3 : g4 ≠ g3 := Ng3g4.symm; have nBg3 := Lib.hid (blk_below Bg3.out hb); have nHB := Lib.hid (below_step HB.out hb); clear Bg3 HB; have Bg3 := nBg3; have HB := nHB; have Bg4 := Lib.hid hbx; clear nBg3 nHB hg hbx hb)
      | (go_at_call 16; refine (lives_calls _).mono ?_; rintro e wa ⟨rfl, hb⟩; have nBg3 := Lib.hid (blk_below Bg3.out hb); have nBg4 := Lib.hid (blk_below Bg4.out hb); have nHB := Lib.hid (below_step HB.out hb); clear Bg3 Bg4 HB; have Bg3 := nBg3; have Bg4 := nBg4; have HB := nHB; clear nBg3 nBg4 nHB hb; have q0 := (blk_cell Bg3.out 0).trans rfl; have q1 := (blk_cell Bg3.out 1).trans rfl; have q2 := (blk_cell Bg3.out 2).trans rfl; have s0 := (blk_cell Bg4.out 0).trans rfl; have s1 := (blk_cell Bg4.out 1).trans rfl; have s2 := (blk_cell Bg4.out 2).trans rfl; have s3 := (blk_cell Bg4.out 3).trans rfl)
      | (go_at_call 10; have M0 := q0; refine (do_calls A c l true fuse 3 name dst data _ (Kd.C_below HR.out HB.out) hn hd hf).mono ?_; rw [HA.out]; rintro e w5 ⟨v5, rfl, hr5, hb⟩; have HR5 := Lib.hid hr5; clear q0 q1 q2 s0 s1 s2 s3 M0 hr5; have nBg3 := Lib.hid (blk_below Bg3.out hb); have nBg4 := Lib.hid (blk_below Bg4.out hb); have nHB := Lib.hid (below_step HB.out hb); clear Bg3 Bg4 HB; have Bg3 := nBg3; have Bg4 := nBg4; have HB := nHB; clear nBg3 nBg4 nHB hb; obtain ⟨A5, c5, e5, hlc5, hC5⟩ := Kd.R_reads HR5.out; subst e5; have HC5 := Lib.hid hC5; clear hC5 HR5; have l3 := blk_lt Bg3.out; have q0 := (blk_cell Bg3.out 0).trans rfl; have q1 := (blk_cell Bg3.out 1).trans rfl; have q2 := (blk_cell Bg3.out 2).trans rfl)
      | (go_at_call 18; refine (check_calls A c l true fuse _ (Kd.C_alloc (Kd.C_below HR.out HB.out) _)).mono ?_; rintro e w6 ⟨rfl, hb⟩; rw [HK.out]; have B5 := Lib.hid (blk_below (blk_new w5 _) hb); have nHC := Lib.hid (Kd.C_below (Kd.C_alloc HC5.out _) hb); have nB3 := Lib.hid (blk_below (blk_alloc Bg3.out _) hb); have nB4 := Lib.hid (blk_below (blk_alloc Bg4.out _) hb); have nHB := Lib.hid (below_step (HB.out.alloc HB.out.size _) hb); clear Bg3 Bg4 HB HC5 hb q0 q1 q2 l3; have Bg3 := nB3; have Bg4 := nB4; have HB := nHB; have HC5 := nHC; clear nB3 nB4 nHB nHC; have r0 := (blk_cell B5.out 0).trans rfl; have r1 := (blk_cell B5.out 1).trans rfl; have r2 := (blk_cell B5.out 2).trans rfl; have q0 := (blk_cell Bg3.out 0).trans rfl; have q1 := (blk_cell Bg3.out 1).trans rfl; have q2 := (blk_cell Bg3.out 2).trans rfl; have s0 := (blk_cell Bg4.out 0).trans rfl; have s1 := (blk_cell Bg4.out 1).trans rfl; have s2 := (blk_cell Bg4.out 2).trans rfl; have s3 := (blk_cell Bg4.out 3).trans rfl)
      | (go_at_call 17; refine (same_calls A A5 c c5 l true fuse _ (Kd.C_below HR.out HB.out) HC5.out (by omega)).mono ?_; rintro e w7 ⟨rfl, hb⟩; have nB5 := Lib.hid (blk_below B5.out hb); have nHC := Lib.hid (Kd.C_below HC5.out hb); clear r0 r1 r2 q0 q1 q2 s0 s1 s2 s3; have nBg3 := Lib.hid (blk_below Bg3.out hb); have nBg4 := Lib.hid (blk_below Bg4.out hb); have nHB := Lib.hid (below_step HB.out hb); clear Bg3 Bg4 HB; have Bg3 := nBg3; have Bg4 := nBg4; have HB := nHB; clear nBg3 nBg4 nHB hb; clear B5 HC5; have B5 := nB5; have HC5 := nHC; clear nB5 nHC; have r0 := (blk_cell B5.out 0).trans rfl; have r1 := (blk_cell B5.out 1).trans rfl; have r2 := (blk_cell B5.out 2).trans rfl; have q0 := (blk_cell Bg3.out 0).trans rfl; have q1 := (blk_cell Bg3.out 1).trans rfl; have q2 := (blk_cell Bg3.out 2).trans rfl; have s0 := (blk_cell Bg4.out 0).trans rfl; have s1 := (blk_cell Bg4.out 1).trans rfl; have s2 := (blk_cell Bg4.out 2).trans rfl; have s3 := (blk_cell Bg4.out 3).trans rfl)
      | (go_at_call 12; have M1 := s0; refine (read_calls A c l true fuse other _ (Kd.C_below HR.out HB.out) (by omega) hlc).mono ?_; rintro e w8 ⟨rfl, hb⟩; have nB5 := Lib.hid (blk_below B5.out hb); have nHC := Lib.hid (Kd.C_below HC5.out hb); clear r0 r1 r2 q0 q1 q2 s0 s1 s2 s3 M1; have nBg3 := Lib.hid (blk_below Bg3.out hb); have nBg4 := Lib.hid (blk_below Bg4.out hb); have nHB := Lib.hid (below_step HB.out hb); clear Bg3 Bg4 HB; have Bg3 := nBg3; have Bg4 := nBg4; have HB := nHB; clear nBg3 nBg4 nHB hb; clear B5 HC5; have B5 := nB5; have HC5 := nHC; clear nB5 nHC; have r0 := (blk_cell B5.out 0).trans rfl; have r1 := (blk_cell B5.out 1).trans rfl; have r2 := (blk_cell B5.out 2).trans rfl)
      | (go_at_call 12; refine (read_calls A5 c5 l true fuse other _ HC5.out (by omega) hlc5).mono ?_; rintro e w9 ⟨rfl, hb⟩; have nHB := Lib.hid (below_step HB.out hb); clear HB hb r0 r1 r2; have HB := nHB; clear nHB; skip))
    all_goals
      go_ret
      exact ⟨rfl, HB.out⟩
set_option maxHeartbeats 8000000 in
set_option maxRecDepth 100000 in
theorem refused_keptd_n (A : Option Addr) (c : Nat) (l : List S41) (down : Bool) (fuse kind : Int) (name dst data other : ByteArray) (w : World) (hr : Kd.C k41 w A l.length l) (hn : l.length < 3518437208883) (hlc : l.length ≤ c) (hd : data.size ≤ 9223372036854775807) (hf : fuse ≤ 9223372036854775807) (ho : ok l = true) (hk : ¬ kind = 3) (n : Int) (hn0 : n ≠ 0) (h12 : n ≠ 12) (hdn : down = true) (ha : doA l down fuse kind name dst data = ⟨l, down, fuse, n⟩) :
    Calls Try.prog 5 #[.agg #[.slice A l.length c, .bool down, .int .i64 fuse], .agg #[.int .u8 kind, .string name, .string dst, .string data], .string other] w fun e w' => e = .returned (.bool true) ∧ Below w.heap.size w w' := by
  have HR := Lib.hid hr
  clear hr
  have HB := Lib.hid (Below.refl w.heap.size w)
  have HK : Hid (okN l = 0) := Lib.hid (by simp [okN, ho])
  subst hdn
  have HA := Lib.hid ha
  clear ho ha
  have d0 : (n != 0) = true := by simpa using hn0
  have d12 : (n != 12) = true := by simpa using h12
  rcases b1 : eqS other name with _ | _ <;> rcases b3 : eqS other dst with _ | _
  all_goals
    have b2 : (kind == 3) = false := by simpa using hk
    have c1 : (other.toList == name.toList) = _ := b1
    have c3 : (other.toList == dst.toList) = _ := b3
    have p1 := c1
    have p3 := c3
    simp only [beq_iff_eq, beq_eq_false_iff_ne, ne_eq] at p1 p3
    go_enter Try.func5, Try.ntmps5
    go_wp2_with (first
      | ((with_reducible refine gate_dst (N := 3) rfl ?_); refine box_event ?hg (N := 3) ?hd (cs := #[.slice A l.length c, .bool true, .int .i64 fuse]) (t := 24) ?hr ?_; (case hd => rfl); (case hg => rfl); (case hr => first | (go_simp; done) | (go_simp; rfl)); intro g3 hg w3 hbx hb; have Eg3 : w.heap.size ≤ g3 := (by rw [hg]; exact HB.out.size); have nHB := Lib.hid (below_step HB.out hb); clear HB; have HB := nHB; have Bg3 := Lib.hid hbx; clear nHB hg hbx hb)
      | ((with_reducible refine gate_dst (N := 4) rfl ?_); refine box_event ?hg (N := 4) ?hd (cs := #[.int .u8 kind, .string name, .string dst, .string data]) (t := 27) ?hr ?_; (case hd => rfl); (case hg => rfl); (case hr => first | (go_simp; done) | (go_simp; rfl)); intro g4 hg w4 hbx hb; have Eg4 : w.heap.size ≤ g4 := (by rw [hg]; exact HB.out.size); have Ng3g4 : g3 ≠ g4 := (by rw [hg]; exact Nat.ne_of_lt (blk_lt Bg3.out)); have Ng4g3 : g4 ≠ g3 := Ng3g4.symm; have nBg3 := Lib.hid (blk_below Bg3.out hb); have nHB := Lib.hid (below_step HB.out hb); clear Bg3 HB; have Bg3 := nBg3; have HB := nHB; have Bg4 := Lib.hid hbx; clear nBg3 nHB hg hbx hb)
      | (go_at_call 16; refine (lives_calls _).mono ?_; rintro e wa ⟨rfl, hb⟩; have nBg3 := Lib.hid (blk_below Bg3.out hb); have nBg4 := Lib.hid (blk_below Bg4.out hb); have nHB := Lib.hid (below_step HB.out hb); clear Bg3 Bg4 HB; have Bg3 := nBg3; have Bg4 := nBg4; have HB := nHB; clear nBg3 nBg4 nHB hb; have q0 := (blk_cell Bg3.out 0).trans rfl; have q1 := (blk_cell Bg3.out 1).trans rfl; have q2 := (blk_cell Bg3.out 2).trans rfl; have s0 := (blk_cell Bg4.out 0).trans rfl; have s1 := (blk_cell Bg4.out 1).trans rfl; have s2 := (blk_cell Bg4.out 2).trans rfl; have s3 := (blk_cell Bg4.out 3).trans rfl)
      | (go_at_call 10; have M0 := q0; refine (do_calls A c l true fuse kind name dst data _ (Kd.C_below HR.out HB.out) hn hd hf).mono ?_; rw [HA.out]; rintro e w5 ⟨v5, rfl, hr5, hb⟩; have HR5 := Lib.hid hr5; clear q0 q1 q2 s0 s1 s2 s3 M0 hr5; have nBg3 := Lib.hid (blk_below Bg3.out hb); have nBg4 := Lib.hid (blk_below Bg4.out hb); have nHB := Lib.hid (below_step HB.out hb); clear Bg3 Bg4 HB; have Bg3 := nBg3; have Bg4 := nBg4; have HB := nHB; clear nBg3 nBg4 nHB hb; obtain ⟨A5, c5, e5, hlc5, hC5⟩ := Kd.R_reads HR5.out; subst e5; have HC5 := Lib.hid hC5; clear hC5 HR5; have l3 := blk_lt Bg3.out; have q0 := (blk_cell Bg3.out 0).trans rfl; have q1 := (blk_cell Bg3.out 1).trans rfl; have q2 := (blk_cell Bg3.out 2).trans rfl)
      | (go_at_call 18; refine (check_calls A c l true fuse _ (Kd.C_alloc (Kd.C_below HR.out HB.out) _)).mono ?_; rintro e w6 ⟨rfl, hb⟩; rw [HK.out]; have B5 := Lib.hid (blk_below (blk_new w5 _) hb); have nHC := Lib.hid (Kd.C_below (Kd.C_alloc HC5.out _) hb); have nB3 := Lib.hid (blk_below (blk_alloc Bg3.out _) hb); have nB4 := Lib.hid (blk_below (blk_alloc Bg4.out _) hb); have nHB := Lib.hid (below_step (HB.out.alloc HB.out.size _) hb); clear Bg3 Bg4 HB HC5 hb q0 q1 q2 l3; have Bg3 := nB3; have Bg4 := nB4; have HB := nHB; have HC5 := nHC; clear nB3 nB4 nHB nHC; have r0 := (blk_cell B5.out 0).trans rfl; have r1 := (blk_cell B5.out 1).trans rfl; have r2 := (blk_cell B5.out 2).trans rfl; have q0 := (blk_cell Bg3.out 0).trans rfl; have q1 := (blk_cell Bg3.out 1).trans rfl; have q2 := (blk_cell Bg3.out 2).trans rfl; have s0 := (blk_cell Bg4.out 0).trans rfl; have s1 := (blk_cell Bg4.out 1).trans rfl; have s2 := (blk_cell Bg4.out 2).trans rfl; have s3 := (blk_cell Bg4.out 3).trans rfl)
      | (go_at_call 17; refine (same_calls A A5 c c5 l true fuse _ (Kd.C_below HR.out HB.out) HC5.out (by omega)).mono ?_; rintro e w7 ⟨rfl, hb⟩; have nB5 := Lib.hid (blk_below B5.out hb); have nHC := Lib.hid (Kd.C_below HC5.out hb); clear r0 r1 r2 q0 q1 q2 s0 s1 s2 s3; have nBg3 := Lib.hid (blk_below Bg3.out hb); have nBg4 := Lib.hid (blk_below Bg4.out hb); have nHB := Lib.hid (below_step HB.out hb); clear Bg3 Bg4 HB; have Bg3 := nBg3; have Bg4 := nBg4; have HB := nHB; clear nBg3 nBg4 nHB hb; clear B5 HC5; have B5 := nB5; have HC5 := nHC; clear nB5 nHC; have r0 := (blk_cell B5.out 0).trans rfl; have r1 := (blk_cell B5.out 1).trans rfl; have r2 := (blk_cell B5.out 2).trans rfl; have q0 := (blk_cell Bg3.out 0).trans rfl; have q1 := (blk_cell Bg3.out 1).trans rfl; have q2 := (blk_cell Bg3.out 2).trans rfl; have s0 := (blk_cell Bg4.out 0).trans rfl; have s1 := (blk_cell Bg4.out 1).trans rfl; have s2 := (blk_cell Bg4.out 2).trans rfl; have s3 := (blk_cell Bg4.out 3).trans rfl)
      | (go_at_call 12; have M1 := s0; refine (read_calls A c l true fuse other _ (Kd.C_below HR.out HB.out) (by omega) hlc).mono ?_; rintro e w8 ⟨rfl, hb⟩; have nB5 := Lib.hid (blk_below B5.out hb); have nHC := Lib.hid (Kd.C_below HC5.out hb); clear r0 r1 r2 q0 q1 q2 s0 s1 s2 s3 M1; have nBg3 := Lib.hid (blk_below Bg3.out hb); have nBg4 := Lib.hid (blk_below Bg4.out hb); have nHB := Lib.hid (below_step HB.out hb); clear Bg3 Bg4 HB; have Bg3 := nBg3; have Bg4 := nBg4; have HB := nHB; clear nBg3 nBg4 nHB hb; clear B5 HC5; have B5 := nB5; have HC5 := nHC; clear nB5 nHC; have r0 := (blk_cell B5.out 0).trans rfl; have r1 := (blk_cell B5.out 1).trans rfl; have r2 := (blk_cell B5.out 2).trans rfl)
      | (go_at_call 12; refine (read_calls A5 c5 l true fuse other _ HC5.out (by omega) hlc5).mono ?_; rintro e w9 ⟨rfl, hb⟩; have nHB := Lib.hid (below_step HB.out hb); clear HB hb r0 r1 r2; have HB := nHB; clear nHB; skip))
    all_goals
      go_ret
      exact ⟨rfl, HB.out⟩
set_option maxHeartbeats 8000000 in
set_option maxRecDepth 100000 in
theorem refused_kept_3 (A : Option Addr) (c : Nat) (l : List S41) (down : Bool) (fuse : Int) (name dst data other : ByteArray) (w : World) (hr : Kd.C k41 w A l.length l) (hn : l.length < 3518437208883) (hlc : l.length ≤ c) (hd : data.size ≤ 9223372036854775807) (hf : fuse ≤ 9223372036854775807) (ho : ok l = true) (n : Int) (hn0 : n ≠ 0) (h12 : n ≠ 12) (hdn : down = false) (ha : doA l down fuse 3 name dst data = ⟨l, down, fuse, n⟩) :
    Calls Try.prog 5 #[.agg #[.slice A l.length c, .bool down, .int .i64 fuse], .agg #[.int .u8 3, .string name, .string dst, .string data], .string other] w fun e w' => e = .returned (.bool true) ∧ Below w.heap.size w w' := by
  have HR := Lib.hid hr
  clear hr
  have HB := Lib.hid (Below.refl w.heap.size w)
  have HK : Hid (okN l = 0) := Lib.hid (by simp [okN, ho])
  subst hdn
  have HA := Lib.hid ha
  clear ho ha
  have d0 : (n != 0) = true := by simpa using hn0
  have d12 : (n != 12) = true := by simpa using h12
  rcases b1 : eqS other name with _ | _ <;> rcases b3 : eqS other dst with _ | _
  all_goals
    have c1 : (other.toList == name.toList) = _ := b1
    have c3 : (other.toList == dst.toList) = _ := b3
    have p1 := c1
    have p3 := c3
    simp only [beq_iff_eq, beq_eq_false_iff_ne, ne_eq] at p1 p3
    go_enter Try.func5, Try.ntmps5
    go_wp2_with (first
      | ((with_reducible refine gate_dst (N := 3) rfl ?_); refine box_event ?hg (N := 3) ?hd (cs := #[.slice A l.length c, .bool false, .int .i64 fuse]) (t := 24) ?hr ?_; (case hd => rfl); (case hg => rfl); (case hr => first | (go_simp; done) | (go_simp; rfl)); intro g3 hg w3 hbx hb; have Eg3 : w.heap.size ≤ g3 := (by rw [hg]; exact HB.out.size); have nHB := Lib.hid (below_step HB.out hb); clear HB; have HB := nHB; have Bg3 := Lib.hid hbx; clear nHB hg hbx hb)
      | ((with_reducible refine gate_dst (N := 4) rfl ?_); refine box_event ?hg (N := 4) ?hd (cs := #[.int .u8 3, .string name, .string dst, .string data]) (t := 27) ?hr ?_; (case hd => rfl); (case hg => rfl); (case hr => first | (go_simp; done) | (go_simp; rfl)); intro g4 hg w4 hbx hb; have Eg4 : w.heap.size ≤ g4 := (by rw [hg]; exact HB.out.size); have Ng3g4 : g3 ≠ g4 := (by rw [hg]; exact Nat.ne_of_lt (blk_lt Bg3.out)); have Ng4g3 : g4 ≠ g3 := Ng3g4.symm; have nBg3 := Lib.hid (blk_below Bg3.out hb); have nHB := Lib.hid (below_step HB.out hb); clear Bg3 HB; have Bg3 := nBg3; have HB := nHB; have Bg4 := Lib.hid hbx; clear nBg3 nHB hg hbx hb)
      | (go_at_call 16; refine (lives_calls _).mono ?_; rintro e wa ⟨rfl, hb⟩; have nBg3 := Lib.hid (blk_below Bg3.out hb); have nBg4 := Lib.hid (blk_below Bg4.out hb); have nHB := Lib.hid (below_step HB.out hb); clear Bg3 Bg4 HB; have Bg3 := nBg3; have Bg4 := nBg4; have HB := nHB; clear nBg3 nBg4 nHB hb; have q0 := (blk_cell Bg3.out 0).trans rfl; have q1 := (blk_cell Bg3.out 1).trans rfl; have q2 := (blk_cell Bg3.out 2).trans rfl; have s0 := (blk_cell Bg4.out 0).trans rfl; have s1 := (blk_cell Bg4.out 1).trans rfl; have s2 := (blk_cell Bg4.out 2).trans rfl; have s3 := (blk_cell Bg4.out 3).trans rfl)
      | (go_at_call 10; have M0 := q0; refine (do_calls A c l false fuse 3 name dst data _ (Kd.C_below HR.out HB.out) hn hd hf).mono ?_; rw [HA.out]; rintro e w5 ⟨v5, rfl, hr5, hb⟩; have HR5 := Lib.hid hr5; clear q0 q1 q2 s0 s1 s2 s3 M0 hr5; have nBg3 := Lib.hid (blk_below Bg3.out hb); have nBg4 := Lib.hid (blk_below Bg4.out hb); have nHB := Lib.hid (below_step HB.out hb); clear Bg3 Bg4 HB; have Bg3 := nBg3; have Bg4 := nBg4; have HB := nHB; clear nBg3 nBg4 nHB hb; obtain ⟨A5, c5, e5, hlc5, hC5⟩ := Kd.R_reads HR5.out; subst e5; have HC5 := Lib.hid hC5; clear hC5 HR5; have l3 := blk_lt Bg3.out; have q0 := (blk_cell Bg3.out 0).trans rfl; have q1 := (blk_cell Bg3.out 1).trans rfl; have q2 := (blk_cell Bg3.out 2).trans rfl)
      | (go_at_call 18; refine (check_calls A c l false fuse _ (Kd.C_alloc (Kd.C_below HR.out HB.out) _)).mono ?_; rintro e w6 ⟨rfl, hb⟩; rw [HK.out]; have B5 := Lib.hid (blk_below (blk_new w5 _) hb); have nHC := Lib.hid (Kd.C_below (Kd.C_alloc HC5.out _) hb); have nB3 := Lib.hid (blk_below (blk_alloc Bg3.out _) hb); have nB4 := Lib.hid (blk_below (blk_alloc Bg4.out _) hb); have nHB := Lib.hid (below_step (HB.out.alloc HB.out.size _) hb); clear Bg3 Bg4 HB HC5 hb q0 q1 q2 l3; have Bg3 := nB3; have Bg4 := nB4; have HB := nHB; have HC5 := nHC; clear nB3 nB4 nHB nHC; have r0 := (blk_cell B5.out 0).trans rfl; have r1 := (blk_cell B5.out 1).trans rfl; have r2 := (blk_cell B5.out 2).trans rfl; have q0 := (blk_cell Bg3.out 0).trans rfl; have q1 := (blk_cell Bg3.out 1).trans rfl; have q2 := (blk_cell Bg3.out 2).trans rfl; have s0 := (blk_cell Bg4.out 0).trans rfl; have s1 := (blk_cell Bg4.out 1).trans rfl; have s2 := (blk_cell Bg4.out 2).trans rfl; have s3 := (blk_cell Bg4.out 3).trans rfl)
      | (go_at_call 17; refine (same_calls A A5 c c5 l false fuse _ (Kd.C_below HR.out HB.out) HC5.out (by omega)).mono ?_; rintro e w7 ⟨rfl, hb⟩; have nB5 := Lib.hid (blk_below B5.out hb); have nHC := Lib.hid (Kd.C_below HC5.out hb); clear r0 r1 r2 q0 q1 q2 s0 s1 s2 s3; have nBg3 := Lib.hid (blk_below Bg3.out hb); have nBg4 := Lib.hid (blk_below Bg4.out hb); have nHB := Lib.hid (below_step HB.out hb); clear Bg3 Bg4 HB; have Bg3 := nBg3; have Bg4 := nBg4; have HB := nHB; clear nBg3 nBg4 nHB hb; clear B5 HC5; have B5 := nB5; have HC5 := nHC; clear nB5 nHC; have r0 := (blk_cell B5.out 0).trans rfl; have r1 := (blk_cell B5.out 1).trans rfl; have r2 := (blk_cell B5.out 2).trans rfl; have q0 := (blk_cell Bg3.out 0).trans rfl; have q1 := (blk_cell Bg3.out 1).trans rfl; have q2 := (blk_cell Bg3.out 2).trans rfl; have s0 := (blk_cell Bg4.out 0).trans rfl; have s1 := (blk_cell Bg4.out 1).trans rfl; have s2 := (blk_cell Bg4.out 2).trans rfl; have s3 := (blk_cell Bg4.out 3).trans rfl)
      | (go_at_call 12; have M1 := s0; refine (read_calls A c l false fuse other _ (Kd.C_below HR.out HB.out) (by omega) hlc).mono ?_; rintro e w8 ⟨rfl, hb⟩; have nB5 := Lib.hid (blk_below B5.out hb); have nHC := Lib.hid (Kd.C_below HC5.out hb); clear r0 r1 r2 q0 q1 q2 s0 s1 s2 s3 M1; have nBg3 := Lib.hid (blk_below Bg3.out hb); have nBg4 := Lib.hid (blk_below Bg4.out hb); have nHB := Lib.hid (below_step HB.out hb); clear Bg3 Bg4 HB; have Bg3 := nBg3; have Bg4 := nBg4; have HB := nHB; clear nBg3 nBg4 nHB hb; clear B5 HC5; have B5 := nB5; have HC5 := nHC; clear nB5 nHC; have r0 := (blk_cell B5.out 0).trans rfl; have r1 := (blk_cell B5.out 1).trans rfl; have r2 := (blk_cell B5.out 2).trans rfl)
      | (go_at_call 12; refine (read_calls A5 c5 l false fuse other _ HC5.out (by omega) hlc5).mono ?_; rintro e w9 ⟨rfl, hb⟩; have nHB := Lib.hid (below_step HB.out hb); clear HB hb r0 r1 r2; have HB := nHB; clear nHB; skip))
    all_goals
      go_ret
      exact ⟨rfl, HB.out⟩
set_option maxHeartbeats 8000000 in
set_option maxRecDepth 100000 in
theorem refused_kept_n (A : Option Addr) (c : Nat) (l : List S41) (down : Bool) (fuse kind : Int) (name dst data other : ByteArray) (w : World) (hr : Kd.C k41 w A l.length l) (hn : l.length < 3518437208883) (hlc : l.length ≤ c) (hd : data.size ≤ 9223372036854775807) (hf : fuse ≤ 9223372036854775807) (ho : ok l = true) (hk : ¬ kind = 3) (n : Int) (hn0 : n ≠ 0) (h12 : n ≠ 12) (hdn : down = false) (ha : doA l down fuse kind name dst data = ⟨l, down, fuse, n⟩) :
    Calls Try.prog 5 #[.agg #[.slice A l.length c, .bool down, .int .i64 fuse], .agg #[.int .u8 kind, .string name, .string dst, .string data], .string other] w fun e w' => e = .returned (.bool true) ∧ Below w.heap.size w w' := by
  have HR := Lib.hid hr
  clear hr
  have HB := Lib.hid (Below.refl w.heap.size w)
  have HK : Hid (okN l = 0) := Lib.hid (by simp [okN, ho])
  subst hdn
  have HA := Lib.hid ha
  clear ho ha
  have d0 : (n != 0) = true := by simpa using hn0
  have d12 : (n != 12) = true := by simpa using h12
  rcases b1 : eqS other name with _ | _ <;> rcases b3 : eqS other dst with _ | _
  all_goals
    have b2 : (kind == 3) = false := by simpa using hk
    have c1 : (other.toList == name.toList) = _ := b1
    have c3 : (other.toList == dst.toList) = _ := b3
    have p1 := c1
    have p3 := c3
    simp only [beq_iff_eq, beq_eq_false_iff_ne, ne_eq] at p1 p3
    go_enter Try.func5, Try.ntmps5
    go_wp2_with (first
      | ((with_reducible refine gate_dst (N := 3) rfl ?_); refine box_event ?hg (N := 3) ?hd (cs := #[.slice A l.length c, .bool false, .int .i64 fuse]) (t := 24) ?hr ?_; (case hd => rfl); (case hg => rfl); (case hr => first | (go_simp; done) | (go_simp; rfl)); intro g3 hg w3 hbx hb; have Eg3 : w.heap.size ≤ g3 := (by rw [hg]; exact HB.out.size); have nHB := Lib.hid (below_step HB.out hb); clear HB; have HB := nHB; have Bg3 := Lib.hid hbx; clear nHB hg hbx hb)
      | ((with_reducible refine gate_dst (N := 4) rfl ?_); refine box_event ?hg (N := 4) ?hd (cs := #[.int .u8 kind, .string name, .string dst, .string data]) (t := 27) ?hr ?_; (case hd => rfl); (case hg => rfl); (case hr => first | (go_simp; done) | (go_simp; rfl)); intro g4 hg w4 hbx hb; have Eg4 : w.heap.size ≤ g4 := (by rw [hg]; exact HB.out.size); have Ng3g4 : g3 ≠ g4 := (by rw [hg]; exact Nat.ne_of_lt (blk_lt Bg3.out)); have Ng4g3 : g4 ≠ g3 := Ng3g4.symm; have nBg3 := Lib.hid (blk_below Bg3.out hb); have nHB := Lib.hid (below_step HB.out hb); clear Bg3 HB; have Bg3 := nBg3; have HB := nHB; have Bg4 := Lib.hid hbx; clear nBg3 nHB hg hbx hb)
      | (go_at_call 16; refine (lives_calls _).mono ?_; rintro e wa ⟨rfl, hb⟩; have nBg3 := Lib.hid (blk_below Bg3.out hb); have nBg4 := Lib.hid (blk_below Bg4.out hb); have nHB := Lib.hid (below_step HB.out hb); clear Bg3 Bg4 HB; have Bg3 := nBg3; have Bg4 := nBg4; have HB := nHB; clear nBg3 nBg4 nHB hb; have q0 := (blk_cell Bg3.out 0).trans rfl; have q1 := (blk_cell Bg3.out 1).trans rfl; have q2 := (blk_cell Bg3.out 2).trans rfl; have s0 := (blk_cell Bg4.out 0).trans rfl; have s1 := (blk_cell Bg4.out 1).trans rfl; have s2 := (blk_cell Bg4.out 2).trans rfl; have s3 := (blk_cell Bg4.out 3).trans rfl)
      | (go_at_call 10; have M0 := q0; refine (do_calls A c l false fuse kind name dst data _ (Kd.C_below HR.out HB.out) hn hd hf).mono ?_; rw [HA.out]; rintro e w5 ⟨v5, rfl, hr5, hb⟩; have HR5 := Lib.hid hr5; clear q0 q1 q2 s0 s1 s2 s3 M0 hr5; have nBg3 := Lib.hid (blk_below Bg3.out hb); have nBg4 := Lib.hid (blk_below Bg4.out hb); have nHB := Lib.hid (below_step HB.out hb); clear Bg3 Bg4 HB; have Bg3 := nBg3; have Bg4 := nBg4; have HB := nHB; clear nBg3 nBg4 nHB hb; obtain ⟨A5, c5, e5, hlc5, hC5⟩ := Kd.R_reads HR5.out; subst e5; have HC5 := Lib.hid hC5; clear hC5 HR5; have l3 := blk_lt Bg3.out; have q0 := (blk_cell Bg3.out 0).trans rfl; have q1 := (blk_cell Bg3.out 1).trans rfl; have q2 := (blk_cell Bg3.out 2).trans rfl)
      | (go_at_call 18; refine (check_calls A c l false fuse _ (Kd.C_alloc (Kd.C_below HR.out HB.out) _)).mono ?_; rintro e w6 ⟨rfl, hb⟩; rw [HK.out]; have B5 := Lib.hid (blk_below (blk_new w5 _) hb); have nHC := Lib.hid (Kd.C_below (Kd.C_alloc HC5.out _) hb); have nB3 := Lib.hid (blk_below (blk_alloc Bg3.out _) hb); have nB4 := Lib.hid (blk_below (blk_alloc Bg4.out _) hb); have nHB := Lib.hid (below_step (HB.out.alloc HB.out.size _) hb); clear Bg3 Bg4 HB HC5 hb q0 q1 q2 l3; have Bg3 := nB3; have Bg4 := nB4; have HB := nHB; have HC5 := nHC; clear nB3 nB4 nHB nHC; have r0 := (blk_cell B5.out 0).trans rfl; have r1 := (blk_cell B5.out 1).trans rfl; have r2 := (blk_cell B5.out 2).trans rfl; have q0 := (blk_cell Bg3.out 0).trans rfl; have q1 := (blk_cell Bg3.out 1).trans rfl; have q2 := (blk_cell Bg3.out 2).trans rfl; have s0 := (blk_cell Bg4.out 0).trans rfl; have s1 := (blk_cell Bg4.out 1).trans rfl; have s2 := (blk_cell Bg4.out 2).trans rfl; have s3 := (blk_cell Bg4.out 3).trans rfl)
      | (go_at_call 17; refine (same_calls A A5 c c5 l false fuse _ (Kd.C_below HR.out HB.out) HC5.out (by omega)).mono ?_; rintro e w7 ⟨rfl, hb⟩; have nB5 := Lib.hid (blk_below B5.out hb); have nHC := Lib.hid (Kd.C_below HC5.out hb); clear r0 r1 r2 q0 q1 q2 s0 s1 s2 s3; have nBg3 := Lib.hid (blk_below Bg3.out hb); have nBg4 := Lib.hid (blk_below Bg4.out hb); have nHB := Lib.hid (below_step HB.out hb); clear Bg3 Bg4 HB; have Bg3 := nBg3; have Bg4 := nBg4; have HB := nHB; clear nBg3 nBg4 nHB hb; clear B5 HC5; have B5 := nB5; have HC5 := nHC; clear nB5 nHC; have r0 := (blk_cell B5.out 0).trans rfl; have r1 := (blk_cell B5.out 1).trans rfl; have r2 := (blk_cell B5.out 2).trans rfl; have q0 := (blk_cell Bg3.out 0).trans rfl; have q1 := (blk_cell Bg3.out 1).trans rfl; have q2 := (blk_cell Bg3.out 2).trans rfl; have s0 := (blk_cell Bg4.out 0).trans rfl; have s1 := (blk_cell Bg4.out 1).trans rfl; have s2 := (blk_cell Bg4.out 2).trans rfl; have s3 := (blk_cell Bg4.out 3).trans rfl)
      | (go_at_call 12; have M1 := s0; refine (read_calls A c l false fuse other _ (Kd.C_below HR.out HB.out) (by omega) hlc).mono ?_; rintro e w8 ⟨rfl, hb⟩; have nB5 := Lib.hid (blk_below B5.out hb); have nHC := Lib.hid (Kd.C_below HC5.out hb); clear r0 r1 r2 q0 q1 q2 s0 s1 s2 s3 M1; have nBg3 := Lib.hid (blk_below Bg3.out hb); have nBg4 := Lib.hid (blk_below Bg4.out hb); have nHB := Lib.hid (below_step HB.out hb); clear Bg3 Bg4 HB; have Bg3 := nBg3; have Bg4 := nBg4; have HB := nHB; clear nBg3 nBg4 nHB hb; clear B5 HC5; have B5 := nB5; have HC5 := nHC; clear nB5 nHC; have r0 := (blk_cell B5.out 0).trans rfl; have r1 := (blk_cell B5.out 1).trans rfl; have r2 := (blk_cell B5.out 2).trans rfl)
      | (go_at_call 12; refine (read_calls A5 c5 l false fuse other _ HC5.out (by omega) hlc5).mono ?_; rintro e w9 ⟨rfl, hb⟩; have nHB := Lib.hid (below_step HB.out hb); clear HB hb r0 r1 r2; have HB := nHB; clear nHB; skip))
    all_goals
      go_ret
      exact ⟨rfl, HB.out⟩
set_option maxHeartbeats 8000000 in
set_option maxRecDepth 100000 in
theorem refused_gone (A : Option Addr) (c : Nat) (l : List S41) (down : Bool) (fuse kind : Int) (name dst data other : ByteArray) (w : World) (hr : Kd.C k41 w A l.length l) (hn : l.length < 3518437208883) (hlc : l.length ≤ c) (hd : data.size ≤ 9223372036854775807) (hf : fuse ≤ 9223372036854775807) (ho : ok l = true) (fs : List S41) (hdn : down = false) (ha : doA l down fuse kind name dst data = ⟨fs, true, fuse, 12⟩) :
    Calls Try.prog 5 #[.agg #[.slice A l.length c, .bool down, .int .i64 fuse], .agg #[.int .u8 kind, .string name, .string dst, .string data], .string other] w fun e w' => e = .returned (.bool true) ∧ Below w.heap.size w w' := by
  have HR := Lib.hid hr
  clear hr
  have HB := Lib.hid (Below.refl w.heap.size w)
  have HK : Hid (okN l = 0) := Lib.hid (by simp [okN, ho])
  subst hdn
  have HA := Lib.hid ha
  clear ho ha
  go_enter Try.func5, Try.ntmps5
  go_wp2_with (first
    | ((with_reducible refine gate_dst (N := 3) rfl ?_); refine box_event ?hg (N := 3) ?hd (cs := #[.slice A l.length c, .bool false, .int .i64 fuse]) (t := 24) ?hr ?_; (case hd => rfl); (case hg => rfl); (case hr => first | (go_simp; done) | (go_simp; rfl)); intro g3 hg w3 hbx hb; have Eg3 : w.heap.size ≤ g3 := (by rw [hg]; exact HB.out.size); have nHB := Lib.hid (below_step HB.out hb); clear HB; have HB := nHB; have Bg3 := Lib.hid hbx; clear nHB hg hbx hb)
    | ((with_reducible refine gate_dst (N := 4) rfl ?_); refine box_event ?hg (N := 4) ?hd (cs := #[.int .u8 kind, .string name, .string dst, .string data]) (t := 27) ?hr ?_; (case hd => rfl); (case hg => rfl); (case hr => first | (go_simp; done) | (go_simp; rfl)); intro g4 hg w4 hbx hb; have Eg4 : w.heap.size ≤ g4 := (by rw [hg]; exact HB.out.size); have Ng3g4 : g3 ≠ g4 := (by rw [hg]; exact Nat.ne_of_lt (blk_lt Bg3.out)); have Ng4g3 : g4 ≠ g3 := Ng3g4.symm; have nBg3 := Lib.hid (blk_below Bg3.out hb); have nHB := Lib.hid (below_step HB.out hb); clear Bg3 HB; have Bg3 := nBg3; have HB := nHB; have Bg4 := Lib.hid hbx; clear nBg3 nHB hg hbx hb)
    | (go_at_call 16; refine (lives_calls _).mono ?_; rintro e wa ⟨rfl, hb⟩; have nBg3 := Lib.hid (blk_below Bg3.out hb); have nBg4 := Lib.hid (blk_below Bg4.out hb); have nHB := Lib.hid (below_step HB.out hb); clear Bg3 Bg4 HB; have Bg3 := nBg3; have Bg4 := nBg4; have HB := nHB; clear nBg3 nBg4 nHB hb; have q0 := (blk_cell Bg3.out 0).trans rfl; have q1 := (blk_cell Bg3.out 1).trans rfl; have q2 := (blk_cell Bg3.out 2).trans rfl; have s0 := (blk_cell Bg4.out 0).trans rfl; have s1 := (blk_cell Bg4.out 1).trans rfl; have s2 := (blk_cell Bg4.out 2).trans rfl; have s3 := (blk_cell Bg4.out 3).trans rfl)
    | (go_at_call 10; have M0 := q0; refine (do_calls A c l false fuse kind name dst data _ (Kd.C_below HR.out HB.out) hn hd hf).mono ?_; rw [HA.out]; rintro e w5 ⟨v5, rfl, hr5, hb⟩; have HR5 := Lib.hid hr5; clear q0 q1 q2 s0 s1 s2 s3 M0 hr5; have nBg3 := Lib.hid (blk_below Bg3.out hb); have nBg4 := Lib.hid (blk_below Bg4.out hb); have nHB := Lib.hid (below_step HB.out hb); clear Bg3 Bg4 HB; have Bg3 := nBg3; have Bg4 := nBg4; have HB := nHB; clear nBg3 nBg4 nHB hb; obtain ⟨A5, c5, e5, hlc5, hC5⟩ := Kd.R_reads HR5.out; subst e5; have HC5 := Lib.hid hC5; clear hC5 HR5; have l3 := blk_lt Bg3.out; have q0 := (blk_cell Bg3.out 0).trans rfl; have q1 := (blk_cell Bg3.out 1).trans rfl; have q2 := (blk_cell Bg3.out 2).trans rfl)
    | (go_at_call 18; refine (check_calls A c l false fuse _ (Kd.C_alloc (Kd.C_below HR.out HB.out) _)).mono ?_; rintro e w6 ⟨rfl, hb⟩; rw [HK.out]; have B5 := Lib.hid (blk_below (blk_new w5 _) hb); have nHC := Lib.hid (Kd.C_below (Kd.C_alloc HC5.out _) hb); have nB3 := Lib.hid (blk_below (blk_alloc Bg3.out _) hb); have nB4 := Lib.hid (blk_below (blk_alloc Bg4.out _) hb); have nHB := Lib.hid (below_step (HB.out.alloc HB.out.size _) hb); clear Bg3 Bg4 HB HC5 hb q0 q1 q2 l3; have Bg3 := nB3; have Bg4 := nB4; have HB := nHB; have HC5 := nHC; clear nB3 nB4 nHB nHC; have r0 := (blk_cell B5.out 0).trans rfl; have r1 := (blk_cell B5.out 1).trans rfl; have r2 := (blk_cell B5.out 2).trans rfl; have q0 := (blk_cell Bg3.out 0).trans rfl; have q1 := (blk_cell Bg3.out 1).trans rfl; have q2 := (blk_cell Bg3.out 2).trans rfl; have s0 := (blk_cell Bg4.out 0).trans rfl; have s1 := (blk_cell Bg4.out 1).trans rfl; have s2 := (blk_cell Bg4.out 2).trans rfl; have s3 := (blk_cell Bg4.out 3).trans rfl))
  all_goals
    go_ret
    exact ⟨rfl, HB.out⟩
set_option maxHeartbeats 8000000 in
set_option maxRecDepth 100000 in
theorem refused_done_3 (A : Option Addr) (c : Nat) (l : List S41) (down : Bool) (fuse : Int) (name dst data other : ByteArray) (w : World) (hr : Kd.C k41 w A l.length l) (hn : l.length < 3518437208883) (hlc : l.length ≤ c) (hd : data.size ≤ 9223372036854775807) (hf : fuse ≤ 9223372036854775807) (ho : ok l = true) (fs : List S41) (fz : Int) (hl : fs.length ≤ l.length + 1) (hdn : down = false) (ha : doA l down fuse 3 name dst data = ⟨fs, false, fz, 0⟩)
    (heq : eqS other name = false → (eqS other dst = false) → readS fs false other = readS l false other ∧ readN fs false other = readN l false other) :
    Calls Try.prog 5 #[.agg #[.slice A l.length c, .bool down, .int .i64 fuse], .agg #[.int .u8 3, .string name, .string dst, .string data], .string other] w fun e w' => e = .returned (.bool true) ∧ Below w.heap.size w w' := by
  have HR := Lib.hid hr
  clear hr
  have HB := Lib.hid (Below.refl w.heap.size w)
  have HK : Hid (okN l = 0) := Lib.hid (by simp [okN, ho])
  subst hdn
  have HA := Lib.hid ha
  have HE := Lib.hid heq
  clear ho ha heq
  rcases b1 : eqS other name with _ | _ <;> rcases b3 : eqS other dst with _ | _
  all_goals
    have c1 : (other.toList == name.toList) = _ := b1
    have c3 : (other.toList == dst.toList) = _ := b3
    have p1 := c1
    have p3 := c3
    simp only [beq_iff_eq, beq_eq_false_iff_ne, ne_eq] at p1 p3
    go_enter Try.func5, Try.ntmps5
    go_wp2_with (first
      | ((with_reducible refine gate_dst (N := 3) rfl ?_); refine box_event ?hg (N := 3) ?hd (cs := #[.slice A l.length c, .bool false, .int .i64 fuse]) (t := 24) ?hr ?_; (case hd => rfl); (case hg => rfl); (case hr => first | (go_simp; done) | (go_simp; rfl)); intro g3 hg w3 hbx hb; have Eg3 : w.heap.size ≤ g3 := (by rw [hg]; exact HB.out.size); have nHB := Lib.hid (below_step HB.out hb); clear HB; have HB := nHB; have Bg3 := Lib.hid hbx; clear nHB hg hbx hb)
      | ((with_reducible refine gate_dst (N := 4) rfl ?_); refine box_event ?hg (N := 4) ?hd (cs := #[.int .u8 3, .string name, .string dst, .string data]) (t := 27) ?hr ?_; (case hd => rfl); (case hg => rfl); (case hr => first | (go_simp; done) | (go_simp; rfl)); intro g4 hg w4 hbx hb; have Eg4 : w.heap.size ≤ g4 := (by rw [hg]; exact HB.out.size); have Ng3g4 : g3 ≠ g4 := (by rw [hg]; exact Nat.ne_of_lt (blk_lt Bg3.out)); have Ng4g3 : g4 ≠ g3 := Ng3g4.symm; have nBg3 := Lib.hid (blk_below Bg3.out hb); have nHB := Lib.hid (below_step HB.out hb); clear Bg3 HB; have Bg3 := nBg3; have HB := nHB; have Bg4 := Lib.hid hbx; clear nBg3 nHB hg hbx hb)
      | (go_at_call 16; refine (lives_calls _).mono ?_; rintro e wa ⟨rfl, hb⟩; have nBg3 := Lib.hid (blk_below Bg3.out hb); have nBg4 := Lib.hid (blk_below Bg4.out hb); have nHB := Lib.hid (below_step HB.out hb); clear Bg3 Bg4 HB; have Bg3 := nBg3; have Bg4 := nBg4; have HB := nHB; clear nBg3 nBg4 nHB hb; have q0 := (blk_cell Bg3.out 0).trans rfl; have q1 := (blk_cell Bg3.out 1).trans rfl; have q2 := (blk_cell Bg3.out 2).trans rfl; have s0 := (blk_cell Bg4.out 0).trans rfl; have s1 := (blk_cell Bg4.out 1).trans rfl; have s2 := (blk_cell Bg4.out 2).trans rfl; have s3 := (blk_cell Bg4.out 3).trans rfl)
      | (go_at_call 10; have M0 := q0; refine (do_calls A c l false fuse 3 name dst data _ (Kd.C_below HR.out HB.out) hn hd hf).mono ?_; rw [HA.out]; rintro e w5 ⟨v5, rfl, hr5, hb⟩; have HR5 := Lib.hid hr5; clear q0 q1 q2 s0 s1 s2 s3 M0 hr5; have nBg3 := Lib.hid (blk_below Bg3.out hb); have nBg4 := Lib.hid (blk_below Bg4.out hb); have nHB := Lib.hid (below_step HB.out hb); clear Bg3 Bg4 HB; have Bg3 := nBg3; have Bg4 := nBg4; have HB := nHB; clear nBg3 nBg4 nHB hb; obtain ⟨A5, c5, e5, hlc5, hC5⟩ := Kd.R_reads HR5.out; subst e5; have HC5 := Lib.hid hC5; clear hC5 HR5; have l3 := blk_lt Bg3.out; have q0 := (blk_cell Bg3.out 0).trans rfl; have q1 := (blk_cell Bg3.out 1).trans rfl; have q2 := (blk_cell Bg3.out 2).trans rfl)
      | (go_at_call 18; refine (check_calls A c l false fuse _ (Kd.C_alloc (Kd.C_below HR.out HB.out) _)).mono ?_; rintro e w6 ⟨rfl, hb⟩; rw [HK.out]; have B5 := Lib.hid (blk_below (blk_new w5 _) hb); have nHC := Lib.hid (Kd.C_below (Kd.C_alloc HC5.out _) hb); have nB3 := Lib.hid (blk_below (blk_alloc Bg3.out _) hb); have nB4 := Lib.hid (blk_below (blk_alloc Bg4.out _) hb); have nHB := Lib.hid (below_step (HB.out.alloc HB.out.size _) hb); clear Bg3 Bg4 HB HC5 hb q0 q1 q2 l3; have Bg3 := nB3; have Bg4 := nB4; have HB := nHB; have HC5 := nHC; clear nB3 nB4 nHB nHC; have r0 := (blk_cell B5.out 0).trans rfl; have r1 := (blk_cell B5.out 1).trans rfl; have r2 := (blk_cell B5.out 2).trans rfl; have q0 := (blk_cell Bg3.out 0).trans rfl; have q1 := (blk_cell Bg3.out 1).trans rfl; have q2 := (blk_cell Bg3.out 2).trans rfl; have s0 := (blk_cell Bg4.out 0).trans rfl; have s1 := (blk_cell Bg4.out 1).trans rfl; have s2 := (blk_cell Bg4.out 2).trans rfl; have s3 := (blk_cell Bg4.out 3).trans rfl)
      | (go_at_call 12; have M1 := s0; refine (read_calls A c l false fuse other _ (Kd.C_below HR.out HB.out) (by omega) hlc).mono ?_; rintro e w8 ⟨rfl, hb⟩; have nB5 := Lib.hid (blk_below B5.out hb); have nHC := Lib.hid (Kd.C_below HC5.out hb); clear r0 r1 r2 q0 q1 q2 s0 s1 s2 s3 M1; have nBg3 := Lib.hid (blk_below Bg3.out hb); have nBg4 := Lib.hid (blk_below Bg4.out hb); have nHB := Lib.hid (below_step HB.out hb); clear Bg3 Bg4 HB; have Bg3 := nBg3; have Bg4 := nBg4; have HB := nHB; clear nBg3 nBg4 nHB hb; clear B5 HC5; have B5 := nB5; have HC5 := nHC; clear nB5 nHC; have r0 := (blk_cell B5.out 0).trans rfl; have r1 := (blk_cell B5.out 1).trans rfl; have r2 := (blk_cell B5.out 2).trans rfl)
      | (go_at_call 12; refine (read_calls A5 c5 fs false fz other _ HC5.out (by omega) hlc5).mono ?_; rintro e w9 ⟨rfl, hb⟩; have nHB := Lib.hid (below_step HB.out hb); clear HB hb r0 r1 r2; have HB := nHB; clear nHB; have HZ := HE.out b1 b3; rw [HZ.1, HZ.2]; clear HZ))
    all_goals
      go_ret
      exact ⟨rfl, HB.out⟩
set_option maxHeartbeats 8000000 in
set_option maxRecDepth 100000 in
theorem refused_done_n (A : Option Addr) (c : Nat) (l : List S41) (down : Bool) (fuse kind : Int) (name dst data other : ByteArray) (w : World) (hr : Kd.C k41 w A l.length l) (hn : l.length < 3518437208883) (hlc : l.length ≤ c) (hd : data.size ≤ 9223372036854775807) (hf : fuse ≤ 9223372036854775807) (ho : ok l = true) (hk : ¬ kind = 3) (fs : List S41) (fz : Int) (hl : fs.length ≤ l.length + 1) (hdn : down = false) (ha : doA l down fuse kind name dst data = ⟨fs, false, fz, 0⟩)
    (heq : eqS other name = false → (kind = 3 → eqS other dst = false) → readS fs false other = readS l false other ∧ readN fs false other = readN l false other) :
    Calls Try.prog 5 #[.agg #[.slice A l.length c, .bool down, .int .i64 fuse], .agg #[.int .u8 kind, .string name, .string dst, .string data], .string other] w fun e w' => e = .returned (.bool true) ∧ Below w.heap.size w w' := by
  have HR := Lib.hid hr
  clear hr
  have HB := Lib.hid (Below.refl w.heap.size w)
  have HK : Hid (okN l = 0) := Lib.hid (by simp [okN, ho])
  subst hdn
  have HA := Lib.hid ha
  have HE := Lib.hid heq
  clear ho ha heq
  rcases b1 : eqS other name with _ | _ <;> rcases b3 : eqS other dst with _ | _
  all_goals
    have b2 : (kind == 3) = false := by simpa using hk
    have c1 : (other.toList == name.toList) = _ := b1
    have c3 : (other.toList == dst.toList) = _ := b3
    have p1 := c1
    have p3 := c3
    simp only [beq_iff_eq, beq_eq_false_iff_ne, ne_eq] at p1 p3
    go_enter Try.func5, Try.ntmps5
    go_wp2_with (first
      | ((with_reducible refine gate_dst (N := 3) rfl ?_); refine box_event ?hg (N := 3) ?hd (cs := #[.slice A l.length c, .bool false, .int .i64 fuse]) (t := 24) ?hr ?_; (case hd => rfl); (case hg => rfl); (case hr => first | (go_simp; done) | (go_simp; rfl)); intro g3 hg w3 hbx hb; have Eg3 : w.heap.size ≤ g3 := (by rw [hg]; exact HB.out.size); have nHB := Lib.hid (below_step HB.out hb); clear HB; have HB := nHB; have Bg3 := Lib.hid hbx; clear nHB hg hbx hb)
      | ((with_reducible refine gate_dst (N := 4) rfl ?_); refine box_event ?hg (N := 4) ?hd (cs := #[.int .u8 kind, .string name, .string dst, .string data]) (t := 27) ?hr ?_; (case hd => rfl); (case hg => rfl); (case hr => first | (go_simp; done) | (go_simp; rfl)); intro g4 hg w4 hbx hb; have Eg4 : w.heap.size ≤ g4 := (by rw [hg]; exact HB.out.size); have Ng3g4 : g3 ≠ g4 := (by rw [hg]; exact Nat.ne_of_lt (blk_lt Bg3.out)); have Ng4g3 : g4 ≠ g3 := Ng3g4.symm; have nBg3 := Lib.hid (blk_below Bg3.out hb); have nHB := Lib.hid (below_step HB.out hb); clear Bg3 HB; have Bg3 := nBg3; have HB := nHB; have Bg4 := Lib.hid hbx; clear nBg3 nHB hg hbx hb)
      | (go_at_call 16; refine (lives_calls _).mono ?_; rintro e wa ⟨rfl, hb⟩; have nBg3 := Lib.hid (blk_below Bg3.out hb); have nBg4 := Lib.hid (blk_below Bg4.out hb); have nHB := Lib.hid (below_step HB.out hb); clear Bg3 Bg4 HB; have Bg3 := nBg3; have Bg4 := nBg4; have HB := nHB; clear nBg3 nBg4 nHB hb; have q0 := (blk_cell Bg3.out 0).trans rfl; have q1 := (blk_cell Bg3.out 1).trans rfl; have q2 := (blk_cell Bg3.out 2).trans rfl; have s0 := (blk_cell Bg4.out 0).trans rfl; have s1 := (blk_cell Bg4.out 1).trans rfl; have s2 := (blk_cell Bg4.out 2).trans rfl; have s3 := (blk_cell Bg4.out 3).trans rfl)
      | (go_at_call 10; have M0 := q0; refine (do_calls A c l false fuse kind name dst data _ (Kd.C_below HR.out HB.out) hn hd hf).mono ?_; rw [HA.out]; rintro e w5 ⟨v5, rfl, hr5, hb⟩; have HR5 := Lib.hid hr5; clear q0 q1 q2 s0 s1 s2 s3 M0 hr5; have nBg3 := Lib.hid (blk_below Bg3.out hb); have nBg4 := Lib.hid (blk_below Bg4.out hb); have nHB := Lib.hid (below_step HB.out hb); clear Bg3 Bg4 HB; have Bg3 := nBg3; have Bg4 := nBg4; have HB := nHB; clear nBg3 nBg4 nHB hb; obtain ⟨A5, c5, e5, hlc5, hC5⟩ := Kd.R_reads HR5.out; subst e5; have HC5 := Lib.hid hC5; clear hC5 HR5; have l3 := blk_lt Bg3.out; have q0 := (blk_cell Bg3.out 0).trans rfl; have q1 := (blk_cell Bg3.out 1).trans rfl; have q2 := (blk_cell Bg3.out 2).trans rfl)
      | (go_at_call 18; refine (check_calls A c l false fuse _ (Kd.C_alloc (Kd.C_below HR.out HB.out) _)).mono ?_; rintro e w6 ⟨rfl, hb⟩; rw [HK.out]; have B5 := Lib.hid (blk_below (blk_new w5 _) hb); have nHC := Lib.hid (Kd.C_below (Kd.C_alloc HC5.out _) hb); have nB3 := Lib.hid (blk_below (blk_alloc Bg3.out _) hb); have nB4 := Lib.hid (blk_below (blk_alloc Bg4.out _) hb); have nHB := Lib.hid (below_step (HB.out.alloc HB.out.size _) hb); clear Bg3 Bg4 HB HC5 hb q0 q1 q2 l3; have Bg3 := nB3; have Bg4 := nB4; have HB := nHB; have HC5 := nHC; clear nB3 nB4 nHB nHC; have r0 := (blk_cell B5.out 0).trans rfl; have r1 := (blk_cell B5.out 1).trans rfl; have r2 := (blk_cell B5.out 2).trans rfl; have q0 := (blk_cell Bg3.out 0).trans rfl; have q1 := (blk_cell Bg3.out 1).trans rfl; have q2 := (blk_cell Bg3.out 2).trans rfl; have s0 := (blk_cell Bg4.out 0).trans rfl; have s1 := (blk_cell Bg4.out 1).trans rfl; have s2 := (blk_cell Bg4.out 2).trans rfl; have s3 := (blk_cell Bg4.out 3).trans rfl)
      | (go_at_call 12; have M1 := s0; refine (read_calls A c l false fuse other _ (Kd.C_below HR.out HB.out) (by omega) hlc).mono ?_; rintro e w8 ⟨rfl, hb⟩; have nB5 := Lib.hid (blk_below B5.out hb); have nHC := Lib.hid (Kd.C_below HC5.out hb); clear r0 r1 r2 q0 q1 q2 s0 s1 s2 s3 M1; have nBg3 := Lib.hid (blk_below Bg3.out hb); have nBg4 := Lib.hid (blk_below Bg4.out hb); have nHB := Lib.hid (below_step HB.out hb); clear Bg3 Bg4 HB; have Bg3 := nBg3; have Bg4 := nBg4; have HB := nHB; clear nBg3 nBg4 nHB hb; clear B5 HC5; have B5 := nB5; have HC5 := nHC; clear nB5 nHC; have r0 := (blk_cell B5.out 0).trans rfl; have r1 := (blk_cell B5.out 1).trans rfl; have r2 := (blk_cell B5.out 2).trans rfl)
      | (go_at_call 12; refine (read_calls A5 c5 fs false fz other _ HC5.out (by omega) hlc5).mono ?_; rintro e w9 ⟨rfl, hb⟩; have nHB := Lib.hid (below_step HB.out hb); clear HB hb r0 r1 r2; have HB := nHB; clear nHB; have HZ := HE.out b1 (fun h => absurd h hk); rw [HZ.1, HZ.2]; clear HZ))
    all_goals
      go_ret
      exact ⟨rfl, HB.out⟩
theorem refused_calls (A : Option Addr) (c : Nat) (l : List S41) (down : Bool) (fuse kind : Int) (name dst data other : ByteArray) (w : World) (hr : Kd.C k41 w A l.length l) (hn : l.length < 3518437208883) (hlc : l.length ≤ c) (hd : data.size ≤ 9223372036854775807) (hf : fuse ≤ 9223372036854775807) :
    Calls Try.prog 5 #[.agg #[.slice A l.length c, .bool down, .int .i64 fuse], .agg #[.int .u8 kind, .string name, .string dst, .string data], .string other] w fun e w' => e = .returned (.bool true) ∧ Below w.heap.size w w' := by
  rcases ho : ok l with _ | _
  · exact refused_bad A c l down fuse kind name dst data other w hr hn hlc hd hf ho
  · have hlen := doA_len l down fuse kind name dst data
    rcases doA_cases (down := down) (fuse := fuse) (kind := kind) (name := name) (dst := dst) (data := data) ho with ⟨n, hn0, h12, he⟩ | ⟨hdn, h1, h4, hw, hz, he⟩ | ⟨hdn, h1, h4, hw, hz, he⟩
    · by_cases hk : kind = 3
      · subst hk
        by_cases h : n = 12
        · subst h
          exact refused_kept12_3 A c l down fuse name dst data other w hr hn hlc hd hf ho (h12.resolve_left (fun h => h rfl)) he
        · rcases hdn : down with _ | _
          · exact refused_kept_3 A c l false fuse name dst data other w hr hn hlc hd hf ho n hn0 h rfl (by rw [← hdn]; exact he)
          · exact refused_keptd_3 A c l true fuse name dst data other w hr hn hlc hd hf ho n hn0 h rfl (by rw [← hdn]; exact he)
      · by_cases h : n = 12
        · subst h
          exact refused_kept12_n A c l down fuse kind name dst data other w hr hn hlc hd hf ho hk (h12.resolve_left (fun h => h rfl)) he
        · rcases hdn : down with _ | _
          · exact refused_kept_n A c l false fuse kind name dst data other w hr hn hlc hd hf ho hk n hn0 h rfl (by rw [← hdn]; exact he)
          · exact refused_keptd_n A c l true fuse kind name dst data other w hr hn hlc hd hf ho hk n hn0 h rfl (by rw [← hdn]; exact he)
    · exact refused_gone A c l down fuse kind name dst data other w hr hn hlc hd hf ho _ hdn he
    · have hq : eqS other name = false → (kind = 3 → eqS other dst = false) → _ ∧ _ := fun h1 h3 => refused_other (fuse := fuse) (kind := kind) (name := name) (dst := dst) (data := data) ho hdn (by rw [he]) other h1 h3
      rw [he] at hq hlen
      by_cases hk : kind = 3
      · subst hk
        exact refused_done_3 A c l down fuse name dst data other w hr hn hlc hd hf ho _ _ hlen hdn he (fun a b => hq a (fun _ => b))
      · exact refused_done_n A c l down fuse kind name dst data other w hr hn hlc hd hf ho hk _ _ hlen hdn he hq
end Go.Proofs.Ytebngchdmpabhaa.Disk
