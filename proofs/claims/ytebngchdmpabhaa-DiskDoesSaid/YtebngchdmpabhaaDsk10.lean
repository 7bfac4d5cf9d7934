/- Package disk: Read. No condition but the bound on a slice's length. -/
import Derived.Test.YtebngchdmpabhaaDsk9
namespace Go.Proofs.Ytebngchdmpabhaa.Disk
open Go.RowKit Go.Proofs.Ytebngchdmpabhaa.G Go.Proofs.YtebngchdmpabhaaW.PrintWords Go.Proofs.YtebngchdmpabhaaW.PrintLast Go.Proofs.YtebngchdmpabhaaW.PrintMore Go.Proofs.YtebngchdmpabhaaW.Raw
set_option linter.unusedVariables false
set_option linter.unusedSimpArgs false
theorem find_read (g : Nat) (A : Option Addr) (c : Nat) (files : List S41) (key : ByteArray) (w : World) (c0 : w.cell? ⟨g, 0, none⟩ = some (.slice A files.length c)) (hC : Kd.C k41 w A files.length files) (hn : files.length ≤ 4611686018427387904) (hs : Rises files) :
    Calls Try.prog 31 #[.pointer (some ⟨g, 0, none⟩), .string key] w fun e w' => e = .returned (.tuple #[.int .i64 (lb files key), .bool (foundAt files key)]) ∧ Below w.heap.size w w' := by
  have HR := Lib.hid hC
  have HS := Lib.hid hs
  clear hC hs
  go_enter Try.func31, Try.ntmps31
  go_wp2_with (go_at_call 37; refine (search_calls _ _ files key _ HR.out hn HS.out).mono ?_; rintro e w' ⟨rfl, hb⟩; have HB := Lib.hid hb; clear hb)
  go_ret2
  exact ⟨rfl, HB.out⟩
def readS (l : List S41) (down : Bool) (name : ByteArray) : ByteArray := if (ok l && !down && foundAt l name) = true then (l.getD (lb l name) z41).f1 else ⟨#[]⟩
def readN (l : List S41) (down : Bool) (name : ByteArray) : Int := if ok l = false then 6 else if down = true then 12 else knownN (foundAt l name)
set_option maxHeartbeats 4000000 in
set_option maxRecDepth 100000 in
theorem read_calls (A : Option Addr) (c : Nat) (l : List S41) (down : Bool) (fuse : Int) (name : ByteArray) (w : World) (hr : Kd.C k41 w A l.length l) (hn : l.length ≤ 4611686018427387904) (hlc : l.length ≤ c) :
    Calls Try.prog 12 #[.agg #[.slice A l.length c, .bool down, .int .i64 fuse], .string name] w fun e w' => e = .returned (.tuple #[.string (readS l down name), .int .i64 (readN l down name)]) ∧ Below w.heap.size w w' := by
  have HR := Lib.hid hr
  clear hr
  have HB := Lib.hid (Below.refl w.heap.size w)
  obtain ⟨K, hK⟩ : ∃ K, K = okN l := ⟨_, rfl⟩
  have HK := Lib.hid hK.symm
  rcases ho : ok l with _ | _
  · have hK6 : K = 6 := by rw [hK]; simp [okN, ho]
    have HS : Hid (readS l down name = ⟨#[]⟩) := by show readS l down name = _; simp [readS, ho]
    have HN : Hid (readN l down name = 6) := by show readN l down name = _; simp [readN, ho]
    clear hK ho
    subst hK6
    go_enter Try.func12, Try.ntmps12
    go_wp2_with (first
      | ((with_reducible refine gate_dst (N := 2) rfl ?_); refine box_event ?hg (N := 2) ?hd (cs := #[.slice A l.length c, .bool down, .int .i64 fuse]) (t := 24) ?hr ?_; (case hd => rfl); (case hg => rfl); (case hr => first | (go_simp; done) | (go_simp; rfl)); intro g2 hg w2 hbx hb; have Eg2 : w.heap.size ≤ g2 := (by rw [hg]; exact HB.out.size); have nHB := Lib.hid (below_step HB.out hb); clear HB; have HB := nHB; have Bg2 := Lib.hid hbx; clear nHB hg hbx hb; have q0 := (blk_cell Bg2.out 0).trans rfl; have q1 := (blk_cell Bg2.out 1).trans rfl; have q2 := (blk_cell Bg2.out 2).trans rfl)
      | (go_at_call 18; refine (check_calls A c l down fuse _ (Kd.C_below HR.out HB.out)).mono ?_; rintro e w5 ⟨rfl, hb⟩; have nBg2 := Lib.hid (blk_below Bg2.out hb); have nHB := Lib.hid (below_step HB.out hb); clear Bg2 HB; have Bg2 := nBg2; have HB := nHB; clear nBg2 nHB hb; clear q0 q1 q2; rw [HK.out]; have q0 := (blk_cell Bg2.out 0).trans rfl; have q1 := (blk_cell Bg2.out 1).trans rfl; have q2 := (blk_cell Bg2.out 2).trans rfl))
    go_ret2
    rw [HS.out, HN.out]
    exact ⟨rfl, HB.out⟩
  · have hK6 : K = 0 := by rw [hK]; simp [okN, ho]
    have HO := Lib.hid (ok_rises ho)
    clear hK
    subst hK6
    rcases down with _ | _
    · rcases hf : foundAt l name with _ | _
      · have HF := Lib.hid hf
        have HS : Hid (readS l false name = ⟨#[]⟩) := by show readS l false name = _; simp [readS, hf]
        have HN : Hid (readN l false name = 7) := by show readN l false name = _; simp [readN, hf, ho, knownN]
        clear hf ho
        go_enter Try.func12, Try.ntmps12
        go_wp2_with (first
          | ((with_reducible refine gate_dst (N := 2) rfl ?_); refine box_event ?hg (N := 2) ?hd (cs := #[.slice A l.length c, .bool false, .int .i64 fuse]) (t := 24) ?hr ?_; (case hd => rfl); (case hg => rfl); (case hr => first | (go_simp; done) | (go_simp; rfl)); intro g2 hg w2 hbx hb; have Eg2 : w.heap.size ≤ g2 := (by rw [hg]; exact HB.out.size); have nHB := Lib.hid (below_step HB.out hb); clear HB; have HB := nHB; have Bg2 := Lib.hid hbx; clear nHB hg hbx hb; have q0 := (blk_cell Bg2.out 0).trans rfl; have q1 := (blk_cell Bg2.out 1).trans rfl; have q2 := (blk_cell Bg2.out 2).trans rfl)
          | (go_at_call 18; refine (check_calls A c l false fuse _ (Kd.C_below HR.out HB.out)).mono ?_; rintro e w5 ⟨rfl, hb⟩; have nBg2 := Lib.hid (blk_below Bg2.out hb); have nHB := Lib.hid (below_step HB.out hb); clear Bg2 HB; have Bg2 := nBg2; have HB := nHB; clear nBg2 nHB hb; clear q0 q1 q2; rw [HK.out]; have q0 := (blk_cell Bg2.out 0).trans rfl; have q1 := (blk_cell Bg2.out 1).trans rfl; have q2 := (blk_cell Bg2.out 2).trans rfl)
          | ((with_reducible refine gate_dst (N := 19) rfl ?_); refine box_event ?hg (N := 19) ?hd (cs := #[.slice A l.length c, .bool false, .int .i64 fuse, .int .u8 0, .string ⟨#[]⟩, .string ⟨#[]⟩, .string ⟨#[]⟩]) (t := 51) ?hr ?_; (case hd => rfl); (case hg => rfl); (case hr => first | (go_simp; done) | (go_simp; rfl)); intro g7 hg w7 hbx hb; have Eg7 : w.heap.size ≤ g7 := (by rw [hg]; exact HB.out.size); have Ng2g7 : g2 ≠ g7 := (by rw [hg]; exact Nat.ne_of_lt (blk_lt Bg2.out)); have Ng7g2 : g7 ≠ g2 := Ng2g7.symm; have nBg2 := Lib.hid (blk_below Bg2.out hb); have nHB := Lib.hid (below_step HB.out hb); clear Bg2 HB; have Bg2 := nBg2; have HB := nHB; have Bg7 := Lib.hid hbx; clear nBg2 nHB hg hbx hb; have c0 := (blk_cell Bg7.out 0).trans rfl)
          | (go_at_call 31; refine (find_read g7 A c l name _ c0 (Kd.C_below HR.out HB.out) hn HO.out).mono ?_; rintro e w8 ⟨rfl, hb⟩; have nBg2 := Lib.hid (blk_below Bg2.out hb); have nHB := Lib.hid (below_step HB.out hb); clear Bg2 HB; have Bg2 := nBg2; have HB := nHB; clear nBg2 nHB hb; clear c0 q0 q1 q2; rw [HF.out]))
        go_ret2
        rw [HS.out, HN.out]
        exact ⟨rfl, HB.out⟩
      · have HF := Lib.hid hf
        have HS : Hid (readS l false name = (l.getD (lb l name) z41).f1) := by show readS l false name = _; simp [readS, hf, ho]
        have HN : Hid (readN l false name = 0) := by show readN l false name = _; simp [readN, hf, ho, knownN]
        have hlt := found_lt hf
        clear hf ho
        go_enter Try.func12, Try.ntmps12
        go_wp2_with (first
          | ((with_reducible refine gate_dst (N := 2) rfl ?_); refine box_event ?hg (N := 2) ?hd (cs := #[.slice A l.length c, .bool false, .int .i64 fuse]) (t := 24) ?hr ?_; (case hd => rfl); (case hg => rfl); (case hr => first | (go_simp; done) | (go_simp; rfl)); intro g2 hg w2 hbx hb; have Eg2 : w.heap.size ≤ g2 := (by rw [hg]; exact HB.out.size); have nHB := Lib.hid (below_step HB.out hb); clear HB; have HB := nHB; have Bg2 := Lib.hid hbx; clear nHB hg hbx hb; have q0 := (blk_cell Bg2.out 0).trans rfl; have q1 := (blk_cell Bg2.out 1).trans rfl; have q2 := (blk_cell Bg2.out 2).trans rfl)
          | (go_at_call 18; refine (check_calls A c l false fuse _ (Kd.C_below HR.out HB.out)).mono ?_; rintro e w5 ⟨rfl, hb⟩; have nBg2 := Lib.hid (blk_below Bg2.out hb); have nHB := Lib.hid (below_step HB.out hb); clear Bg2 HB; have Bg2 := nBg2; have HB := nHB; clear nBg2 nHB hb; clear q0 q1 q2; rw [HK.out]; have q0 := (blk_cell Bg2.out 0).trans rfl; have q1 := (blk_cell Bg2.out 1).trans rfl; have q2 := (blk_cell Bg2.out 2).trans rfl)
          | ((with_reducible refine gate_dst (N := 19) rfl ?_); refine box_event ?hg (N := 19) ?hd (cs := #[.slice A l.length c, .bool false, .int .i64 fuse, .int .u8 0, .string ⟨#[]⟩, .string ⟨#[]⟩, .string ⟨#[]⟩]) (t := 51) ?hr ?_; (case hd => rfl); (case hg => rfl); (case hr => first | (go_simp; done) | (go_simp; rfl)); intro g7 hg w7 hbx hb; have Eg7 : w.heap.size ≤ g7 := (by rw [hg]; exact HB.out.size); have Ng2g7 : g2 ≠ g7 := (by rw [hg]; exact Nat.ne_of_lt (blk_lt Bg2.out)); have Ng7g2 : g7 ≠ g2 := Ng2g7.symm; have nBg2 := Lib.hid (blk_below Bg2.out hb); have nHB := Lib.hid (below_step HB.out hb); clear Bg2 HB; have Bg2 := nBg2; have HB := nHB; have Bg7 := Lib.hid hbx; clear nBg2 nHB hg hbx hb; have c0 := (blk_cell Bg7.out 0).trans rfl)
          | (go_at_call 31; refine (find_read g7 A c l name _ c0 (Kd.C_below HR.out HB.out) hn HO.out).mono ?_; rintro e w8 ⟨rfl, hb⟩; have nBg2 := Lib.hid (blk_below Bg2.out hb); have nHB := Lib.hid (below_step HB.out hb); clear Bg2 HB; have Bg2 := nBg2; have HB := nHB; clear nBg2 nHB hb; clear c0 q0 q1 q2; rw [HF.out]; have q0 := (blk_cell Bg2.out 0).trans rfl; obtain ⟨ad, eA, x0, x1, x2⟩ := at_T41 (Kd.C_below HR.out HB.out) (lb l name : Int) (by omega) (by omega); simp only [Int.toNat_natCast] at x0 x1 x2; have hget : rd_T41 l (lb l name : Int) = l.getD (lb l name) z41 := (by simp [rd_T41]); rw [hget] at x0 x1 x2; subst eA; clear x0 x2 hget; obtain ⟨F, hF⟩ : ∃ F, F = l.getD (lb l name) z41 := ⟨_, rfl⟩; rw [← hF] at x1; have HFF := Lib.hid hF; clear hF; have hkk : (lb l name : Int) < (l.length : Int) := (by omega)))
        go_ret2
        rw [HS.out, HN.out, ← HFF.out]
        exact ⟨rfl, HB.out⟩
    · have HS : Hid (readS l true name = ⟨#[]⟩) := by show readS l true name = _; simp [readS]
      have HN : Hid (readN l true name = 12) := by show readN l true name = _; simp [readN, ho]
      clear ho
      go_enter Try.func12, Try.ntmps12
      go_wp2_with (first
        | ((with_reducible refine gate_dst (N := 2) rfl ?_); refine box_event ?hg (N := 2) ?hd (cs := #[.slice A l.length c, .bool true, .int .i64 fuse]) (t := 24) ?hr ?_; (case hd => rfl); (case hg => rfl); (case hr => first | (go_simp; done) | (go_simp; rfl)); intro g2 hg w2 hbx hb; have Eg2 : w.heap.size ≤ g2 := (by rw [hg]; exact HB.out.size); have nHB := Lib.hid (below_step HB.out hb); clear HB; have HB := nHB; have Bg2 := Lib.hid hbx; clear nHB hg hbx hb; have q0 := (blk_cell Bg2.out 0).trans rfl; have q1 := (blk_cell Bg2.out 1).trans rfl; have q2 := (blk_cell Bg2.out 2).trans rfl)
        | (go_at_call 18; refine (check_calls A c l true fuse _ (Kd.C_below HR.out HB.out)).mono ?_; rintro e w5 ⟨rfl, hb⟩; have nBg2 := Lib.hid (blk_below Bg2.out hb); have nHB := Lib.hid (below_step HB.out hb); clear Bg2 HB; have Bg2 := nBg2; have HB := nHB; clear nBg2 nHB hb; clear q0 q1 q2; rw [HK.out]; have q0 := (blk_cell Bg2.out 0).trans rfl; have q1 := (blk_cell Bg2.out 1).trans rfl; have q2 := (blk_cell Bg2.out 2).trans rfl))
      go_ret2
      rw [HS.out, HN.out]
      exact ⟨rfl, HB.out⟩
end Go.Proofs.Ytebngchdmpabhaa.Disk
