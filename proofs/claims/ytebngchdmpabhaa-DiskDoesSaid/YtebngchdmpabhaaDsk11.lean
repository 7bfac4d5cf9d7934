/- Package disk: Crash. No condition but the bound on a slice's length. -/
import Derived.Test.YtebngchdmpabhaaDsk10
namespace Go.Proofs.Ytebngchdmpabhaa.Disk
open Go.RowKit Go.Proofs.Ytebngchdmpabhaa.G Go.Proofs.YtebngchdmpabhaaW.PrintWords Go.Proofs.YtebngchdmpabhaaW.PrintLast Go.Proofs.YtebngchdmpabhaaW.PrintMore Go.Proofs.YtebngchdmpabhaaW.Raw
set_option linter.unusedVariables false
set_option linter.unusedSimpArgs false
def keptN (keep : Int) (f : S41) : Int := f.f2 + min (max keep 0) ((f.f1.size : Int) - f.f2)
def crashF (keep : Int) (f : S41) : S41 := ⟨f.f0, f.f1.extract 0 (keptN keep f).toNat, ((f.f1.extract 0 (keptN keep f).toNat).size : Int)⟩
theorem okFiles_file : ∀ (l : List S41) (last : ByteArray) (room : Int), okFiles last room l = true → ∀ f ∈ l, 0 ≤ f.f2 ∧ f.f2 ≤ (f.f1.size : Int) ∧ (f.f1.size : Int) ≤ room
  | [], _, _, _, f, hf => by simp at hf
  | f :: l, last, room, h, x, hx => by
    simp only [okFiles, okFile, Bool.and_eq_true, decide_eq_true_eq] at h
    obtain ⟨⟨⟨⟨h1, h2⟩, h3⟩, h4⟩, h5⟩ := h
    rcases List.mem_cons.1 hx with rfl | hx
    · exact ⟨h2, h3, h4⟩
    · have := okFiles_file l _ _ h5 x hx
      omega
theorem ok_file {l : List S41} (h : ok l = true) {k : Nat} (hk : k < l.length) : 0 ≤ (l.getD k z41).f2 ∧ (l.getD k z41).f2 ≤ ((l.getD k z41).f1.size : Int) ∧ ((l.getD k z41).f1.size : Int) ≤ 1048576 := by
  refine okFiles_file l _ _ h _ ?_
  rw [List.getD_eq_getElem?_getD, List.getElem?_eq_getElem hk]
  exact List.getElem_mem hk
attribute [local go_sem] max2_int min2_int
theorem crash_step (f : S41 → S41) : ∀ (l : List S41) (k : Nat) (x : S41), k < l.length → (((l.take k).map f ++ l.drop k).set k x).set k (f (l.getD k z41)) = (l.take (k + 1)).map f ++ l.drop (k + 1)
  | [], k, x, h => by simp at h
  | a :: l, 0, x, h => by simp
  | a :: l, k + 1, x, h => by
    have := crash_step f l k x (by simpa using h)
    simpa using this
set_option maxHeartbeats 4000000 in
set_option maxRecDepth 100000 in
theorem crash_ok (A : Option Addr) (c : Nat) (l : List S41) (down : Bool) (fuse keep : Int) (w : World) (hr : Kd.C k41 w A l.length l) (hn : l.length < 3518437208883) (ho : ok l = true) :
    Calls Try.prog 14 #[.agg #[.slice A l.length c, .bool down, .int .i64 fuse], .int .i64 keep] w fun e w' => ∃ v, e = .returned (.tuple #[.agg #[v, .bool false, .int .i64 (-1)], .int .i64 0]) ∧ Kd.R k41 41 w' w.heap.size (fun _ => True) v (l.map (crashF keep)) ∧ Below w.heap.size w w' := by
  have HR := Lib.hid hr
  clear hr
  have HN := Lib.hid hn
  have HK : Hid (okN l = 0) := by show okN l = 0; simp [okN, ho]
  have HO : Hid (∀ k, k < l.length → 0 ≤ (l.getD k z41).f2 ∧ (l.getD k z41).f2 ≤ ((l.getD k z41).f1.size : Int) ∧ ((l.getD k z41).f1.size : Int) ≤ 1048576) := fun k hk => ok_file ho hk
  have HB := Lib.hid (Below.refl w.heap.size w)
  clear ho
  go_enter Try.func14, Try.ntmps14
  go_wp2_with (first
    | ((with_reducible refine gate_dst (N := 2) rfl ?_); refine box_event ?hg (N := 2) ?hd (cs := #[.slice A l.length c, .bool down, .int .i64 fuse]) (t := 24) ?hr ?_; (case hd => rfl); (case hg => rfl); (case hr => first | (go_simp; done) | (go_simp; rfl)); intro g2 hg w2 hbx hb; have Eg2 : w.heap.size ≤ g2 := (by rw [hg]; exact HB.out.size); have nHB := Lib.hid (below_step HB.out hb); clear HB; have HB := nHB; have Bg2 := Lib.hid hbx; clear nHB hg hbx hb)
    | ((with_reducible refine gate_dst (N := 4) rfl ?_); refine box_event ?hg (N := 4) ?hd (cs := #[.slice none 0 0, .bool false, .int .i64 0]) (t := 24) ?hr ?_; (case hd => rfl); (case hg => rfl); (case hr => first | (go_simp; done) | (go_simp; rfl)); intro g4 hg w4 hbx hb; have Eg4 : w.heap.size ≤ g4 := (by rw [hg]; exact HB.out.size); have Ng2g4 : g2 ≠ g4 := (by rw [hg]; exact Nat.ne_of_lt (blk_lt Bg2.out)); have Ng4g2 : g4 ≠ g2 := Ng2g4.symm; have nBg2 := Lib.hid (blk_below Bg2.out hb); have nHB := Lib.hid (below_step HB.out hb); clear Bg2 HB; have Bg2 := nBg2; have HB := nHB; have Bg4 := Lib.hid hbx; clear nBg2 nHB hg hbx hb; have q0 := (blk_cell Bg2.out 0).trans rfl; have q1 := (blk_cell Bg2.out 1).trans rfl; have q2 := (blk_cell Bg2.out 2).trans rfl)
    | (go_at_call 18; refine (check_calls A c l down fuse _ (Kd.C_below HR.out HB.out)).mono ?_; rintro e w5 ⟨rfl, hb⟩; have nBg2 := Lib.hid (blk_below Bg2.out hb); have nBg4 := Lib.hid (blk_below Bg4.out hb); have nHB := Lib.hid (below_step HB.out hb); clear Bg2 Bg4 HB; have Bg2 := nBg2; have Bg4 := nBg4; have HB := nHB; clear nBg2 nBg4 nHB hb; clear q0 q1 q2; rw [HK.out]; have q0 := (blk_cell Bg2.out 0).trans rfl)
    | (go_at_call 22; refine (clone_calls A c l _ (Kd.C_below HR.out HB.out) HN.out).mono ?_; rintro e w6 ⟨v6, rfl, hr6, hb⟩; have HR6 := Lib.hid (Kd.R_lower hr6 HB.out.size); clear hr6; have nBg2 := Lib.hid (blk_below Bg2.out hb); have nBg4 := Lib.hid (blk_below Bg4.out hb); have nHB := Lib.hid (below_step HB.out hb); clear Bg2 Bg4 HB; have Bg2 := nBg2; have Bg4 := nBg4; have HB := nHB; clear nBg2 nBg4 nHB hb; clear q0 Bg2; obtain ⟨A6, c6, rfl⟩ := Kd.R_slice HR6.out)
    | ((with_reducible refine gate_dst (N := 7) rfl ?_); refine box_event ?hg (N := 7) ?hd (cs := #[.slice none 0 0, .bool false, .int .i64 0]) (t := 24) ?hr ?_; (case hd => rfl); (case hg => rfl); (case hr => first | (go_simp; done) | (go_simp; rfl)); intro g7 hg w7 hbx hb; have Eg7 : w.heap.size ≤ g7 := (by rw [hg]; exact HB.out.size); have Ng4g7 : g4 ≠ g7 := (by rw [hg]; exact Nat.ne_of_lt (blk_lt Bg4.out)); have Ng7g4 : g7 ≠ g4 := Ng4g7.symm; have nHR6 := Lib.hid (Kd.R_below HR6.out hb); clear HR6; have HR6 := nHR6; clear nHR6; have nBg4 := Lib.hid (blk_below Bg4.out hb); have nHB := Lib.hid (below_step HB.out hb); clear Bg4 HB; have Bg4 := nBg4; have HB := nHB; have Bg7 := Lib.hid hbx; clear nBg4 nHB hg hbx hb; have z0 := blk_frozen Bg7.out 0; have y0 := (blk_cell Bg7.out 0).trans rfl; have z1 := blk_frozen Bg7.out 1; have y1 := (blk_cell Bg7.out 1).trans rfl; have z2 := blk_frozen Bg7.out 2; have y2 := (blk_cell Bg7.out 2).trans rfl))
  obtain ⟨n, hn'⟩ : ∃ n, n = l.length := ⟨_, rfl⟩
  have HNN := Lib.hid hn'
  have hn2 : n < 3518437208883 := by omega
  rw [← hn'] at HR6 ⊢
  have Bg7' := Lib.hid (blk_put (cs' := #[.slice A6 n c6, .bool false, .int .i64 (-1)]) (blk_put (blk_put Bg7.out 0 (.slice A6 n c6) rfl) 1 (.bool false) rfl) 2 (.int .i64 (-1)) rfl)
  have Bg4' := Lib.hid (blk_far (blk_far (blk_far Bg4.out Ng4g7 (p := ⟨g7, 0, none⟩) (.slice A6 n c6)) Ng4g7 (p := ⟨g7, 1, none⟩) (.bool false)) Ng4g7 (p := ⟨g7, 2, none⟩) (.int .i64 (-1)))
  have HR' := Lib.hid (Kd.R_mono (Kd.R_far (p := ⟨g7, 2, none⟩) (Kd.R_far (p := ⟨g7, 1, none⟩) (Kd.R_far (p := ⟨g7, 0, none⟩) (Kd.R_types HR6.out Bg7.out (by decide)) (fun _ hk => hk.2) (.slice A6 n c6)) (fun _ hk => hk.2) (.bool false)) (fun _ hk => hk.2) (.int .i64 (-1))) (fun _ _ => trivial) : Kd.R k41 41 _ w.heap.size (fun _ => True) _ _)
  have HB' := Lib.hid (below_set (j := 2) (v := .int .i64 (-1)) (below_set (j := 1) (v := .bool false) (below_set (j := 0) (v := .slice A6 n c6) HB.out Eg7) Eg7) Eg7)
  clear HR6 Bg7 Bg4 HB z0 z1 z2 y0 y1 y2 hn hn'
  go_loopw [23] (fun vi wr => ∃ k : Nat, k ≤ n ∧ vi = .int .i64 k ∧ Hid (Kd.R k41 41 wr w.heap.size (fun _ => True) (.slice A6 n c6) ((l.take k).map (crashF keep) ++ l.drop k)) ∧ Hid (wr.heap[g7]? = some (.cells #[.slice A6 n c6, .bool false, .int .i64 (-1)] 24 (0, 0))) ∧ Hid (wr.heap[g4]? = some (.cells #[.slice none 0 0, .bool false, .int .i64 0] 24 (0, 0))) ∧ Hid (Below w.heap.size w wr)) (fun vi _ => n - (intOf vi).toNat)
  case atStart => exact ⟨0, Nat.zero_le _, rfl, HR', Bg7', Bg4', HB'⟩
  case round =>
    obtain ⟨k, hk, rfl, HRk, Bg7, Bg4, HB⟩ := hrel
    clear HR' Bg7' Bg4' HB'
    have hLl : ((l.take k).map (crashF keep) ++ l.drop k).length = n := by rw [HNN.out]; simp; omega
    by_cases hlt : k < n
    · obtain ⟨gv, cap, ev, hbv, hlv, cellsv, hgv⟩ := Kd.R_form HRk.out (by omega)
      have ea : A6 = some ⟨gv, 0, none⟩ := by injection ev
      clear ev
      subst ea
      have Nv7 : gv ≠ g7 := fun e => (Kd.R_types HRk.out Bg7.out (by decide)).1 gv rfl |>.2 e
      have Nv4 : gv ≠ g4 := fun e => (Kd.R_types HRk.out Bg4.out (by decide)).1 gv rfl |>.2 e
      have N7v := Nv7.symm
      obtain ⟨ce, hcl, hM, hcc, hfr⟩ := Kd.R_elem HRk.out z41 (k : Int) (by omega) (by omega)
      obtain rfl := k41_openM hM
      obtain ⟨F, hF⟩ : ∃ F, F = l.getD k z41 := ⟨_, rfl⟩
      have hget : ((l.take k).map (crashF keep) ++ l.drop k).getD (k : Int).toNat z41 = F := by
        rw [hF, Int.toNat_natCast, List.getD_eq_getElem?_getD, List.getElem?_append_right (by simp; omega)]
        simp [List.getD_eq_getElem?_getD, Nat.min_eq_left (show k ≤ l.length by rw [← HNN.out]; exact hk)]
      rw [hget] at hcc
      have x0 := hcc 0 _ rfl
      have x1 := hcc 1 _ rfl
      have x2 := hcc 2 _ rfl
      have y1 := hfr 1
      have y2 := hfr 2
      simp only [Int.toNat_natCast, show k41.sz = 3 from rfl] at x1 x2 y1 y2
      have HCC := Lib.hid hcc
      obtain ⟨o1, o2, o3⟩ := HO.out k (by rw [← HNN.out]; exact hlt)
      rw [← hF] at o1 o2 o3
      have HFF := Lib.hid hF
      have hii : (k : Int) < (n : Int) := by omega
      have q0 := (blk_cell Bg7.out 0).trans rfl
      clear hcc hfr hM hcl hgv hF hget x0 hLl
      go_wp2
      have hw1 : IntKind.i64.wrap ((F.f1.size : Int) - F.f2) = (F.f1.size : Int) - F.f2 := by rw [IntKind.wrap_i64]; omega
      have hw2 : IntKind.i64.wrap (F.f2 + min (max keep 0) ((F.f1.size : Int) - F.f2)) = F.f2 + min (max keep 0) ((F.f1.size : Int) - F.f2) := by rw [IntKind.wrap_i64]; omega
      have hb1 : 0 ≤ F.f2 + min (max keep 0) ((F.f1.size : Int) - F.f2) := by omega
      have hb2 : F.f2 + min (max keep 0) ((F.f1.size : Int) - F.f2) ≤ (F.f1.size : Int) := by omega
      go_region
      clear hw1 hw2
      have hS : Hid (F.f1.extract 0 (F.f2 + min (max keep 0) ((F.f1.size : Int) - F.f2)).toNat = (crashF keep F).f1) := rfl
      rw [hS.out]
      obtain ⟨S, hSS⟩ : ∃ S, S = (crashF keep F).f1 := ⟨_, rfl⟩
      rw [← hSS]
      have HSS := Lib.hid hSS
      have hsz : S.size ≤ 1048576 := by rw [hSS]; show (F.f1.extract 0 _).size ≤ _; rw [ByteArray.size_extract]; omega
      clear hS hSS hb1 hb2
      have S1 := Kd.R_seg (okp := fun k' => k' ≠ gv) HRk.out (k : Int) (by omega) hii (seg := [.string S]) (j := 1) (x' := ⟨F.f0, S, F.f2⟩) rfl HCC.out (by simp; exact Nat.le_of_ble_eq_true rfl) (by simpa using k41_mkM wr w.heap.size _ (⟨F.f0, S, F.f2⟩ : S41)) (fun _ hk => ⟨trivial, hk⟩)
      simp only [Int.toNat_natCast, show k41.sz = 3 from rfl] at S1
      obtain ⟨W1, hW1⟩ : ∃ W1, W1 = (wr.setCell ⟨gv, k * 3 + 1, none⟩ (.string S)).drew := ⟨_, rfl⟩
      rw [← hW1]
      have HR1 : Hid (Kd.R k41 41 W1 w.heap.size (fun _ => True) (.slice (some ⟨gv, 0, none⟩) n c6) (((l.take k).map (crashF keep) ++ l.drop k).set k ⟨F.f0, S, F.f2⟩)) := Lib.hid (by rw [hW1]; exact Kd.R_drew S1.1)
      have HB1 : Hid (Below w.heap.size w W1) := Lib.hid (by rw [hW1]; exact below_drew1 (below_set HB.out hbv))
      have B7 : Hid (W1.heap[g7]? = some (.cells #[.slice (some ⟨gv, 0, none⟩) n c6, .bool false, .int .i64 (-1)] 24 (0, 0))) := Lib.hid (by rw [hW1]; exact blk_drew (blk_far Bg7.out N7v _))
      have B4 : Hid (W1.heap[g4]? = some (.cells #[.slice none 0 0, .bool false, .int .i64 0] 24 (0, 0))) := Lib.hid (by rw [hW1]; exact blk_drew (blk_far Bg4.out Nv4.symm _))
      clear S1 hW1 HRk HB Bg7 Bg4 x1 x2 y1 y2 q0
      have hl2 : (((l.take k).map (crashF keep) ++ l.drop k).set k ⟨F.f0, S, F.f2⟩).length = n := by rw [HNN.out]; simp; omega
      have hlen : k < ((l.take k).map (crashF keep) ++ l.drop k).length := by have := HNN.out; simp; omega
      obtain ⟨ce, hcl, hM, hcc, hfr⟩ := Kd.R_elem HR1.out z41 (k : Int) (by omega) hii
      obtain rfl := k41_openM hM
      have hget : (((l.take k).map (crashF keep) ++ l.drop k).set k ⟨F.f0, S, F.f2⟩).getD (k : Int).toNat z41 = ⟨F.f0, S, F.f2⟩ := by
        rw [Int.toNat_natCast, List.getD_eq_getElem?_getD, List.getElem?_set_self hlen]; rfl
      rw [hget] at hcc
      have x1 := hcc 1 _ rfl
      have x2 := hcc 2 _ rfl
      have y2 := hfr 2
      simp only [Int.toNat_natCast, show k41.sz = 3 from rfl] at x1 x2 y2
      have HCC := Lib.hid hcc
      clear hcc hfr hM hcl hget hlen hl2
      go_wp2
      have S2 := Kd.R_seg (okp := fun k' => k' ≠ gv) HR1.out (k : Int) (by omega) hii (seg := [.int .i64 (S.size : Int)]) (j := 2) (x' := ⟨F.f0, S, (S.size : Int)⟩) rfl HCC.out (by simp; exact Nat.le_refl _) (by simpa using k41_mkM W1 w.heap.size _ (⟨F.f0, S, (S.size : Int)⟩ : S41)) (fun _ hk => ⟨trivial, hk⟩)
      simp only [Int.toNat_natCast, show k41.sz = 3 from rfl] at S2
      have hx : (⟨F.f0, S, (S.size : Int)⟩ : S41) = crashF keep (l.getD k z41) := by rw [← HFF.out, HSS.out]; rfl
      rw [hx, crash_step (crashF keep) l k _ (by rw [← HNN.out]; exact hlt)] at S2
      exact ⟨⟨k + 1, hlt, by simp, Lib.hid S2.1, Lib.hid (blk_far B7.out N7v _), Lib.hid (blk_far B4.out Nv4.symm _), Lib.hid (below_set HB1.out hbv)⟩, by simp [intOf]; omega⟩
    · obtain rfl : k = n := by omega
      have hL : (l.take k).map (crashF keep) ++ l.drop k = l.map (crashF keep) := by rw [HNN.out]; simp
      rw [hL] at HRk
      have q0 := (blk_cell Bg7.out 0).trans rfl
      have q1 := (blk_cell Bg7.out 1).trans rfl
      have q2 := (blk_cell Bg7.out 2).trans rfl
      have r0 := (blk_cell Bg4.out 0).trans rfl
      have r1 := (blk_cell Bg4.out 1).trans rfl
      have r2 := (blk_cell Bg4.out 2).trans rfl
      have z0 := blk_frozen Bg4.out 0
      have z1 := blk_frozen Bg4.out 1
      have z2 := blk_frozen Bg4.out 2
      clear hL hLl
      go_wp2
      refine bodyPost_ret (results_ct rfl _ _ g4 24 #[.slice A6 k c6, .bool false, .int .i64 (-1)] (0, 0) _ rfl (blk_put (blk_put (blk_put Bg4.out 0 _ rfl) 1 _ rfl) 2 _ rfl) Try.underlying24 rfl (by kernel_rfl)) rfl ?_
      exact ⟨_, rfl, Kd.R_mono (Kd.R_far (p := ⟨g4, 2, none⟩) (Kd.R_far (p := ⟨g4, 1, none⟩) (Kd.R_far (p := ⟨g4, 0, none⟩) (Kd.R_types HRk.out Bg4.out (by decide)) (fun _ hk => hk.2) _) (fun _ hk => hk.2) _) (fun _ hk => hk.2) _) (fun _ _ => trivial), below_set (below_set (below_set HB.out Eg4) Eg4) Eg4⟩
set_option maxHeartbeats 4000000 in
set_option maxRecDepth 100000 in
theorem crash_bad (A : Option Addr) (c : Nat) (l : List S41) (down : Bool) (fuse keep : Int) (w : World) (hr : Kd.C k41 w A l.length l) (ho : ok l = false) :
    Calls Try.prog 14 #[.agg #[.slice A l.length c, .bool down, .int .i64 fuse], .int .i64 keep] w fun e w' => e = .returned (.tuple #[.agg #[.slice none 0 0, .bool false, .int .i64 0], .int .i64 6]) ∧ Below w.heap.size w w' := by
  have HR := Lib.hid hr
  clear hr
  have HK : Hid (okN l = 6) := by show okN l = 6; simp [okN, ho]
  have HB := Lib.hid (Below.refl w.heap.size w)
  clear ho
  go_enter Try.func14, Try.ntmps14
  go_wp2_with (first
    | ((with_reducible refine gate_dst (N := 2) rfl ?_); refine box_event ?hg (N := 2) ?hd (cs := #[.slice A l.length c, .bool down, .int .i64 fuse]) (t := 24) ?hr ?_; (case hd => rfl); (case hg => rfl); (case hr => first | (go_simp; done) | (go_simp; rfl)); intro g2 hg w2 hbx hb; have Eg2 : w.heap.size ≤ g2 := (by rw [hg]; exact HB.out.size); have nHB := Lib.hid (below_step HB.out hb); clear HB; have HB := nHB; have Bg2 := Lib.hid hbx; clear nHB hg hbx hb)
    | ((with_reducible refine gate_dst (N := 4) rfl ?_); refine box_event ?hg (N := 4) ?hd (cs := #[.slice none 0 0, .bool false, .int .i64 0]) (t := 24) ?hr ?_; (case hd => rfl); (case hg => rfl); (case hr => first | (go_simp; done) | (go_simp; rfl)); intro g4 hg w4 hbx hb; have Eg4 : w.heap.size ≤ g4 := (by rw [hg]; exact HB.out.size); have Ng2g4 : g2 ≠ g4 := (by rw [hg]; exact Nat.ne_of_lt (blk_lt Bg2.out)); have Ng4g2 : g4 ≠ g2 := Ng2g4.symm; have nBg2 := Lib.hid (blk_below Bg2.out hb); have nHB := Lib.hid (below_step HB.out hb); clear Bg2 HB; have Bg2 := nBg2; have HB := nHB; have Bg4 := Lib.hid hbx; clear nBg2 nHB hg hbx hb; have q0 := (blk_cell Bg2.out 0).trans rfl; have q1 := (blk_cell Bg2.out 1).trans rfl; have q2 := (blk_cell Bg2.out 2).trans rfl)
    | (go_at_call 18; refine (check_calls A c l down fuse _ (Kd.C_below HR.out HB.out)).mono ?_; rintro e w5 ⟨rfl, hb⟩; have nBg2 := Lib.hid (blk_below Bg2.out hb); have nBg4 := Lib.hid (blk_below Bg4.out hb); have nHB := Lib.hid (below_step HB.out hb); clear Bg2 Bg4 HB; have Bg2 := nBg2; have Bg4 := nBg4; have HB := nHB; clear nBg2 nBg4 nHB hb; clear q0 q1 q2; rw [HK.out]; have r0 := (blk_cell Bg4.out 0).trans rfl; have z0 := blk_frozen Bg4.out 0; have r1 := (blk_cell Bg4.out 1).trans rfl; have z1 := blk_frozen Bg4.out 1; have r2 := (blk_cell Bg4.out 2).trans rfl; have z2 := blk_frozen Bg4.out 2))
  refine bodyPost_ret (results_ct rfl _ _ g4 24 #[.slice none 0 0, .bool false, .int .i64 0] (0, 0) _ rfl (blk_put (blk_put (blk_put Bg4.out 0 _ rfl) 1 _ rfl) 2 _ rfl) Try.underlying24 rfl (by kernel_rfl)) rfl ?_
  exact ⟨rfl, below_set (below_set (below_set HB.out Eg4) Eg4) Eg4⟩
def crashA (l : List S41) (keep : Int) : Ans := if ok l = true then ⟨l.map (crashF keep), false, -1, 0⟩ else ⟨[], false, 0, 6⟩
theorem crash_calls (A : Option Addr) (c : Nat) (l : List S41) (down : Bool) (fuse keep : Int) (w : World) (hr : Kd.C k41 w A l.length l) (hn : l.length < 3518437208883) :
    Calls Try.prog 14 #[.agg #[.slice A l.length c, .bool down, .int .i64 fuse], .int .i64 keep] w fun e w' => ∃ v, e = .returned (.tuple #[.agg #[v, .bool (crashA l keep).down, .int .i64 (crashA l keep).fuse], .int .i64 (crashA l keep).why]) ∧ Kd.R k41 41 w' w.heap.size (fun _ => True) v (crashA l keep).files ∧ Below w.heap.size w w' := by
  rcases ho : ok l with _ | _
  · refine (crash_bad A c l down fuse keep w hr ho).mono ?_
    rintro e w' ⟨rfl, hb⟩
    have hE : crashA l keep = ⟨[], false, 0, 6⟩ := if_neg (by simp [ho])
    rw [hE]
    exact ⟨_, rfl, Kd.R_nil _ _ _ _ _, hb⟩
  · have hE : crashA l keep = ⟨l.map (crashF keep), false, -1, 0⟩ := if_pos ho
    rw [hE]
    exact crash_ok A c l down fuse keep w hr hn ho
end Go.Proofs.Ytebngchdmpabhaa.Disk
