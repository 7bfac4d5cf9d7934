/- Package disk: the reference's Same, of two disks that are one; what a crash leaves is right, and is left by another crash. No condition. -/
import Derived.Test.YtebngchdmpabhaaDsk13
import Derived.Test.YtebngchdmpabhaaGx1
namespace Go.Proofs.Ytebngchdmpabhaa.Disk
open Go.RowKit Go.Proofs.Ytebngchdmpabhaa.G Go.Proofs.YtebngchdmpabhaaW.PrintWords Go.Proofs.YtebngchdmpabhaaW.PrintLast Go.Proofs.YtebngchdmpabhaaW.PrintMore Go.Proofs.YtebngchdmpabhaaW.Raw
set_option linter.unusedVariables false
set_option linter.unusedSimpArgs false
theorem kept_range (keep : Int) (f : S41) (h0 : 0 ≤ f.f2) (h1 : f.f2 ≤ (f.f1.size : Int)) : 0 ≤ keptN keep f ∧ keptN keep f ≤ (f.f1.size : Int) ∧ f.f2 ≤ keptN keep f := by
  unfold keptN; omega
theorem crashF_size (keep : Int) (f : S41) (h0 : 0 ≤ f.f2) (h1 : f.f2 ≤ (f.f1.size : Int)) : ((crashF keep f).f1.size : Int) = keptN keep f := by
  have := kept_range keep f h0 h1
  show ((f.f1.extract 0 (keptN keep f).toNat).size : Int) = _
  rw [ByteArray.size_extract]; omega
theorem crash_ok_files (keep : Int) : ∀ (l : List S41) (last : ByteArray) (room room' : Int), okFiles last room l = true → room ≤ room' → okFiles last room' (l.map (crashF keep)) = true
  | [], _, _, _, _, _ => rfl
  | f :: l, last, room, room', h, hr => by
    simp only [okFiles, okFile, Bool.and_eq_true, decide_eq_true_eq] at h
    obtain ⟨⟨⟨⟨h1, h2⟩, h3⟩, h4⟩, h5⟩ := h
    have hs := crashF_size keep f h2 h3
    have hk := kept_range keep f h2 h3
    have h2' : (crashF keep f).f2 = ((crashF keep f).f1.size : Int) := rfl
    have hn : (crashF keep f).f0 = f.f0 := rfl
    simp only [List.map_cons, okFiles, okFile, Bool.and_eq_true, decide_eq_true_eq]
    refine ⟨⟨⟨⟨by rw [hn]; exact h1, by omega⟩, by omega⟩, by omega⟩, ?_⟩
    rw [hn]
    exact crash_ok_files keep l _ _ _ h5 (by omega)
theorem crash_ok_all {l : List S41} (keep : Int) (h : ok l = true) : ok (l.map (crashF keep)) = true := crash_ok_files keep l _ _ _ h (Int.le_refl _)
theorem extract_all (b : ByteArray) (n : Nat) (h : n = b.size) : b.extract 0 n = b := by
  subst h; simp
theorem crashF_again (keep again : Int) (f : S41) (h0 : 0 ≤ f.f2) (h1 : f.f2 ≤ (f.f1.size : Int)) : crashF again (crashF keep f) = crashF keep f := by
  have h2' : (crashF keep f).f2 = ((crashF keep f).f1.size : Int) := rfl
  have hk : keptN again (crashF keep f) = ((crashF keep f).f1.size : Int) := by unfold keptN; rw [h2']; omega
  have he : (crashF keep f).f1.extract 0 (keptN again (crashF keep f)).toNat = (crashF keep f).f1 := extract_all _ _ (by rw [hk]; omega)
  unfold crashF at he ⊢
  simp only at he ⊢
  rw [he]
theorem crash_again {l : List S41} (keep again : Int) (h : ok l = true) : (l.map (crashF keep)).map (crashF again) = l.map (crashF keep) := by
  rw [List.map_map]
  refine List.map_congr_left fun f hf => ?_
  have := okFiles_file l _ _ h f hf
  exact crashF_again keep again f this.1 this.2.1
attribute [local go_sem high] eqA41
set_option maxHeartbeats 4000000 in
set_option maxRecDepth 100000 in
theorem same_calls (A B : Option Addr) (c d : Nat) (l : List S41) (down : Bool) (fuse : Int) (w : World) (ha : Kd.C k41 w A l.length l) (hb : Kd.C k41 w B l.length l) (hn : l.length < 4611686018427387904) :
    Calls Try.prog 17 #[.agg #[.slice A l.length c, .bool down, .int .i64 fuse], .agg #[.slice B l.length d, .bool down, .int .i64 fuse]] w fun e w' => e = .returned (.bool true) ∧ Below w.heap.size w w' := by
  have HA := Lib.hid ha
  have HB := Lib.hid hb
  clear ha hb
  obtain ⟨n, hn'⟩ : ∃ n, n = l.length := ⟨_, rfl⟩
  have HN := Lib.hid hn'
  rw [← hn'] at HA HB hn ⊢
  clear hn'
  go_enter Try.func17, Try.ntmps17
  go_wp2
  obtain ⟨W, hW⟩ : ∃ W, W = ((w.alloc (.cells #[.slice A n c, .bool down, .int .i64 fuse] 24 (0, 0))).alloc (.cells #[.slice B n d, .bool down, .int .i64 fuse] 24 (0, 0))) := ⟨_, rfl⟩
  have B1 : Hid (W.heap[w.heap.size]? = some (.cells #[.slice A n c, .bool down, .int .i64 fuse] 24 (0, 0))) := Lib.hid (by rw [hW]; exact blk_alloc (blk_new w _) _)
  have B2 : Hid (W.heap[w.heap.size + 1]? = some (.cells #[.slice B n d, .bool down, .int .i64 fuse] 24 (0, 0))) := Lib.hid (by rw [hW]; have h := blk_new (w.alloc (.cells #[.slice A n c, .bool down, .int .i64 fuse] 24 (0, 0))) (.cells #[.slice B n d, .bool down, .int .i64 fuse] 24 (0, 0)); have hs : (w.alloc (.cells #[.slice A n c, .bool down, .int .i64 fuse] 24 (0, 0))).heap.size = w.heap.size + 1 := Array.size_push _; rw [hs] at h; exact h)
  have HW : Hid (Below w.heap.size w W) := Lib.hid (by rw [hW]; exact ((Below.refl _ _).alloc (Nat.le_refl _) _).alloc (by simp) _)
  rw [← hW]
  clear hW
  go_loopw [30] (fun vi wr => ∃ k : Nat, k ≤ n ∧ vi = .int .i64 k ∧ Hid (Below W.heap.size W wr)) (fun vi _ => n - (intOf vi).toNat)
  case atStart => exact ⟨0, Nat.zero_le _, rfl, Lib.hid (Below.refl _ _)⟩
  case round =>
    obtain ⟨k, hk, rfl, HX⟩ := hrel
    have C1 := blk_below B1.out HX.out
    have C2 := blk_below B2.out HX.out
    have q0 := (blk_cell C1 0).trans rfl
    have r0 := (blk_cell C2 0).trans rfl
    have HY := Lib.hid (below_step HW.out HX.out)
    clear C1 C2
    by_cases hlt : k < n
    · obtain ⟨ad, eA, x0, x1, x2⟩ := at_T41 (Kd.C_below (n := n) (xs := l) HA.out HY.out) (k : Int) (by omega) (by omega)
      obtain ⟨bd, eB, y0, y1, y2⟩ := at_T41 (Kd.C_below (n := n) (xs := l) HB.out HY.out) (k : Int) (by omega) (by omega)
      simp only [Int.toNat_natCast] at x0 x1 x2 y0 y1 y2
      obtain ⟨F, hF⟩ : ∃ F, F = rd_T41 l (k : Int) := ⟨_, rfl⟩
      rw [← hF] at x0 x1 x2 y0 y1 y2
      clear hF
      subst eA eB
      have hii : (k : Int) < (n : Int) := by omega
      go_wp2
      go_quiet (fail)
      go_wp2
      exact ⟨⟨k + 1, hlt, by simp, Lib.hid (pw_below_drewN HX.out _)⟩, by simp [intOf]; omega⟩
    · obtain rfl : k = n := by omega
      go_wp2
      go_ret
      exact ⟨rfl, HY.out⟩
end Go.Proofs.Ytebngchdmpabhaa.Disk
