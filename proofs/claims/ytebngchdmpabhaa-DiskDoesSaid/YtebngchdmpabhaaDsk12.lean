/- Package disk: the steps that the laws ask for, and what becomes of them. No condition. -/
import Derived.Test.YtebngchdmpabhaaDsk11
namespace Go.Proofs.Ytebngchdmpabhaa.Disk
open Go.RowKit Go.Proofs.Ytebngchdmpabhaa.G Go.Proofs.YtebngchdmpabhaaW.PrintWords Go.Proofs.YtebngchdmpabhaaW.PrintLast Go.Proofs.YtebngchdmpabhaaW.PrintMore Go.Proofs.YtebngchdmpabhaaW.Raw
set_option linter.unusedVariables false
set_option linter.unusedSimpArgs false
set_option maxRecDepth 100000 in
theorem put_step_calls (a b : ByteArray) (w : World) : Calls Try.prog 21 #[.string a, .string b] w fun e w' => e = .returned (.agg #[.int .u8 1, .string a, .string ⟨#[]⟩, .string b]) ∧ Below w.heap.size w w' := by
  go_enter Try.func21, Try.ntmps21
  go_wp2
  refine bodyPost_ret (results_cell_row rfl _ _ w.heap.size 27 #[.int .u8 1, .string a, .string ⟨#[]⟩, .string b] (0, 0) _ rfl (blk_new w _) Try.underlying27 rfl (by kernel_rfl)) rfl ?_
  exact ⟨rfl, (Below.refl _ _).alloc (Nat.le_refl _) _⟩
set_option maxRecDepth 100000 in
theorem sync_step_calls (a : ByteArray) (w : World) : Calls Try.prog 32 #[.string a] w fun e w' => e = .returned (.agg #[.int .u8 2, .string a, .string ⟨#[]⟩, .string ⟨#[]⟩]) ∧ Below w.heap.size w w' := by
  go_enter Try.func32, Try.ntmps32
  go_wp2
  refine bodyPost_ret (results_cell_row rfl _ _ w.heap.size 27 #[.int .u8 2, .string a, .string ⟨#[]⟩, .string ⟨#[]⟩] (0, 0) _ rfl (blk_new w _) Try.underlying27 rfl (by kernel_rfl)) rfl ?_
  exact ⟨rfl, (Below.refl _ _).alloc (Nat.le_refl _) _⟩
set_option maxRecDepth 100000 in
theorem move_step_calls (a b : ByteArray) (w : World) : Calls Try.prog 20 #[.string a, .string b] w fun e w' => e = .returned (.agg #[.int .u8 3, .string a, .string b, .string ⟨#[]⟩]) ∧ Below w.heap.size w w' := by
  go_enter Try.func20, Try.ntmps20
  go_wp2
  refine bodyPost_ret (results_cell_row rfl _ _ w.heap.size 27 #[.int .u8 3, .string a, .string b, .string ⟨#[]⟩] (0, 0) _ rfl (blk_new w _) Try.underlying27 rfl (by kernel_rfl)) rfl ?_
  exact ⟨rfl, (Below.refl _ _).alloc (Nat.le_refl _) _⟩
def stepsL : List S27 := [⟨1, ⟨#[97]⟩, ⟨#[]⟩, ⟨#[120, 121]⟩⟩, ⟨2, ⟨#[97]⟩, ⟨#[]⟩, ⟨#[]⟩⟩, ⟨3, ⟨#[97]⟩, ⟨#[98]⟩, ⟨#[]⟩⟩, ⟨1, ⟨#[97]⟩, ⟨#[]⟩, ⟨#[122]⟩⟩]
def filesAt : Nat → List S41
  | 0 => []
  | 1 => [⟨⟨#[97]⟩, ⟨#[120, 121]⟩, 0⟩]
  | 2 => [⟨⟨#[97]⟩, ⟨#[120, 121]⟩, 2⟩]
  | 3 => [⟨⟨#[98]⟩, ⟨#[120, 121]⟩, 2⟩]
  | _ => [⟨⟨#[97]⟩, ⟨#[122]⟩, 0⟩, ⟨⟨#[98]⟩, ⟨#[120, 121]⟩, 2⟩]
theorem lives_do : ∀ k, k < 4 → doA (filesAt k) false (-1) (stepsL.getD k z27).f0 (stepsL.getD k z27).f1 (stepsL.getD k z27).f2 (stepsL.getD k z27).f3 = ⟨filesAt (k + 1), false, -1, 0⟩
  | 0, _ => by kernel_rfl
  | 1, _ => by kernel_rfl
  | 2, _ => by kernel_rfl
  | 3, _ => by kernel_rfl
  | k + 4, h => by omega
def filesC : List S41 := [⟨⟨#[97]⟩, ⟨#[]⟩, 0⟩, ⟨⟨#[98]⟩, ⟨#[120, 121]⟩, 2⟩]
theorem lives_crash : crashA (filesAt 4) 0 = ⟨filesC, false, -1, 0⟩ := by kernel_rfl
theorem lives_a : readS filesC false ⟨#[97]⟩ = ⟨#[]⟩ ∧ readN filesC false ⟨#[97]⟩ = 0 := ⟨by kernel_rfl, by kernel_rfl⟩
theorem lives_b : readS filesC false ⟨#[98]⟩ = ⟨#[120, 121]⟩ ∧ readN filesC false ⟨#[98]⟩ = 0 := ⟨by kernel_rfl, by kernel_rfl⟩
theorem lives_c : readN filesC false ⟨#[99]⟩ = 7 := by kernel_rfl
theorem lives_bad : okN [z41] = 6 := by kernel_rfl
theorem C_one (w : World) : Kd.C k41 (w.alloc (.cells #[.string ⟨#[]⟩, .string ⟨#[]⟩, .int .i64 0] 41)) (some ⟨w.heap.size, 0, none⟩) 1 [z41] := by
  have h : Kd.R k41 41 (w.alloc (.cells #[.string ⟨#[]⟩, .string ⟨#[]⟩, .int .i64 0] 41)) 0 (fun _ => True) (.slice (some ⟨w.heap.size, 0, none⟩) 1 1) [z41] := by
    refine ⟨fun _ _ => trivial, [.string ⟨#[]⟩, .string ⟨#[]⟩, .int .i64 0], ?_, ?_⟩
    · have h2 := World.ownsRow_lit (base := 0) (e := 41) (size := 3) w #[.string ⟨#[]⟩, .string ⟨#[]⟩, .int .i64 0] 1 (Nat.zero_le _) (by decide) (by decide)
      exact (by simpa using h2 : World.ownsRow _ 0 41 3 _ 1 _)
    · exact Reps.c3 (k41_mkM _ _ _ z41) (Reps.none _ _)
  exact (Kd.R_reads' h).2.2
set_option maxHeartbeats 4000000 in
set_option maxRecDepth 100000 in
theorem lives_calls (w : World) : Calls Try.prog 16 #[] w fun e w' => e = .returned (.bool true) ∧ Below w.heap.size w w' := by
  go_enter Try.func16, Try.ntmps16
  go_wp2_with (first
    | (go_at_call 21; refine (put_step_calls _ _ _).mono ?_; rintro e w2 ⟨rfl, hb⟩; first | (have nBg1 := Lib.hid (blk_below Bg1.out hb); have nHB := Lib.hid (below_step HB.out hb); clear Bg1 HB; have Bg1 := nBg1; have HB := nHB; clear nBg1 nHB hb) | (have Bg1 : Hid (w2.heap[w.heap.size]? = some (.cells #[.slice none 0 0, .bool false, .int .i64 (-1)] 24 (0, 0))) := Lib.hid (blk_below (blk_new w _) hb); have HB : Hid (Below w.heap.size w w2) := Lib.hid (below_step ((Below.refl _ _).alloc (Nat.le_refl _) _) hb); clear hb))
    | (go_at_call 32; refine (sync_step_calls _ _).mono ?_; rintro e w2 ⟨rfl, hb⟩; (have nBg1 := Lib.hid (blk_below Bg1.out hb); have nHB := Lib.hid (below_step HB.out hb); clear Bg1 HB; have Bg1 := nBg1; have HB := nHB; clear nBg1 nHB hb))
    | (go_at_call 20; refine (move_step_calls _ _ _).mono ?_; rintro e w2 ⟨rfl, hb⟩; (have nBg1 := Lib.hid (blk_below Bg1.out hb); have nHB := Lib.hid (below_step HB.out hb); clear Bg1 HB; have Bg1 := nBg1; have HB := nHB; clear nBg1 nHB hb))
    | ((with_reducible refine gate_dst (N := 19) rfl ?_); refine Kd.R_lit (w0 := w) k27 w.heap.size 27 ?hg (N := 19) ?hd (xs := stepsL) (inner := [.int .u8 1, .string ⟨#[97]⟩, .string ⟨#[]⟩, .string ⟨#[120, 121]⟩, .int .u8 2, .string ⟨#[97]⟩, .string ⟨#[]⟩, .string ⟨#[]⟩, .int .u8 3, .string ⟨#[97]⟩, .string ⟨#[98]⟩, .string ⟨#[]⟩, .int .u8 1, .string ⟨#[97]⟩, .string ⟨#[]⟩, .string ⟨#[122]⟩]) (ok := fun _ => True) (okp := fun _ => True) ?hr ?hp (fun _ hk => hk) trivial HB.out HB.out.size (Nat.le_of_ble_eq_true rfl) ?_; (case hd => rfl); (case hg => rfl); (case hr => first | (go_simp; done) | (go_simp; rfl)); (case hp => exact Reps.c4 (k27_mkM _ _ _ ⟨1, ⟨#[97]⟩, ⟨#[]⟩, ⟨#[120, 121]⟩⟩) (Reps.c4 (k27_mkM _ _ _ ⟨2, ⟨#[97]⟩, ⟨#[]⟩, ⟨#[]⟩⟩) (Reps.c4 (k27_mkM _ _ _ ⟨3, ⟨#[97]⟩, ⟨#[98]⟩, ⟨#[]⟩⟩) (Reps.c4 (k27_mkM _ _ _ ⟨1, ⟨#[97]⟩, ⟨#[]⟩, ⟨#[122]⟩⟩) (Reps.none _ _))))); intro v1 w3 ho hb hg_ hnew_; have nBg1 := Lib.hid ((hg_.block w.heap.size (blk_lt Bg1.out) (fun h => by cases h)).trans Bg1.out); clear Bg1 HB; have Bg1 := nBg1; have HB := Lib.hid hb; have HQ := Lib.hid ho; clear nBg1 ho hb hg_ hnew_; obtain ⟨AQ, cQ, rfl⟩ := Kd.R_slice HQ.out))
  have hl4 : stepsL.length = 4 := rfl
  rw [hl4] at HQ ⊢
  have hi4 : ((4 : Nat) : Int) = 4 := rfl
  rw [hi4]
  clear hi4
  go_loopw [2, 21] (fun vy vi wr => ∃ (k : Nat), k ≤ 4 ∧ vi = .int .i64 k ∧ vy = .int .i64 0 ∧ Hid (∃ v, wr.heap[w.heap.size]? = some (.cells #[v, .bool false, .int .i64 (-1)] 24 (0, 0)) ∧ Kd.R k41 41 wr w.heap.size (fun _ => True) v (filesAt k)) ∧ Hid (Kd.R k27 27 wr w.heap.size (fun _ => True) (.slice AQ 4 cQ) stepsL) ∧ Hid (Below w.heap.size w wr)) (fun _ vi _ => 4 - (intOf vi).toNat)
  case atStart => exact ⟨0, Nat.zero_le _, rfl, rfl, Lib.hid ⟨_, Bg1.out, Kd.R_nil _ _ _ _ _⟩, HQ, HB⟩
  case round =>
    clear Bg1 HQ HB
    obtain ⟨k, hk, rfl, rfl, HD, HQ, HB⟩ := hrel
    obtain ⟨v, hg1, hr⟩ := HD.out
    obtain ⟨A1, c1, rfl, hlc, hC1⟩ := Kd.R_reads hr
    clear HD
    have Eg1 : w.heap.size ≤ w.heap.size := Nat.le_refl _
    by_cases hlt : k < 4
    · obtain ⟨ad, eA, x0, x1, x2, x3⟩ := at_T27 (Kd.R_reads' HQ.out).2.2 (k : Int) (by omega) (by omega)
      simp only [Int.toNat_natCast] at x0 x1 x2 x3
      have hget : rd_T27 stepsL (k : Int) = stepsL.getD k z27 := by simp [rd_T27]
      rw [hget] at x0 x1 x2 x3
      have HA := Lib.hid (lives_do k hlt)
      obtain ⟨Q, hQ⟩ : ∃ Q, Q = stepsL.getD k z27 := ⟨_, rfl⟩
      rw [← hQ] at x0 x1 x2 x3 HA
      have hsz : Q.f3.size ≤ 9223372036854775807 := by
        rw [hQ]
        have : k = 0 ∨ k = 1 ∨ k = 2 ∨ k = 3 := by omega
        rcases this with rfl | rfl | rfl | rfl <;> exact Nat.le_of_ble_eq_true rfl
      have hln : (filesAt k).length < 3518437208883 := by
        have : k = 0 ∨ k = 1 ∨ k = 2 ∨ k = 3 := by omega
        rcases this with rfl | rfl | rfl | rfl <;> exact Nat.lt_of_lt_of_le (Nat.lt_of_lt_of_le (by decide : _ < 4) (by decide)) (Nat.le_refl _)
      clear hget hQ
      subst eA
      have Bg1 := Lib.hid hg1
      have HC1 := Lib.hid hC1
      have q0 := (blk_cell Bg1.out 0).trans rfl
      have q1 := (blk_cell Bg1.out 1).trans rfl
      have q2 := (blk_cell Bg1.out 2).trans rfl
      have hlw := blk_lt hg1
      have hii : (k : Int) < 4 := by omega
      clear hg1 hr hC1 hlc
      go_wp2_with (first
        | (go_at_call 10; refine (do_calls A1 c1 (filesAt k) false (-1) Q.f0 Q.f1 Q.f2 Q.f3 _ (Kd.C_below HC1.out ((Below.refl _ _).alloc (Nat.le_refl _) _)) hln hsz (by omega)).mono ?_; rw [HA.out]; rintro e w5 ⟨v5, rfl, hr5, hb⟩; have nBg1 := Lib.hid (blk_below ((blk_alloc Bg1.out _)) hb); have nHB := Lib.hid (below_step (HB.out.alloc HB.out.size _) hb); have nHQ := Lib.hid (Kd.R_below HQ.out (((Below.refl _ _).alloc (Nat.le_refl _) _).trans (hb.mono (by simp)))); have HR5 := Lib.hid (Kd.R_lower hr5 (Nat.le_trans HB.out.size (by simp)) : Kd.R k41 41 w5 w.heap.size _ _ _); clear Bg1 HB HQ q0 q1 q2 x0 x1 x2 x3 hb hr5 HC1; have Bg1 := nBg1; have HB := nHB; have HQ := nHQ; clear nBg1 nHB nHQ; obtain ⟨A5, c5, rfl⟩ := Kd.R_slice HR5.out; have q0 := (blk_cell Bg1.out 0).trans rfl; have q1 := (blk_cell Bg1.out 1).trans rfl; have q2 := (blk_cell Bg1.out 2).trans rfl; have z0 := blk_frozen Bg1.out 0; have z1 := blk_frozen Bg1.out 1; have z2 := blk_frozen Bg1.out 2))
      go_roundw
      case rel => exact ⟨k + 1, hlt, by simp, rfl, Lib.hid ⟨_, blk_put (blk_put (blk_put Bg1.out 0 _ rfl) 1 _ rfl) 2 _ rfl, Kd.R_mono (Kd.R_far (p := ⟨w.heap.size, 2, none⟩) (Kd.R_far (p := ⟨w.heap.size, 1, none⟩) (Kd.R_far (p := ⟨w.heap.size, 0, none⟩) (Kd.R_types HR5.out Bg1.out (by decide)) (fun _ hk => hk.2) _) (fun _ hk => hk.2) _) (fun _ hk => hk.2) _) (fun _ _ => trivial)⟩, Lib.hid (Kd.R_mono (Kd.R_far (p := ⟨w.heap.size, 2, none⟩) (Kd.R_far (p := ⟨w.heap.size, 1, none⟩) (Kd.R_far (p := ⟨w.heap.size, 0, none⟩) (Kd.R_types HQ.out Bg1.out (by decide)) (fun _ hk => hk.2) _) (fun _ hk => hk.2) _) (fun _ hk => hk.2) _) (fun _ _ => trivial)), Lib.hid (below_set (below_set (below_set HB.out Eg1) Eg1) Eg1)⟩
      case measure => simp [intOf]; omega
    · obtain rfl : k = 4 := by omega
      have Bg1 := Lib.hid hg1
      have HC1 := Lib.hid hC1
      have q0 := (blk_cell Bg1.out 0).trans rfl
      have q1 := (blk_cell Bg1.out 1).trans rfl
      have q2 := (blk_cell Bg1.out 2).trans rfl
      clear hg1 hr hC1 hlc HQ
      go_wp2_with (first
        | (go_at_call 14; refine (crash_calls A1 c1 (filesAt 4) false (-1) 0 _ HC1.out (Nat.lt_of_lt_of_le (by decide : _ < 4) (by decide))).mono ?_; rw [lives_crash]; rintro e w5 ⟨v5, rfl, hr5, hb⟩; have HB5 := Lib.hid (below_step HB.out hb); have HR5 := Lib.hid hr5; clear hb hr5 q0 q1 q2 HB Bg1 HC1; obtain ⟨A5, c5, e5, hlc5, hC5⟩ := Kd.R_reads HR5.out; subst e5; have HC5 := Lib.hid hC5; clear hC5)
        | (go_at_call 12; have M0 := HC5; refine (read_calls A5 c5 filesC false (-1) ⟨#[97]⟩ _ (Kd.C_alloc HC5.out _) (Nat.le_of_ble_eq_true rfl) hlc5).mono ?_; rw [lives_a.1, lives_a.2]; rintro e w6 ⟨rfl, hb⟩; have B6 := Lib.hid (blk_below (blk_new w5 _) hb); have HB6 := Lib.hid (below_step (HB5.out.alloc HB5.out.size _) hb); have HC6 := Lib.hid (Kd.C_below (Kd.C_alloc HC5.out _) hb); clear hb HB5 HR5 HC5 M0; have M1 := True.intro; have q0 := (blk_cell B6.out 0).trans rfl; have q1 := (blk_cell B6.out 1).trans rfl; have q2 := (blk_cell B6.out 2).trans rfl)
        | (go_at_call 12; have M2 := M1; clear M1; refine (read_calls A5 c5 filesC false (-1) ⟨#[98]⟩ _ HC6.out (Nat.le_of_ble_eq_true rfl) hlc5).mono ?_; rw [lives_b.1, lives_b.2]; rintro e w7 ⟨rfl, hb⟩; have nB6 := Lib.hid (blk_below B6.out hb); have nHB6 := Lib.hid (below_step HB6.out hb); have nHC6 := Lib.hid (Kd.C_below HC6.out hb); clear hb B6 HB6 HC6 q0 q1 q2; have B6 := nB6; have HB6 := nHB6; have HC6 := nHC6; clear nB6 nHB6 nHC6; have q0 := (blk_cell B6.out 0).trans rfl; have q1 := (blk_cell B6.out 1).trans rfl; have q2 := (blk_cell B6.out 2).trans rfl)
        | (go_at_call 12; have M3 := M2; clear M2; refine (read_calls A5 c5 filesC false (-1) ⟨#[99]⟩ _ HC6.out (Nat.le_of_ble_eq_true rfl) hlc5).mono ?_; rw [lives_c]; rintro e w8 ⟨rfl, hb⟩; have nB6 := Lib.hid (blk_below B6.out hb); have nHB6 := Lib.hid (below_step HB6.out hb); have nHC6 := Lib.hid (Kd.C_below HC6.out hb); clear hb B6 HB6 HC6 q0 q1 q2; have B6 := nB6; have HB6 := nHB6; have HC6 := nHC6; clear nB6 nHB6 nHC6; have q0 := (blk_cell B6.out 0).trans rfl; have q1 := (blk_cell B6.out 1).trans rfl; have q2 := (blk_cell B6.out 2).trans rfl)
        | (go_at_call 18; refine (check_calls (some ⟨w8.heap.size, 0, none⟩) 1 [z41] false 0 _ (C_one w8)).mono ?_; rintro e w10 ⟨rfl, hb⟩; rw [lives_bad]; have HB10 := Lib.hid (below_step (HB6.out.alloc HB6.out.size _) hb); clear hb))
      go_ret
      exact ⟨rfl, HB10.out⟩
end Go.Proofs.Ytebngchdmpabhaa.Disk
