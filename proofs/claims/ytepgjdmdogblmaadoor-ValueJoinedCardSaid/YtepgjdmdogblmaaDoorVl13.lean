/- Package value: numbers added, taken away, multiplied: what the program and what the document answer. No condition but that they are 64 bits. -/
import Derived.Test.YtepgjdmdogblmaaDoorVl12
namespace Go.Proofs.YtepgjdmdogblmaaDoor.Val
open Go.RowKit Go.Proofs.YtepgjdmdogblmaaDoor.G Go.Proofs.YtepgjdmdogblmaaDoorW.PrintWords Go.Proofs.YtepgjdmdogblmaaDoorW.PrintLast Go.Proofs.YtepgjdmdogblmaaDoorW.PrintMore
set_option linter.unusedVariables false
set_option linter.unusedSimpArgs false
def I64 (n : Int) : Prop := -9223372036854775808 ≤ n ∧ n ≤ 9223372036854775807
/-- a number that fits, or none -/
def fitN (n : Int) : Int := if -9223372036854775808 ≤ n ∧ n ≤ 9223372036854775807 then n else 0
def fitW (n : Int) : Int := if -9223372036854775808 ≤ n ∧ n ≤ 9223372036854775807 then 0 else 16
theorem wrap_id {n : Int} (h : I64 n) : wrap64 n = n := by unfold I64 at h; unfold wrap64; omega
theorem add_f (a b : Int) (ha : I64 a) (hb : I64 b) : value_Add.f a b = some (fitN (a + b), fitW (a + b)) := by
  unfold I64 at ha hb
  simp only [value_Add.f, fitN, fitW, wrap64]
  repeat' split
  all_goals first | (exfalso; omega) | (congr 2; omega) | rfl
theorem radd_f (a b : Int) (ha : I64 a) (hb : I64 b) : potsherdref01_Add.f a b = some (fitN (a + b), fitW (a + b)) := by
  unfold I64 at ha hb
  simp only [potsherdref01_Add.f, fitN, fitW, wrap64, bne_iff_ne, ne_eq, decide_eq_decide]
  repeat' split
  all_goals first | (exfalso; omega) | (congr 2; omega) | rfl
theorem sub_f (a b : Int) (ha : I64 a) (hb : I64 b) : value_Sub.f a b = some (fitN (a - b), fitW (a - b)) := by
  unfold I64 at ha hb
  simp only [value_Sub.f, fitN, fitW, wrap64]
  repeat' split
  all_goals first | (exfalso; omega) | (congr 2; omega) | rfl
theorem rsub_f (a b : Int) (ha : I64 a) (hb : I64 b) : potsherdref01_Sub.f a b = some (fitN (a - b), fitW (a - b)) := by
  unfold I64 at ha hb
  simp only [potsherdref01_Sub.f, fitN, fitW, wrap64, bne_iff_ne, ne_eq, decide_eq_decide]
  repeat' split
  all_goals first | (exfalso; omega) | (congr 2; omega) | rfl
/-- a quotient is the factor just where nothing was wrapped -/
theorem tdiv_fits {a b : Int} (ha : I64 a) (hb : I64 b) (h0 : b ≠ 0) (h1 : b ≠ -1) : wrap64 (Int.tdiv (wrap64 (a * b)) b) = a ↔ I64 (a * b) := by
  obtain ⟨p, hp⟩ : ∃ p, p = a * b := ⟨_, rfl⟩
  rw [← hp]
  obtain ⟨n, hn⟩ : ∃ n, n = wrap64 p := ⟨_, rfl⟩
  have hn1 : I64 n := by rw [hn]; unfold I64 wrap64; omega
  have hd := Int.tdiv_mul_add_tmod n b
  have hr : (n.tmod b).natAbs < b.natAbs := by
    rw [Int.natAbs_tmod]
    exact Nat.mod_lt _ (by omega)
  have hle : (n.tdiv b).natAbs ≤ n.natAbs := by
    rw [Int.natAbs_tdiv]
    exact Nat.div_le_self ..
  rw [← hn]
  obtain ⟨q, hq⟩ : ∃ q, q = n.tdiv b := ⟨_, rfl⟩
  obtain ⟨r, hr'⟩ : ∃ r, r = n.tmod b := ⟨_, rfl⟩
  rw [← hq, ← hr'] at hd
  rw [← hr'] at hr
  rw [← hq] at hle ⊢
  unfold I64 at ha hb hn1
  have hq1 : q ≠ 9223372036854775808 := by
    rintro rfl
    omega
  have hwq : wrap64 q = q := wrap_id ⟨by omega, by omega⟩
  rw [hwq]
  constructor
  · rintro rfl
    rw [← hp] at hd
    unfold wrap64 at hn
    unfold I64
    omega
  · intro h
    have e : n = p := by rw [hn]; exact wrap_id h
    rw [hq, e, hp]
    exact Int.mul_tdiv_cancel a h0
theorem rmul_f (a b : Int) (ha : I64 a) (hb : I64 b) : potsherdref01_Mul.f a b = some (fitN (a * b), fitW (a * b)) := by
  have key : ∀ x : Int × Int, x = (fitN (a * b), fitW (a * b)) → some x = some (fitN (a * b), fitW (a * b)) := fun x h => by rw [h]
  have hfit : I64 (a * b) → (wrap64 (a * b), (0 : Int)) = (fitN (a * b), fitW (a * b)) := fun h => by
    rw [wrap_id h]
    unfold fitN fitW
    unfold I64 at h
    rw [if_pos h, if_pos h]
  have hnot : ¬ I64 (a * b) → ((0 : Int), (16 : Int)) = (fitN (a * b), fitW (a * b)) := fun h => by
    unfold fitN fitW
    unfold I64 at h
    rw [if_neg h, if_neg h]
  have h64a := ha
  have h64b := hb
  unfold I64 at ha hb
  by_cases hb0 : b = 0
  · subst hb0
    have hz : I64 (a * 0) := by rw [Int.mul_zero]; unfold I64; omega
    simp only [potsherdref01_Mul.f]
    repeat' split
    all_goals first | (exact key _ (hfit hz)) | (exfalso; omega) | (exact absurd trivial (by assumption))
  · by_cases hb1 : b = -1
    · subst hb1
      have hz : a ≠ -9223372036854775808 → I64 (a * -1) := fun h => by unfold I64; omega
      have hz2 : a = -9223372036854775808 → ¬ I64 (a * -1) := fun h => by unfold I64; omega
      simp only [potsherdref01_Mul.f]
      repeat' split
      all_goals first | (exact key _ (hfit (hz (by omega)))) | (exact key _ (hnot (hz2 (by omega)))) | (exfalso; omega) | (exact absurd trivial (by assumption))
    · have ht := tdiv_fits h64a h64b hb0 hb1
      by_cases hfits : I64 (a * b)
      · have ht' := ht.2 hfits
        have hm : ¬ (a = -1 ∧ b = -9223372036854775808) := by
          rintro ⟨rfl, rfl⟩
          unfold I64 at hfits
          omega
        simp only [potsherdref01_Mul.f]
        repeat' split
        all_goals first | (exact key _ (hfit hfits)) | (exfalso; omega) | (exfalso; exact hm ⟨by assumption, by assumption⟩) | (exfalso; contradiction)
      · have ht' : ¬ wrap64 (Int.tdiv (wrap64 (a * b)) b) = a := fun h => hfits (ht.1 h)
        simp only [potsherdref01_Mul.f]
        repeat' split
        all_goals first | (exact key _ (hnot hfits)) | (exfalso; contradiction) | (exfalso; omega)
theorem add_calls (a b : Int) (w : World) (ha : I64 a) (hb : I64 b) : Calls Tryd.prog 26 #[.int .i64 a, .int .i64 b] w fun e w' => e = .returned (.tuple #[.int .i64 (fitN (a + b)), .int .i64 (fitW (a + b))]) ∧ Below w.heap.size w w' := by
  refine (value_Add.calls a b _ _ w (add_f a b ha hb)).mono ?_
  exact fun e w' h => ⟨h.1, h.2.below⟩
theorem radd_calls (a b : Int) (w : World) (ha : I64 a) (hb : I64 b) : Calls Tryd.prog 27 #[.int .i64 a, .int .i64 b] w fun e w' => e = .returned (.tuple #[.int .i64 (fitN (a + b)), .int .i64 (fitW (a + b))]) ∧ Below w.heap.size w w' := by
  refine (potsherdref01_Add.calls a b _ _ w (radd_f a b ha hb)).mono ?_
  exact fun e w' h => ⟨h.1, h.2.below⟩
theorem sub_calls (a b : Int) (w : World) (ha : I64 a) (hb : I64 b) : Calls Tryd.prog 28 #[.int .i64 a, .int .i64 b] w fun e w' => e = .returned (.tuple #[.int .i64 (fitN (a - b)), .int .i64 (fitW (a - b))]) ∧ Below w.heap.size w w' := by
  refine (value_Sub.calls a b _ _ w (sub_f a b ha hb)).mono ?_
  exact fun e w' h => ⟨h.1, h.2.below⟩
theorem rsub_calls (a b : Int) (w : World) (ha : I64 a) (hb : I64 b) : Calls Tryd.prog 29 #[.int .i64 a, .int .i64 b] w fun e w' => e = .returned (.tuple #[.int .i64 (fitN (a - b)), .int .i64 (fitW (a - b))]) ∧ Below w.heap.size w w' := by
  refine (potsherdref01_Sub.calls a b _ _ w (rsub_f a b ha hb)).mono ?_
  exact fun e w' h => ⟨h.1, h.2.below⟩
theorem rmul_calls (a b : Int) (w : World) (ha : I64 a) (hb : I64 b) : Calls Tryd.prog 30 #[.int .i64 a, .int .i64 b] w fun e w' => e = .returned (.tuple #[.int .i64 (fitN (a * b)), .int .i64 (fitW (a * b))]) ∧ Below w.heap.size w w' := by
  refine (potsherdref01_Mul.calls a b _ _ w (rmul_f a b ha hb)).mono ?_
  exact fun e w' h => ⟨h.1, h.2.below⟩
theorem size_calls (a : Int) (w : World) (ha : I64 a) : Calls Tryd.prog 53 #[.int .i64 a] w fun e w' => e = .returned (.int .u64 ((a.natAbs : Nat) : Int)) ∧ Below w.heap.size w w' := by
  refine (value_size.calls a ((a.natAbs : Nat) : Int) w ?_).mono ?_
  · unfold I64 at ha
    simp only [value_size.f, IntKind.wrap_u64]
    split
    · congr 1; omega
    · congr 1; omega
  · exact fun e w' h => ⟨h.1, h.2.below⟩
set_option maxHeartbeats 4000000 in
set_option maxRecDepth 100000 in
theorem mul_calls (a b : Int) (w : World) (ha : I64 a) (hb : I64 b) : Calls Tryd.prog 25 #[.int .i64 a, .int .i64 b] w fun e w' => e = .returned (.tuple #[.int .i64 (fitN (a * b)), .int .i64 (fitW (a * b))]) ∧ Below w.heap.size w w' := by
  have HB := Lib.hid (Below.refl w.heap.size w)
  have h64a := ha
  have h64b := hb
  unfold I64 at ha hb
  have hx : a.natAbs < 18446744073709551616 := by omega
  have hy : b.natAbs < 18446744073709551616 := by omega
  have habs : (a * b).natAbs = a.natAbs * b.natAbs := Int.natAbs_mul a b
  have hsgn : (decide (a < 0) != decide (b < 0)) = true → a * b ≤ 0 := by
    intro h
    rcases Int.lt_or_le a 0 with h1 | h1 <;> rcases Int.lt_or_le b 0 with h2 | h2
    · simp [h1, h2] at h
    · have := Int.mul_nonneg (show 0 ≤ -a by omega) h2
      rw [Int.neg_mul] at this; omega
    · have := Int.mul_nonneg h1 (show 0 ≤ -b by omega)
      rw [Int.mul_neg] at this; omega
    · simp [show ¬ a < 0 by omega, show ¬ b < 0 by omega] at h
  have hsgn2 : (decide (a < 0) != decide (b < 0)) = false → 0 ≤ a * b := by
    intro h
    rcases Int.lt_or_le a 0 with h1 | h1 <;> rcases Int.lt_or_le b 0 with h2 | h2
    · have := Int.mul_nonneg (show 0 ≤ -a by omega) (show 0 ≤ -b by omega)
      rw [Int.neg_mul_neg] at this; exact this
    · simp [h1, show ¬ b < 0 by omega] at h
    · simp [h2, show ¬ a < 0 by omega] at h
    · exact Int.mul_nonneg h1 h2
  obtain ⟨P, hP⟩ : ∃ P, P = a.natAbs * b.natAbs := ⟨_, rfl⟩
  obtain ⟨H, hH⟩ : ∃ H : Nat, H = P / 18446744073709551616 := ⟨_, rfl⟩
  obtain ⟨L, hL⟩ : ∃ L : Nat, L = P % 18446744073709551616 := ⟨_, rfl⟩
  have hc := fun w => Tryd.bits_Mul64 a.natAbs b.natAbs hx hy w
  rw [← hP, ← hH, ← hL] at hc
  rw [← hP] at habs
  obtain ⟨N, hN⟩ : ∃ N, N = a * b := ⟨_, rfl⟩
  rw [← hN] at habs hsgn hsgn2 ⊢
  have hfit : I64 N → fitN N = N ∧ fitW N = 0 := fun h => by
    unfold fitN fitW
    unfold I64 at h
    rw [if_pos h, if_pos h]; exact ⟨rfl, rfl⟩
  have hnot : ¬ I64 N → fitN N = 0 ∧ fitW N = 16 := fun h => by
    unfold fitN fitW
    unfold I64 at h
    rw [if_neg h, if_neg h]; exact ⟨rfl, rfl⟩
  have MA := Lib.hid trivial
  have HC := Lib.hid hc
  have HN := Lib.hid hN
  have HF : Hid (H = P / 18446744073709551616 ∧ L = P % 18446744073709551616 ∧ N.natAbs = P) := Lib.hid ⟨hH, hL, habs⟩
  have HFN := Lib.hid (And.intro hfit hnot)
  rcases hm : (decide (a < 0) == decide (b < 0)) with _ | _
  all_goals
    have hm2 : (decide (a < 0) != decide (b < 0)) = _ := congrArg not hm
    rw [hm2] at hsgn hsgn2
    have HS := Lib.hid (And.intro hsgn hsgn2)
    clear hsgn hsgn2 hfit hnot hc hN hH hL habs hP
    go_enter Tryd.func25, Tryd.ntmps25
    go_wp2_with (first
      | (go_at_call 53; have M := MA; refine (size_calls a _ h64a).mono ?_; rintro e w1 ⟨rfl, hb⟩; have nB := Lib.hid (below_step HB.out hb); clear HB hb MA M; have HB := nB; clear nB)
      | (go_at_call 53; refine (size_calls b _ h64b).mono ?_; rintro e w1 ⟨rfl, hb⟩; have nB := Lib.hid (below_step HB.out hb); clear HB hb; have HB := nB; clear nB)
      | (go_at_call 52; refine (HC.out _).mono ?_; rintro e w1 ⟨rfl, rfl⟩))
    all_goals
      obtain ⟨f1, f2, f3⟩ := HF.out
      obtain ⟨s1, s2⟩ := HS.out
      obtain ⟨q1, q2⟩ := HFN.out
      have hNN := HN.out
      go_ret2
      refine ⟨?_, HB.out⟩
      have s1' := fun h => s1 h
      by_cases hI : I64 N
      · obtain ⟨e1, e2⟩ := q1 hI
        rw [e1, e2]
        first
          | (exfalso; unfold I64 at hI; simp at s1 s2; omega)
          | (show Ending.returned (.tuple #[.int .i64 (wrap64 (a * b)), .int .i64 0]) = _; rw [← hNN, wrap_id hI])
      · obtain ⟨e1, e2⟩ := q2 hI
        rw [e1, e2]
        first
          | rfl
          | (exfalso; unfold I64 at hI; simp at s1 s2; omega)
end Go.Proofs.YtepgjdmdogblmaaDoor.Val
