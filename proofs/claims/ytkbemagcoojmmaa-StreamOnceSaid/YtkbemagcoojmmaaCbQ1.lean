/- slices.BinarySearchFunc over batches by their numbers, with the closure that Take hands it, cmp.Compare. Condition: the numbers rise. -/
import Derived.Test.YtkbemagcoojmmaaCv0Q1
import Derived.Test.YtkbemagcoojmmaaInsQ1
namespace Go.Proofs.Ytkbemagcoojmmaa.Val
open Go.RowKit Go.Proofs.Ytkbemagcoojmmaa.G Go.Proofs.Ytkbemagcoojmmaa.Lx Go.Proofs.YtkbemagcoojmmaaW.PrintWords Go.Proofs.YtkbemagcoojmmaaW.PrintLast Go.Proofs.YtkbemagcoojmmaaW.PrintMore
set_option linter.unusedVariables false
set_option linter.unusedSimpArgs false
def cmpU (a b : Int) : Int := if a < b then -1 else if b < a then 1 else 0
theorem isnan (a : Int) (w : World) : Calls Try.prog 50 #[.int .u64 a] w fun e w' => e = .returned (.bool false) ∧ w = w' := by
  go_enter Try.func50, Try.ntmps50
  go_wp2
  go_ret
  exact ⟨by simp, rfl⟩
theorem compare_calls (a b : Int) (w : World) : Calls Try.prog 34 #[.int .u64 a, .int .u64 b] w fun e w' => e = .returned (.int .i64 (cmpU a b)) ∧ w = w' := by
  by_cases h1 : a < b
  · rw [show cmpU a b = -1 by rw [cmpU, if_pos h1]]
    have e1 : decide (a < b) = true := decide_eq_true h1
    go_enter Try.func34, Try.ntmps34
    go_wp2_with (go_at_call 50; refine (isnan _ _).mono ?_; rintro e w' ⟨rfl, rfl⟩)
    go_ret
    exact ⟨rfl, rfl⟩
  · have e1 : decide (a < b) = false := decide_eq_false h1
    by_cases h2 : b < a
    · rw [show cmpU a b = 1 by rw [cmpU, if_neg h1, if_pos h2]]
      have e2 : decide (b < a) = true := decide_eq_true h2
      go_enter Try.func34, Try.ntmps34
      go_wp2_with (go_at_call 50; refine (isnan _ _).mono ?_; rintro e w' ⟨rfl, rfl⟩)
      go_ret
      exact ⟨rfl, rfl⟩
    · rw [show cmpU a b = 0 by rw [cmpU, if_neg h1, if_neg h2]]
      have e2 : decide (b < a) = false := decide_eq_false h2
      go_enter Try.func34, Try.ntmps34
      go_wp2_with (go_at_call 50; refine (isnan _ _).mono ?_; rintro e w' ⟨rfl, rfl⟩)
      go_ret
      exact ⟨rfl, rfl⟩
theorem clos33 (a : Int) (b : Bool) (y : Int) (A : Option Addr) (n c : Nat) (w : World) : Calls Try.prog 33 #[.agg #[.int .u64 a, .bool b, .slice A n c], .int .u64 y] w fun e w' => e = .returned (.int .i64 (cmpU a y)) ∧ Below w.heap.size w w' := by
  go_enter Try.func33, Try.ntmps33
  go_wp2_with (go_at_call 34; refine (compare_calls _ _ _).mono ?_; rintro e w' ⟨rfl, rfl⟩)
  go_ret
  exact ⟨rfl, (Below.refl _ _).alloc (Nat.le_refl _) _⟩
def seqAt (l : List S83) (k : Nat) : Int := (l.getD k z83).f0
def lb (l : List S83) (y : Int) : Nat := (l.takeWhile (fun b => decide (b.f0 < y))).length
theorem lb_eq (y : Int) : ∀ (l : List S83) (i : Nat), i ≤ l.length → (∀ k, k < i → seqAt l k < y) → (i < l.length → ¬ seqAt l i < y) → lb l y = i
  | [], i, hi, _, _ => by simp at hi; simp [lb, hi]
  | f :: l, 0, _, _, h => by
    have h0 := h (by simp)
    simp [seqAt] at h0
    simp [lb, List.takeWhile, show ¬ f.f0 < y by omega]
  | f :: l, i + 1, hi, h1, h2 => by
    have h0 := h1 0 (by omega)
    simp [seqAt] at h0
    have ih := lb_eq y l i (by simpa using hi) (fun k hk => by have := h1 (k + 1) (by omega); simpa [seqAt] using this) (fun hk => by have := h2 (by simpa using hk); simpa [seqAt] using this)
    simp only [lb] at ih ⊢
    simp [List.takeWhile, h0, ih]
def Rises (l : List S83) : Prop := ∀ i j, i < j → j < l.length → seqAt l i < seqAt l j
def foundAt (l : List S83) (y : Int) : Bool := decide (lb l y < l.length) && (seqAt l (lb l y) == y)
set_option maxHeartbeats 1000000 in
set_option maxRecDepth 100000 in
theorem search_calls (A : Option Addr) (c : Nat) (l : List S83) (y : Int) (w : World) (hr : Kd.C k83 w A l.length l) (hn : l.length ≤ 4611686018427387904) (hs : Rises l) :
    Calls Try.prog 32 #[.slice A l.length c, .int .u64 y, .func (.func 33) #[] #[]] w fun e w' => e = .returned (.tuple #[.int .i64 (lb l y), .bool (foundAt l y)]) ∧ Below w.heap.size w w' := by
  obtain ⟨n, hN⟩ : ∃ n, n = l.length := ⟨_, rfl⟩
  have HR := Lib.hid hr
  have HS := Lib.hid hs
  clear hr hs
  rw [← hN] at HR hn ⊢
  have HN := Lib.hid hN
  clear hN
  go_enter Try.func32, Try.ntmps32
  go_wp2
  go_loopw [9, 10] (fun vi vj wr => ∃ i j : Nat, vi = .int .i64 i ∧ vj = .int .i64 j ∧ i ≤ j ∧ j ≤ n ∧ Hid (∀ k, k < i → seqAt l k < y) ∧ Hid (j < n → y ≤ seqAt l j) ∧ Hid (Below w.heap.size w wr)) (fun vi vj _ => (intOf vj - intOf vi).toNat)
  case atStart => exact ⟨0, n, rfl, rfl, by omega, by omega, Lib.hid (fun k hk => by omega), Lib.hid (fun h => by omega), Lib.hid (Below.refl _ _)⟩
  case round =>
    obtain ⟨i, j, rfl, rfl, hij, hjn, H1, H2, HB⟩ := hrel
    by_cases hlt : i < j
    · obtain ⟨h, hh⟩ : ∃ h, h = (i + j) / 2 := ⟨_, rfl⟩
      have hh1 : i ≤ h := by omega
      have hh2 : h < j := by omega
      have hh3 : h < n := by omega
      have eh : ((i : Int) + (j : Int)) / 2 = (h : Int) := by omega
      clear hh
      obtain ⟨ad, A2, c2, eA, x0, x1, x2, _⟩ := at_T83 (Kd.C_below HR.out HB.out) (h : Int) (by omega) (by omega)
      simp only [Int.toNat_natCast] at x0 x1 x2
      have hget : Hid ((rd_T83 l (h : Int)).f0 = seqAt l h) := by show _ = _; simp [rd_T83, seqAt]
      generalize rd_T83 l (h : Int) = F at *
      subst eA
      have hz : (h : Int) < (n : Int) := by omega
      by_cases hc : F.f0 < y
      · have HC := Lib.hid hc
        have hv : decide (cmpU F.f0 y < 0) = true := by rw [cmpU, if_pos hc]; rfl
        clear hc
        go_wp2_with (go_at_call 33; refine (clos33 F.f0 F.f1 y A2 F.f2.length c2 _).mono ?_; rintro e w2 ⟨rfl, hb2⟩; have HB2 := Lib.hid hb2; clear hb2)
        refine ⟨⟨h + 1, j, by simp, rfl, by omega, hjn, Lib.hid (fun k hk => ?_), H2, Lib.hid (below_step HB.out HB2.out)⟩, by simp [intOf]; omega⟩
        have e0 : seqAt l h < y := by rw [← hget.out]; exact HC.out
        by_cases hkh : k = h
        · rw [hkh]; exact e0
        · have := HS.out k h (by omega) (by rw [← HN.out]; exact hh3)
          omega
      · have HC := Lib.hid (show y ≤ F.f0 by omega)
        have hv : decide (cmpU F.f0 y < 0) = false := by rw [cmpU, if_neg hc]; split <;> rfl
        clear hc
        go_wp2_with (go_at_call 33; refine (clos33 F.f0 F.f1 y A2 F.f2.length c2 _).mono ?_; rintro e w2 ⟨rfl, hb2⟩; have HB2 := Lib.hid hb2; clear hb2)
        exact ⟨⟨i, h, rfl, rfl, hh1, by omega, H1, Lib.hid (fun _ => by rw [← hget.out]; exact HC.out), Lib.hid (below_step HB.out HB2.out)⟩, by simp [intOf]; omega⟩
    · obtain rfl : i = j := by omega
      have HLB : Hid (lb l y = i) := Lib.hid (lb_eq y l i (by rw [← HN.out]; exact hjn) H1.out (fun hi_ => by have := H2.out (by rw [HN.out]; exact hi_); omega))
      by_cases hin : i < n
      · obtain ⟨ad, A2, c2, eA, x0, x1, x2, _⟩ := at_T83 (Kd.C_below HR.out HB.out) (i : Int) (by omega) (by omega)
        simp only [Int.toNat_natCast] at x0 x1 x2
        have hget : Hid ((rd_T83 l (i : Int)).f0 = seqAt l i) := by show _ = _; simp [rd_T83, seqAt]
        generalize rd_T83 l (i : Int) = F at *
        subst eA
        have hz : (i : Int) < (n : Int) := by omega
        have HF : Hid (foundAt l y = (cmpU F.f0 y == 0)) := by
          show foundAt l y = _
          have e1 : ¬ F.f0 < y := by rw [hget.out]; have := H2.out hin; omega
          unfold foundAt
          rw [HLB.out, ← HN.out, decide_eq_true hin, Bool.true_and, ← hget.out, cmpU, if_neg e1]
          by_cases h3 : y < F.f0
          · rw [if_pos h3, beq_eq_false_iff_ne.2 (by omega)]; rfl
          · rw [if_neg h3, beq_iff_eq.2 (by omega)]; rfl
        have hzi : decide (i < n) = true := decide_eq_true hin
        go_wp2_with (go_at_call 33; refine (clos33 F.f0 F.f1 y A2 F.f2.length c2 _).mono ?_; rintro e w2 ⟨rfl, hb2⟩; have HB2 := Lib.hid hb2; clear hb2)
        go_ret2
        exact ⟨by rw [HLB.out, HF.out]; rfl, below_step HB.out HB2.out⟩
      · have HF : Hid (foundAt l y = false) := by
          show foundAt l y = _
          unfold foundAt
          rw [HLB.out, ← HN.out, decide_eq_false hin, Bool.false_and]
        have hzi : decide (i < n) = false := decide_eq_false hin
        go_wp2
        go_ret2
        exact ⟨by rw [HLB.out, HF.out]; rfl, HB.out⟩
end Go.Proofs.Ytkbemagcoojmmaa.Val
