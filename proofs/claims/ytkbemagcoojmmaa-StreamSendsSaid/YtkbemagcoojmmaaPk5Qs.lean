/- Plain laws of chapter 13's document: what its CheckOut and its Send answer; what is cut can be copied. Conditions: batches, rows, values of a row are not too many. -/
import Derived.Test.YtkbemagcoojmmaaPk3Qs
import Derived.Test.YtkbemagcoojmmaaLp8Qs
namespace Go.Proofs.Ytkbemagcoojmmaa.Lx
open Go.RowKit Go.Proofs.Ytkbemagcoojmmaa.G Go.Proofs.Ytkbemagcoojmmaa.Val Go.Proofs.YtkbemagcoojmmaaW.PrintWords Go.Proofs.YtkbemagcoojmmaaW.PrintLast Go.Proofs.YtkbemagcoojmmaaW.PrintMore
set_option linter.unusedVariables false
set_option linter.unusedSimpArgs false
def BadP (l : List (List (List S112))) (j : Nat) : Prop := 8 < (l.getD j []).length ∨ (j + 1 < l.length ∧ (l.getD j []).length < 8) ∨ (1 < l.length ∧ (l.getD j []).length = 0)
open Classical in
noncomputable def badFrom (l : List (List (List S112))) (i : Nat) : Int := if ∃ j, i ≤ j ∧ j < l.length ∧ BadP l j then 6 else 0
theorem badFrom_here {l : List (List (List S112))} {i : Nat} (hi : i < l.length) (h : BadP l i) : badFrom l i = 6 := by unfold badFrom; rw [if_pos ⟨i, Nat.le_refl _, hi, h⟩]
theorem badFrom_next {l : List (List (List S112))} {i : Nat} (h : ¬ BadP l i) : badFrom l (i + 1) = badFrom l i := by
  unfold badFrom
  have e : (∃ j, i + 1 ≤ j ∧ j < l.length ∧ BadP l j) ↔ (∃ j, i ≤ j ∧ j < l.length ∧ BadP l j) := by
    constructor
    · rintro ⟨j, h1, h2, h3⟩; exact ⟨j, by omega, h2, h3⟩
    · rintro ⟨j, h1, h2, h3⟩
      rcases Nat.eq_or_lt_of_le h1 with rfl | h4
      · exact absurd h3 h
      · exact ⟨j, h4, h2, h3⟩
  by_cases h1 : ∃ j, i + 1 ≤ j ∧ j < l.length ∧ BadP l j
  · rw [if_pos h1, if_pos (e.1 h1)]
  · rw [if_neg h1, if_neg (fun h2 => h1 (e.2 h2))]
theorem rcheck_l0 (l : List (List (List S112))) (hl : l.length ≤ 4611686018427387904) : ∀ (d i k : Nat), l.length = i + d → d + 1 ≤ k → potsherdref13_CheckOut.l0 k (l.length : Int) l (l.length : Int) (i : Int) = some (badFrom l i) := by
  intro d
  induction d with
  | zero =>
    intro i k hd hk
    obtain ⟨k, rfl⟩ : ∃ j, k = j + 1 := ⟨k - 1, by omega⟩
    rw [potsherdref13_CheckOut.l0, if_neg (by omega)]
    unfold badFrom
    rw [if_neg (fun ⟨j, h1, h2, _⟩ => by omega)]
  | succ d ih =>
    intro i k hd hk
    obtain ⟨k, rfl⟩ : ∃ j, k = j + 1 := ⟨k - 1, by omega⟩
    have hi : i < l.length := by omega
    have hg : l.getD i [] = l[i] := by simp [List.getD_eq_getElem?_getD, hi]
    have hr := ih (i + 1) k (by omega) (by omega)
    have hw : wrap64 ((l.length : Int) - 1) = (l.length : Int) - 1 := by unfold wrap64; omega
    rw [potsherdref13_CheckOut.l0, if_pos (by omega), if_pos (by omega), if_pos (by omega), at7 l i hi, v64 (by omega), hr, hw]
    by_cases c1 : 8 < l[i].length
    · rw [if_pos (by omega), badFrom_here hi (.inl (by rw [hg]; exact c1))]
    · rw [if_neg (by omega)]
      by_cases c2 : i + 1 < l.length
      · rw [if_pos (by omega)]
        by_cases c3 : l[i].length < 8
        · rw [if_pos (by omega), badFrom_here hi (.inr (.inl ⟨c2, by rw [hg]; exact c3⟩))]
        · rw [if_neg (by omega), if_pos (by omega), if_neg (by omega), badFrom_next (by unfold BadP; rw [hg]; omega)]
      · rw [if_neg (by omega)]
        by_cases c4 : 1 < l.length
        · rw [if_pos (by omega)]
          by_cases c5 : l[i].length = 0
          · rw [if_pos (by omega), badFrom_here hi (.inr (.inr ⟨c4, by rw [hg]; exact c5⟩))]
          · rw [if_neg (by omega), badFrom_next (by unfold BadP; rw [hg]; omega)]
        · rw [if_neg (by omega), badFrom_next (by unfold BadP; rw [hg]; omega)]
theorem outBad_eq' (l : List (List (List S112))) (a : Int) : outBad l a = (l.length == 0 || decide (512 < l.length) || decide ((l.length : Int) < a) || decide (8 < (l.getD (l.length - 1) []).length) || ((l.getD (l.length - 1) []).length == 0 && decide (1 < l.length)) || (l.take (l.length - 1)).any no8) := rfl
theorem badFrom_out (l : List (List (List S112))) (a : Int) (h0 : 0 < l.length) (h1 : l.length ≤ 512) (h2 : ¬ (l.length : Int) < a) : badFrom l 0 = outV l a := by
  unfold outV
  rw [outBad_eq', decide_eq_false h2, decide_eq_false (show ¬ 512 < l.length by omega), show (l.length == 0) = false by rw [beq_eq_false_iff_ne]; omega]
  simp only [Bool.false_or]
  unfold badFrom
  have e : (∃ j, 0 ≤ j ∧ j < l.length ∧ BadP l j) ↔ (decide (8 < (l.getD (l.length - 1) []).length) || ((l.getD (l.length - 1) []).length == 0 && decide (1 < l.length)) || (l.take (l.length - 1)).any no8) = true := by
    simp only [Bool.or_eq_true, Bool.and_eq_true, decide_eq_true_eq, beq_iff_eq, List.any_eq_true]
    constructor
    · rintro ⟨j, _, hj, hb⟩
      by_cases hl : j + 1 = l.length
      · have ej : l.length - 1 = j := by omega
        rw [ej]
        rcases hb with h | ⟨h, _⟩ | ⟨h, h'⟩
        · exact .inl (.inl h)
        · omega
        · exact .inl (.inr ⟨h', h⟩)
      · refine .inr ⟨l.getD j [], ?_, ?_⟩
        · rw [List.getD_eq_getElem?_getD, List.getElem?_eq_getElem hj, Option.getD_some, List.mem_take_iff_getElem]
          exact ⟨j, by omega, rfl⟩
        · unfold no8
          rw [bne_iff_ne]
          rcases hb with h | ⟨_, h⟩ | ⟨_, h⟩ <;> omega
    · rintro ((h | ⟨h, h'⟩) | ⟨b, hb, hn⟩)
      · exact ⟨l.length - 1, Nat.zero_le _, by omega, .inl h⟩
      · exact ⟨l.length - 1, Nat.zero_le _, by omega, .inr (.inr ⟨h', h⟩)⟩
      · rw [List.mem_take_iff_getElem] at hb
        obtain ⟨j, hj, rfl⟩ := hb
        have hj2 : j < l.length := by omega
        have hg : l.getD j [] = l[j] := by simp [List.getD_eq_getElem?_getD, hj2]
        unfold no8 at hn
        rw [bne_iff_ne] at hn
        refine ⟨j, Nat.zero_le _, hj2, ?_⟩
        unfold BadP
        rw [hg]
        omega
  by_cases h : ∃ j, 0 ≤ j ∧ j < l.length ∧ BadP l j
  · rw [if_pos h, if_pos (e.1 h)]
  · rw [if_neg h, if_neg (fun h2 => h (e.2 h2))]
theorem rcheck_f (k : Nat) (s0 s1 s2 s3 s4 : Int) (l : List (List (List S112))) (hl : l.length ≤ 4611686018427387904) (a : Int) (hk : l.length + 3 ≤ k) : potsherdref13_CheckOut.f k s0 s1 s2 s3 s4 l a = some (outV l a) := by
  obtain ⟨k, rfl⟩ : ∃ j, k = j + 1 := ⟨k - 1, by omega⟩
  unfold potsherdref13_CheckOut.f
  by_cases h0 : l.length = 0
  · rw [if_pos (by omega), potsherdref13_CheckOut.j0, if_pos rfl]
    unfold outV
    rw [if_pos (by rw [outBad_eq', h0]; rfl)]
  · rw [if_neg (by omega)]
    by_cases h1 : 512 < l.length
    · rw [if_pos (by omega), potsherdref13_CheckOut.j0, if_pos rfl]
      unfold outV
      rw [if_pos (by rw [outBad_eq', decide_eq_true h1]; simp)]
    · rw [if_neg (by omega), u64_len _ hl, potsherdref13_CheckOut.j0]
      by_cases h2 : (l.length : Int) < a
      · rw [if_pos (decide_eq_true h2)]
        unfold outV
        rw [if_pos (by rw [outBad_eq', decide_eq_true h2]; simp)]
      · rw [if_neg (by rw [decide_eq_false (show ¬ a > (l.length : Int) from h2)]; decide)]
        have := rcheck_l0 l hl l.length 0 k (by omega) (by omega)
        rw [show ((0 : Nat) : Int) = 0 from rfl] at this
        rw [this, badFrom_out l a (by omega) (by omega) h2]
theorem rsend_l0 (s0 s1 s2 s3 s4 : Int) (l : List (List (List S112))) (hf : FitO l) (a : Nat) (ha : a ≤ l.length) (m : Nat) (hm : m = min 4 (l.length - a)) (x : Int) :
    ∀ (d j k : Nat), m = j + d → 5864062014810 + d ≤ k → potsherdref13_Send.l0 k ((List.range j).map fun j => msgAt s0 s1 s2 s3 s4 l (a + j)) ((a + j : Nat) : Int) s0 s1 s2 s3 s4 l x = some ((List.range m).map (fun j => msgAt s0 s1 s2 s3 s4 l (a + j)), 0) := by
  have hm1 := hf.1
  intro d
  induction d with
  | zero =>
    intro j k hd hk
    obtain ⟨k, rfl⟩ : ∃ j, k = j + 1 := ⟨k - 1, by omega⟩
    obtain rfl : j = m := by omega
    rw [potsherdref13_Send.l0]
    by_cases h : a + j < l.length
    · rw [if_pos (by omega), if_neg (by rw [List.length_map, List.length_range]; omega)]
    · rw [if_neg (by omega)]
  | succ d ih =>
    intro j k hd hk
    obtain ⟨k, rfl⟩ : ∃ j, k = j + 1 := ⟨k - 1, by omega⟩
    have hi : a + j < l.length := by omega
    have hb := hf.2 _ (List.getElem_mem hi)
    have hb1 := hb.1
    have e8 : (((a + j : Nat) : Int) == wrap64 ((l.length : Int) - 1)) = decide (a + j + 1 = l.length) := by
      rw [show wrap64 ((l.length : Int) - 1) = (l.length : Int) - 1 by unfold wrap64; omega]
      by_cases h : a + j + 1 = l.length
      · rw [decide_eq_true h, beq_iff_eq]; omega
      · rw [decide_eq_false h, beq_eq_false_iff_ne]; omega
    have hmsg : (⟨4, 0, (⟨(⟨s0, s1⟩ : S24), s2, s3, s4⟩ : S26), (⟨(⟨#[]⟩ : ByteArray), (⟨#[]⟩ : ByteArray), 0, 0, 0, ([] : List (S130)), ([] : List Int), ([] : List (S119)), false, ([] : List ByteArray), ([] : List Int)⟩ : S38), ([] : List (S91)), (⟨0, 0, (⟨0, (⟨#[]⟩ : ByteArray), (⟨0, 0⟩ : S42), 0, ([] : List Int)⟩ : S44), (⟨0, (⟨#[]⟩ : ByteArray), (⟨0, 0⟩ : S42), 0, ([] : List Int)⟩ : S44), false, 0, ([] : List Int)⟩ : S46), ([] : List Int), IntKind.u64.wrap ((a + j : Nat) : Int), (((a + j : Nat) : Int) == (wrap64 ((l.length : Int) - 1))), l[a + j], (⟨(⟨#[]⟩ : ByteArray), (⟨0, 0⟩ : S42), 0, ([] : List (S114)), ([] : List (List (S112)))⟩ : S49), ([] : List (S125))⟩ : S52) = msgAt s0 s1 s2 s3 s4 l (a + j) := by
      rw [u64_len _ (by omega), e8, msgAt, msgS, show l.getD (a + j) [] = l[a + j] by simp [List.getD_eq_getElem?_getD, hi]]
    rw [potsherdref13_Send.l0, if_pos (by omega), if_pos (by rw [List.length_map, List.length_range]; omega), if_pos (by omega), at7 l (a + j) hi, copy_f k _ hb (by omega), Option.bind_some, if_pos (by rw [List.length_map, List.length_range]; omega), hmsg, v64 (by omega),
      show (List.range j).map (fun j => msgAt s0 s1 s2 s3 s4 l (a + j)) ++ [msgAt s0 s1 s2 s3 s4 l (a + j)] = (List.range (j + 1)).map (fun j => msgAt s0 s1 s2 s3 s4 l (a + j)) by rw [List.range_succ, List.map_append]; rfl]
    exact ih (j + 1) k (by omega) (by omega)
theorem rsend_f (k : Nat) (s0 s1 s2 s3 s4 : Int) (l : List (List (List S112))) (hf : FitO l) (a : Nat) (ho : outV l a = 0) (ha : a ≤ l.length) (hk : 5864062014820 + l.length ≤ k) : potsherdref13_Send.f k s0 s1 s2 s3 s4 l (a : Int) = some (sendV s0 s1 s2 s3 s4 l a, 0) := by
  have hm1 := hf.1
  unfold potsherdref13_Send.f
  rw [rcheck_f k s0 s1 s2 s3 s4 l (by omega) (a : Int) (by omega), Option.bind_some, ho, if_pos rfl, show wrap64 (a : Int) = ((a + 0 : Nat) : Int) by unfold wrap64; omega]
  exact rsend_l0 s0 s1 s2 s3 s4 l hf a ha _ rfl (a : Int) (min 4 (l.length - a)) 0 k (by omega) (by omega)
theorem rsend_bad (k : Nat) (s0 s1 s2 s3 s4 : Int) (l : List (List (List S112))) (hl : l.length ≤ 4611686018427387904) (a : Int) (ho : outV l a ≠ 0) (hk : l.length + 3 ≤ k) : potsherdref13_Send.f k s0 s1 s2 s3 s4 l a = some ([], 6) := by
  unfold potsherdref13_Send.f
  rw [rcheck_f k s0 s1 s2 s3 s4 l hl a hk, Option.bind_some, if_neg ho]
theorem cutG_fit (l : List (List S112)) (h : FitR l) (h4 : l.length ≤ 4096) : FitO (cutG l) := by
  refine ⟨by rw [cutG_count]; omega, fun b hb => ⟨by have := cutG_le l b hb; omega, fun r hr => h.2 r ?_⟩⟩
  rw [← cutG_flat l]
  exact List.mem_flatten.2 ⟨b, hb, hr⟩
end Go.Proofs.Ytkbemagcoojmmaa.Lx
