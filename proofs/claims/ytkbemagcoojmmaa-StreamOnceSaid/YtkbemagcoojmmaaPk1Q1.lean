/- Plain laws of chapter 13: rows are the same as themselves; what is cut comes together to the rows again, in right batches; StreamCuts. Condition: rows, values of a row are not too many. -/
import Derived.Test.YtkbemagcoojmmaaPq1Q1
import Derived.Test.YtkbemagcoojmmaaLp4Q1
import Derived.Test.YtkbemagcoojmmaaCs6Q1
import Derived.Test.YtkbemagcoojmmaaCs3Q1
namespace Go.Proofs.Ytkbemagcoojmmaa.Lx
open Go.RowKit Go.Proofs.Ytkbemagcoojmmaa.G Go.Proofs.Ytkbemagcoojmmaa.Val Go.Proofs.YtkbemagcoojmmaaW.PrintWords Go.Proofs.YtkbemagcoojmmaaW.PrintLast Go.Proofs.YtkbemagcoojmmaaW.PrintMore
set_option linter.unusedVariables false
set_option linter.unusedSimpArgs false
theorem srow_l0 (r : List S112) (hl : r.length < 4611686018427387904) : ∀ (d i k : Nat), r.length = i + d → d + 1 ≤ k → potsherdref01_SameRow.l0 k r r (r.length : Int) (i : Int) = some true := by
  intro d
  induction d with
  | zero =>
    intro i k hd hk
    obtain ⟨k, rfl⟩ : ∃ j, k = j + 1 := ⟨k - 1, by omega⟩
    rw [potsherdref01_SameRow.l0, if_neg (by omega)]
  | succ d ih =>
    intro i k hd hk
    obtain ⟨k, rfl⟩ : ∃ j, k = j + 1 := ⟨k - 1, by omega⟩
    rw [potsherdref01_SameRow.l0, if_pos (by omega), if_pos (by omega), if_pos (by omega), if_pos (by omega), if_neg (by simp), v64 (by omega), ih (i + 1) k (by omega) (by omega)]
theorem srow_f (k : Nat) (r : List S112) (hl : r.length < 4611686018427387904) (hk : r.length + 1 ≤ k) : potsherdref01_SameRow.f k r r = some true := by
  unfold potsherdref01_SameRow.f
  rw [if_pos rfl]
  exact srow_l0 r hl r.length 0 k (by omega) hk
theorem same_l0 (x : List (List S112)) (B : Nat) (hB : ∀ r ∈ x, r.length ≤ B) (hB2 : B < 4611686018427387904) (hl : x.length < 4611686018427387904) : ∀ (d i k : Nat), x.length = i + d → B + d + 2 ≤ k → potsherdref01_Same.l0 k x x (x.length : Int) (i : Int) = some true := by
  intro d
  induction d with
  | zero =>
    intro i k hd hk
    obtain ⟨k, rfl⟩ : ∃ j, k = j + 1 := ⟨k - 1, by omega⟩
    rw [potsherdref01_Same.l0, if_neg (by omega)]
  | succ d ih =>
    intro i k hd hk
    obtain ⟨k, rfl⟩ : ∃ j, k = j + 1 := ⟨k - 1, by omega⟩
    have hi : i < x.length := by omega
    have he : rd_L5 x (i : Int) = x[i] := by simp [rd_L5, List.getD_eq_getElem?_getD, hi]
    have := hB _ (List.getElem_mem hi)
    rw [potsherdref01_Same.l0, if_pos (by omega), if_pos (by omega), if_pos (by omega), if_pos (by omega), he, srow_f k _ (by omega) (by omega), Option.bind_some, if_pos rfl, v64 (by omega), ih (i + 1) k (by omega) (by omega)]
theorem same_f (k : Nat) (x : List (List S112)) (B : Nat) (hB : ∀ r ∈ x, r.length ≤ B) (hB2 : B < 4611686018427387904) (hl : x.length < 4611686018427387904) (hk : B + x.length + 2 ≤ k) : potsherdref01_Same.f k x x = some true := by
  unfold potsherdref01_Same.f
  rw [if_pos rfl]
  exact same_l0 x B hB hB2 hl x.length 0 k (by omega) hk
theorem same_fit (k : Nat) (x : List (List S112)) (h : FitR x) (hk : 4398046511106 + x.length ≤ k) : potsherdref01_Same.f k x x = some true :=
  same_f k x 4398046511104 (fun r hr => by have := h.2 r hr; omega) (by decide) (by have := h.1; omega) (by omega)
theorem cutG_ind {α : Type} (P : List α → List (List α) → Prop) (h0 : ∀ l, l.length ≤ 8 → P l [l]) (h1 : ∀ l, 8 < l.length → P (l.drop 8) (cutG (l.drop 8)) → P l (l.take 8 :: cutG (l.drop 8))) : ∀ (n : Nat) (l : List α), l.length ≤ n → P l (cutG l)
  | 0, l, h => by rw [cutG_less l (by omega)]; exact h0 l (by omega)
  | n + 1, l, h => by
    by_cases h8 : 8 < l.length
    · rw [cutG_more l h8]
      exact h1 l h8 (cutG_ind P h0 h1 n (l.drop 8) (by rw [List.length_drop]; omega))
    · rw [cutG_less l (by omega)]
      exact h0 l (by omega)
theorem cutG_flat {α : Type} (l : List α) : (cutG l).flatten = l := by
  refine cutG_ind (fun l c => c.flatten = l) (fun l _ => by simp) (fun l h ih => ?_) l.length l (Nat.le_refl _)
  rw [List.flatten_cons, ih, List.take_append_drop]
theorem cutG_le {α : Type} (l : List α) : ∀ b ∈ cutG l, b.length ≤ 8 := by
  refine cutG_ind (fun l c => ∀ b ∈ c, b.length ≤ 8) (fun l h b hb => ?_) (fun l h ih b hb => ?_) l.length l (Nat.le_refl _)
  · rw [List.mem_singleton.1 hb]; exact h
  · rcases List.mem_cons.1 hb with rfl | hb
    · rw [List.length_take]; omega
    · exact ih b hb
theorem cutG_pos {α : Type} (l : List α) : 0 < (cutG l).length := by
  refine cutG_ind (fun l c => 0 < c.length) (fun l _ => by simp) (fun l _ _ => by simp) l.length l (Nat.le_refl _)
theorem cutG_count {α : Type} (l : List α) : (cutG l).length = max 1 ((l.length + 7) / 8) := by
  refine cutG_ind (fun l c => c.length = max 1 ((l.length + 7) / 8)) (fun l h => ?_) (fun l h ih => ?_) l.length l (Nat.le_refl _)
  · rw [List.length_singleton]; omega
  · rw [List.length_cons, ih, List.length_drop]; omega
theorem cutG_full {α : Type} (l : List α) : (∀ b ∈ (cutG l).take ((cutG l).length - 1), b.length = 8) ∧ ((cutG l).getD ((cutG l).length - 1) []).length ≤ 8 ∧ (1 < (cutG l).length → 0 < ((cutG l).getD ((cutG l).length - 1) []).length) := by
  refine cutG_ind (fun l c => (∀ b ∈ c.take (c.length - 1), b.length = 8) ∧ (c.getD (c.length - 1) []).length ≤ 8 ∧ ((1 < c.length ∨ 0 < l.length) → 0 < (c.getD (c.length - 1) []).length)) (fun l h => ?_) (fun l h ih => ?_) l.length l (Nat.le_refl _) |> fun h => ⟨h.1, h.2.1, fun h2 => h.2.2 (.inl h2)⟩
  · refine ⟨fun b hb => by simp at hb, by simpa using h, fun h2 => ?_⟩
    rcases h2 with h2 | h2
    · simp at h2
    · simpa using h2
  · have hp := cutG_pos (l.drop 8)
    obtain ⟨i1, i2, i3⟩ := ih
    obtain ⟨m, hm⟩ : ∃ m, (cutG (l.drop 8)).length = m + 1 := ⟨(cutG (l.drop 8)).length - 1, by omega⟩
    rw [hm, Nat.add_sub_cancel] at i1 i2 i3
    have e : ((l.take 8 :: cutG (l.drop 8)).getD (m + 1) []) = (cutG (l.drop 8)).getD m [] := rfl
    rw [List.length_cons, hm, Nat.add_sub_cancel, e]
    refine ⟨fun b hb => ?_, i2, fun _ => i3 (.inr (by rw [List.length_drop]; omega))⟩
    rw [List.take_succ_cons] at hb
    rcases List.mem_cons.1 hb with rfl | hb
    · rw [List.length_take]; omega
    · exact i1 b hb
theorem cutG_right (l : List (List S112)) (h : l.length ≤ 4096) (a : Int) (h0 : a ≤ ((cutG l).length : Int)) : outV (cutG l) a = 0 := by
  obtain ⟨h1, h2, h3⟩ := cutG_full l
  have hc := cutG_count l
  have hp := cutG_pos l
  unfold outV outBad
  rw [if_neg]
  simp only [Bool.or_eq_true, Bool.and_eq_true, beq_iff_eq, decide_eq_true_eq, List.any_eq_true, not_or, not_and, not_exists]
  refine ⟨⟨⟨⟨⟨by omega, by omega⟩, by omega⟩, by omega⟩, fun h4 h5 => by have := h3 h5; omega⟩, fun b hb => ?_⟩
  have := h1 b hb
  unfold no8
  simp only [this]
  decide
end Go.Proofs.Ytkbemagcoojmmaa.Lx
