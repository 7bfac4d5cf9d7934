/- A row held against columns: what the program and what the document answer is one. Conditions: kinds are bytes, texts and lists are shorter than 2^62. -/
import Derived.Test.YtepgjdmdogblmaaDoorLs3
import Derived.Test.YtepgjdmdogblmaaDoorOpV
namespace Go.Proofs.YtepgjdmdogblmaaDoor.Lx
open Go.RowKit Go.Proofs.YtepgjdmdogblmaaDoor.G Go.Proofs.YtepgjdmdogblmaaDoor.Opn Go.Proofs.YtepgjdmdogblmaaDoorW.PrintWords Go.Proofs.YtepgjdmdogblmaaDoorW.PrintLast Go.Proofs.YtepgjdmdogblmaaDoorW.PrintMore
set_option linter.unusedVariables false
set_option linter.unusedSimpArgs false
theorem v64 {i : Nat} (h : i < 4611686018427387904) : wrap64 ((i : Int) + 1) = ((i + 1 : Nat) : Int) := by unfold wrap64; omega
theorem rd27 (l : List S27) (i : Nat) : rd_T27 l (i : Int) = l.getD i z27 := by simp [rd_T27]
theorem rd36 (l : List S36) (i : Nat) : rd_T36 l (i : Int) = l.getD i z36 := by simp [rd_T36]
theorem rdL7 (l : List (List S27)) (i : Nat) : rd_L7 l (i : Int) = l.getD i [] := by simp [rd_L7]
theorem drop_getD {α : Type} (z : α) {l : List α} {k : Nat} (h : k < l.length) : l.drop k = l.getD k z :: l.drop (k + 1) := by
  rw [List.getD_eq_getElem?_getD, List.getElem?_eq_getElem h]
  exact List.drop_eq_getElem_cons h
theorem mem_getD {α : Type} (z : α) {l : List α} {k : Nat} (h : k < l.length) : l.getD k z ∈ l := by
  rw [List.getD_eq_getElem?_getD, List.getElem?_eq_getElem h]
  exact List.getElem_mem h
def ckV (v : S27) : Int := Val.checkV v.f0 v.f1 v.f2 v.f3
/-- a row, held against columns -/
def rowG (c : List S36) : List S27 → Nat → Int
  | [], _ => 0
  | v :: l, i => if ckV v ≠ 0 then ckV v else if v.f0 ≠ 0 ∧ v.f0 ≠ (c.getD i z36).f1 then 5 else rowG c l (i + 1)
def rowV (l : List S27) (c : List S36) : Int := if l.length = c.length then rowG c l 0 else 3
theorem vrow_l0 (l : List S27) (c : List S36) (hl : l.length < 4611686018427387904) (hc : l.length = c.length) (hf : FitRow l) : ∀ (d i k : Nat), l.length = i + d → d + 1 ≤ k → value_CheckRow.l0 k c l (l.length : Int) (i : Int) = some (rowG c (l.drop i) i) := by
  intro d
  induction d with
  | zero =>
    intro i k hd hk
    obtain ⟨k, rfl⟩ : ∃ m, k = m + 1 := ⟨k - 1, by omega⟩
    rw [value_CheckRow.l0, if_neg (by omega), List.drop_of_length_le (by omega)]; rfl
  | succ d ih =>
    intro i k hd hk
    obtain ⟨k, rfl⟩ : ∃ m, k = m + 1 := ⟨k - 1, by omega⟩
    have hi : i < l.length := by omega
    rw [value_CheckRow.l0, if_pos (by omega), if_pos (by omega), if_pos (by omega), rd27, rd36, drop_getD z27 hi, rowG, v64 (by omega)]
    have hm := (hf _ (mem_getD z27 hi)).1.1
    obtain ⟨v, hv⟩ : ∃ v, v = l.getD i z27 := ⟨_, rfl⟩
    rw [← hv] at hm ⊢
    have hck : value_Check.f v.f0 v.f1 v.f2 v.f3 = some (ckV v) := by unfold value_Check.f; rw [if_pos hm]; rfl
    rw [hck, Option.bind_some, ih (i + 1) k (by omega) (by omega)]
    by_cases h0 : ckV v = 0
    · rw [if_pos h0, if_neg (show ¬ (ckV v ≠ 0) from fun h => h h0)]
      by_cases h1 : v.f0 = 0
      · rw [if_pos h1, if_neg (fun h => h.1 h1)]
      · rw [if_neg h1, if_pos (by omega)]
        by_cases h2 : v.f0 = (c.getD i z36).f1
        · rw [if_pos h2, if_neg (fun h => h.2 h2)]
        · rw [if_neg h2, if_pos ⟨h1, h2⟩]
    · rw [if_neg h0, if_pos h0]
theorem vrow_f (k : Nat) (l : List S27) (c : List S36) (hl : l.length < 4611686018427387904) (hf : FitRow l) (hk : c.length + 1 ≤ k) : value_CheckRow.f k l c = some (rowV l c) := by
  unfold value_CheckRow.f rowV
  by_cases h : l.length = c.length
  · have := vrow_l0 l c hl h hf l.length 0 k (by omega) (by omega)
    rw [if_pos (by omega), if_pos h]
    simpa using this
  · rw [if_neg (by omega), if_neg h]
theorem rrow_l0 (l : List S27) (c : List S36) (hl : l.length < 4611686018427387904) (hc : l.length = c.length) : ∀ (d i k : Nat), l.length = i + d → 2 * d + 1 ≤ k → potsherdref01_CheckRow.l0 k c l (l.length : Int) (i : Int) = some (rowG c (l.drop i) i) := by
  intro d
  induction d with
  | zero =>
    intro i k hd hk
    obtain ⟨k, rfl⟩ : ∃ m, k = m + 1 := ⟨k - 1, by omega⟩
    rw [potsherdref01_CheckRow.l0, if_neg (by omega), List.drop_of_length_le (by omega)]; rfl
  | succ d ih =>
    intro i k hd hk
    obtain ⟨k, rfl⟩ : ∃ m, k = m + 2 := ⟨k - 2, by omega⟩
    have hi : i < l.length := by omega
    rw [potsherdref01_CheckRow.l0, if_pos (by omega), if_pos (by omega), if_pos (by omega), rd27, rd36, drop_getD z27 hi, rowG]
    obtain ⟨v, hv⟩ : ∃ v, v = l.getD i z27 := ⟨_, rfl⟩
    rw [← hv]
    have hck : potsherdref01_Check.f v.f0 v.f1 v.f2 v.f3 = some (ckV v) := rfl
    rw [hck, Option.bind_some, potsherdref01_CheckRow.j1, potsherdref01_CheckRow.j1, v64 (by omega), ih (i + 1) k (by omega) (by omega)]
    by_cases h0 : ckV v = 0
    · rw [if_pos h0, if_neg (show ¬ (ckV v ≠ 0) from fun h => h h0), if_pos h0, if_neg (show ¬ (false = true) by decide)]
      by_cases h1 : v.f0 = 0
      · rw [if_pos h1, if_neg (fun h => h.1 h1)]
      · rw [if_neg h1, if_pos (by omega)]
        by_cases h2 : v.f0 = (c.getD i z36).f1
        · rw [if_neg (by simp [h2]), if_neg (fun h => h.2 h2)]
        · rw [if_pos (by simpa using h2), if_neg (by decide), if_pos ⟨h1, h2⟩]
    · rw [if_neg h0, if_pos h0, if_neg (show ¬ (false = true) by decide), if_neg h0]
theorem rrow_f (k : Nat) (l : List S27) (c : List S36) (hl : l.length < 4611686018427387904) (hk : 2 * c.length + 1 ≤ k) : potsherdref01_CheckRow.f k l c = some (rowV l c) := by
  unfold potsherdref01_CheckRow.f rowV
  by_cases h : l.length = c.length
  · have := rrow_l0 l c hl h l.length 0 k (by omega) (by omega)
    rw [if_pos (by omega), if_pos h]
    simpa using this
  · rw [if_neg (by omega), if_neg h]
end Go.Proofs.YtepgjdmdogblmaaDoor.Lx
