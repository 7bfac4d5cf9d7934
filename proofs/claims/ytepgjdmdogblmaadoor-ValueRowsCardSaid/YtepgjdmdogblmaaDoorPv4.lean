/- ValueRows: a row is right of columns just if each of its values is; with a value more it is not. Conditions: kinds are bytes, the row is shorter than 2^42 - 1. -/
import Derived.Test.YtepgjdmdogblmaaDoorLs6
import Derived.Test.YtepgjdmdogblmaaDoorPv2a
namespace Go.Proofs.YtepgjdmdogblmaaDoor.Lx
open Go.RowKit Go.Proofs.YtepgjdmdogblmaaDoor.G Go.Proofs.YtepgjdmdogblmaaDoor.Opn Go.Proofs.YtepgjdmdogblmaaDoorW.PrintWords Go.Proofs.YtepgjdmdogblmaaDoorW.PrintLast Go.Proofs.YtepgjdmdogblmaaDoorW.PrintMore
set_option linter.unusedVariables false
set_option linter.unusedSimpArgs false
theorem fin_true (l : List S27) (c : List S36) (v : S27) (hl : l.length < 4398046511103) (hf : FitRow l) (hv : Fit27 v) (h0 : rowV l c = 0) (hc : l.length = c.length) (k : Nat) (hk : c.length + 2 ≤ k) (i : Int) (hi : ¬ i < (l.length : Int)) :
    potsherdlaw01_ValueRows.l0 k l c true i v.f0 v.f1 v.f2 v.f3 = some true := by
  obtain ⟨k, rfl⟩ : ∃ m, k = m + 1 := ⟨k - 1, by omega⟩
  have hf2 : FitRow (([] ++ l) ++ [v]) := by
    intro x hx
    rcases List.mem_append.1 hx with h | h
    · exact hf x (by simpa using h)
    · rw [List.mem_singleton.1 h]; exact hv
  have h3 : rowV (([] ++ l) ++ [v]) c = 3 := by unfold rowV; rw [if_neg (by simp; omega)]
  have g1 : ([] : List S27).length + l.length < 4398046511104 := by simp; omega
  have g2 : (([] : List S27) ++ l).length + [v].length < 4398046511104 := by simp; omega
  have e1 := vrow_f k l c (by omega) hf (by omega)
  have e2 := vrow_f k (([] ++ l) ++ [v]) c (by simp; omega) hf2 (by omega)
  rw [potsherdlaw01_ValueRows.l0, if_pos rfl, if_neg hi, Option.bind_some, if_pos g1, Option.bind_some, Option.bind_some, if_pos g2, e1, Option.bind_some, h0, if_pos (by decide), e2, Option.bind_some, h3]
  rfl
theorem fin_false (l : List S27) (c : List S36) (v : S27) (hl : l.length < 4398046511103) (hf : FitRow l) (h0 : rowV l c ≠ 0) (k : Nat) (hk : c.length + 2 ≤ k) (i : Int) :
    potsherdlaw01_ValueRows.l0 k l c false i v.f0 v.f1 v.f2 v.f3 = some true := by
  obtain ⟨k, rfl⟩ : ∃ m, k = m + 1 := ⟨k - 1, by omega⟩
  have g1 : ([] : List S27).length + l.length < 4398046511104 := by simp; omega
  have g2 : (([] : List S27) ++ l).length + [v].length < 4398046511104 := by simp; omega
  have e1 := vrow_f k l c (by omega) hf (by omega)
  have e3 : (rowV l c == 0) = false := by simpa using h0
  rw [potsherdlaw01_ValueRows.l0, if_neg (show ¬ (false = true) by decide), Option.bind_some, if_pos g1, if_pos g2, e1, Option.bind_some, e3, if_pos (by decide)]
theorem rows_l0 (l : List S27) (c : List S36) (v : S27) (hl : l.length < 4398046511103) (hf : FitRow l) (hv : Fit27 v) (hc : l.length = c.length) : ∀ (d i k : Nat), l.length = i + d → d + c.length + 3 ≤ k → rowV l c = rowG c (l.drop i) i →
    potsherdlaw01_ValueRows.l0 k l c true (i : Int) v.f0 v.f1 v.f2 v.f3 = some true := by
  intro d
  induction d with
  | zero =>
    intro i k hd hk he
    rw [List.drop_of_length_le (by omega)] at he
    exact fin_true l c v hl hf hv he hc k (by omega) _ (by omega)
  | succ d ih =>
    intro i k hd hk he
    obtain ⟨k, rfl⟩ : ∃ m, k = m + 1 := ⟨k - 1, by omega⟩
    have hi : i < l.length := by omega
    rw [drop_getD z27 hi, rowG] at he
    rw [potsherdlaw01_ValueRows.l0, if_pos rfl, if_pos (by omega), if_pos (by omega), rd27, rd36]
    have hm := (hf _ (mem_getD z27 hi)).1.1
    obtain ⟨x, hx⟩ : ∃ x, x = l.getD i z27 := ⟨_, rfl⟩
    rw [← hx] at hm he ⊢
    have hck : value_Check.f x.f0 x.f1 x.f2 x.f3 = some (ckV x) := by unfold value_Check.f; rw [if_pos hm]; rfl
    rw [hck, Option.bind_some]
    by_cases h0 : ckV x = 0
    · rw [if_neg (show ¬ (ckV x ≠ 0) from fun h => h h0)] at he
      rw [if_pos h0]
      by_cases h1 : x.f0 = 0
      · rw [if_neg (fun h => h.1 h1)] at he
        rw [if_pos h1, v64 (by omega)]
        exact ih (i + 1) k (by omega) (by omega) he
      · rw [if_neg h1, if_pos (by omega)]
        by_cases h2 : x.f0 = (c.getD i z36).f1
        · rw [if_neg (fun h => h.2 h2)] at he
          rw [show (x.f0 == (c.getD i z36).f1) = true by simpa using h2, v64 (by omega)]
          exact ih (i + 1) k (by omega) (by omega) he
        · rw [if_pos ⟨h1, h2⟩] at he
          rw [show (x.f0 == (c.getD i z36).f1) = false by simpa using h2]
          exact fin_false l c v hl hf (by rw [he]; decide) k (by omega) _
    · rw [if_pos h0] at he
      rw [if_neg h0]
      exact fin_false l c v hl hf (by rw [he]; exact h0) k (by omega) _
theorem rows (l : List S27) (c : List S36) (v : S27) (hl : l.length < 4398046511103) (hf : FitRow l) (hv : Fit27 v) : ∃ k, potsherdlaw01_ValueRows.f k l c v.f0 v.f1 v.f2 v.f3 = some true := by
  refine ⟨l.length + c.length + 10, ?_⟩
  unfold potsherdlaw01_ValueRows.f potsherdlaw01_lives.f
  rw [Option.bind_some, if_pos rfl]
  by_cases hc : l.length = c.length
  · rw [show ((l.length : Int) == (c.length : Int)) = true by simp; omega]
    exact rows_l0 l c v hl hf hv hc l.length 0 _ (by omega) (by omega) (by unfold rowV; rw [if_pos hc]; rfl)
  · rw [show ((l.length : Int) == (c.length : Int)) = false by simp; omega]
    exact fin_false l c v hl hf (by unfold rowV; rw [if_neg hc]; decide) _ (by omega) _
end Go.Proofs.YtepgjdmdogblmaaDoor.Lx
