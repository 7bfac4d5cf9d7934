/- Plain laws of chapter 13: rows are the same as themselves; what is cut comes together to the rows again, in right batches; StreamCuts. Condition: rows, values of a row are not too many. -/
import Derived.Test.YtkbemagcoojmmaaPq1Qb
import Derived.Test.YtkbemagcoojmmaaLp4Qb
import Derived.Test.YtkbemagcoojmmaaCs6Qb
import Derived.Test.YtkbemagcoojmmaaCs3Qb
namespace Go.Proofs.Ytkbemagcoojmmaa.Lx
open Go.RowKit Go.Proofs.Ytkbemagcoojmmaa.G Go.Proofs.Ytkbemagcoojmmaa.Val Go.Proofs.YtkbemagcoojmmaaW.PrintWords Go.Proofs.YtkbemagcoojmmaaW.PrintLast Go.Proofs.YtkbemagcoojmmaaW.PrintMore
set_option linter.unusedVariables false
set_option linter.unusedSimpArgs false
theorem srow_l0 (r : List S112) (hl : r.length < 4611686018427387904) : ∀ (d i k : Nat), r.length = i + d → d + 1 ≤ k → potsherdref01_SameRow.l0 k r r (r.length : Int) (i : Int) = some true := by
  intro d
  induction d with
  | zero =>
    intro i k hd hk
    obtain ⟨k, rfl⟩ : ∃ j, k = j + 1 := ⟨k - 1, by omega⟩
    rw [potsherdref01_SameRow.l0, if_neg (by omega)]
  | succ d ih =>
    intro i k hd hk
    obtain ⟨k, rfl⟩ : ∃ j, k = j + 1 := ⟨k - 1, by omega⟩
    rw [potsherdref01_SameRow.l0, if_pos (by omega), if_pos (by omega), if_pos (by omega), if_pos (by omega), if_neg (by simp), v64 (by omega), ih (i + 1) k (by omega) (by omega)]
theorem srow_f (k : Nat) (r : List S112) (hl : r.length < 4611686018427387904) (hk : r.length + 1 ≤ k) : potsherdref01_SameRow.f k r r = some true := by
  unfold potsherdref01_SameRow.f
  rw [if_pos rfl]
  exact srow_l0 r hl r.length 0 k (by omega) hk
theorem same_l0 (x : List (List S112)) (B : Nat) (hB : ∀ r ∈ x, r.length ≤ B) (hB2 : B < 4611686018427387904) (hl : x.length < 4611686018427387904) : ∀ (d i k : Nat), x.length = i + d → B + d + 2 ≤ k → potsherdref01_Same.l0 k x x (x.length : Int) (i : Int) = some true := by
  intro d
  induction d with
  | zero =>
    intro i k hd hk
    obtain ⟨k, rfl⟩ : ∃ j, k = j + 1 := ⟨k - 1, by omega⟩
    rw [potsherdref01_Same.l0, if_neg (by omega)]
  | succ d ih =>
    intro i k hd hk
    obtain ⟨k, rfl⟩ : ∃ j, k = j + 1 := ⟨k - 1, by omega⟩
    have hi : i < x.length := by omega
    have he : rd_L5 x (i : Int) = x[i] := by simp [rd_L5, List.getD_eq_getElem?_getD, hi]
    have := hB _ (List.getElem_mem hi)
    rw [potsherdref01_Same.l0, if_pos (by omega), if_pos (by omega), if_pos (by omega), if_pos (by omega), he, srow_f k _ (by omega) (by omega), Option.bind_some, if_pos rfl, v64 (by omega), ih (i + 1) k (by omega) (by omega)]
theorem same_f (k : Nat) (x : List (List S112)) (B : Nat) (hB : ∀ r ∈ x, r.length ≤ B) (hB2 : B < 4611686018427387904) (hl : x.length < 4611686018427387904) (hk : B + x.length + 2 ≤ k) : potsherdref01_Same.f k x x = some true := by
  unfold potsherdref01_Same.f
  rw [if_pos rfl]
  exact same_l0 x B hB hB2 hl x.length 0 k (by omega) hk
theorem same_fit (k : Nat) (x : List (List S112)) (h : FitR x) (hk : 4398046511106 + x.length ≤ k) : potsherdref01_Same.f k x x = some true :=
  same_f k x 4398046511104 (fun r hr => by have := h.2 r hr; omega) (by decide) (by have := h.1; omega) (by omega)
end Go.Proofs.Ytkbemagcoojmmaa.Lx
