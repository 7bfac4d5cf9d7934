/- The laws' own test of known answers; whole numbers that are the same. Condition: a list is shorter than 2^62. -/
import Derived.Test.YtfgmgcnbponknaaDoorLp5
import Derived.Test.YtfgmgcnbponknaaDoorPc1
namespace Go.Proofs.YtfgmgcnbponknaaDoor.Lx
open Go.RowKit Go.Proofs.YtfgmgcnbponknaaDoor.G Go.Proofs.YtfgmgcnbponknaaDoor.Opn Go.Proofs.YtfgmgcnbponknaaDoorW.PrintWords Go.Proofs.YtfgmgcnbponknaaDoorW.PrintLast Go.Proofs.YtfgmgcnbponknaaDoorW.PrintMore
set_option linter.unusedVariables false
set_option linter.unusedSimpArgs false
theorem ints_l0 (a : List Int) (hl : a.length < 4611686018427387904) : ∀ (d i k : Nat), a.length = i + d → d + 1 ≤ k → potsherdref06_Ints.l0 k a a (a.length : Int) (i : Int) = some true := by
  intro d
  induction d with
  | zero =>
    intro i k hd hk
    obtain ⟨k, rfl⟩ : ∃ j, k = j + 1 := ⟨k - 1, by omega⟩
    rw [potsherdref06_Ints.l0, if_neg (by omega)]
  | succ d ih =>
    intro i k hd hk
    obtain ⟨k, rfl⟩ : ∃ j, k = j + 1 := ⟨k - 1, by omega⟩
    rw [potsherdref06_Ints.l0, if_pos (by omega), if_pos (by omega), if_pos (by omega), if_pos (by omega), if_pos rfl, v64 (by omega), ih (i + 1) k (by omega) (by omega)]
theorem ints_f (k : Nat) (a : List Int) (hl : a.length < 4611686018427387904) (hk : a.length + 1 ≤ k) : potsherdref06_Ints.f k a a = some true := by
  unfold potsherdref06_Ints.f
  rw [if_pos rfl]
  exact ints_l0 a hl a.length 0 k (by omega) hk
theorem lives_100 : potsherdlaw06_lives.f 100 = some true := by kernel_rfl
theorem lives_k : ∀ j, potsherdlaw06_lives.f (100 + j) = some true
  | 0 => lives_100
  | j + 1 => potsherdlaw06_lives.mono (100 + j) _ (lives_k j)
end Go.Proofs.YtfgmgcnbponknaaDoor.Lx
