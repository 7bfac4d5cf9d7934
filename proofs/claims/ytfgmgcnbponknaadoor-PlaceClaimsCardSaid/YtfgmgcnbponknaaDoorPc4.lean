/- PlaceClaims: the law's own reading agrees with the module's. Conditions: lists and texts are shorter than 2^44. -/
import Derived.Test.YtfgmgcnbponknaaDoorPc2
import Derived.Test.YtfgmgcnbponknaaDoorLp7
namespace Go.Proofs.YtfgmgcnbponknaaDoor.Lx
open Go.RowKit Go.Proofs.YtfgmgcnbponknaaDoor.G Go.Proofs.YtfgmgcnbponknaaDoor.Opn Go.Proofs.YtfgmgcnbponknaaDoorW.PrintWords Go.Proofs.YtfgmgcnbponknaaDoorW.PrintLast Go.Proofs.YtfgmgcnbponknaaDoorW.PrintMore
set_option linter.unusedVariables false
set_option linter.unusedSimpArgs false
theorem claims (n0 n1 n2 b0 b1 : Int) (nm : ByteArray) (l : List S97) (m : List (List Int)) (b : List Bool) (B : Nat) (h : n0 ≤ 9223372036854775807) (h' : -9223372036854775808 ≤ n0) (hf : FitR nm l m B) (hl : l.length < 4611686018427387904) :
    ∃ k, potsherdlaw06_PlaceClaims.f k n0 n1 n2 nm l b0 b1 m b = some true := by
  refine ⟨100 + (m.length * (B + 2) + 2 * l.length + 200 + B + m.length), ?_⟩
  obtain ⟨e1, e2⟩ := pick_f n0 n1 n2 b0 b1 nm l m b B hf hl
  have e3 := pickV_len n0 n1 n2 nm l m b
  have e4 := hf.2.2.2.1
  unfold potsherdlaw06_PlaceClaims.f
  rw [e1, Option.bind_some, rpick_f _ n0 n1 n2 b0 b1 nm l m b B h h' hf (by omega), Option.bind_some, lives_k, Option.bind_some, if_pos rfl, ints_f _ _ (by omega) (by omega), Option.bind_some, if_pos rfl, if_pos rfl, e2, Option.bind_some, rclaim_f _ n0 n1 n2 b0 b1 nm l m B h h' hf (by omega), Option.bind_some, beq_self_eq_true]
end Go.Proofs.YtfgmgcnbponknaaDoor.Lx
