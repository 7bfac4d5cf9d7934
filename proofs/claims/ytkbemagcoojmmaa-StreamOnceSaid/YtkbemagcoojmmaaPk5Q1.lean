/- Plain laws of chapter 13's document: what its CheckOut and its Send answer; what is cut can be copied. Conditions: batches, rows, values of a row are not too many. -/
import Derived.Test.YtkbemagcoojmmaaPk3Q1
import Derived.Test.YtkbemagcoojmmaaLp1Q1
namespace Go.Proofs.Ytkbemagcoojmmaa.Lx
open Go.RowKit Go.Proofs.Ytkbemagcoojmmaa.G Go.Proofs.Ytkbemagcoojmmaa.Val Go.Proofs.YtkbemagcoojmmaaW.PrintWords Go.Proofs.YtkbemagcoojmmaaW.PrintLast Go.Proofs.YtkbemagcoojmmaaW.PrintMore
set_option linter.unusedVariables false
set_option linter.unusedSimpArgs false
theorem cutG_fit (l : List (List S112)) (h : FitR l) (h4 : l.length ≤ 4096) : FitO (cutG l) := by
  refine ⟨by rw [cutG_count]; omega, fun b hb => ⟨by have := cutG_le l b hb; omega, fun r hr => h.2 r ?_⟩⟩
  rw [← cutG_flat l]
  exact List.mem_flatten.2 ⟨b, hb, hr⟩
end Go.Proofs.Ytkbemagcoojmmaa.Lx
