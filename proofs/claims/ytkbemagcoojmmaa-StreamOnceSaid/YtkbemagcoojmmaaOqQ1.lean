/- Ints and bools that came in (chapter 13). No condition. -/
import Derived.Test.YtkbemagcoojmmaaOpQ1
namespace Go.Proofs.Ytkbemagcoojmmaa.Opn
open Go.RowKit Go.Proofs.Ytkbemagcoojmmaa.G Go.Proofs.Ytkbemagcoojmmaa.Lx Go.Proofs.YtkbemagcoojmmaaW.PrintWords Go.Proofs.YtkbemagcoojmmaaW.PrintLast Go.Proofs.YtkbemagcoojmmaaW.PrintMore
open Go.ChangeShapes Go.WideShapes Go.Deep Go.Joins
variable {H : Type} {enc : TypeId × Value → H} {w : World} {spare : Nat → Bool} {held : Bool}
theorem opens33 : Opens Try.prog enc w spare held 33 (Kd.slice 3 (Kd.int .i64)) (fun _ => True) (fun l => l.length ≤ 4611686018427387904) (fun _ => 1) :=
  Opens.imp (opens_slice Try.underlying33 (by kernel_rfl) (opens_int Try.underlying3)) (fun _ _ => trivial) (fun l h => by have := h.1; rw [show Try.prog.bytesOf 3 = 8 by kernel_rfl] at this; omega) (fun _ => by show 1 ≤ _ + 1; omega)
theorem opens78 : Opens Try.prog enc w spare held 78 (Kd.slice 4 Kd.bool) (fun _ => True) (fun l => l.length ≤ 4611686018427387904) (fun _ => 1) :=
  Opens.imp (opens_slice Try.underlying78 (by kernel_rfl) (opens_bool Try.underlying4)) (fun _ _ => trivial) (fun l h => by have := h.1; rw [show Try.prog.bytesOf 4 = 1 by kernel_rfl] at this; omega) (fun _ => by show 1 ≤ _ + 1; omega)
end Go.Proofs.Ytkbemagcoojmmaa.Opn
