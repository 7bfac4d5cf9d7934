/- The reference's Cut (package potsherdref13). Condition: the rows are read, and can be copied. Printed by gcs4.py. -/
import Derived.Test.YtkbemagcoojmmaaCv0Q1
namespace Go.Proofs.Ytkbemagcoojmmaa.Val
open Go.RowKit Go.Proofs.Ytkbemagcoojmmaa.G Go.Proofs.Ytkbemagcoojmmaa.Lx Go.Proofs.YtkbemagcoojmmaaW.PrintWords Go.Proofs.YtkbemagcoojmmaaW.PrintLast Go.Proofs.YtkbemagcoojmmaaW.PrintMore
set_option linter.unusedVariables false
set_option linter.unusedSimpArgs false
abbrev E1 := Kd.slice 112 k112
abbrev E2 := Kd.slice 101 E1
theorem N_neB {α : Type} {d : Kd α} {e b g t : Nat} {W : World} {ok : Nat → Prop} {v : Value} {xs : List α} {cs : Array Value} (h : Kd.N d e W b ok v xs) (hb : W.heap[g]? = some (.cells cs t (0, 0))) (ht : e ≠ t) : some g ≠ v.ownBlock := fun he => by
  obtain ⟨cells, hc⟩ := Kd.N_typed h g he.symm
  rw [hb] at hc
  injection hc with hc
  injection hc with _ hc
  exact ht hc.symm
def lenOf : Value → Nat
  | .slice _ n _ => n
  | _ => 0
def CutPost (w : World) (st : List Value) (X : List (List (List S112))) (n r : Int) (P : Nat → Prop) (e : Ending) (w' : World) : Prop := ∃ v5, e = .returned (.tuple #[.agg (st ++ [v5, .int .u64 n]).toArray, .int .i64 r]) ∧ Kd.N E2 28 w' w.heap.size P v5 X ∧ Below w.heap.size w w'
end Go.Proofs.Ytkbemagcoojmmaa.Val
