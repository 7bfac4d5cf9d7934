/- Package stream: CheckOut's contract in the form that printed texts take. Condition: the batches are read, and fewer than 2^62. -/
import Derived.Test.YtkbemagcoojmmaaCs2Q1
namespace Go.Proofs.Ytkbemagcoojmmaa.Lx
open Go.RowKit Go.Proofs.Ytkbemagcoojmmaa.G Go.Proofs.YtkbemagcoojmmaaW.PrintWords Go.Proofs.YtkbemagcoojmmaaW.PrintLast Go.Proofs.YtkbemagcoojmmaaW.PrintMore
set_option linter.unusedVariables false
def stream_CheckOut.f (k : Nat) (a0_0 : Int) (a0_1 : Int) (a0_2 : Int) (a0_3 : Int) (a0_4 : Int) (l0_5 : List (List (List (S112)))) (a0_6 : Int) : Option (Int) := if l0_5.length ≤ 4611686018427387904 then some (Val.outV l0_5 a0_6) else none
theorem stream_CheckOut.calls (k : Nat) (a0_0 : Int) (a0_1 : Int) (a0_2 : Int) (a0_3 : Int) (a0_4 : Int) (A0_5 : Option Addr) (c0_5 : Nat) (l0_5 : List (List (List (S112)))) (a0_6 : Int) (r : Int) (w : World) (hr0_5 : Kd.C (Kd.slice 101 (Kd.slice 112 k112)) w A0_5 l0_5.length l0_5) (hc0_5 : l0_5.length ≤ c0_5) (h : stream_CheckOut.f k a0_0 a0_1 a0_2 a0_3 a0_4 l0_5 a0_6 = some r) :
    Calls Try.prog 21 #[.agg #[.int .u64 a0_0, .int .u64 a0_1, .int .i64 a0_2, .int .i64 a0_3, .int .i64 a0_4, .slice A0_5 l0_5.length c0_5, .int .u64 a0_6]] w fun e w' => e = .returned (.int .i64 r) ∧ Below w.heap.size w w' := by
  unfold stream_CheckOut.f at h
  split at h
  · rename_i hn
    rw [← Option.some.inj h]
    exact Val.checkout_calls a0_0 a0_1 a0_2 a0_3 a0_4 a0_6 A0_5 c0_5 l0_5 w hr0_5 hc0_5 hn
  · cases h
end Go.Proofs.Ytkbemagcoojmmaa.Lx
