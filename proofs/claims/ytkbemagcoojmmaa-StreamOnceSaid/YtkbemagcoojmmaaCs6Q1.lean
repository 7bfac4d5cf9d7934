/- The contracts of Cut (of package stream, of the reference) in the form that printed texts take. Condition: the rows can be copied, and are fewer than 2^62. -/
import Derived.Test.YtkbemagcoojmmaaCs5Q1
namespace Go.Proofs.Ytkbemagcoojmmaa.Lx
open Go.RowKit Go.Proofs.Ytkbemagcoojmmaa.G Go.Proofs.YtkbemagcoojmmaaW.PrintWords Go.Proofs.YtkbemagcoojmmaaW.PrintLast Go.Proofs.YtkbemagcoojmmaaW.PrintMore
set_option linter.unusedVariables false
instance (m : List (List S112)) : Decidable (FitR m) := inferInstanceAs (Decidable (m.length < 5864062014805 ∧ ∀ r ∈ m, r.length < 4398046511104))
def cutV (a0 a1 a2 a3 a4 : Int) (l : List (List S112)) : Int × Int × Int × Int × Int × List (List (List S112)) × Int × Int := if 4096 < l.length then (0, 0, 0, 0, 0, [], 0, 3) else (a0, a1, a2, a3, a4, cutG l, 0, 0)
def stream_Cut.f (k : Nat) (a0_0 : Int) (a0_1 : Int) (a0_2 : Int) (a0_3 : Int) (a0_4 : Int) (l1 : List (List (S112))) : Option (Int × Int × Int × Int × Int × (List (List (List (S112)))) × Int × Int) := if FitR l1 then some (cutV a0_0 a0_1 a0_2 a0_3 a0_4 l1) else none
theorem stream_Cut.calls (k : Nat) (a0_0 : Int) (a0_1 : Int) (a0_2 : Int) (a0_3 : Int) (a0_4 : Int) (P1_ : Nat → Prop) (A1 : Option Addr) (c1 : Nat) (l1 : List (List (S112))) (r1 : Int) (r2 : Int) (r3 : Int) (r4 : Int) (r5 : Int) (r6 : List (List (List (S112)))) (r7 : Int) (r8 : Int) (w : World) (hs1 : Kd.V (Kd.slice 112 k112) 101 w w.heap.size (fun k_ => P1_ k_) (.slice A1 l1.length c1) l1) (h : stream_Cut.f k a0_0 a0_1 a0_2 a0_3 a0_4 l1 = some (r1, r2, r3, r4, r5, r6, r7, r8)) :
    Calls Try.prog 19 #[.agg #[.int .u64 a0_0, .int .u64 a0_1, .int .i64 a0_2, .int .i64 a0_3, .int .i64 a0_4], .slice A1 l1.length c1] w fun e w' => ∃ v5_ : Value, e = .returned (.tuple #[.agg #[.int .u64 r1, .int .u64 r2, .int .i64 r3, .int .i64 r4, .int .i64 r5, v5_, .int .u64 r7], .int .i64 r8]) ∧ Kd.N (Kd.slice 101 (Kd.slice 112 k112)) 28 w' w.heap.size (fun k_ => (P1_ k_ ∨ w.heap.size ≤ k_)) v5_ r6 ∧ Below w.heap.size w w' := by
  unfold stream_Cut.f at h
  split at h
  · rename_i hf
    have e := Option.some.inj h
    unfold cutV at e
    split at e
    · rename_i hl
      injection e with e1 e; injection e with e2 e; injection e with e3 e; injection e with e4 e; injection e with e5 e; injection e with e6 e; injection e with e7 e8
      subst e1 e2 e3 e4 e5 e6 e7 e8
      exact Val.cut_many a0_0 a0_1 a0_2 a0_3 a0_4 P1_ A1 c1 l1.length w hl
    · rename_i hl
      injection e with e1 e; injection e with e2 e; injection e with e3 e; injection e with e4 e; injection e with e5 e; injection e with e6 e; injection e with e7 e8
      subst e1 e2 e3 e4 e5 e6 e7 e8
      exact Val.cut_main a0_0 a0_1 a0_2 a0_3 a0_4 (l1.length + 1) P1_ A1 c1 l1 w hs1 (by omega) (own_f _ l1 hf (Nat.le_refl _))
  · cases h
end Go.Proofs.Ytkbemagcoojmmaa.Lx
