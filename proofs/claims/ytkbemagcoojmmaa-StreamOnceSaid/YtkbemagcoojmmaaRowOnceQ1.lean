/- StreamOnce: whatever a stream, rows, picks and acks, the law answers true, and its arguments read as they did. No condition. -/
import Derived.Test.YtkbemagcoojmmaaRows
import Derived.Test.YtkbemagcoojmmaaOnQ1
import Derived.Test.YtkbemagcoojmmaaOqQ1
import Derived.WalkKit
import Derived.ProofKit
import Derived.OpenShut
import Derived.Below
import Derived.ShutString
import Derived.ChangeOld
import Derived.SizedLaws
import Derived.Deep.DeepHandedRow
import Derived.Lay
import Derived.LaidOnce
namespace Go.Proofs.Ytkbemagcoojmmaa.streamOnce
open Go.ChangeShapes Go.WideShapes Go.ChangeAt Go.RowKit
open Go.ChangeMaps (open_string shut_string)
set_option linter.unusedVariables false
set_option linter.unusedSimpArgs false
theorem own : ownKnob Try.prog.godebug = none := by kernel_rfl
def laid : List (String × DataW Unit) := []
def wit : Array Value := #[.agg #[.int .u64 0, .int .u64 0, .int .i64 0, .int .i64 0, .int .i64 0], .slice none 0 0, .slice none 0 0, .slice none 0 0]
theorem reads (os : Os) {H : Type} (enc : TypeId × Value → H) : ∃ places, DataW.whole enc Try.prog ((World.laidAll Try.prog os laid).forCall (fun _ _ => 0) ⟨#[], wit, []⟩).memory Try.f6.params.toList Rows.streamOnceSpec.vars false wit.toList 8 = some ([.agg [.agg [.lit (.int .u64 0), .lit (.int .u64 0)], .lit (.int .i64 0), .lit (.int .i64 0), .lit (.int .i64 0)], .nil, .nil, .nil], [], places) :=
  ⟨[], by kernel_rfl⟩
set_option maxRecDepth 100000 in
theorem lifted (os : Os) (started : os.Started) (H : Type) (enc : TypeId × Value → H) (F : Stop.Interp) :
    ReturnsInHanded {} Try.checked os 6 .any ((OpenSpec.ofChange Rows.streamOnceSpec).preRow enc Try.prog Try.f6 Rows.streamOnceRow.domain false Rows.streamOnceRow.laid) (((OpenSpec.ofChange Rows.streamOnceSpec).at F).post enc Try.prog Try.f6 false true false false) := by
  obtain ⟨places, hx⟩ := reads os enc
  refine returnsInHanded_of_row (C := Try.checked) (s := (OpenSpec.ofChange Rows.streamOnceSpec)) own started (by kernel_rfl) Try.func6
    (witness_row_at (enc := enc) (C := Try.checked) false (World.laidAll Try.prog os laid) wit (World.laidAll_os _ _ _) (by kernel_rfl) (by kernel_rfl) (by kernel_rfl)
      (OpenSpec.preRow_of_cond 8 hx (by kernel_rfl) (fun k hk => by cases hk) (by kernel_rfl) (laidMet_laidAll _ (by kernel_rfl) (by kernel_rfl)))) ?_
  intro W base args ds gs before hval0 hW _ hcond hsz0 hL _ _
  have hval : ∀ (j : Nat) t v, Try.f6.params[j]? = some t → args[j]? = some v → Value.okWide Try.prog W .any base t v := hval0
  have hsz : (DataW.weightsEach Try.prog (Try.f6.params.toList ++ Rows.streamOnceSpec.plain.varTypes Try.prog) (ds ++ gs)).all (· ≤ reachBytes) = true := hsz0
  have hW' := hW
  obtain ⟨p, q, hA0, hV, rfl, hfz, hnd⟩ := hW
  have hA : DataW.TrodAll enc Try.prog W 0 (fun _ => true) true Try.f6.params.toList args.toList ds p := hA0
  rw [Try.params6] at hA hval hsz
  obtain ⟨v0, vs0, d0, ds0, p0, q0, hargs, rfl, rfl, h0, r0⟩ := trodAll_cons hA
  obtain ⟨v1, vs1, d1, ds1, p1, q1, rfl, rfl, rfl, h1, r1⟩ := trodAll_cons r0
  obtain ⟨v2, vs2, d2, ds2, p2, q2, rfl, rfl, rfl, h2, r2⟩ := trodAll_cons r1
  obtain ⟨v3, vs3, d3, ds3, p3, q3, rfl, rfl, rfl, h3, r3⟩ := trodAll_cons r2
  obtain ⟨rfl, rfl, rfl⟩ := trodAll_nil r3
  obtain rfl : args = #[v0, v1, v2, v3] := by cases args; simp_all
  obtain ⟨rfl, rfl⟩ := trodVars_none hV
  have lt0 : ∀ x ∈ p0, x.block < W.heap.size := by obtain ⟨m, hm⟩ := h0; exact DataW.trod_lt m _ _ _ hm
  have lt1 : ∀ x ∈ p1, x.block < W.heap.size := by obtain ⟨m, hm⟩ := h1; exact DataW.trod_lt m _ _ _ hm
  have lt2 : ∀ x ∈ p2, x.block < W.heap.size := by obtain ⟨m, hm⟩ := h2; exact DataW.trod_lt m _ _ _ hm
  have lt3 : ∀ x ∈ p3, x.block < W.heap.size := by obtain ⟨m, hm⟩ := h3; exact DataW.trod_lt m _ _ _ hm
  obtain ⟨n0, n1, n2, n3, n4, rfl⟩ := Opn.arg26 (hval 0 26 v0 rfl rfl) h0
  obtain ⟨A, c, l, rfl, a1, a2, _, s1, _⟩ := Opn.arg_slice Try.underlying28 Opn.opens28 (hval 1 28 v1 rfl rfl) h1
  have hft := s1 (Opn.small_of (j := 1) hsz rfl rfl)
  obtain ⟨A3, c3, l3, rfl, b1, b2, _, s3, _⟩ := Opn.arg_slice Try.underlying33 Opn.opens33 (hval 2 33 v2 rfl rfl) h2
  have hl3 := s3 (Opn.small_of (j := 2) hsz rfl rfl)
  obtain ⟨A4, c4, l4, rfl, d1_, d2_, _, s4, _⟩ := Opn.arg_slice Try.underlying78 Opn.opens78 (hval 3 78 v3 rfl rfl) h3
  have hl4 := s4 (Opn.small_of (j := 3) hsz rfl rfl)
  clear hA0 hval0 hsz0 hsz
  refine (Val.once_true n0 n1 n2 n3 n4 A A3 A4 l.length c l3.length c3 l4.length c4 l l3 l4 W rfl a2 a1 hft rfl b2 rfl d2_ hl3 hl4).mono fun e W' ⟨he, bel⟩ => ?_
  subst he
  have h3' := Below.trod (t := 78) (by kernel_rfl) (by kernel_rfl) (of_decide_eq_true (by kernel_rfl)) h3 bel lt3
  have h2' := Below.trod (t := 33) (by kernel_rfl) (by kernel_rfl) (of_decide_eq_true (by kernel_rfl)) h2 bel lt2
  have h1' := Below.trod (t := 28) (by kernel_rfl) (by kernel_rfl) (of_decide_eq_true (by kernel_rfl)) h1 bel lt1
  have h0' := Below.trod (t := 26) (by kernel_rfl) (by kernel_rfl) (of_decide_eq_true (by kernel_rfl)) h0 bel lt0
  exact ⟨_, rfl, _, _, _, [], _, [], hW', trodAll_mk1 (shut_bool Try.underlying4 _), (trodAll_cons_mk h0' (trodAll_cons_mk h1' (trodAll_cons_mk h2' (trodAll_cons_mk h3' trodAll_mk0)))), rfl, bel.frame _, fun h => by cases h⟩
theorem proved : Rows.StreamOnceSaid :=
  OpenClaim.holds_of_cond 6 Try.f6 rfl rfl rfl rfl rfl rfl rfl ⟨rfl, rfl, rfl, rfl, rfl⟩ rfl rfl rfl rfl rfl (by kernel_rfl) Try.func6 (by kernel_rfl)
    (of_decide_eq_true (by kernel_rfl)) (by unfold Func.isWrapper; first | (rw [if_pos (by decide +kernel)]; kernel_rfl) | (rw [if_neg (by decide +kernel)]; exact ⟨rfl, rfl⟩))
    (fun os started H enc _ F => by rw [OpenClaim.pre_eq_preRow]; exact lifted os started H enc F)
#print axioms proved
end Go.Proofs.Ytkbemagcoojmmaa.streamOnce
