/- Package slices: twelve whole numbers or fewer sorted; math/bits.Len. No condition but that the row is read. -/
import Derived.Test.YtfgmgcnbponknaaDoorAc1
import Derived.Test.YtfgmgcnbponknaaDoorShelf3
namespace Go.Proofs.YtfgmgcnbponknaaDoor.Lx
open Go.RowKit Go.Proofs.YtfgmgcnbponknaaDoor.G Go.Proofs.YtfgmgcnbponknaaDoorW.PrintWords Go.Proofs.YtfgmgcnbponknaaDoorW.PrintLast Go.Proofs.YtfgmgcnbponknaaDoorW.PrintMore
set_option linter.unusedVariables false
set_option linter.unusedSimpArgs false
def bits_Len.f (a0 : Int) : Option Int := if 0 ≤ a0 ∧ a0 ≤ 18446744073709551615 then some (Lib.bitLen a0.toNat) else none
theorem bits_Len.calls (a0 : Int) (r : Int) (w : World) (h : bits_Len.f a0 = some r) :
    Calls Tryd.prog 55 #[.int .u64 a0] w fun e w' => e = .returned (.int .i64 r) ∧ Below w.heap.size w w' := by
  unfold bits_Len.f at h
  split at h
  · rename_i hk
    obtain rfl := Option.some.inj h
    exact (Tryd.bits_Len a0 w hk.1 hk.2).mono fun e w' ⟨h1, h2⟩ => ⟨h1, by rw [h2]; exact Below.refl _ _⟩
  · cases h
def slices_pdqsortOrdered_int.f (k : Nat) (l0 : List Int) (a1 a2 a3 : Int) : Option (List Int) := if a1 = 0 ∧ 0 ≤ a2 ∧ a2 ≤ 12 then slices_insertionSortOrdered_int.f k l0 0 a2 else none
theorem slices_pdqsortOrdered_int.mono : ∀ a0 a1 a2 a3 k, LeO (slices_pdqsortOrdered_int.f k a0 a1 a2 a3) (slices_pdqsortOrdered_int.f (k + 1) a0 a1 a2 a3) := by
  intro a0 a1 a2 a3 k
  unfold slices_pdqsortOrdered_int.f
  exact LeO.ite (slices_insertionSortOrdered_int.mono _ _ _ _) (LeO.none _)
set_option maxHeartbeats 4000000 in
set_option maxRecDepth 100000 in
theorem slices_pdqsortOrdered_int.calls (k : Nat) (P0_ : Nat → Prop) (u9000_ : Value) (l0 : List Int) (a1 : Int) (a2 : Int) (a3 : Int) (r : List Int) (w0 w : World) (hB : Below w0.heap.size w0 w) (ho0 : Kd.R (Kd.int .i64) 3 w w0.heap.size P0_ u9000_ l0) (h : slices_pdqsortOrdered_int.f k l0 a1 a2 a3 = some r) :
    Calls Tryd.prog 54 #[u9000_, .int .i64 a1, .int .i64 a2, .int .i64 a3] w fun e w' => e = .returned (.tuple #[]) ∧ Kd.R (Kd.int .i64) 3 w' w0.heap.size (fun k_ => (P0_ k_ ∨ w.heap.size ≤ k_)) u9000_ r ∧ Below w0.heap.size w0 w' ∧ Kept w w' (fun k_ => P0_ k_) := by
  unfold slices_pdqsortOrdered_int.f at h
  split at h
  · rename_i hk
    obtain ⟨rfl, h1, h2⟩ := hk
    have HH := Lib.hid h
    have HB := Lib.hid hB
    have HO := Lib.hid ho0
    clear h hB ho0
    have hw : IntKind.i64.wrap (a2 - 0) = a2 := by rw [IntKind.wrap_i64]; omega
    have hd : decide (a2 ≤ 12) = true := decide_eq_true h2
    go_enter Tryd.func54, Tryd.ntmps54
    go_wp2
    refine wp_loop_rounds 1 ?_
    rw [rounds_succ]
    go_wp2_with (go_at_call 74; refine (slices_insertionSortOrdered_int.calls k P0_ u9000_ l0 0 a2 r w0 w HB.out HO.out HH.out).mono ?_; rintro e w6 ⟨rfl, g1, g2, g3⟩)
    first | go_end0 | refine bodyPost_ret (results_none rfl _ _ _) rfl ?_
    exact ⟨rfl, g1, g2, g3⟩
  · cases h
end Go.Proofs.YtfgmgcnbponknaaDoor.Lx
