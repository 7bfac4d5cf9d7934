/- Package disk: how two names are held against each other, the search by halves, the place of a file. No condition but that the files' names rise. -/
import Derived.Test.YtebngchdmpabhaaGx0
import Derived.Test.YtebngchdmpabhaaDel
import Derived.WalkLawsBesides
import Derived.Sort.Walk0
namespace Go.Proofs.Ytebngchdmpabhaa.Disk
open Go.RowKit Go.Proofs.Ytebngchdmpabhaa.G Go.Proofs.YtebngchdmpabhaaW.PrintWords Go.Proofs.YtebngchdmpabhaaW.PrintLast Go.Proofs.YtebngchdmpabhaaW.PrintMore Go.Proofs.YtebngchdmpabhaaW.Raw
set_option linter.unusedVariables false
set_option linter.unusedSimpArgs false
def ltS (a b : ByteArray) : Bool := Op.bytesLess a.toList b.toList
def eqS (a b : ByteArray) : Bool := a.toList == b.toList
def cmpS (a b : ByteArray) : Int := if ltS a b then -1 else if eqS a b then 0 else 1
theorem isnan (a : ByteArray) (w : World) : Calls Try.prog 41 #[.string a] w fun e w' => e = .returned (.bool false) ∧ w = w' := by
  have h : (a.toList != a.toList) = false := by simp
  go_enter Try.func41, Try.ntmps41
  go_wp2
  go_ret
  exact ⟨by simp, rfl⟩
theorem compare_calls (a b : ByteArray) (w : World) : Calls Try.prog 39 #[.string a, .string b] w fun e w' => e = .returned (.int .i64 (cmpS a b)) ∧ w = w' := by
  rcases h1 : ltS a b with _ | _
  · rcases h2 : eqS a b with _ | _
    · have H : Hid (cmpS a b = 1) := by show cmpS a b = 1; simp [cmpS, h1, h2]
      have e1 : Op.bytesLess a.toList b.toList = false := h1
      have e2 : (a.toList == b.toList) = false := h2
      clear h1 h2
      go_enter Try.func39, Try.ntmps39
      go_wp2_with (go_at_call 41; refine (isnan _ _).mono ?_; rintro e w' ⟨rfl, rfl⟩)
      go_ret
      rw [H.out]
      exact ⟨rfl, rfl⟩
    · have H : Hid (cmpS a b = 0) := by show cmpS a b = 0; simp [cmpS, h1, h2]
      have e1 : Op.bytesLess a.toList b.toList = false := h1
      have e2 : (a.toList == b.toList) = true := h2
      clear h1 h2
      go_enter Try.func39, Try.ntmps39
      go_wp2_with (go_at_call 41; refine (isnan _ _).mono ?_; rintro e w' ⟨rfl, rfl⟩)
      go_ret
      rw [H.out]
      exact ⟨rfl, rfl⟩
  · have H : Hid (cmpS a b = -1) := by show cmpS a b = -1; simp [cmpS, h1]
    have e1 : Op.bytesLess a.toList b.toList = true := h1
    skip
    clear h1
    go_enter Try.func39, Try.ntmps39
    go_wp2_with (go_at_call 41; refine (isnan _ _).mono ?_; rintro e w' ⟨rfl, rfl⟩)
    go_ret
    rw [H.out]
    exact ⟨rfl, rfl⟩

/-- the closure of 'find' -/
theorem closure_calls (f : S41) (b : ByteArray) (w : World) : Calls Try.prog 38 #[.agg #[.string f.f0, .string f.f1, .int .i64 f.f2], .string b] w fun e w' => e = .returned (.int .i64 (cmpS f.f0 b)) ∧ Below w.heap.size w w' := by
  go_enter Try.func38, Try.ntmps38
  go_wp2_with (go_at_call 39; refine (compare_calls _ _ _).mono ?_; rintro e w' ⟨rfl, rfl⟩)
  go_ret
  exact ⟨rfl, (Below.refl _ _).alloc (Nat.le_refl _) _⟩
end Go.Proofs.Ytebngchdmpabhaa.Disk
