/- A disk that came in, opened, with a bound that leaves room for one file more. No condition. -/
import Derived.Test.YtebngchdmpabhaaOpenStep
namespace Go.Proofs.Ytebngchdmpabhaa.Disk
open Go.RowKit Go.Proofs.Ytebngchdmpabhaa.G Go.Proofs.YtebngchdmpabhaaW.PrintWords Go.Proofs.YtebngchdmpabhaaW.PrintLast Go.Proofs.YtebngchdmpabhaaW.PrintMore
open Go.ChangeShapes Go.WideShapes Go.Deep Go.Joins
set_option linter.unusedVariables false
set_option linter.unusedSimpArgs false
variable {H : Type} {enc : TypeId × Value → H} {w : World} {spare : Nat → Bool} {held : Bool}
theorem open_disk2 {r : Reach} {b0 : Nat} {v : Value} {d : DataW H} {p : List MemPlace} (hv : Value.okWide Try.prog w r b0 24 v) (h : DataW.Trod enc Try.prog w 0 spare held 24 v d p) :
    ∃ (A : Option Addr) (c : Nat) (l : List S41) (down : Bool) (fuse : Int), v = .agg #[.slice A l.length c, .bool down, .int .i64 fuse] ∧ l.length ≤ c ∧ Kd.C k41 w A l.length l ∧ fuse ≤ 9223372036854775807 ∧
      ((d.weights Try.prog 24).all (· ≤ reachBytes) = true → l.length + 1 < 3518437208883) := by
  obtain ⟨v0, v1, v2, y0, y1, y2, n, rfl, hd, _, h0, h1, h2⟩ := open_agg3 Try.underlying24 (by kernel_rfl) (by kernel_rfl) hv h
  obtain ⟨A, c, l, e0, hlc, hC, hD⟩ := open_files h0
  obtain ⟨b, e1, _⟩ := DataW.trod_bool Try.underlying4 h1
  obtain ⟨f, e2, _, hf⟩ := DataW.trod_int Try.underlying3 h2
  have e0' : v0 = .slice A l.length c := by simpa using e0
  have e1' : v1 = .bool b := by simpa using e1
  have e2' : v2 = .int .i64 f := by simpa using e2
  subst e0' e1' e2'
  refine ⟨A, c, l, b, f, rfl, hlc, hC, (by simpa [Lit.wf] using hf : IntKind.i64.min ≤ f ∧ f ≤ IntKind.i64.max).2, ?_⟩
  intro hw
  rcases hD with rfl | ⟨D, E, hx, hl⟩
  · simp
  · have hw2 : (DataW.weightsEach Try.prog [22, 4, 3] [y0.1, y1.1, y2.1]).all (· ≤ reachBytes) = true := by
      rw [hd] at hw
      have he : DataW.weights Try.prog 24 (.agg [y0.1, y1.1, y2.1]) = DataW.weightsEach Try.prog [22, 4, 3] [y0.1, y1.1, y2.1] := by
        rw [DataW.weights]
        simp only [Try.underlying24]
        rfl
      rw [he] at hw
      exact hw
    have hs := sized_slice hw2 (j := 0) (t := 22) (e := 41) (elems := D) (spare := E) rfl (by simp [hx]) Try.underlying22
    have hb : Try.prog.bytesOf 41 = 40 := by kernel_rfl
    rw [hb, hl] at hs
    have : reachBytes = 140737488351232 := rfl
    omega
end Go.Proofs.Ytebngchdmpabhaa.Disk
