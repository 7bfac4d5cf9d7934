/- Package stream: CheckOut, with slices.ContainsFunc, slices.IndexFunc and the closure that they are handed. Condition: the batches are read. -/
import Derived.Test.YtkbemagcoojmmaaLp1Q1
import Derived.Lib.Hide
namespace Go.Proofs.Ytkbemagcoojmmaa.Val
open Go.RowKit Go.Proofs.Ytkbemagcoojmmaa.G Go.Proofs.Ytkbemagcoojmmaa.Lx Go.Proofs.YtkbemagcoojmmaaW.PrintWords Go.Proofs.YtkbemagcoojmmaaW.PrintLast Go.Proofs.YtkbemagcoojmmaaW.PrintMore
set_option linter.unusedVariables false
set_option linter.unusedSimpArgs false
abbrev D1 := Kd.slice 112 k112
abbrev D2 := Kd.slice 101 D1
abbrev Rows := List (List S112)
theorem clos47 (A : Option Addr) (n c : Nat) (w : World) : Calls Try.prog 47 #[.slice A n c] w fun e w' => e = .returned (.bool ((n : Int) != 8)) ∧ w = w' := by
  go_enter Try.func47, Try.ntmps47
  go_wp2
  go_ret
  exact ⟨by simp, rfl⟩
def no8 (b : Rows) : Bool := (b.length : Int) != 8
set_option maxHeartbeats 1000000 in
set_option maxRecDepth 100000 in
theorem index_calls (A : Option Addr) (c : Nat) (l : List Rows) (w : World) (hr : Kd.C D2 w A l.length l) (hn : l.length ≤ 4611686018427387904) :
    Calls Try.prog 61 #[.slice A l.length c, .func (.func 47) #[] #[]] w fun e w' => ∃ r : Int, e = .returned (.int .i64 r) ∧ decide (0 ≤ r) = l.any no8 ∧ Below w.heap.size w w' := by
  have HR := Lib.hid hr
  clear hr
  obtain ⟨n, hN⟩ : ∃ n, n = l.length := ⟨_, rfl⟩
  rw [← hN] at HR hn ⊢
  have HN := Lib.hid hN
  clear hN
  go_enter Try.func61, Try.ntmps61
  go_wp2
  go_loopw [8] (fun vi wr => ∃ k : Nat, vi = .int .i64 k ∧ k ≤ n ∧ Hid (∀ j, j < k → no8 (l.getD j []) = false) ∧ Hid (Below w.heap.size w wr)) (fun vi _ => n - (intOf vi).toNat)
  case atStart => exact ⟨0, rfl, Nat.zero_le _, Lib.hid (fun j hj => by omega), Lib.hid (Below.refl _ _)⟩
  case round =>
    obtain ⟨k, rfl, hk, H1, HB⟩ := hrel
    by_cases hlt : k < n
    · obtain ⟨ad, A0, c0, eA, x0, _, _⟩ := at_L7 (Kd.C_below HR.out HB.out) (k : Int) (by omega) (by omega)
      simp only [Int.toNat_natCast] at x0
      have hx : rd_L7 l (k : Int) = l.getD k [] := by simp [rd_L7]
      rw [hx] at x0
      subst eA
      have hkk : (k : Int) < (n : Int) := by omega
      rcases e1 : no8 (l.getD k []) with _ | _
      · have H2 := Lib.hid (show ∀ j, j < k + 1 → no8 (l.getD j []) = false from fun j hj => by
          rcases Nat.lt_or_ge j k with h | h
          · exact H1.out j h
          · obtain rfl : j = k := by omega
            exact e1)
        have e2 : (((l.getD k []).length : Int) != 8) = false := e1
        clear hx e1 H1
        generalize (l.getD k []).length = q at x0 e2
        go_wp2_with (go_at_call 47; refine (clos47 _ _ _ _).mono ?_; rw [e2]; rintro e w2 ⟨rfl, rfl⟩)
        exact ⟨⟨k + 1, by simp, hlt, H2, HB⟩, by simp [intOf]; omega⟩
      · have H2 := Lib.hid (show l.any no8 = true from List.any_eq_true.2 ⟨l.getD k [], by rw [List.getD_eq_getElem?_getD, List.getElem?_eq_getElem (by rw [← HN.out]; exact hlt)]; exact List.getElem_mem _, e1⟩)
        have e2 : (((l.getD k []).length : Int) != 8) = true := e1
        clear hx e1 H1
        generalize (l.getD k []).length = q at x0 e2
        go_wp2_with (go_at_call 47; refine (clos47 _ _ _ _).mono ?_; rw [e2]; rintro e w2 ⟨rfl, rfl⟩)
        go_ret
        exact ⟨_, rfl, by rw [H2.out]; simp, HB.out⟩
    · have hlt' : ¬ ((k : Int) < (n : Int)) := by omega
      have H2 := Lib.hid (show l.any no8 = false from by
        rw [List.any_eq_false]
        intro x hx
        obtain ⟨j, hj, rfl⟩ := List.getElem_of_mem hx
        have h3 := H1.out j (by have := HN.out; omega)
        rw [List.getD_eq_getElem?_getD, List.getElem?_eq_getElem hj] at h3
        simpa using h3)
      clear H1
      go_wp2
      go_ret
      exact ⟨_, rfl, by rw [H2.out]; rfl, HB.out⟩
set_option maxHeartbeats 1000000 in
theorem contains_calls (A : Option Addr) (c : Nat) (l : List Rows) (w : World) (hr : Kd.C D2 w A l.length l) (hn : l.length ≤ 4611686018427387904) :
    Calls Try.prog 46 #[.slice A l.length c, .func (.func 47) #[] #[]] w fun e w' => e = .returned (.bool (l.any no8)) ∧ Below w.heap.size w w' := by
  have HI := Lib.hid (index_calls A c l w hr hn)
  clear hr
  go_enter Try.func46, Try.ntmps46
  go_wp2_with (go_at_call 61; refine HI.out.mono ?_; rintro e w2 ⟨r, rfl, hd, hb⟩; have HD := Lib.hid hd; have HB := Lib.hid hb; clear hd hb)
  go_ret
  exact ⟨by rw [← HD.out]; rfl, HB.out⟩
def outBad (l : List Rows) (a : Int) : Bool :=
  let n := l.length
  let q := (l.getD (n - 1) []).length
  n == 0 || decide (512 < n) || decide ((n : Int) < a) || decide (8 < q) || (q == 0 && decide (1 < n)) || (l.take (n - 1)).any no8
def outV (l : List Rows) (a : Int) : Int := if outBad l a then 6 else 0
end Go.Proofs.Ytkbemagcoojmmaa.Val
