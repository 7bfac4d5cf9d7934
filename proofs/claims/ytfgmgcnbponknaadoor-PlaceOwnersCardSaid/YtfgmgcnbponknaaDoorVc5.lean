/- Package place: owners that are not alive struck out of a list. Conditions: the lists are read, owners are no negative numbers. -/
import Derived.Test.YtfgmgcnbponknaaDoorVc4
namespace Go.Proofs.YtfgmgcnbponknaaDoor.Val
open Go.RowKit Go.Proofs.YtfgmgcnbponknaaDoor.G Go.Proofs.YtfgmgcnbponknaaDoor.Lx Go.Proofs.YtfgmgcnbponknaaDoor.Opn Go.Proofs.YtfgmgcnbponknaaDoorW.PrintWords Go.Proofs.YtfgmgcnbponknaaDoorW.PrintLast Go.Proofs.YtfgmgcnbponknaaDoorW.PrintMore
set_option linter.unusedVariables false
set_option linter.unusedSimpArgs false
theorem cell_bool {w : World} {A : Option Addr} {n : Nat} {xs : List Bool} (h : Kd.C Kd.bool w A n xs) {j : Nat} (hj : j < n) : ∃ ad, A = some ad ∧ w.cell? (ad.add j) = some (.bool (xs.getD j false)) := by
  obtain ⟨ad, c, e, _, hK, hc0⟩ := Kd.C_get h false (j : Int) (by omega) (by omega)
  have hc : c = [.bool (xs.getD (j : Int).toNat false)] := hK
  refine ⟨ad, e, ?_⟩
  have := hc0 0 _ (by rw [hc]; rfl)
  rw [show (j : Int).toNat * Kd.bool.sz + 0 = j by show (j : Int).toNat * 1 + 0 = j; omega] at this
  simpa using this
theorem cell_int {w : World} {A : Option Addr} {n : Nat} {xs : List Int} (h : Kd.C (Kd.int .i64) w A n xs) {j : Nat} (hj : j < n) : ∃ ad, A = some ad ∧ w.cell? (ad.add j) = some (.int .i64 (xs.getD j 0)) := by
  obtain ⟨ad, c, e, _, hK, hc0⟩ := Kd.C_get h (0 : Int) (j : Int) (by omega) (by omega)
  have hc : c = [.int .i64 (xs.getD (j : Int).toNat 0)] := hK
  refine ⟨ad, e, ?_⟩
  have := hc0 0 _ (by rw [hc]; rfl)
  rw [show (j : Int).toNat * (Kd.int .i64).sz + 0 = j by show (j : Int).toNat * 1 + 0 = j; omega] at this
  simpa using this
/-- who is not alive -/
def deadB (b : List Bool) (x : Int) : Bool := if x ≥ b.length then true else !b.getD x.toNat false
set_option maxHeartbeats 4000000 in
set_option maxRecDepth 100000 in
theorem dead_calls (x : Int) (g : Nat) (C : Option Addr) (d : Nat) (b : List Bool) (w : World) (hx : 0 ≤ x) (hC : Kd.C Kd.bool w C b.length b) (hg : w.heap[g]? = some (.cells #[.slice C b.length d] 55 (0, 0))) :
    Calls Tryd.prog 37 #[.int .i64 x, .pointer (some ⟨g, 0, none⟩)] w fun e w' => e = .returned (.bool (deadB b x)) ∧ Below w.heap.size w w' := by
  have HG := Lib.hid hg
  have HC := Lib.hid hC
  clear hg hC
  have lg := blk_lt HG.out
  have p0 := (blk_cell HG.out 0).trans rfl
  obtain ⟨n, hn⟩ : ∃ n, n = b.length := ⟨_, rfl⟩
  have hD : deadB b x = if x ≥ n then true else !b.getD x.toNat false := by rw [hn]; rfl
  rw [← hn] at p0 HC
  by_cases h : x ≥ n
  · rw [hD, if_pos h]
    have e1 : decide (x ≥ (n : Int)) = true := decide_eq_true h
    clear hD hn h
    go_enter Tryd.func37, Tryd.ntmps37
    go_wp2
    go_ret
    exact ⟨rfl, Below.refl _ _⟩
  · rw [hD, if_neg h]
    have e1 : decide (x ≥ (n : Int)) = false := decide_eq_false h
    obtain ⟨ad, eA, hc⟩ := cell_bool HC.out (j := x.toNat) (by omega)
    subst eA
    obtain ⟨v, hv⟩ : ∃ v, v = b.getD x.toNat false := ⟨_, rfl⟩
    rw [← hv] at hc ⊢
    have hlt : x < (n : Int) := by omega
    clear hD hn h hv
    go_enter Tryd.func37, Tryd.ntmps37
    go_wp2
    go_ret
    exact ⟨rfl, Below.refl _ _⟩
end Go.Proofs.YtfgmgcnbponknaaDoor.Val
