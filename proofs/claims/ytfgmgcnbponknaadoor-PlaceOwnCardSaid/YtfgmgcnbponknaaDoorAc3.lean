/- The contracts of Split (of package place, of the reference), proved by hand, in the form that printed texts take. Conditions: as the functions' own bounds say; utf8's tables are laid. -/
import Derived.Test.YtfgmgcnbponknaaDoorVc9
import Derived.Test.YtfgmgcnbponknaaDoorPh6
namespace Go.Proofs.YtfgmgcnbponknaaDoor.Lx
open Go.RowKit Go.Proofs.YtfgmgcnbponknaaDoor.G Go.Proofs.YtfgmgcnbponknaaDoor.Opn Go.Proofs.YtfgmgcnbponknaaDoorW.PrintWords Go.Proofs.YtfgmgcnbponknaaDoorW.PrintLast Go.Proofs.YtfgmgcnbponknaaDoorW.PrintMore
set_option linter.unusedVariables false
/-- what a table bears -/
def FitsT (n0 : Int) (nm : ByteArray) (l : List S97) (m : List (List S38)) : Prop := (-9223372036854775808 ≤ n0 ∧ n0 ≤ 9223372036854775807) ∧ (nm.size ≤ 9223372036854775804 ∧ (∀ a ∈ l, a.f0.size ≤ 9223372036854775807 ∧ (0 ≤ a.f1 ∧ a.f1 ≤ 255)) ∧ (∀ x ∈ l, x.f0.size ≤ 9223372036854775804) ∧ l.length < 4611686018427387904) ∧ m.length < 4611686018427387904 ∧ ∀ r ∈ m, r.length < 4398046511104 ∧ ∀ a ∈ r, ((0 ≤ a.f0 ∧ a.f0 ≤ 255) ∧ (-9223372036854775808 ≤ a.f2 ∧ a.f2 ≤ 9223372036854775807) ∧ a.f3.size ≤ 9223372036854775807) ∧ a.f3.size ≤ 140737488351232
instance (n0 : Int) (nm : ByteArray) (l : List S97) (m : List (List S38)) : Decidable (FitsT n0 nm l m) := inferInstanceAs (Decidable ((-9223372036854775808 ≤ n0 ∧ n0 ≤ 9223372036854775807) ∧ (nm.size ≤ 9223372036854775804 ∧ (∀ a ∈ l, a.f0.size ≤ 9223372036854775807 ∧ (0 ≤ a.f1 ∧ a.f1 ≤ 255)) ∧ (∀ x ∈ l, x.f0.size ≤ 9223372036854775804) ∧ l.length < 4611686018427387904) ∧ m.length < 4611686018427387904 ∧ ∀ r ∈ m, r.length < 4398046511104 ∧ ∀ a ∈ r, ((0 ≤ a.f0 ∧ a.f0 ≤ 255) ∧ (-9223372036854775808 ≤ a.f2 ∧ a.f2 ≤ 9223372036854775807) ∧ a.f3.size ≤ 9223372036854775807) ∧ a.f3.size ≤ 140737488351232))
theorem fits_rows {n0 : Int} {nm : ByteArray} {l : List S97} {m : List (List S38)} (h : FitsT n0 nm l m) : Rows9 m := ⟨h.2.2.1, fun r hr => ⟨by have := (h.2.2.2 r hr).1; omega, fun a ha => ((h.2.2.2 r hr).2 a ha).1⟩⟩
theorem rowG_len : ∀ (c : List S97) (l : List (List S38)), tabG c l = 0 → ∀ r ∈ l, r.length = c.length
  | c, [], _, r, hr => by cases hr
  | c, y :: l, h, r, hr => by
    rw [tabG] at h
    split at h
    · rename_i h1; exact absurd h h1
    · rename_i h1
      have h2 : rowV y c = 0 := Classical.byContradiction h1
      rcases List.mem_cons.1 hr with rfl | hr
      · unfold rowV at h2
        split at h2
        · assumption
        · cases h2
      · exact rowG_len c l h r hr
theorem fits_good {n0 : Int} {nm : ByteArray} {l : List S97} {m : List (List S38)} (h : FitsT n0 nm l m) (ht : tabV nm l m = 0) : Val.GoodR m := by
  unfold tabV at ht
  split at ht
  · rename_i h1; exact absurd ht h1
  · split at ht
    · rename_i h1; exact absurd ht h1
    · rename_i hc
      split at ht
      · cases ht
      · rename_i h64
        have hcv : Val.colsV l = 0 := Classical.byContradiction hc
        have hl : 0 < l.length := by
          unfold Val.colsV at hcv
          split at hcv
          · cases hcv
          · omega
        refine ⟨by omega, fun r hr => ?_⟩
        have e1 := rowG_len l m ht r hr
        have e2 := h.2.2.2 r hr
        refine ⟨by omega, e2.1, ?_⟩
        have : rd_T38 r 0 ∈ r := by
          unfold rd_T38
          rw [List.getD_eq_getElem?_getD, List.getElem?_eq_getElem (show (0 : Int).toNat < r.length by simp; omega)]
          exact List.getElem_mem _
        exact (e2.2 _ this).1.2.2
def place_Split.f (a0_0 : Int) (a0_1 : Int) (a0_2 : Int) (a1_0 : ByteArray) (l1_1 : List (S97)) (l1_2 : List (List (S38))) : Option ((List (List (List (S38)))) × Int) := if FitsT a0_0 a1_0 l1_1 l1_2 then some (Val.splitV a0_0 a0_1 a0_2 a1_0 l1_1 l1_2) else none
theorem place_Split.calls (a0_0 : Int) (a0_1 : Int) (a0_2 : Int) (a1_0 : ByteArray) (A1_1 : Option Addr) (c1_1 : Nat) (l1_1 : List (S97)) (A1_2 : Option Addr) (c1_2 : Nat) (l1_2 : List (List (S38))) (r1 : List (List (List (S38)))) (r2 : Int) (w : World) (hr1_1 : Kd.C k97 w A1_1 l1_1.length l1_1) (hc1_1 : l1_1.length ≤ c1_1) (hr1_2 : Kd.C (Kd.slice 38 k38) w A1_2 l1_2.length l1_2) (hc1_2 : l1_2.length ≤ c1_2) (h : place_Split.f a0_0 a0_1 a0_2 a1_0 l1_1 l1_2 = some (r1, r2)) (hT : Lib.Utf8Tabs 0 1 w) :
    Calls Tryd.prog 12 #[.agg #[.int .i64 a0_0, .int .i64 a0_1, .int .i64 a0_2], .agg #[.string a1_0, .slice A1_1 l1_1.length c1_1, .slice A1_2 l1_2.length c1_2]] w fun e w' => ∃ v0_ : Value, e = .returned (.tuple #[v0_, .int .i64 r2]) ∧ Kd.R (Kd.slice 35 (Kd.slice 38 k38)) 25 w' w.heap.size (fun _ => True) v0_ r1 ∧ Below w.heap.size w w' := by
  unfold place_Split.f at h
  split at h
  · rename_i hk
    have e := Option.some.inj h
    have hk' := hk
    obtain ⟨_, ⟨k1, k2, k3, k4⟩, _⟩ := hk'
    refine (Val.split_calls a0_0 a0_1 a0_2 a1_0 A1_1 A1_2 c1_1 c1_2 l1_1 l1_2 w hr1_1 hc1_1 k4 (by omega) (fun x hx => (k2 x hx).1) hr1_2 hc1_2 (fits_rows hk) hT (fits_good hk)).mono ?_
    rintro e' w' ⟨v0, h1, h2, h3⟩
    rw [e] at h1 h2
    exact ⟨v0, h1, h2, h3⟩
  · cases h
def potsherdref06_Split.f (a0_0 : Int) (a0_1 : Int) (a0_2 : Int) (a1_0 : ByteArray) (l1_1 : List (S97)) (l1_2 : List (List (S38))) : Option ((List (List (List (S38)))) × Int) := if FitsT a0_0 a1_0 l1_1 l1_2 then some (Val.rsplitV a0_0 a0_1 a0_2 a1_0 l1_1 l1_2) else none
theorem rof_f (k : Nat) (n1 : Int) (x : S38) (h1 : 1 ≤ n1) (h2 : n1 ≤ 8) (hs : x.f3.size ≤ 140737488351232) (hk : x.f3.size + 30 ≤ k) : potsherdref06_Of.f k x.f0 x.f1 x.f2 x.f3 n1 = some ((Val.ofV n1 x : Nat) : Int) := by
  have e := Val.of_f n1 x h1 h2 (by omega)
  unfold place_Of.f value_Hash.f at e
  rw [if_pos (by omega)] at e
  unfold potsherdref06_Of.f
  rw [rhash_f k x.f0 x.f1 x.f2 x.f3 hs hk]
  exact e
theorem potsherdref06_Split.calls (a0_0 : Int) (a0_1 : Int) (a0_2 : Int) (a1_0 : ByteArray) (A1_1 : Option Addr) (c1_1 : Nat) (l1_1 : List (S97)) (A1_2 : Option Addr) (c1_2 : Nat) (l1_2 : List (List (S38))) (r1 : List (List (List (S38)))) (r2 : Int) (w : World) (hr1_1 : Kd.C k97 w A1_1 l1_1.length l1_1) (hc1_1 : l1_1.length ≤ c1_1) (hr1_2 : Kd.C (Kd.slice 38 k38) w A1_2 l1_2.length l1_2) (hc1_2 : l1_2.length ≤ c1_2) (h : potsherdref06_Split.f a0_0 a0_1 a0_2 a1_0 l1_1 l1_2 = some (r1, r2)) :
    Calls Tryd.prog 20 #[.agg #[.int .i64 a0_0, .int .i64 a0_1, .int .i64 a0_2], .agg #[.string a1_0, .slice A1_1 l1_1.length c1_1, .slice A1_2 l1_2.length c1_2]] w fun e w' => ∃ v0_ : Value, e = .returned (.tuple #[v0_, .int .i64 r2]) ∧ Kd.R (Kd.slice 35 (Kd.slice 38 k38)) 25 w' w.heap.size (fun _ => True) v0_ r1 ∧ Below w.heap.size w w' := by
  unfold potsherdref06_Split.f at h
  split at h
  · rename_i hk
    have e := Option.some.inj h
    have hk' := hk
    obtain ⟨k0, ⟨k1, k2, k3, k4⟩, _, k6⟩ := hk'
    refine (Val.rsplit_calls a0_0 a0_1 a0_2 a1_0 A1_1 A1_2 c1_1 c1_2 l1_1 l1_2 w (l1_2.length + 2 * l1_1.length + 130) 140737488355328 hr1_1 hc1_1 hr1_2 hc1_2 (rlay2_f a0_0 a0_1 a0_2 k0.2 k0.1) (rtab_f _ a1_0 l1_1 l1_2 k1 k2 k3 (fits_rows hk) (Nat.le_refl _)) (fits_good hk) (fun hv ht r hr => ?_)).mono ?_
    · have hg := (fits_good hk ht).2 r hr
      unfold Val.layV at hv
      split at hv
      · cases hv
      · have : rd_T38 r 0 ∈ r := by
          unfold rd_T38
          rw [List.getD_eq_getElem?_getD, List.getElem?_eq_getElem (show (0 : Int).toNat < r.length by simp; omega)]
          exact List.getElem_mem _
        have h9 := ((k6 r hr).2 _ this).2
        exact rof_f _ a0_1 _ (by omega) (by omega) h9 (by omega)
    rintro e' w' ⟨v0, h1, h2, h3⟩
    rw [e] at h1 h2
    exact ⟨v0, h1, h2, h3⟩
  · cases h
end Go.Proofs.YtfgmgcnbponknaaDoor.Lx
