/- PlaceDown: who is not alive is not picked; with one more alive a pick that was there is there still. Conditions: lists and texts are shorter than 2^44. -/
import Derived.Test.YtfgmgcnbponknaaDoorPc2
import Derived.Test.YtfgmgcnbponknaaDoorLp6
namespace Go.Proofs.YtfgmgcnbponknaaDoor.Lx
open Go.RowKit Go.Proofs.YtfgmgcnbponknaaDoor.G Go.Proofs.YtfgmgcnbponknaaDoor.Opn Go.Proofs.YtfgmgcnbponknaaDoorW.PrintWords Go.Proofs.YtfgmgcnbponknaaDoorW.PrintLast Go.Proofs.YtfgmgcnbponknaaDoorW.PrintMore
set_option linter.unusedVariables false
set_option linter.unusedSimpArgs false
def More (b b' : List Bool) : Prop := ∀ x, Val.deadB b' x = true → Val.deadB b x = true
theorem more_refl (b : List Bool) : More b b := fun _ h => h
theorem more_set (b : List Bool) (i : Nat) : More b (b.set i true) := by
  intro x h
  unfold Val.deadB at h ⊢
  rw [List.length_set] at h
  split at h
  · rename_i h1; rw [if_pos h1]
  · rename_i h1
    rw [if_neg h1]
    rcases Nat.decEq i x.toNat with h2 | h2
    · rw [List.getD_eq_getElem?_getD, List.getElem?_set_ne h2, ← List.getD_eq_getElem?_getD] at h
      exact h
    · by_cases h3 : i < b.length
      · rw [List.getD_eq_getElem?_getD, ← h2, List.getElem?_set_self h3] at h
        cases h
      · rw [List.set_eq_of_length_le (by omega)] at h
        exact h
theorem keep_more {b b' : List Bool} (h : More b b') : ∀ (o : List Int), (Val.keepL b' o).length = 0 → (Val.keepL b o).length = 0
  | [], _ => rfl
  | x :: o, h1 => by
    rw [keep_cons] at h1 ⊢
    split at h1
    · rename_i h2; rw [if_pos (h x h2)]; exact keep_more h o h1
    · simp at h1
theorem pick_more {b b' : List Bool} (h : More b b') : ∀ (m : List (List Int)) (s : Nat) (out out' : List Int), (Val.pickG b m s out).2 = 0 → (Val.pickG b' m s out').2 = 0
  | [], _, _, _, _ => rfl
  | o :: r, s, out, out', h1 => by
    rw [Val.pickG] at h1 ⊢
    split at h1
    · cases h1
    · rename_i h2
      rw [if_neg (fun h3 => h2 (keep_more h o h3))]
      exact pick_more h r (s + 1) _ _ h1
theorem pick_mem (b : List Bool) : ∀ (m : List (List Int)) (s : Nat) (out : List Int) (x : Int), x ∈ (Val.pickG b m s out).1 → x ∈ out ∨ ∃ o ∈ m, x ∈ Val.keepL b o
  | [], _, out, x, h => .inl h
  | o :: r, s, out, x, h => by
    rw [Val.pickG] at h
    split at h
    · cases h
    · rename_i h2
      rcases pick_mem b r (s + 1) _ x h with h3 | ⟨o', h3, h4⟩
      · rcases List.mem_append.1 h3 with h4 | h4
        · exact .inl h4
        · refine .inr ⟨o, by simp, ?_⟩
          rw [List.mem_singleton.1 h4]
          exact mem_getD 0 (Nat.mod_lt _ (by omega))
      · exact .inr ⟨o', List.mem_cons_of_mem _ h3, h4⟩
theorem keep_none : ∀ (o : List Int), (∀ y ∈ o, 1 ≤ y) → (Val.keepL [] o).length = 0
  | [], _ => rfl
  | x :: o, h => by
    rw [keep_cons, if_pos (by unfold Val.deadB; rw [if_pos (by have := h x (by simp); simp; omega)])]
    exact keep_none o fun y hy => h y (List.mem_cons_of_mem _ hy)
theorem keep_alive {b : List Bool} {o : List Int} {x : Int} (h : x ∈ Val.keepL b o) : x ∈ o ∧ ¬ x ≥ (b.length : Int) ∧ b.getD x.toNat false = true := by
  have h1 := List.mem_filter.1 h
  refine ⟨h1.1, ?_⟩
  have h2 : Val.deadB b x = false := by simpa using h1.2
  unfold Val.deadB at h2
  split at h2
  · cases h2
  · rename_i h3; exact ⟨h3, by simpa using h2⟩
section
variable (n0 n1 n2 b0 b1 : Int) (nm : ByteArray) (l : List S97) (m : List (List Int)) (b : List Bool) (B : Nat) (hf : FitR nm l m B) (hl : l.length < 4611686018427387904)
include hf hl
theorem down_end (k : Nat) (p : List Int) (i : Int) (hi : ¬ i < (p.length : Int)) (hk : 1 ≤ k) : potsherdlaw06_PlaceDown.l0 k b p (p.length : Int) i n0 n1 n2 nm l b0 b1 m = some true := by
  obtain ⟨k, rfl⟩ : ∃ j, k = j + 1 := ⟨k - 1, by omega⟩
  rw [potsherdlaw06_PlaceDown.l0, if_neg hi, (pick_f n0 n1 n2 b0 b1 nm l m [] B hf hl).1, Option.bind_some]
  have : (Val.pickV n0 n1 n2 nm l m []).2 ≠ 0 := by
    unfold Val.pickV
    split
    · rename_i h; exact h
    · rename_i h
      have hv : Val.claimV n0 n1 n2 nm l m = 0 := Classical.byContradiction h
      obtain ⟨g1, g2⟩ := claim_good hv
      cases m with
      | nil => exact absurd rfl g2
      | cons o r => rw [Val.pickG, if_pos (keep_none o (g1 o (by simp)).2)]; decide
  simpa using this
theorem down_l0 (p : List Int) (hp : ∀ x ∈ p, 1 ≤ x ∧ ¬ x ≥ (b.length : Int) ∧ b.getD x.toNat false = true) (hpl : p.length < 4611686018427387904) : ∀ (d i k : Nat), p.length = i + d → d + 1 ≤ k → potsherdlaw06_PlaceDown.l0 k b p (p.length : Int) (i : Int) n0 n1 n2 nm l b0 b1 m = some true := by
  intro d
  induction d with
  | zero =>
    intro i k hd hk
    exact down_end n0 n1 n2 b0 b1 nm l m b B hf hl k p _ (by omega) (by omega)
  | succ d ih =>
    intro i k hd hk
    obtain ⟨k, rfl⟩ : ∃ j, k = j + 1 := ⟨k - 1, by omega⟩
    have hi : i < p.length := by omega
    obtain ⟨h1, h2, h3⟩ := hp _ (List.getElem_mem hi)
    rw [potsherdlaw06_PlaceDown.l0, if_pos (by omega), if_pos (by omega), if_pos (by omega), rdI p i hi, if_neg (by omega), if_neg h2, if_pos (by omega), if_pos (by omega), if_pos (show rdOf false b p[i] = true from h3), v64 (by omega), ih (i + 1) k (by omega) (by omega)]
theorem down_j1 (b' : List Bool) (hb : More b b') (k : Nat) (hk : m.length + 10 ≤ k) : potsherdlaw06_PlaceDown.j1 k b b' n0 n1 n2 nm l b0 b1 m = some true := by
  obtain ⟨k, rfl⟩ : ∃ j, k = j + 2 := ⟨k - 2, by omega⟩
  have e0 := hf.2.2.2.1
  have el := pickV_len n0 n1 n2 nm l m b
  have hmem : ∀ x ∈ (Val.pickV n0 n1 n2 nm l m b).1, 1 ≤ x ∧ ¬ x ≥ (b.length : Int) ∧ b.getD x.toNat false = true := by
    intro x hx
    unfold Val.pickV at hx
    split at hx
    · cases hx
    · rename_i h
      have hv : Val.claimV n0 n1 n2 nm l m = 0 := Classical.byContradiction h
      rcases pick_mem b m 0 [] x hx with h1 | ⟨o, h1, h2⟩
      · cases h1
      · obtain ⟨g1, g2⟩ := keep_alive h2
        exact ⟨((claim_good hv).1 o h1).2 x g1, g2⟩
  have hl0 := down_l0 n0 n1 n2 b0 b1 nm l m b B hf hl _ hmem (by omega) (Val.pickV n0 n1 n2 nm l m b).1.length 0 k (by omega) (by omega)
  have hl1 : potsherdlaw06_PlaceDown.j2 (k + 1) b (Val.pickV n0 n1 n2 nm l m b).1 false n0 n1 n2 nm l b0 b1 m = some true := by
    rw [potsherdlaw06_PlaceDown.j2, if_neg (by decide)]
    simpa using hl0
  rw [potsherdlaw06_PlaceDown.j1, (pick_f n0 n1 n2 b0 b1 nm l m b B hf hl).1, Option.bind_some, (pick_f n0 n1 n2 b0 b1 nm l m b' B hf hl).1, Option.bind_some]
  by_cases h0 : (Val.pickV n0 n1 n2 nm l m b).2 = 0
  · have h2 : (Val.pickV n0 n1 n2 nm l m b').2 = 0 := by
      unfold Val.pickV at h0 ⊢
      split at h0
      · rename_i h; exact absurd h0 h
      · rename_i h; rw [if_neg h]; exact pick_more hb m 0 [] [] h0
    rw [if_pos h0, h2]
    exact hl1
  · rw [if_neg h0]
    exact hl1
theorem down (n : Int) (hbl : b.length < 140737488355328) : ∃ k, potsherdlaw06_PlaceDown.f k n0 n1 n2 nm l b0 b1 m b n = some true := by
  refine ⟨100 + (m.length + 11), ?_⟩
  unfold potsherdlaw06_PlaceDown.f
  rw [lives_k, Option.bind_some, if_pos rfl, Option.bind_some, if_pos (by simpa using hbl), Option.bind_some, List.nil_append, show 100 + (m.length + 11) = (100 + (m.length + 10)) + 1 by omega, potsherdlaw06_PlaceDown.j0, potsherdlaw06_PlaceDown.j0]
  by_cases h0 : n ≥ 0
  · rw [if_pos h0]
    by_cases h1 : n < (b.length : Int)
    · rw [decide_eq_true h1, if_pos rfl, if_pos h0, if_pos h1]
      exact down_j1 n0 n1 n2 b0 b1 nm l m b B hf hl _ (more_set b _) _ (by omega)
    · rw [decide_eq_false h1, if_neg (by decide)]
      exact down_j1 n0 n1 n2 b0 b1 nm l m b B hf hl _ (more_refl b) _ (by omega)
  · rw [if_neg h0, if_neg (by decide)]
    exact down_j1 n0 n1 n2 b0 b1 nm l m b B hf hl _ (more_refl b) _ (by omega)
end
end Go.Proofs.YtfgmgcnbponknaaDoor.Lx
