/- PlaceOwners: owners are workers, as many as there are replicas, in order (a layout has eight nodes and eight shards at most: all of them, by the kernel); what is picked owns its shard, and is alive. Conditions: lists and texts are shorter than 2^44. -/
import Derived.Test.YtfgmgcnbponknaaDoorPc2
import Derived.Test.YtfgmgcnbponknaaDoorLp8
namespace Go.Proofs.YtfgmgcnbponknaaDoor.Lx
open Go.RowKit Go.Proofs.YtfgmgcnbponknaaDoor.G Go.Proofs.YtfgmgcnbponknaaDoor.Opn Go.Proofs.YtfgmgcnbponknaaDoorW.PrintWords Go.Proofs.YtfgmgcnbponknaaDoorW.PrintLast Go.Proofs.YtfgmgcnbponknaaDoorW.PrintMore
set_option linter.unusedVariables false
set_option linter.unusedSimpArgs false
def okO (n0 : Int) (o : List Int) : Bool := (List.range o.length).all fun i => decide (1 ≤ o.getD i 0) && decide (o.getD i 0 < n0) && (decide (i = 0) || decide (o.getD (i - 1) 0 < o.getD i 0))
def okR (n0 n2 : Int) : Option (List Int × Int) → Bool
  | some (o, w) => decide (w = 0) && (decide ((o.length : Int) = n2) && (decide (o.length ≤ 100) && okO n0 o))
  | none => false
def inL (a b c s : Nat) : Bool := decide (c < a + 1) && decide (s < b + 1)
theorem own_ev : ((List.range 7).all fun a => (List.range 8).all fun b => (List.range 7).all fun c => (List.range 8).all fun s => !(inL a b c s) || okR ((a + 2 : Nat) : Int) ((c + 1 : Nat) : Int) (place_Owners.f 100 ((a + 2 : Nat) : Int) ((b + 1 : Nat) : Int) ((c + 1 : Nat) : Int) ((s : Nat) : Int))) = true := by kernel_rfl
theorem own_k (n0 n1 n2 a : Int) (r : List Int × Int) (h : place_Owners.f 100 n0 n1 n2 a = some r) : ∀ j, place_Owners.f (100 + j) n0 n1 n2 a = some r
  | 0 => h
  | j + 1 => place_Owners.mono n0 n1 n2 a (100 + j) _ (own_k n0 n1 n2 a r h j)
theorem owners_f (k : Nat) (n0 n1 n2 a : Int) : ∃ o w, place_Owners.f (100 + k) n0 n1 n2 a = some (o, w) ∧ (w = 0 → (o.length : Int) = n2 ∧ o.length ≤ 100 ∧ okO n0 o = true) := by
  by_cases hv : Val.layV n0 n1 n2 = 0 ∧ 0 ≤ a ∧ a < n1
  · obtain ⟨h1, h2, h3⟩ := hv
    unfold Val.layV at h1
    split at h1
    · cases h1
    · rename_i h4
      obtain ⟨a', rfl⟩ : ∃ x : Nat, n0 = ((x + 2 : Nat) : Int) := ⟨(n0 - 2).toNat, by omega⟩
      obtain ⟨b', rfl⟩ : ∃ x : Nat, n1 = ((x + 1 : Nat) : Int) := ⟨(n1 - 1).toNat, by omega⟩
      obtain ⟨c', rfl⟩ : ∃ x : Nat, n2 = ((x + 1 : Nat) : Int) := ⟨(n2 - 1).toNat, by omega⟩
      obtain ⟨s', rfl⟩ : ∃ x : Nat, a = ((x : Nat) : Int) := ⟨a.toNat, by omega⟩
      have e := List.all_eq_true.1 (List.all_eq_true.1 (List.all_eq_true.1 (List.all_eq_true.1 own_ev a' (List.mem_range.2 (by omega))) b' (List.mem_range.2 (by omega))) c' (List.mem_range.2 (by omega))) s' (List.mem_range.2 (by omega))
      have hi : inL a' b' c' s' = true := by unfold inL; rw [Bool.and_eq_true, decide_eq_true_eq, decide_eq_true_eq]; omega
      rw [hi] at e
      rcases hr : place_Owners.f 100 ((a' + 2 : Nat) : Int) ((b' + 1 : Nat) : Int) ((c' + 1 : Nat) : Int) ((s' : Nat) : Int) with _ | ⟨o, w⟩
      · rw [hr] at e; cases e
      · rw [hr] at e
        refine ⟨o, w, own_k _ _ _ _ _ hr k, fun _ => ?_⟩
        simp only [okR, Bool.not_true, Bool.false_or, Bool.and_eq_true, decide_eq_true_eq] at e
        exact e.2
  · refine ⟨[], 2, ?_, fun h => by cases h⟩
    unfold place_Owners.f
    rw [Val.lay_f, Option.bind_some]
    have hj : place_Owners.j0 (100 + k) a true n0 n1 n2 = some ([], 2) := by
      rw [show 100 + k = (99 + k) + 1 by omega, place_Owners.j0, if_pos rfl]
    by_cases h1 : Val.layV n0 n1 n2 = 0
    · rw [if_pos h1]
      by_cases h2 : a < 0
      · rw [if_pos h2, hj]
      · rw [if_neg h2, decide_eq_true (show a ≥ n1 by have := fun h => hv ⟨h1, by omega, h⟩; omega), hj]
    · rw [if_neg h1, hj]
theorem pick_at (b : List Bool) : ∀ (m : List (List Int)) (s : Nat) (out : List Int), (Val.pickG b m s out).2 = 0 →
    (Val.pickG b m s out).1.length = out.length + m.length ∧ (∀ j, j < out.length → (Val.pickG b m s out).1.getD j 0 = out.getD j 0) ∧ ∀ i, i < m.length → (Val.pickG b m s out).1.getD (out.length + i) 0 ∈ Val.keepL b (m.getD i [])
  | [], _, out, _ => ⟨by simp [Val.pickG], fun j _ => by simp [Val.pickG], fun i h => by simp at h⟩
  | o :: r, s, out, h => by
    rw [Val.pickG] at h ⊢
    split at h
    · cases h
    · rename_i h1
      rw [if_neg h1]
      obtain ⟨g1, g2, g3⟩ := pick_at b r (s + 1) _ h
      rw [List.length_append, List.length_singleton] at g1 g2 g3
      refine ⟨by rw [g1, List.length_cons]; omega, fun j hj => ?_, fun i hi => ?_⟩
      · rw [g2 j (by omega), List.getD_eq_getElem?_getD, List.getElem?_append_left hj, ← List.getD_eq_getElem?_getD]
      · rcases i with _ | i
        · have e : ∀ v : Int, (out ++ [v]).getD out.length 0 = v := fun v => by simp [List.getD_eq_getElem?_getD]
          rw [g2 (out.length + 0) (by omega), show out.length + 0 = out.length from rfl, e]
          show (Val.keepL b o).getD (s % (Val.keepL b o).length) 0 ∈ Val.keepL b o
          exact mem_getD 0 (Nat.mod_lt _ (by omega))
        · have := g3 i (by simpa using hi)
          rw [show out.length + (i + 1) = out.length + 1 + i by omega]
          simpa using this
theorem pick_nil (b : List Bool) : ∀ (m : List (List Int)) (s : Nat) (out : List Int), (Val.pickG b m s out).2 ≠ 0 → (Val.pickG b m s out).1 = []
  | [], _, out, h => absurd rfl h
  | o :: r, s, out, h => by
    rw [Val.pickG] at h ⊢
    split
    · rfl
    · rename_i h1; rw [if_neg h1] at h; exact pick_nil b r _ _ h
theorem keep_alive2 {b : List Bool} {o : List Int} {x : Int} (h : x ∈ Val.keepL b o) : x ∈ o ∧ ¬ x ≥ (b.length : Int) ∧ b.getD x.toNat false = true := by
  have h1 := List.mem_filter.1 h
  refine ⟨h1.1, ?_⟩
  have h2 : Val.deadB b x = false := by simpa using h1.2
  unfold Val.deadB at h2
  split at h2
  · cases h2
  · rename_i h3; exact ⟨h3, by simpa using h2⟩
section
variable (n0 n1 n2 b0 b1 : Int) (nm : ByteArray) (l : List S97) (m : List (List Int)) (b : List Bool) (B : Nat) (hf : FitR nm l m B) (hl : l.length < 4611686018427387904)
theorem owns_l2 (p : List Int) (w i len : Int) (o : List Int) (ho : o.length < 4611686018427387904) (K : Nat) (hj : ∀ k, K ≤ k → potsherdlaw06_PlaceOwners.l1 k b p p len (wrap64 (i + 1)) n0 n1 n2 nm l b0 b1 m = some true) :
    ∀ (d j k : Nat) (g : Bool), o.length = j + d → (g = true ∨ ∃ x ∈ o.drop j, x = w) → K + d + 1 ≤ k → potsherdlaw06_PlaceOwners.l2 k b p w g p len i o (o.length : Int) (j : Int) n0 n1 n2 nm l b0 b1 m = some true := by
  intro d
  induction d with
  | zero =>
    intro j k g hd hg hk
    obtain ⟨k, rfl⟩ : ∃ j, k = j + 1 := ⟨k - 1, by omega⟩
    have : g = true := by
      rcases hg with h | ⟨x, h, _⟩
      · exact h
      · rw [List.drop_of_length_le (by omega)] at h; cases h
    rw [potsherdlaw06_PlaceOwners.l2, if_neg (by omega), if_pos this, hj k (by omega)]
  | succ d ih =>
    intro j k g hd hg hk
    obtain ⟨k, rfl⟩ : ∃ j, k = j + 1 := ⟨k - 1, by omega⟩
    have hi : j < o.length := by omega
    rw [potsherdlaw06_PlaceOwners.l2, if_pos (by omega), if_pos (by omega), if_pos (by omega), rdI o j hi, v64 (by omega)]
    by_cases h : g = true
    · rw [if_pos h]
      exact ih (j + 1) k true (by omega) (.inl rfl) (by omega)
    · rw [if_neg h]
      refine ih (j + 1) k _ (by omega) ?_ (by omega)
      rcases hg with h1 | ⟨x, h1, h2⟩
      · exact absurd h1 h
      · rw [List.drop_eq_getElem_cons hi] at h1
        rcases List.mem_cons.1 h1 with h3 | h3
        · exact .inl (by rw [← h3, h2]; simp)
        · exact .inr ⟨x, h3, h2⟩
include hf
theorem owns_l1 (p : List Int) (hpl : (p.length : Int) = n1) (hpm : p.length = m.length) (hp : ∀ i, i < p.length → p.getD i 0 ∈ Val.keepL b (m.getD i [])) (hg : ∀ x ∈ m, ∀ y ∈ x, 1 ≤ y) :
    ∀ (d i k : Nat), p.length = i + d → d * (B + 10) + B + 10 ≤ k → potsherdlaw06_PlaceOwners.l1 k b p p (p.length : Int) (i : Int) n0 n1 n2 nm l b0 b1 m = some true := by
  intro d
  have e1 := hf.2.2.2.1
  have e2 := hf.2.2.2.2.1
  have e3 := hf.2.2.2.2.2
  induction d with
  | zero =>
    intro i k hd hk
    obtain ⟨k, rfl⟩ : ∃ j, k = j + 1 := ⟨k - 1, by omega⟩
    rw [potsherdlaw06_PlaceOwners.l1, if_neg (by omega), hpl, beq_self_eq_true]
  | succ d ih =>
    intro i k hd hk
    rw [Nat.succ_mul] at hk
    obtain ⟨k, rfl⟩ : ∃ j, k = j + 2 := ⟨k - 2, by omega⟩
    have hi : i < p.length := by omega
    have hk1 := hp i hi
    have hpi : p.getD i 0 = p[i] := by simp [List.getD_eq_getElem?_getD, hi]
    rw [hpi] at hk1
    obtain ⟨h1, h2, h3⟩ := keep_alive2 hk1
    have hom : m.getD i [] ∈ m := mem_getD [] (by omega)
    have hol := e2 _ hom
    have hw := hg _ hom _ h1
    have hlive := live_f (k + 1) b (m.getD i []) (by omega) (fun x hx => by have := hg _ hom x hx; omega) (by omega)
    have hne : (Val.keepL b (m.getD i [])).length ≠ 0 := by
      intro h
      rw [List.length_eq_zero_iff.1 h] at hk1
      cases hk1
    rw [potsherdlaw06_PlaceOwners.l1, if_pos (by omega), if_pos (by omega), if_pos (by omega), rdI p i hi, if_neg h2, if_pos (by omega), if_pos (by omega), if_pos (show rdOf false b p[i] = true from h3), if_pos (by omega), rdLI, hlive, Option.bind_some,
      show (((Val.keepL b (m.getD i [])).length : Int) == 0) = false by simpa using hne, potsherdlaw06_PlaceOwners.j3, if_neg (by decide), if_pos (by omega), if_pos (by omega), rdLI]
    exact owns_l2 n0 n1 n2 b0 b1 nm l m b p _ _ _ _ (by omega) (d * (B + 10) + B + 10) (fun k hk => by rw [v64 (by omega)]; exact ih (i + 1) k (by omega) hk) (m.getD i []).length 0 k false (by omega) (.inr ⟨_, by simpa using h1, rfl⟩) (by omega)
include hl
theorem owns_j1 (k : Nat) (hk : m.length * (B + 10) + B + 12 ≤ k) : potsherdlaw06_PlaceOwners.j1 k b n0 n1 n2 nm l b0 b1 m = some true := by
  obtain ⟨k, rfl⟩ : ∃ j, k = j + 1 := ⟨k - 1, by omega⟩
  rw [potsherdlaw06_PlaceOwners.j1, (pick_f n0 n1 n2 b0 b1 nm l m b B hf hl).1, Option.bind_some]
  by_cases h0 : (Val.pickV n0 n1 n2 nm l m b).2 = 0
  · rw [if_pos h0]
    have hv : Val.claimV n0 n1 n2 nm l m = 0 := by
      unfold Val.pickV at h0
      split at h0
      · rename_i h; exact absurd h0 h
      · rename_i h; exact Classical.byContradiction h
    have hpv : Val.pickV n0 n1 n2 nm l m b = Val.pickG b m 0 [] := by unfold Val.pickV; rw [if_neg (fun h => h hv)]
    rw [hpv] at h0 ⊢
    obtain ⟨g1, _, g3⟩ := pick_at b m 0 [] h0
    have hn : (m.length : Int) = n1 := by
      unfold Val.claimV at hv
      split at hv
      · rename_i h; exact absurd hv h
      · split at hv
        · cases hv
        · rename_i h
          exact Classical.byContradiction fun h4 => h (Or.inr (Or.inl h4))
    simp only [List.length_nil, Nat.zero_add] at g1 g3
    exact owns_l1 n0 n1 n2 b0 b1 nm l m b B hf _ (by rw [g1]; exact hn) g1 (fun i hi => g3 i (by omega)) (fun x hx => ((claim_good hv).1 x hx).2) m.length 0 k (by omega) (by omega)
  · rw [if_neg h0]
    have : (Val.pickV n0 n1 n2 nm l m b).1 = [] := by
      unfold Val.pickV at h0 ⊢
      split
      · rfl
      · rename_i h
        rw [if_neg h] at h0
        exact pick_nil b m 0 [] h0
    rw [this]; rfl
theorem owns_l0 (o : List Int) (ho : okO n0 o = true) (hol : o.length < 4611686018427387904) : ∀ (d i k : Nat), o.length = i + d → m.length * (B + 10) + B + 12 + d + 1 ≤ k → potsherdlaw06_PlaceOwners.l0 k b o o (o.length : Int) (i : Int) n0 n1 n2 nm l b0 b1 m = some true := by
  intro d
  induction d with
  | zero =>
    intro i k hd hk
    obtain ⟨k, rfl⟩ : ∃ j, k = j + 1 := ⟨k - 1, by omega⟩
    rw [potsherdlaw06_PlaceOwners.l0, if_neg (by omega), owns_j1 n0 n1 n2 b0 b1 nm l m b B hf hl k (by omega)]
  | succ d ih =>
    intro i k hd hk
    obtain ⟨k, rfl⟩ : ∃ j, k = j + 1 := ⟨k - 1, by omega⟩
    have hi : i < o.length := by omega
    have h := List.all_eq_true.1 ho i (List.mem_range.2 hi)
    simp only [Bool.and_eq_true, Bool.or_eq_true, decide_eq_true_eq] at h
    have hpi : o.getD i 0 = o[i] := by simp [List.getD_eq_getElem?_getD, hi]
    rw [hpi] at h
    obtain ⟨⟨h1, h2⟩, h3⟩ := h
    rw [potsherdlaw06_PlaceOwners.l0, if_pos (by omega), if_pos (by omega), if_pos (by omega), rdI o i hi, if_neg (by omega), if_neg (by omega), v64 (by omega)]
    have hn := ih (i + 1) k (by omega) (by omega)
    by_cases hz : i = 0
    · rw [if_neg (by omega)]; exact hn
    · have hw : wrap64 ((i : Int) - 1) = ((i - 1 : Nat) : Int) := by unfold wrap64; omega
      have hpi2 : o.getD (i - 1) 0 = o[i - 1] := by simp [List.getD_eq_getElem?_getD, show i - 1 < o.length by omega]
      have h4 : o[i - 1] < o[i] := by rcases h3 with h3 | h3; exact absurd h3 hz; rwa [hpi2] at h3
      rw [if_pos (by omega), hw, if_pos (by omega), if_pos (by omega), rdI o (i - 1) (by omega), if_neg (by omega)]; exact hn
theorem owns (a : Int) : ∃ k, potsherdlaw06_PlaceOwners.f k n0 n1 n2 a nm l b0 b1 m b = some true := by
  refine ⟨100 + (m.length * (B + 10) + B + 12 + 100), ?_⟩
  unfold potsherdlaw06_PlaceOwners.f
  obtain ⟨o, w, h1, h2⟩ := owners_f (m.length * (B + 10) + B + 12 + 100) n0 n1 n2 a
  rw [lives_k, Option.bind_some, if_pos rfl, h1, Option.bind_some]
  by_cases h : w = 0
  · obtain ⟨h3, hn, h4⟩ := h2 h
    rw [if_pos h, if_pos h3]
    exact owns_l0 n0 n1 n2 b0 b1 nm l m b B hf hl o h4 (by omega) o.length 0 _ (by omega) (by omega)
  · rw [if_neg h]
    exact owns_j1 n0 n1 n2 b0 b1 nm l m b B hf hl _ (by omega)
end
end Go.Proofs.YtfgmgcnbponknaaDoor.Lx
