/- PlaceLays: the owners (a layout has eight nodes and eight shards at most: all of them, by the kernel), a row's shard, a table's shards are what the document says. Conditions: texts are shorter than 2^47, rows than 2^42. -/
import Derived.Test.YtfgmgcnbponknaaDoorPq
import Derived.Test.YtfgmgcnbponknaaDoorLp10
namespace Go.Proofs.YtfgmgcnbponknaaDoor.Lx
open Go.RowKit Go.Proofs.YtfgmgcnbponknaaDoor.G Go.Proofs.YtfgmgcnbponknaaDoor.Opn Go.Proofs.YtfgmgcnbponknaaDoorW.PrintWords Go.Proofs.YtfgmgcnbponknaaDoorW.PrintLast Go.Proofs.YtfgmgcnbponknaaDoorW.PrintMore
set_option linter.unusedVariables false
set_option linter.unusedSimpArgs false
def eqI : List Int → List Int → Bool
  | [], [] => true
  | a :: x, b :: y => decide (a = b) && eqI x y
  | _, _ => false
theorem eqI_eq : ∀ {x y : List Int}, eqI x y = true → x = y
  | [], [], _ => rfl
  | a :: x, b :: y, h => by
    rw [eqI, Bool.and_eq_true, decide_eq_true_eq] at h
    rw [h.1, eqI_eq h.2]
  | [], _ :: _, h => by cases h
  | _ :: _, [], h => by cases h
def eqO : Option (List Int × Int) → Option (List Int × Int) → Bool
  | some (o, w), some (p, v) => decide (w = v) && (decide (o.length ≤ 100) && eqI o p)
  | _, _ => false
def inL6 (a b c s : Nat) : Bool := decide (c < a + 1) && decide (s < b + 1)
theorem both_ev : ((List.range 7).all fun a => (List.range 8).all fun b => (List.range 7).all fun c => (List.range 8).all fun s => !(inL6 a b c s) || eqO (place_Owners.f 200 ((a + 2 : Nat) : Int) ((b + 1 : Nat) : Int) ((c + 1 : Nat) : Int) ((s : Nat) : Int)) (potsherdref06_Owners.f 200 ((a + 2 : Nat) : Int) ((b + 1 : Nat) : Int) ((c + 1 : Nat) : Int) ((s : Nat) : Int))) = true := by kernel_rfl
theorem own6_k (n0 n1 n2 a : Int) (r : List Int × Int) (h : place_Owners.f 200 n0 n1 n2 a = some r) : ∀ j, place_Owners.f (200 + j) n0 n1 n2 a = some r
  | 0 => h
  | j + 1 => place_Owners.mono n0 n1 n2 a (200 + j) _ (own6_k n0 n1 n2 a r h j)
theorem rown6_k (n0 n1 n2 a : Int) (r : List Int × Int) (h : potsherdref06_Owners.f 200 n0 n1 n2 a = some r) : ∀ j, potsherdref06_Owners.f (200 + j) n0 n1 n2 a = some r
  | 0 => h
  | j + 1 => potsherdref06_Owners.mono n0 n1 n2 a (200 + j) _ (rown6_k n0 n1 n2 a r h j)
theorem both_f (k : Nat) (n0 n1 n2 a : Int) (hu : n0 ≤ 9223372036854775807) (hl : -9223372036854775808 ≤ n0) : ∃ o w, place_Owners.f (200 + k) n0 n1 n2 a = some (o, w) ∧ potsherdref06_Owners.f (200 + k) n0 n1 n2 a = some (o, w) ∧ o.length ≤ 100 := by
  by_cases hv : Val.layV n0 n1 n2 = 0 ∧ 0 ≤ a ∧ a < n1
  · obtain ⟨h1, h2, h3⟩ := hv
    unfold Val.layV at h1
    split at h1
    · cases h1
    · rename_i h4
      obtain ⟨a', rfl⟩ : ∃ x : Nat, n0 = ((x + 2 : Nat) : Int) := ⟨(n0 - 2).toNat, by omega⟩
      obtain ⟨b', rfl⟩ : ∃ x : Nat, n1 = ((x + 1 : Nat) : Int) := ⟨(n1 - 1).toNat, by omega⟩
      obtain ⟨c', rfl⟩ : ∃ x : Nat, n2 = ((x + 1 : Nat) : Int) := ⟨(n2 - 1).toNat, by omega⟩
      obtain ⟨s', rfl⟩ : ∃ x : Nat, a = ((x : Nat) : Int) := ⟨a.toNat, by omega⟩
      have e := List.all_eq_true.1 (List.all_eq_true.1 (List.all_eq_true.1 (List.all_eq_true.1 both_ev a' (List.mem_range.2 (by omega))) b' (List.mem_range.2 (by omega))) c' (List.mem_range.2 (by omega))) s' (List.mem_range.2 (by omega))
      have hi : inL6 a' b' c' s' = true := by unfold inL6; rw [Bool.and_eq_true, decide_eq_true_eq, decide_eq_true_eq]; omega
      rw [hi] at e
      rcases hr : place_Owners.f 200 ((a' + 2 : Nat) : Int) ((b' + 1 : Nat) : Int) ((c' + 1 : Nat) : Int) ((s' : Nat) : Int) with _ | ⟨o, w⟩
      · rw [hr] at e; cases e
      · rcases hq : potsherdref06_Owners.f 200 ((a' + 2 : Nat) : Int) ((b' + 1 : Nat) : Int) ((c' + 1 : Nat) : Int) ((s' : Nat) : Int) with _ | ⟨p, v⟩
        · rw [hr, hq] at e; cases e
        · rw [hr, hq] at e
          simp only [eqO, Bool.not_true, Bool.false_or, Bool.and_eq_true, decide_eq_true_eq] at e
          obtain ⟨e1, e2, e3⟩ := e
          have e4 := eqI_eq e3
          subst e1 e4
          exact ⟨o, w, own6_k _ _ _ _ _ hr k, rown6_k _ _ _ _ _ hq k, e2⟩
  · refine ⟨[], 2, ?_, ?_, by simp⟩
    · unfold place_Owners.f
      rw [Val.lay_f, Option.bind_some]
      have hj : place_Owners.j0 (200 + k) a true n0 n1 n2 = some ([], 2) := by
        rw [show 200 + k = (199 + k) + 1 by omega, place_Owners.j0, if_pos rfl]
      by_cases h1 : Val.layV n0 n1 n2 = 0
      · rw [if_pos h1]
        by_cases h2 : a < 0
        · rw [if_pos h2, hj]
        · rw [if_neg h2, decide_eq_true (show a ≥ n1 by have := fun h => hv ⟨h1, by omega, h⟩; omega), hj]
      · rw [if_neg h1, hj]
    · unfold potsherdref06_Owners.f
      rw [rlay2_f n0 n1 n2 hu hl, Option.bind_some]
      have hj : potsherdref06_Owners.j0 (200 + k) a true n0 n1 n2 = some ([], 2) := by
        rw [show 200 + k = (199 + k) + 1 by omega, potsherdref06_Owners.j0, if_pos rfl]
      by_cases h1 : Val.layV n0 n1 n2 = 0
      · rw [if_pos h1]
        by_cases h2 : a < 0
        · rw [if_pos h2, hj]
        · rw [if_neg h2, decide_eq_true (show a ≥ n1 by have := fun h => hv ⟨h1, by omega, h⟩; omega), hj]
      · rw [if_neg h1, hj]
/-! a row's shard -/
def shardV (n0 n1 n2 : Int) (r : List S38) : Int × Int := if Val.layV n0 n1 n2 ≠ 0 then (0, 2) else if r.length = 0 then (0, 3) else (((Val.ofV n1 (rd_T38 r 0) : Nat) : Int), 0)
theorem shard_f (k : Nat) (n0 n1 n2 : Int) (r : List S38) (hu : n0 ≤ 9223372036854775807) (hl : -9223372036854775808 ≤ n0) (hs : ∀ x ∈ r, x.f3.size ≤ 140737488351232) (hk : 140737488355328 ≤ k) :
    place_Shard.f n0 n1 n2 r = some (shardV n0 n1 n2 r) ∧ potsherdref06_Shard.f k n0 n1 n2 r = some (shardV n0 n1 n2 r) := by
  unfold place_Shard.f potsherdref06_Shard.f
  rw [Val.lay_f, rlay2_f n0 n1 n2 hu hl, Option.bind_some, Option.bind_some]
  by_cases h1 : Val.layV n0 n1 n2 = 0
  · rw [if_pos h1, if_pos h1]
    by_cases h2 : r.length = 0
    · have e : shardV n0 n1 n2 r = (0, 3) := by unfold shardV; rw [if_neg (show ¬ (Val.layV n0 n1 n2 ≠ 0) from fun h => h h1), if_pos h2]
      rw [e]
      refine ⟨?_, ?_⟩
      · rw [if_pos (by omega)]
      · rw [if_pos (by omega)]
    · have e : shardV n0 n1 n2 r = (((Val.ofV n1 (rd_T38 r 0) : Nat) : Int), 0) := by unfold shardV; rw [if_neg (show ¬ (Val.layV n0 n1 n2 ≠ 0) from fun h => h h1), if_neg h2]
      have hm : rd_T38 r 0 ∈ r := by
        unfold rd_T38
        rw [List.getD_eq_getElem?_getD, List.getElem?_eq_getElem (show (0 : Int).toNat < r.length by simp; omega)]
        exact List.getElem_mem _
      have h3 := hs _ hm
      have hh := h1
      unfold Val.layV at hh
      split at hh
      · cases hh
      · have o1 := Val.of_f n1 (rd_T38 r 0) (by omega) (by omega) (by omega)
        have o2 := rof_f k n1 (rd_T38 r 0) (by omega) (by omega) h3 (by omega)
        rw [e]
        refine ⟨?_, ?_⟩
        · rw [if_neg (by omega), if_pos (by omega), o1]; rfl
        · rw [if_neg (by omega), if_pos (by omega), o2]; rfl
  · have e : shardV n0 n1 n2 r = (0, 2) := by unfold shardV; rw [if_pos h1]
    rw [e, if_neg h1, if_neg h1]; exact ⟨rfl, rfl⟩
/-! a table's shards -/
def ofRow (n1 : Int) (s : Nat) (r : List S38) : Bool := decide (Val.ofV n1 (rd_T38 r 0) = s)
theorem getD_set (X : List (List (List S38))) (s t : Nat) (x : List (List S38)) (hs : s < X.length) : (X.set s x).getD t [] = if t = s then x else X.getD t [] := by
  rw [List.getD_eq_getElem?_getD, List.getD_eq_getElem?_getD]
  by_cases h : t = s
  · subst h; rw [if_pos rfl, List.getElem?_set_self hs]; rfl
  · rw [if_neg h, List.getElem?_set_ne (fun e => h e.symm)]
theorem splitG_get (n1 : Int) (h1 : 1 ≤ n1) : ∀ (m : List (List S38)) (X : List (List (List S38))), X.length = n1.toNat → (Val.splitG n1 m X).length = n1.toNat ∧ ∀ s, (Val.splitG n1 m X).getD s [] = X.getD s [] ++ (if s < n1.toNat then m.filter (ofRow n1 s) else [])
  | [], X, h => ⟨h, fun s => by simp [Val.splitG]⟩
  | r :: t, X, h => by
    rw [Val.splitG]
    have hlt := Val.ofV_lt n1 (rd_T38 r 0) h1
    obtain ⟨g1, g2⟩ := splitG_get n1 h1 t (X.set (Val.ofV n1 (rd_T38 r 0)) (X.getD (Val.ofV n1 (rd_T38 r 0)) [] ++ [r])) (by rw [List.length_set]; exact h)
    refine ⟨g1, fun s => ?_⟩
    rw [g2 s, getD_set _ _ _ _ (by omega)]
    by_cases hs : s = Val.ofV n1 (rd_T38 r 0)
    · have ho : ofRow n1 s r = true := decide_eq_true hs.symm
      rw [if_pos hs, if_pos (by omega), if_pos (by omega), List.filter_cons, if_pos ho, hs]; simp
    · have ho : ofRow n1 s r = false := decide_eq_false (fun e => hs e.symm)
      rw [if_neg hs, List.filter_cons, ho]; simp
theorem innerG_get (n1 : Int) (s : Nat) : ∀ (m : List (List S38)) (X : List (List (List S38))), s < X.length → (Val.innerG n1 s m X).length = X.length ∧ ∀ t, (Val.innerG n1 s m X).getD t [] = if t = s then X.getD t [] ++ m.filter (ofRow n1 s) else X.getD t []
  | [], X, h => ⟨rfl, fun t => by simp [Val.innerG]⟩
  | r :: q, X, h => by
    rw [Val.innerG]
    by_cases hr : Val.ofV n1 (rd_T38 r 0) = s
    · have ho : ofRow n1 s r = true := decide_eq_true hr
      rw [if_pos hr]
      obtain ⟨g1, g2⟩ := innerG_get n1 s q (X.set s (X.getD s [] ++ [r])) (by rw [List.length_set]; exact h)
      refine ⟨by rw [g1, List.length_set], fun t => ?_⟩
      rw [g2 t, getD_set _ _ _ _ h, List.filter_cons, if_pos ho]
      by_cases ht : t = s
      · rw [if_pos ht, if_pos ht, if_pos ht, ht]; simp
      · rw [if_neg ht, if_neg ht, if_neg ht]
    · have ho : ofRow n1 s r = false := decide_eq_false hr
      rw [if_neg hr]
      obtain ⟨g1, g2⟩ := innerG_get n1 s q X h
      refine ⟨g1, fun t => ?_⟩
      rw [g2 t, List.filter_cons, ho]; simp
theorem outerG_get (n1 : Int) (m : List (List S38)) : ∀ (d s : Nat) (X : List (List (List S38))), s + d ≤ X.length → (Val.outerG n1 m d s X).length = X.length ∧ ∀ t, (Val.outerG n1 m d s X).getD t [] = if s ≤ t ∧ t < s + d then X.getD t [] ++ m.filter (ofRow n1 t) else X.getD t []
  | 0, s, X, h => ⟨rfl, fun t => by rw [if_neg (by omega)]; rfl⟩
  | d + 1, s, X, h => by
    rw [Val.outerG]
    obtain ⟨f1, f2⟩ := innerG_get n1 s m X (by omega)
    obtain ⟨g1, g2⟩ := outerG_get n1 m d (s + 1) (Val.innerG n1 s m X) (by omega)
    refine ⟨by rw [g1, f1], fun t => ?_⟩
    rw [g2 t, f2 t]
    by_cases ht : t = s
    · rw [if_neg (by omega), if_pos ht, if_pos (by omega), ht]
    · by_cases h2 : s + 1 ≤ t ∧ t < s + 1 + d
      · rw [if_pos h2, if_neg ht, if_pos (by omega)]
      · rw [if_neg h2, if_neg ht, if_neg (by omega)]
theorem ext_getD (X Y : List (List (List S38))) (h : X.length = Y.length) (hg : ∀ t, t < X.length → X.getD t [] = Y.getD t []) : X = Y := by
  refine List.ext_getElem h (fun i h1 h2 => ?_)
  have := hg i h1
  simpa [List.getD_eq_getElem?_getD, h1, h2] using this
theorem split_same (n0 n1 n2 : Int) (nm : ByteArray) (l : List S97) (m : List (List S38)) : Val.rsplitV n0 n1 n2 nm l m = Val.splitV n0 n1 n2 nm l m := by
  by_cases h1 : Val.layV n0 n1 n2 = 0
  · by_cases h2 : tabV nm l m = 0
    · have e1 : Val.rsplitV n0 n1 n2 nm l m = (Val.outerG n1 m n1.toNat 0 (List.replicate n1.toNat []), 0) := by unfold Val.rsplitV; rw [if_neg (fun h => h h1), if_neg (fun h => h h2)]
      have e2 : Val.splitV n0 n1 n2 nm l m = (Val.splitG n1 m (List.replicate n1.toNat []), 0) := by unfold Val.splitV; rw [if_neg (fun h => h h1), if_neg (fun h => h h2)]
      have hn : 1 ≤ n1 := by
        unfold Val.layV at h1
        split at h1
        · cases h1
        · omega
      obtain ⟨g1, g2⟩ := splitG_get n1 hn m (List.replicate n1.toNat []) List.length_replicate
      obtain ⟨f1, f2⟩ := outerG_get n1 m n1.toNat 0 (List.replicate n1.toNat []) (by rw [List.length_replicate]; omega)
      rw [List.length_replicate] at f1
      have e3 : Val.outerG n1 m n1.toNat 0 (List.replicate n1.toNat []) = Val.splitG n1 m (List.replicate n1.toNat []) := by
        refine ext_getD _ _ (by rw [f1, g1]) (fun t ht => ?_)
        rw [f1] at ht
        rw [f2 t, g2 t, if_pos (by omega), if_pos ht]
      rw [e1, e2, e3]
    · have e1 : Val.rsplitV n0 n1 n2 nm l m = ([], tabV nm l m) := by unfold Val.rsplitV; rw [if_neg (fun h => h h1), if_pos h2]
      have e2 : Val.splitV n0 n1 n2 nm l m = ([], tabV nm l m) := by unfold Val.splitV; rw [if_neg (fun h => h h1), if_pos h2]
      rw [e1, e2]
  · have h2 : Val.layV n0 n1 n2 = 2 := by
      unfold Val.layV at h1 ⊢
      split
      · rfl
      · rename_i h; rw [if_neg h] at h1; exact absurd rfl h1
    unfold Val.rsplitV Val.splitV
    rw [if_pos h1, if_pos h1, h2]
theorem split_mem (n0 n1 n2 : Int) (nm : ByteArray) (l : List S97) (m : List (List S38)) : ∀ x ∈ (Val.splitV n0 n1 n2 nm l m).1, x.length ≤ m.length ∧ ∀ r ∈ x, r ∈ m := by
  unfold Val.splitV
  split
  · intro x hx; cases hx
  · rename_i h1
    split
    · intro x hx; cases hx
    · have h1 : Val.layV n0 n1 n2 = 0 := Classical.byContradiction h1
      have hn : 1 ≤ n1 := by
        unfold Val.layV at h1
        split at h1
        · cases h1
        · omega
      obtain ⟨g1, g2⟩ := splitG_get n1 hn m (List.replicate n1.toNat []) List.length_replicate
      intro x hx
      obtain ⟨i, hi, rfl⟩ := List.mem_iff_getElem.1 hx
      have e := g2 i
      have e2 : (List.replicate n1.toNat ([] : List (List S38))).getD i [] = [] := by
        rw [List.getD_eq_getElem?_getD, List.getElem?_replicate]; split <;> rfl
      rw [List.getD_eq_getElem?_getD, List.getElem?_eq_getElem hi, Option.getD_some, e2, List.nil_append] at e
      simp only at hi
      rw [if_pos (by rw [← g1]; exact hi)] at e
      simp only [e]
      exact ⟨List.length_filter_le _ _, fun r hr => (List.mem_filter.1 hr).1⟩
theorem split_len (n0 n1 n2 : Int) (nm : ByteArray) (l : List S97) (m : List (List S38)) : (Val.splitV n0 n1 n2 nm l m).1.length ≤ 8 := by
  unfold Val.splitV
  split
  · simp
  · rename_i h1
    split
    · simp
    · have h1 : Val.layV n0 n1 n2 = 0 := Classical.byContradiction h1
      have hn : 1 ≤ n1 ∧ n1 ≤ 8 := by
        unfold Val.layV at h1
        split at h1
        · cases h1
        · omega
      have := (splitG_get n1 hn.1 m (List.replicate n1.toNat []) List.length_replicate).1
      simp only
      omega
/-! the same rows -/
theorem srow_l0 (r : List S38) (hl : r.length < 4611686018427387904) : ∀ (d i k : Nat), r.length = i + d → d + 1 ≤ k → potsherdref01_SameRow.l0 k r r (r.length : Int) (i : Int) = some true := by
  intro d
  induction d with
  | zero =>
    intro i k hd hk
    obtain ⟨k, rfl⟩ : ∃ j, k = j + 1 := ⟨k - 1, by omega⟩
    rw [potsherdref01_SameRow.l0, if_neg (by omega)]
  | succ d ih =>
    intro i k hd hk
    obtain ⟨k, rfl⟩ : ∃ j, k = j + 1 := ⟨k - 1, by omega⟩
    rw [potsherdref01_SameRow.l0, if_pos (by omega), if_pos (by omega), if_pos (by omega), if_pos (by omega), if_neg (by simp), v64 (by omega), ih (i + 1) k (by omega) (by omega)]
theorem srow_f (k : Nat) (r : List S38) (hl : r.length < 4611686018427387904) (hk : r.length + 1 ≤ k) : potsherdref01_SameRow.f k r r = some true := by
  unfold potsherdref01_SameRow.f
  rw [if_pos rfl]
  exact srow_l0 r hl r.length 0 k (by omega) hk
theorem same_l0 (x : List (List S38)) (B : Nat) (hB : ∀ r ∈ x, r.length ≤ B) (hB2 : B < 4611686018427387904) (hl : x.length < 4611686018427387904) : ∀ (d i k : Nat), x.length = i + d → B + d + 2 ≤ k → potsherdref01_Same.l0 k x x (x.length : Int) (i : Int) = some true := by
  intro d
  induction d with
  | zero =>
    intro i k hd hk
    obtain ⟨k, rfl⟩ : ∃ j, k = j + 1 := ⟨k - 1, by omega⟩
    rw [potsherdref01_Same.l0, if_neg (by omega)]
  | succ d ih =>
    intro i k hd hk
    obtain ⟨k, rfl⟩ : ∃ j, k = j + 1 := ⟨k - 1, by omega⟩
    have hi : i < x.length := by omega
    have he : rd_L6 x (i : Int) = x[i] := by simp [rd_L6, List.getD_eq_getElem?_getD, hi]
    have := hB _ (List.getElem_mem hi)
    rw [potsherdref01_Same.l0, if_pos (by omega), if_pos (by omega), if_pos (by omega), if_pos (by omega), he, srow_f k _ (by omega) (by omega), Option.bind_some, if_pos rfl, v64 (by omega), ih (i + 1) k (by omega) (by omega)]
theorem same_f (k : Nat) (x : List (List S38)) (B : Nat) (hB : ∀ r ∈ x, r.length ≤ B) (hB2 : B < 4611686018427387904) (hl : x.length < 4611686018427387904) (hk : B + x.length + 2 ≤ k) : potsherdref01_Same.f k x x = some true := by
  unfold potsherdref01_Same.f
  rw [if_pos rfl]
  exact same_l0 x B hB hB2 hl x.length 0 k (by omega) hk
theorem lays_l0 (n0 n1 n2 : Int) (X : List (List (List S38))) (B L : Nat) (hB : ∀ x ∈ X, x.length ≤ L ∧ ∀ r ∈ x, r.length ≤ B) (hB2 : B < 4611686018427387904) (hL : L < 4611686018427387904) (hX : X.length ≤ 8) (hu : n0 ≤ 9223372036854775807) (hl : -9223372036854775808 ≤ n0) : ∀ (d i k : Nat), X.length = i + d → B + L + d + 3 ≤ k → potsherdlaw06_PlaceLays.l0 k X X (X.length : Int) (i : Int) n0 n1 n2 = some true := by
  intro d
  induction d with
  | zero =>
    intro i k hd hk
    obtain ⟨k, rfl⟩ : ∃ j, k = j + 1 := ⟨k - 1, by omega⟩
    rw [potsherdlaw06_PlaceLays.l0, if_neg (by omega), Val.lay_f, Option.bind_some, rlay2_f n0 n1 n2 hu hl, Option.bind_some, beq_self_eq_true]
  | succ d ih =>
    intro i k hd hk
    obtain ⟨k, rfl⟩ : ∃ j, k = j + 1 := ⟨k - 1, by omega⟩
    have hi : i < X.length := by omega
    have he : rd_L8 X (i : Int) = X[i] := by simp [rd_L8, List.getD_eq_getElem?_getD, hi]
    obtain ⟨h1, h2⟩ := hB _ (List.getElem_mem hi)
    rw [potsherdlaw06_PlaceLays.l0, if_pos (by omega), if_pos (by omega), if_pos (by omega), if_pos (by omega), he, same_f k _ B h2 hB2 (by omega) (by omega), Option.bind_some, if_pos rfl, v64 (by omega), ih (i + 1) k (by omega) (by omega)]
theorem lays (n0 n1 n2 a : Int) (r : List S38) (nm : ByteArray) (l : List S97) (m : List (List S38)) (hs : ∀ x ∈ r, x.f3.size ≤ 140737488351232) (hf : FitsT n0 nm l m) : ∃ k, potsherdlaw06_PlaceLays.f k n0 n1 n2 a r nm l m = some true := by
  have hu := hf.1.2
  have hl := hf.1.1
  refine ⟨200 + (140737488355328 + m.length), ?_⟩
  obtain ⟨o, w, h1, h2, h3⟩ := both_f (140737488355328 + m.length) n0 n1 n2 a hu hl
  obtain ⟨g1, g2⟩ := shard_f (200 + (140737488355328 + m.length)) n0 n1 n2 r hu hl hs (by omega)
  have e1 : place_Split.f n0 n1 n2 nm l m = some (Val.splitV n0 n1 n2 nm l m) := by unfold place_Split.f; rw [if_pos hf]
  have e2 : potsherdref06_Split.f n0 n1 n2 nm l m = some (Val.splitV n0 n1 n2 nm l m) := by unfold potsherdref06_Split.f; rw [if_pos hf, split_same]
  unfold potsherdlaw06_PlaceLays.f
  rw [h1, Option.bind_some, h2, Option.bind_some, g1, Option.bind_some, g2, Option.bind_some, e1, Option.bind_some, e2, Option.bind_some, show 200 + (140737488355328 + m.length) = 100 + (100 + (140737488355328 + m.length)) by omega, lives_k, Option.bind_some, if_pos rfl, ints_f _ o (by omega) (by omega), Option.bind_some, if_pos rfl, if_pos rfl, if_pos rfl, if_pos rfl, if_pos rfl,
    show 100 + (100 + (140737488355328 + m.length)) = (199 + (140737488355328 + m.length)) + 1 by omega, potsherdlaw06_PlaceLays.j0, if_neg (by simp)]
  have := split_len n0 n1 n2 nm l m
  exact lays_l0 n0 n1 n2 _ 4398046511104 m.length (fun x hx => ⟨(split_mem n0 n1 n2 nm l m x hx).1, fun q hq => by have := (hf.2.2.2 q ((split_mem n0 n1 n2 nm l m x hx).2 q hq)).1; omega⟩) (by decide) hf.2.2.1 this hu hl (Val.splitV n0 n1 n2 nm l m).1.length 0 _ (by omega) (by omega)
end Go.Proofs.YtfgmgcnbponknaaDoor.Lx
