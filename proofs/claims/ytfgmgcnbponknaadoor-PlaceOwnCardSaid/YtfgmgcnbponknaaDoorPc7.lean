/- PlaceOwn: a copy of rows is the rows, the same rows are the same; and the law answers true. Conditions: rows are shorter than 2^42. -/
import Derived.Test.YtfgmgcnbponknaaDoorPq
import Derived.Test.YtfgmgcnbponknaaDoorVc10
namespace Go.Proofs.YtfgmgcnbponknaaDoor.Lx
open Go.RowKit Go.Proofs.YtfgmgcnbponknaaDoor.G Go.Proofs.YtfgmgcnbponknaaDoor.Opn Go.Proofs.YtfgmgcnbponknaaDoorW.PrintWords Go.Proofs.YtfgmgcnbponknaaDoorW.PrintLast Go.Proofs.YtfgmgcnbponknaaDoorW.PrintMore
set_option linter.unusedVariables false
set_option linter.unusedSimpArgs false
/-! a table's shards -/
def ofRow (n1 : Int) (s : Nat) (r : List S38) : Bool := decide (Val.ofV n1 (rd_T38 r 0) = s)
theorem getD_set (X : List (List (List S38))) (s t : Nat) (x : List (List S38)) (hs : s < X.length) : (X.set s x).getD t [] = if t = s then x else X.getD t [] := by
  rw [List.getD_eq_getElem?_getD, List.getD_eq_getElem?_getD]
  by_cases h : t = s
  · subst h; rw [if_pos rfl, List.getElem?_set_self hs]; rfl
  · rw [if_neg h, List.getElem?_set_ne (fun e => h e.symm)]
theorem splitG_get (n1 : Int) (h1 : 1 ≤ n1) : ∀ (m : List (List S38)) (X : List (List (List S38))), X.length = n1.toNat → (Val.splitG n1 m X).length = n1.toNat ∧ ∀ s, (Val.splitG n1 m X).getD s [] = X.getD s [] ++ (if s < n1.toNat then m.filter (ofRow n1 s) else [])
  | [], X, h => ⟨h, fun s => by simp [Val.splitG]⟩
  | r :: t, X, h => by
    rw [Val.splitG]
    have hlt := Val.ofV_lt n1 (rd_T38 r 0) h1
    obtain ⟨g1, g2⟩ := splitG_get n1 h1 t (X.set (Val.ofV n1 (rd_T38 r 0)) (X.getD (Val.ofV n1 (rd_T38 r 0)) [] ++ [r])) (by rw [List.length_set]; exact h)
    refine ⟨g1, fun s => ?_⟩
    rw [g2 s, getD_set _ _ _ _ (by omega)]
    by_cases hs : s = Val.ofV n1 (rd_T38 r 0)
    · have ho : ofRow n1 s r = true := decide_eq_true hs.symm
      rw [if_pos hs, if_pos (by omega), if_pos (by omega), List.filter_cons, if_pos ho, hs]; simp
    · have ho : ofRow n1 s r = false := decide_eq_false (fun e => hs e.symm)
      rw [if_neg hs, List.filter_cons, ho]; simp
theorem split_mem (n0 n1 n2 : Int) (nm : ByteArray) (l : List S97) (m : List (List S38)) : ∀ x ∈ (Val.splitV n0 n1 n2 nm l m).1, x.length ≤ m.length ∧ ∀ r ∈ x, r ∈ m := by
  unfold Val.splitV
  split
  · intro x hx; cases hx
  · rename_i h1
    split
    · intro x hx; cases hx
    · have h1 : Val.layV n0 n1 n2 = 0 := Classical.byContradiction h1
      have hn : 1 ≤ n1 := by
        unfold Val.layV at h1
        split at h1
        · cases h1
        · omega
      obtain ⟨g1, g2⟩ := splitG_get n1 hn m (List.replicate n1.toNat []) List.length_replicate
      intro x hx
      obtain ⟨i, hi, rfl⟩ := List.mem_iff_getElem.1 hx
      have e := g2 i
      have e2 : (List.replicate n1.toNat ([] : List (List S38))).getD i [] = [] := by
        rw [List.getD_eq_getElem?_getD, List.getElem?_replicate]; split <;> rfl
      rw [List.getD_eq_getElem?_getD, List.getElem?_eq_getElem hi, Option.getD_some, e2, List.nil_append] at e
      simp only at hi
      rw [if_pos (by rw [← g1]; exact hi)] at e
      simp only [e]
      exact ⟨List.length_filter_le _ _, fun r hr => (List.mem_filter.1 hr).1⟩
theorem split_len (n0 n1 n2 : Int) (nm : ByteArray) (l : List S97) (m : List (List S38)) : (Val.splitV n0 n1 n2 nm l m).1.length ≤ 8 := by
  unfold Val.splitV
  split
  · simp
  · rename_i h1
    split
    · simp
    · have h1 : Val.layV n0 n1 n2 = 0 := Classical.byContradiction h1
      have hn : 1 ≤ n1 ∧ n1 ≤ 8 := by
        unfold Val.layV at h1
        split at h1
        · cases h1
        · omega
      have := (splitG_get n1 hn.1 m (List.replicate n1.toNat []) List.length_replicate).1
      simp only
      omega
/-! the same rows -/
theorem srow_l0 (r : List S38) (hl : r.length < 4611686018427387904) : ∀ (d i k : Nat), r.length = i + d → d + 1 ≤ k → potsherdref01_SameRow.l0 k r r (r.length : Int) (i : Int) = some true := by
  intro d
  induction d with
  | zero =>
    intro i k hd hk
    obtain ⟨k, rfl⟩ : ∃ j, k = j + 1 := ⟨k - 1, by omega⟩
    rw [potsherdref01_SameRow.l0, if_neg (by omega)]
  | succ d ih =>
    intro i k hd hk
    obtain ⟨k, rfl⟩ : ∃ j, k = j + 1 := ⟨k - 1, by omega⟩
    rw [potsherdref01_SameRow.l0, if_pos (by omega), if_pos (by omega), if_pos (by omega), if_pos (by omega), if_neg (by simp), v64 (by omega), ih (i + 1) k (by omega) (by omega)]
theorem srow_f (k : Nat) (r : List S38) (hl : r.length < 4611686018427387904) (hk : r.length + 1 ≤ k) : potsherdref01_SameRow.f k r r = some true := by
  unfold potsherdref01_SameRow.f
  rw [if_pos rfl]
  exact srow_l0 r hl r.length 0 k (by omega) hk
theorem same_l0 (x : List (List S38)) (B : Nat) (hB : ∀ r ∈ x, r.length ≤ B) (hB2 : B < 4611686018427387904) (hl : x.length < 4611686018427387904) : ∀ (d i k : Nat), x.length = i + d → B + d + 2 ≤ k → potsherdref01_Same.l0 k x x (x.length : Int) (i : Int) = some true := by
  intro d
  induction d with
  | zero =>
    intro i k hd hk
    obtain ⟨k, rfl⟩ : ∃ j, k = j + 1 := ⟨k - 1, by omega⟩
    rw [potsherdref01_Same.l0, if_neg (by omega)]
  | succ d ih =>
    intro i k hd hk
    obtain ⟨k, rfl⟩ : ∃ j, k = j + 1 := ⟨k - 1, by omega⟩
    have hi : i < x.length := by omega
    have he : rd_L6 x (i : Int) = x[i] := by simp [rd_L6, List.getD_eq_getElem?_getD, hi]
    have := hB _ (List.getElem_mem hi)
    rw [potsherdref01_Same.l0, if_pos (by omega), if_pos (by omega), if_pos (by omega), if_pos (by omega), he, srow_f k _ (by omega) (by omega), Option.bind_some, if_pos rfl, v64 (by omega), ih (i + 1) k (by omega) (by omega)]
theorem same_f (k : Nat) (x : List (List S38)) (B : Nat) (hB : ∀ r ∈ x, r.length ≤ B) (hB2 : B < 4611686018427387904) (hl : x.length < 4611686018427387904) (hk : B + x.length + 2 ≤ k) : potsherdref01_Same.f k x x = some true := by
  unfold potsherdref01_Same.f
  rw [if_pos rfl]
  exact same_l0 x B hB hB2 hl x.length 0 k (by omega) hk
theorem copy_l0 (m : List (List S38)) (hm : m.length < 5864062014805) (hr : ∀ r ∈ m, r.length < 4398046511104) : ∀ (d i k : Nat) (acc : List (List S38)), m.length = i + d → acc.length = i → d + 1 ≤ k → potsherdref01_CopyRows.l0 k acc m (m.length : Int) (i : Int) = some (acc ++ m.drop i) := by
  intro d
  induction d with
  | zero =>
    intro i k acc hd ha hk
    obtain ⟨k, rfl⟩ : ∃ j, k = j + 1 := ⟨k - 1, by omega⟩
    rw [potsherdref01_CopyRows.l0, if_neg (by omega), List.drop_of_length_le (by omega), List.append_nil]
  | succ d ih =>
    intro i k acc hd ha hk
    obtain ⟨k, rfl⟩ : ∃ j, k = j + 1 := ⟨k - 1, by omega⟩
    have hi : i < m.length := by omega
    have he : rd_L6 m (i : Int) = m[i] := by simp [rd_L6, List.getD_eq_getElem?_getD, hi]
    have h1 := hr _ (List.getElem_mem hi)
    rw [potsherdref01_CopyRows.l0, if_pos (by omega), if_pos (by omega), if_pos (by omega), Option.bind_some, he, List.nil_append, if_pos (by rw [List.length_nil]; omega), if_pos (by omega), v64 (by omega), ih (i + 1) k _ (by omega) (by rw [List.length_append, List.length_singleton, ha]) (by omega), List.drop_eq_getElem_cons hi, List.append_assoc]
    rfl
theorem copy_f (k : Nat) (m : List (List S38)) (hm : m.length < 5864062014805) (hr : ∀ r ∈ m, r.length < 4398046511104) (hk : m.length + 1 ≤ k) : potsherdref01_CopyRows.f k m = some m := by
  unfold potsherdref01_CopyRows.f
  rw [show (0 : Int) = ((0 : Nat) : Int) from rfl, copy_l0 m hm hr m.length 0 k [] (by omega) rfl hk, List.drop_zero, List.nil_append]
theorem owns_true (n0 n1 n2 : Int) (nm : ByteArray) (A D : Option Addr) (c d : Nat) (l : List S97) (m : List (List S38)) (w : World) (ha : Kd.C k97 w A l.length l) (hc : l.length ≤ c) (hb : Kd.C (Kd.slice 38 k38) w D m.length m) (hd : m.length ≤ d) (hT : Lib.Utf8Tabs 0 1 w) (hm : m.length < 5864062014805) (hf : FitsT n0 nm l m) :
    Calls Tryd.prog 3 #[.agg #[.int .i64 n0, .int .i64 n1, .int .i64 n2], .agg #[.string nm, .slice A l.length c, .slice D m.length d]] w fun e w' => e = .returned (.bool true) ∧ Below w.heap.size w w' := by
  have hr : ∀ r ∈ m, r.length < 4398046511104 := fun r h => (hf.2.2.2 r h).1
  refine Val.own_calls (100 + (m.length + 4398046511104 + 2)) n0 n1 n2 nm A D c d l m w (Val.splitV n0 n1 n2 nm l m).1 (Val.splitV n0 n1 n2 nm l m).2 (Val.layV n0 n1 n2) ha hc hb hd hT (lives_k _) (copy_f _ m hm hr (by omega)) ?_ (same_f _ m 4398046511104 (fun r h => by have := hr r h; omega) (by decide) (by omega) (by omega)) (rlay2_f n0 n1 n2 hf.1.2 hf.1.1) (Val.lay_f n0 n1 n2) (by have := split_len n0 n1 n2 nm l m; omega) (fun y hy => ?_)
  · unfold place_Split.f; rw [if_pos hf]
  · obtain ⟨h1, h2⟩ := split_mem n0 n1 n2 nm l m y hy
    exact ⟨by omega, fun z hz => by have := hr z (h2 z hz); omega⟩
end Go.Proofs.YtfgmgcnbponknaaDoor.Lx
