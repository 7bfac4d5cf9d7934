/- A row held against columns: what the program and what the document answer is one. Conditions: kinds are bytes, texts and lists are shorter than 2^62. -/
import Derived.Test.YtfgmgcnbponknaaDoorLp2
import Derived.Test.YtfgmgcnbponknaaDoorOpV
namespace Go.Proofs.YtfgmgcnbponknaaDoor.Lx
open Go.RowKit Go.Proofs.YtfgmgcnbponknaaDoor.G Go.Proofs.YtfgmgcnbponknaaDoor.Opn Go.Proofs.YtfgmgcnbponknaaDoorW.PrintWords Go.Proofs.YtfgmgcnbponknaaDoorW.PrintLast Go.Proofs.YtfgmgcnbponknaaDoorW.PrintMore
set_option linter.unusedVariables false
set_option linter.unusedSimpArgs false
theorem v64 {i : Nat} (h : i < 4611686018427387904) : wrap64 ((i : Int) + 1) = ((i + 1 : Nat) : Int) := by unfold wrap64; omega
theorem rd27 (l : List S38) (i : Nat) : rd_T38 l (i : Int) = l.getD i z38 := by simp [rd_T38]
theorem rd36 (l : List S97) (i : Nat) : rd_T97 l (i : Int) = l.getD i z97 := by simp [rd_T97]
theorem rdL7 (l : List (List S38)) (i : Nat) : rd_L6 l (i : Int) = l.getD i [] := by simp [rd_L6]
theorem drop_getD {α : Type} (z : α) {l : List α} {k : Nat} (h : k < l.length) : l.drop k = l.getD k z :: l.drop (k + 1) := by
  rw [List.getD_eq_getElem?_getD, List.getElem?_eq_getElem h]
  exact List.drop_eq_getElem_cons h
theorem mem_getD {α : Type} (z : α) {l : List α} {k : Nat} (h : k < l.length) : l.getD k z ∈ l := by
  rw [List.getD_eq_getElem?_getD, List.getElem?_eq_getElem h]
  exact List.getElem_mem h
def ckV (v : S38) : Int := Val.checkV v.f0 v.f1 v.f2 v.f3
/-- a row, held against columns -/
def rowG (c : List S97) : List S38 → Nat → Int
  | [], _ => 0
  | v :: l, i => if ckV v ≠ 0 then ckV v else if v.f0 ≠ 0 ∧ v.f0 ≠ (c.getD i z97).f1 then 5 else rowG c l (i + 1)
def rowV (l : List S38) (c : List S97) : Int := if l.length = c.length then rowG c l 0 else 3
theorem vrow_l0 (l : List S38) (c : List S97) (hl : l.length < 4611686018427387904) (hc : l.length = c.length) (hf : FitRow l) : ∀ (d i k : Nat), l.length = i + d → d + 1 ≤ k → value_CheckRow.l0 k c l (l.length : Int) (i : Int) = some (rowG c (l.drop i) i) := by
  intro d
  induction d with
  | zero =>
    intro i k hd hk
    obtain ⟨k, rfl⟩ : ∃ m, k = m + 1 := ⟨k - 1, by omega⟩
    rw [value_CheckRow.l0, if_neg (by omega), List.drop_of_length_le (by omega)]; rfl
  | succ d ih =>
    intro i k hd hk
    obtain ⟨k, rfl⟩ : ∃ m, k = m + 1 := ⟨k - 1, by omega⟩
    have hi : i < l.length := by omega
    rw [value_CheckRow.l0, if_pos (by omega), if_pos (by omega), if_pos (by omega), rd27, rd36, drop_getD z38 hi, rowG, v64 (by omega)]
    have hm := (hf _ (mem_getD z38 hi)).1.1
    obtain ⟨v, hv⟩ : ∃ v, v = l.getD i z38 := ⟨_, rfl⟩
    rw [← hv] at hm ⊢
    have hck : value_Check.f v.f0 v.f1 v.f2 v.f3 = some (ckV v) := by unfold value_Check.f; rw [if_pos hm]; rfl
    rw [hck, Option.bind_some, ih (i + 1) k (by omega) (by omega)]
    by_cases h0 : ckV v = 0
    · rw [if_pos h0, if_neg (show ¬ (ckV v ≠ 0) from fun h => h h0)]
      by_cases h1 : v.f0 = 0
      · rw [if_pos h1, if_neg (fun h => h.1 h1)]
      · rw [if_neg h1, if_pos (by omega)]
        by_cases h2 : v.f0 = (c.getD i z97).f1
        · rw [if_pos h2, if_neg (fun h => h.2 h2)]
        · rw [if_neg h2, if_pos ⟨h1, h2⟩]
    · rw [if_neg h0, if_pos h0]
theorem vrow_f (k : Nat) (l : List S38) (c : List S97) (hl : l.length < 4611686018427387904) (hf : FitRow l) (hk : c.length + 1 ≤ k) : value_CheckRow.f k l c = some (rowV l c) := by
  unfold value_CheckRow.f rowV
  by_cases h : l.length = c.length
  · have := vrow_l0 l c hl h hf l.length 0 k (by omega) (by omega)
    rw [if_pos (by omega), if_pos h]
    simpa using this
  · rw [if_neg (by omega), if_neg h]
theorem rrow_l0 (l : List S38) (c : List S97) (hl : l.length < 4611686018427387904) (hc : l.length = c.length) : ∀ (d i k : Nat), l.length = i + d → 2 * d + 1 ≤ k → potsherdref01_CheckRow.l0 k c l (l.length : Int) (i : Int) = some (rowG c (l.drop i) i) := by
  intro d
  induction d with
  | zero =>
    intro i k hd hk
    obtain ⟨k, rfl⟩ : ∃ m, k = m + 1 := ⟨k - 1, by omega⟩
    rw [potsherdref01_CheckRow.l0, if_neg (by omega), List.drop_of_length_le (by omega)]; rfl
  | succ d ih =>
    intro i k hd hk
    obtain ⟨k, rfl⟩ : ∃ m, k = m + 2 := ⟨k - 2, by omega⟩
    have hi : i < l.length := by omega
    rw [potsherdref01_CheckRow.l0, if_pos (by omega), if_pos (by omega), if_pos (by omega), rd27, rd36, drop_getD z38 hi, rowG]
    obtain ⟨v, hv⟩ : ∃ v, v = l.getD i z38 := ⟨_, rfl⟩
    rw [← hv]
    have hck : potsherdref01_Check.f v.f0 v.f1 v.f2 v.f3 = some (ckV v) := rfl
    rw [hck, Option.bind_some, potsherdref01_CheckRow.j1, potsherdref01_CheckRow.j1, v64 (by omega), ih (i + 1) k (by omega) (by omega)]
    by_cases h0 : ckV v = 0
    · rw [if_pos h0, if_neg (show ¬ (ckV v ≠ 0) from fun h => h h0), if_pos h0, if_neg (show ¬ (false = true) by decide)]
      by_cases h1 : v.f0 = 0
      · rw [if_pos h1, if_neg (fun h => h.1 h1)]
      · rw [if_neg h1, if_pos (by omega)]
        by_cases h2 : v.f0 = (c.getD i z97).f1
        · rw [if_neg (by simp [h2]), if_neg (fun h => h.2 h2)]
        · rw [if_pos (by simpa using h2), if_neg (by decide), if_pos ⟨h1, h2⟩]
    · rw [if_neg h0, if_pos h0, if_neg (show ¬ (false = true) by decide), if_neg h0]
theorem rrow_f (k : Nat) (l : List S38) (c : List S97) (hl : l.length < 4611686018427387904) (hk : 2 * c.length + 1 ≤ k) : potsherdref01_CheckRow.f k l c = some (rowV l c) := by
  unfold potsherdref01_CheckRow.f rowV
  by_cases h : l.length = c.length
  · have := rrow_l0 l c hl h l.length 0 k (by omega) (by omega)
    rw [if_pos (by omega), if_pos h]
    simpa using this
  · rw [if_neg (by omega), if_neg h]
/-! columns -/
theorem rcol_l1 (x0 x16 x31 : List S97) (x17 x18 : Int) (nm : ByteArray) (kd : Int) (hl : x31.length < 4611686018427387904) (hk0 : 0 ≤ kd) : ∀ (d j k : Nat), x31.length = j + d →
    potsherdref01_CheckCols.l1 (d + 1 + k) x0 x16 x17 x18 x31 (x31.length : Int) (j : Int) nm kd =
      if ((x31.drop j).any fun x => Val.sameS x.f0 nm) = true then some 15 else if kd = 0 ∨ 4 ≤ kd then some 5 else potsherdref01_CheckCols.l0 k x0 x16 x17 (wrap64 (x18 + 1)) := by
  intro d
  induction d with
  | zero =>
    intro j k hd
    rw [show 0 + 1 + k = k + 1 by omega, potsherdref01_CheckCols.l1, if_neg (by omega), List.drop_of_length_le (by omega), List.any_nil, if_neg (show ¬ (false = true) by decide)]
    by_cases h1 : kd < 1
    · rw [if_pos h1, if_pos (Or.inl (by omega))]
    · by_cases h4 : kd ≥ 4
      · rw [if_neg h1, if_pos h4, if_pos (Or.inr h4)]
      · rw [if_neg h1, if_neg h4, if_neg (by omega)]
  | succ d ih =>
    intro j k hd
    have hj : j < x31.length := by omega
    rw [show d + 1 + 1 + k = (d + 1 + k) + 1 by omega, potsherdref01_CheckCols.l1, if_pos (by omega), if_pos (by omega), if_pos (by omega), rd36, v64 (by omega), ih (j + 1) k (by omega), drop_getD z97 hj, List.any_cons]
    by_cases h : (x31.getD j z97).f0.toList = nm.toList
    · have hs : Val.sameS (x31.getD j z97).f0 nm = true := by unfold Val.sameS; rw [h]; exact beq_self_eq_true _
      rw [if_pos h, hs, if_pos (by simp)]
    · have hs : Val.sameS (x31.getD j z97).f0 nm = false := by unfold Val.sameS; exact beq_eq_false_iff_ne.2 h
      rw [if_neg h, hs, Bool.false_or]
theorem rcol_l0 (l : List S97) (hl : l.length ≤ 8) (hf : FitCols l) (hs : ∀ x ∈ l, x.f0.size ≤ 9223372036854775804) : ∀ (d i k : Nat), l.length = i + d → 12 * d + 2 ≤ k → potsherdref01_CheckCols.l0 k l l (l.length : Int) (i : Int) = some (Val.colsF l d i) := by
  intro d
  induction d with
  | zero =>
    intro i k hd hk
    obtain ⟨k, rfl⟩ : ∃ m, k = m + 1 := ⟨k - 1, by omega⟩
    rw [potsherdref01_CheckCols.l0, if_neg (by omega)]; rfl
  | succ d ih =>
    intro i k hd hk
    have hi : i < l.length := by omega
    obtain ⟨k, rfl⟩ : ∃ m, k = (i + 1 + m) + 1 := ⟨k - i - 2, by omega⟩
    rw [potsherdref01_CheckCols.l0, if_pos (by omega), if_pos (by omega), if_pos (by omega), rd36, Val.colsF]
    have hm := hf _ (mem_getD z97 hi)
    have hn := hs _ (mem_getD z97 hi)
    obtain ⟨v, hv⟩ : ∃ v, v = l.getD i z97 := ⟨_, rfl⟩
    rw [← hv] at hm hn ⊢
    have hck : potsherdref01_Name.f v.f0 = some (Val.nameV v.f0) := by unfold potsherdref01_Name.f; rw [if_pos hn]
    rw [hck, Option.bind_some]
    by_cases h0 : Val.nameV v.f0 = 0
    · have ht : (l.take i).length = i := by rw [List.length_take]; omega
      have h1 := rcol_l1 l l (l.take i) (l.length : Int) (i : Int) v.f0 v.f1 (by omega) hm.2.1 i 0 k (by omega)
      rw [if_pos h0, if_neg (show ¬ (Val.nameV v.f0 ≠ 0) from fun h => h h0), if_pos (by omega), Option.bind_some, show ((i : Int)).toNat = i by omega]
      refine Eq.trans h1 ?_
      rw [Val.inS_any, List.drop_zero, v64 (by omega), ih (i + 1) k (by omega) (by omega)]
      split
      · rfl
      · split <;> rfl
    · rw [if_neg h0, if_pos h0]
theorem rcol_f (k : Nat) (l : List S97) (hf : FitCols l) (hs : ∀ x ∈ l, x.f0.size ≤ 9223372036854775804) (hk : 120 ≤ k) : potsherdref01_CheckCols.f k l = some (Val.colsV l) := by
  obtain ⟨k, rfl⟩ : ∃ m, k = m + 1 := ⟨k - 1, by omega⟩
  unfold potsherdref01_CheckCols.f Val.colsV
  by_cases h0 : l.length = 0
  · rw [if_pos (by omega), potsherdref01_CheckCols.j0, if_pos rfl, if_pos (Or.inl h0)]
  · rw [if_neg (by omega), potsherdref01_CheckCols.j0]
    by_cases h8 : 8 < l.length
    · rw [if_pos (decide_eq_true (by omega)), if_pos (Or.inr h8)]
    · have := rcol_l0 l (by omega) hf hs l.length 0 k (by omega) (by omega)
      rw [if_neg (by rw [decide_eq_false (by omega)]; decide), if_neg (by omega)]
      simpa using this
/-! tables -/
def tabG (c : List S97) : List (List S38) → Int
  | [] => 0
  | r :: l => if rowV r c ≠ 0 then rowV r c else tabG c l
def tabV (nm : ByteArray) (c : List S97) (rows : List (List S38)) : Int :=
  if Val.nameV nm ≠ 0 then Val.nameV nm else if Val.colsV c ≠ 0 then Val.colsV c else if 64 < rows.length then 3 else tabG c rows
def Rows9 (l : List (List S38)) : Prop := l.length < 4611686018427387904 ∧ ∀ r ∈ l, r.length < 4611686018427387904 ∧ FitRow r
theorem vtab_l0 (nm : ByteArray) (c : List S97) (l : List (List S38)) (hl : Rows9 l) : ∀ (d i k : Nat) (why : Int), l.length = i + d → d + c.length + 2 ≤ k → value_CheckTable.l0 k why (i : Int) nm c l = some (if why = 0 then tabG c (l.drop i) else why) := by
  have hlen := hl.1
  intro d
  induction d with
  | zero =>
    intro i k why hd hk
    obtain ⟨k, rfl⟩ : ∃ m, k = m + 1 := ⟨k - 1, by omega⟩
    rw [value_CheckTable.l0, if_neg (by omega), List.drop_of_length_le (by omega)]
    by_cases h : why = 0
    · rw [if_pos h, h]; rfl
    · rw [if_neg h]
  | succ d ih =>
    intro i k why hd hk
    obtain ⟨k, rfl⟩ : ∃ m, k = m + 1 := ⟨k - 1, by omega⟩
    have hi : i < l.length := by omega
    rw [value_CheckTable.l0, if_pos (by omega)]
    by_cases h : why = 0
    · obtain ⟨h1, h2⟩ := hl.2 _ (mem_getD [] hi)
      rw [if_pos h, if_pos (by omega), rdL7, vrow_f k _ c h1 h2 (by omega), Option.bind_some, v64 (by omega), ih (i + 1) k _ (by omega) (by omega), if_pos h, drop_getD [] hi, tabG]
      by_cases h3 : rowV (l.getD i []) c = 0
      · rw [if_pos h3, if_neg (fun h => h h3)]
      · rw [if_neg h3, if_pos h3]
    · rw [if_neg h, if_neg h]
theorem or_f (k : Nat) (a b : Int) (hk : 3 ≤ k) : api_Errno.f k [a, b] = some (if a ≠ 0 then a else b) := by
  obtain ⟨k, rfl⟩ : ∃ m, k = m + 3 := ⟨k - 3, by omega⟩
  have w0 : wrap64 (0 + 1) = 1 := by unfold wrap64; omega
  have w1 : wrap64 (1 + 1) = 2 := by unfold wrap64; omega
  have r0 : rd [a, b] 0 = a := rfl
  have r1 : rd [a, b] 1 = b := rfl
  unfold api_Errno.f
  rw [api_Errno.l0, if_pos (by simp), if_pos (by omega), if_pos (by simp), r0]
  by_cases ha : a = 0
  · rw [if_pos ha, if_neg (fun h => h ha), w0, api_Errno.l0, if_pos (by simp), if_pos (by omega), if_pos (by simp), r1]
    by_cases hb : b = 0
    · rw [if_pos hb, w1, api_Errno.l0, if_neg (by simp), hb]
    · rw [if_neg hb]
  · rw [if_neg ha, if_pos ha]
theorem vtab_f (k : Nat) (nm : ByteArray) (c : List S97) (l : List (List S38)) (hn : nm.size ≤ 9223372036854775807) (hc : c.length < 4611686018427387904) (hs : Val.ShortC c) (hl : Rows9 l) (hk : l.length + c.length + 10 ≤ k) : value_CheckTable.f k nm c l = some (tabV nm c l) := by
  obtain ⟨k, rfl⟩ : ∃ m, k = m + 1 := ⟨k - 1, by omega⟩
  unfold value_CheckTable.f tabV
  have e1 : value_name.f nm = some (Val.nameV nm) := by unfold value_name.f; rw [if_pos hn]
  have e2 : value_CheckCols.f c = some (Val.colsV c) := by unfold value_CheckCols.f; rw [if_pos ⟨hc, hs⟩]
  rw [e1, Option.bind_some, e2, Option.bind_some, or_f _ _ _ (by omega), Option.bind_some]
  obtain ⟨a, ha⟩ : ∃ a, a = Val.nameV nm := ⟨_, rfl⟩
  obtain ⟨b, hb⟩ : ∃ b, b = Val.colsV c := ⟨_, rfl⟩
  rw [← ha, ← hb, value_CheckTable.j0, value_CheckTable.j0]
  have h0 := vtab_l0 nm c l hl l.length 0 k
  by_cases h1 : a = 0
  · rw [if_neg (show ¬ (a ≠ 0) from fun h => h h1), if_neg (show ¬ (a ≠ 0) from fun h => h h1)]
    by_cases h2 : b = 0
    · rw [if_pos h2, if_neg (show ¬ (b ≠ 0) from fun h => h h2)]
      by_cases h3 : 64 < l.length
      · rw [if_pos (decide_eq_true (by omega)), if_pos h3]
      · rw [if_neg (by rw [decide_eq_false (by omega)]; decide), if_neg h3]
        have := h0 b (by omega) (by omega)
        rw [if_pos h2] at this
        simpa using this
    · rw [if_neg h2, if_neg (by decide), if_pos h2]
      have := h0 b (by omega) (by omega)
      rw [if_neg h2] at this
      simpa using this
  · rw [if_pos h1, if_neg h1, if_neg (by decide), if_pos h1]
    have := h0 a (by omega) (by omega)
    rw [if_neg h1] at this
    simpa using this
theorem rtab_l0 (nm : ByteArray) (c : List S97) (l : List (List S38)) (hl : Rows9 l) : ∀ (d i k : Nat) (why : Int), l.length = i + d → d + 2 * c.length + 2 ≤ k → potsherdref01_CheckTable.l0 k why l (l.length : Int) (i : Int) nm c l = some (if why = 0 then tabG c (l.drop i) else why) := by
  have hlen := hl.1
  intro d
  induction d with
  | zero =>
    intro i k why hd hk
    obtain ⟨k, rfl⟩ : ∃ m, k = m + 1 := ⟨k - 1, by omega⟩
    rw [potsherdref01_CheckTable.l0, if_neg (by omega), List.drop_of_length_le (by omega)]
    by_cases h : why = 0
    · rw [if_pos h, h]; rfl
    · rw [if_neg h]
  | succ d ih =>
    intro i k why hd hk
    obtain ⟨k, rfl⟩ : ∃ m, k = m + 1 := ⟨k - 1, by omega⟩
    have hi : i < l.length := by omega
    rw [potsherdref01_CheckTable.l0, if_pos (by omega), if_pos (by omega), if_pos (by omega), v64 (by omega)]
    by_cases h : why = 0
    · obtain ⟨h1, h2⟩ := hl.2 _ (mem_getD [] hi)
      rw [if_pos h, rdL7, rrow_f k _ c h1 (by omega), Option.bind_some, ih (i + 1) k _ (by omega) (by omega), if_pos h, drop_getD [] hi, tabG]
      by_cases h3 : rowV (l.getD i []) c = 0
      · rw [if_pos h3, if_neg (fun h => h h3)]
      · rw [if_neg h3, if_pos h3]
    · rw [if_neg h, ih (i + 1) k _ (by omega) (by omega), if_neg h, if_neg h]
theorem rtab_f (k : Nat) (nm : ByteArray) (c : List S97) (l : List (List S38)) (hn : nm.size ≤ 9223372036854775804) (hf : FitCols c) (hs : ∀ x ∈ c, x.f0.size ≤ 9223372036854775804) (hl : Rows9 l) (hk : l.length + 2 * c.length + 130 ≤ k) : potsherdref01_CheckTable.f k nm c l = some (tabV nm c l) := by
  obtain ⟨k, rfl⟩ : ∃ m, k = m + 3 := ⟨k - 3, by omega⟩
  unfold potsherdref01_CheckTable.f tabV
  have e1 : potsherdref01_Name.f nm = some (Val.nameV nm) := by unfold potsherdref01_Name.f; rw [if_pos hn]
  rw [e1, Option.bind_some, rcol_f _ c hf hs (by omega), Option.bind_some]
  obtain ⟨a, ha⟩ : ∃ a, a = Val.nameV nm := ⟨_, rfl⟩
  obtain ⟨b, hb⟩ : ∃ b, b = Val.colsV c := ⟨_, rfl⟩
  rw [← ha, ← hb]
  have h0 := fun why => rtab_l0 nm c l hl l.length 0 k why (by omega) (by omega)
  have j2 : ∀ why, potsherdref01_CheckTable.j2 (k + 1) why nm c l = some (if why = 0 then tabG c l else why) := fun why => by
    rw [potsherdref01_CheckTable.j2]
    simpa using h0 why
  have j0 : ∀ why, potsherdref01_CheckTable.j0 (k + 3) why nm c l = some (if why = 0 then (if 64 < l.length then 3 else tabG c l) else why) := fun why => by
    rw [potsherdref01_CheckTable.j0, potsherdref01_CheckTable.j1, potsherdref01_CheckTable.j1, j2, j2]
    by_cases h1 : why = 0
    · rw [if_pos h1, if_pos h1]
      by_cases h3 : 64 < l.length
      · rw [if_pos (decide_eq_true (by omega)), if_pos h3, if_neg (by decide), if_pos h1]
      · rw [if_neg (by rw [decide_eq_false (by omega)]; decide), if_neg h3, if_pos h1]
    · rw [if_neg h1, if_neg h1, if_neg (by decide), if_neg h1]
  rw [j0, j0]
  by_cases h1 : a = 0
  · rw [if_pos h1, if_neg (show ¬ (a ≠ 0) from fun h => h h1)]
    by_cases h2 : b = 0
    · rw [if_pos h2, if_neg (show ¬ (b ≠ 0) from fun h => h h2)]
    · rw [if_neg h2, if_pos h2]
  · rw [if_neg h1, if_neg h1, if_pos h1]
end Go.Proofs.YtfgmgcnbponknaaDoor.Lx
