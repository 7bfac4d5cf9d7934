/- ValueOrder: the order of any three values, of rows of two. Conditions: kinds are bytes, texts have at most 2^63 - 1 bytes. -/
import Derived.Test.YtepgjdmdogblmaaDoorLs7
import Derived.Lib.ValidLaws
namespace Go.Proofs.YtepgjdmdogblmaaDoor.Lx
open Go.RowKit Go.Proofs.YtepgjdmdogblmaaDoor.G Go.Proofs.YtepgjdmdogblmaaDoorW.PrintWords Go.Proofs.YtepgjdmdogblmaaDoorW.PrintLast Go.Proofs.YtepgjdmdogblmaaDoorW.PrintMore
set_option linter.unusedVariables false
set_option linter.unusedSimpArgs false
/-- three in a row -/
def Three (x y z : Int) : Prop := x ≤ 0 → y ≤ 0 → z ≤ 0 ∧ (z = 0 → x = 0 ∧ y = 0)
theorem cmpI_anti (x y : Int) : Val.cmpI y x = -Val.cmpI x y := by
  unfold Val.cmpI
  repeat' split
  all_goals omega
theorem cmpI_self (x : Int) : Val.cmpI x x = 0 := by unfold Val.cmpI; rw [if_neg (by omega), if_neg (by omega)]
theorem cmpI_three (x y z : Int) : Three (Val.cmpI x y) (Val.cmpI y z) (Val.cmpI x z) := by
  unfold Three Val.cmpI
  repeat' split
  all_goals omega
theorem cmpI_zero {x y : Int} : Val.cmpI x y = 0 ↔ x = y := by
  unfold Val.cmpI
  repeat' split
  all_goals omega
theorem cmpR_anti : ∀ (x y : List Nat), Val.cmpR y x = -Val.cmpR x y
  | [], [] => rfl
  | [], _ :: _ => rfl
  | _ :: _, [] => rfl
  | a :: x, b :: y => by
    rw [Val.cmpR, Val.cmpR]
    by_cases h : a = b
    · rw [if_pos h, if_pos h.symm, cmpR_anti x y]
    · rw [if_neg h, if_neg (fun e => h e.symm), cmpI_anti]
theorem cmpR_self : ∀ (x : List Nat), Val.cmpR x x = 0
  | [] => rfl
  | a :: x => by rw [Val.cmpR, if_pos rfl, cmpR_self x]
theorem cmpR_zero : ∀ (x y : List Nat), Val.cmpR x y = 0 → x = y
  | [], [], _ => rfl
  | [], _ :: _, h => by cases h
  | _ :: _, [], h => by cases h
  | a :: x, b :: y, h => by
    rw [Val.cmpR] at h
    by_cases e : a = b
    · rw [if_pos e] at h
      rw [e, cmpR_zero x y h]
    · rw [if_neg e, cmpI_zero] at h
      omega
theorem cmpR_three : ∀ (x y z : List Nat), Three (Val.cmpR x y) (Val.cmpR y z) (Val.cmpR x z)
  | [], [], [] => fun _ _ => ⟨Int.le_refl 0, fun _ => ⟨rfl, rfl⟩⟩
  | [], [], _ :: _ => fun _ _ => ⟨show (-1 : Int) ≤ 0 by decide, fun h => by cases h⟩
  | [], _ :: _, [] => fun _ h => absurd h (show ¬ (1 : Int) ≤ 0 by decide)
  | [], _ :: _, _ :: _ => fun _ _ => ⟨show (-1 : Int) ≤ 0 by decide, fun h => by cases h⟩
  | _ :: _, [], _ => fun h => absurd h (show ¬ (1 : Int) ≤ 0 by decide)
  | a :: x, b :: y, [] => fun _ h => absurd h (show ¬ (1 : Int) ≤ 0 by decide)
  | a :: x, b :: y, c :: z => by
    have hI := cmpI_three a b c
    have ih := cmpR_three x y z
    rw [Val.cmpR, Val.cmpR, Val.cmpR]
    have z1 := @cmpI_zero a b
    have z2 := @cmpI_zero b c
    have z3 := @cmpI_zero a c
    by_cases h1 : a = b
    · subst h1
      rw [if_pos rfl]
      by_cases h2 : a = c
      · rw [if_pos h2, if_pos h2]; exact ih
      · rw [if_neg h2, if_neg h2]
        intro _ h; exact ⟨h, fun h3 => absurd (z3.1 h3) (by omega)⟩
    · rw [if_neg h1]
      by_cases h2 : b = c
      · subst h2
        rw [if_pos rfl, if_neg h1]
        intro h _; exact ⟨h, fun h3 => absurd (z1.1 h3) (by omega)⟩
      · rw [if_neg h2]
        by_cases h3 : a = c
        · subst h3
          rw [if_pos rfl]
          intro h4 h5
          have := hI h4 h5
          have h6 := (this.2 (z3.2 rfl)).1
          exact absurd (z1.1 h6) (by omega)
        · rw [if_neg h3]; exact hI
def cmpB (a b : Bool) : Int := if a = b then 0 else if a = true then 1 else -1
/-- values of one kind -/
def cmpK (k : Int) (a b : S27) : Int := if k = 1 then cmpB a.f1 b.f1 else if k = 2 then Val.cmpI a.f2 b.f2 else if k = 3 then Val.cmpR (Val.runesL a.f3) (Val.runesL b.f3) else 0
theorem cmpV_eq (a b : S27) : Val.cmpV a b = if a.f0 = b.f0 then cmpK a.f0 a b else Val.cmpI a.f0 b.f0 := by
  unfold Val.cmpV cmpK cmpB
  by_cases h : a.f0 = b.f0
  · rw [if_neg (fun g => g h), if_pos h]
  · rw [if_pos h, if_neg h]
theorem cmpK_anti (k : Int) (a b : S27) : cmpK k b a = -cmpK k a b := by
  unfold cmpK
  by_cases h1 : k = 1
  · rw [if_pos h1, if_pos h1]; unfold cmpB; cases a.f1 <;> cases b.f1 <;> rfl
  · by_cases h2 : k = 2
    · rw [if_neg h1, if_pos h2, if_neg h1, if_pos h2, cmpI_anti]
    · by_cases h3 : k = 3
      · rw [if_neg h1, if_neg h2, if_pos h3, if_neg h1, if_neg h2, if_pos h3, cmpR_anti]
      · rw [if_neg h1, if_neg h2, if_neg h3, if_neg h1, if_neg h2, if_neg h3]; rfl
theorem cmpK_self (k : Int) (a : S27) : cmpK k a a = 0 := by
  unfold cmpK
  by_cases h1 : k = 1
  · rw [if_pos h1]; unfold cmpB; rw [if_pos rfl]
  · by_cases h2 : k = 2
    · rw [if_neg h1, if_pos h2, cmpI_self]
    · by_cases h3 : k = 3
      · rw [if_neg h1, if_neg h2, if_pos h3, cmpR_self]
      · rw [if_neg h1, if_neg h2, if_neg h3]
theorem cmpK_three (k : Int) (a b c : S27) : Three (cmpK k a b) (cmpK k b c) (cmpK k a c) := by
  unfold cmpK
  by_cases h1 : k = 1
  · rw [if_pos h1, if_pos h1, if_pos h1]; unfold Three cmpB; cases a.f1 <;> cases b.f1 <;> cases c.f1 <;> simp
  · by_cases h2 : k = 2
    · rw [if_neg h1, if_pos h2, if_neg h1, if_pos h2, if_neg h1, if_pos h2]; exact cmpI_three _ _ _
    · by_cases h3 : k = 3
      · rw [if_neg h1, if_neg h2, if_pos h3, if_neg h1, if_neg h2, if_pos h3, if_neg h1, if_neg h2, if_pos h3]; exact cmpR_three _ _ _
      · rw [if_neg h1, if_neg h2, if_neg h3, if_neg h1, if_neg h2, if_neg h3, if_neg h1, if_neg h2, if_neg h3]; exact fun _ _ => ⟨Int.le_refl 0, fun _ => ⟨rfl, rfl⟩⟩
theorem cmpV_anti (a b : S27) : Val.cmpV b a = -Val.cmpV a b := by
  rw [cmpV_eq, cmpV_eq]
  by_cases h : a.f0 = b.f0
  · rw [if_pos h, if_pos h.symm, h, cmpK_anti]
  · rw [if_neg h, if_neg (fun e => h e.symm), cmpI_anti]
theorem cmpV_self (a : S27) : Val.cmpV a a = 0 := by rw [cmpV_eq, if_pos rfl, cmpK_self]
theorem cmpV_three (a b c : S27) : Three (Val.cmpV a b) (Val.cmpV b c) (Val.cmpV a c) := by
  rw [cmpV_eq, cmpV_eq, cmpV_eq]
  have hI := cmpI_three a.f0 b.f0 c.f0
  have z1 := @cmpI_zero a.f0 b.f0
  have z2 := @cmpI_zero b.f0 c.f0
  have z3 := @cmpI_zero a.f0 c.f0
  by_cases h1 : a.f0 = b.f0
  · rw [if_pos h1]
    by_cases h2 : b.f0 = c.f0
    · rw [if_pos h2, if_pos (h1.trans h2), h1]; exact cmpK_three _ _ _ _
    · rw [if_neg h2, if_neg (by omega), h1]
      intro _ h; exact ⟨h, fun h3 => absurd (z2.1 h3) h2⟩
  · rw [if_neg h1]
    by_cases h2 : b.f0 = c.f0
    · rw [if_pos h2, if_neg (by omega), ← h2]
      intro h _; exact ⟨h, fun h3 => absurd (z1.1 h3) h1⟩
    · rw [if_neg h2]
      by_cases h3 : a.f0 = c.f0
      · rw [if_pos h3]
        intro h4 h5
        exact absurd (z1.1 ((hI h4 h5).2 (z3.2 h3)).1) h1
      · rw [if_neg h3]; exact hI
theorem cmpR_bound : ∀ (x y : List Nat), -1 ≤ Val.cmpR x y ∧ Val.cmpR x y ≤ 1
  | [], [] => by decide
  | [], _ :: _ => ⟨show (-1 : Int) ≤ -1 by decide, show (-1 : Int) ≤ 1 by decide⟩
  | _ :: _, [] => ⟨show (-1 : Int) ≤ 1 by decide, show (1 : Int) ≤ 1 by decide⟩
  | a :: x, b :: y => by
    rw [Val.cmpR]
    split
    · exact cmpR_bound x y
    · unfold Val.cmpI; repeat' split
      all_goals omega
theorem cmpI_bound (x y : Int) : -1 ≤ Val.cmpI x y ∧ Val.cmpI x y ≤ 1 := by
  unfold Val.cmpI
  repeat' split
  all_goals omega
theorem bound (a b : S27) : -1 ≤ Val.cmpV a b ∧ Val.cmpV a b ≤ 1 := by
  have hI := cmpI_bound
  rw [cmpV_eq]
  split
  · unfold cmpK cmpB
    repeat' split
    all_goals first | omega | exact hI _ _ | exact cmpR_bound _ _
  · exact hI _ _
/-! right values that are alike are one -/
theorem dec_cases {m b0 b1 b2 b3 : Nat} (hok : ¬ ((Lib.decodeN m b0 b1 b2 b3).1 = 65533 ∧ (Lib.decodeN m b0 b1 b2 b3).2 = 1)) (r k : Nat) (e : Lib.decodeN m b0 b1 b2 b3 = (r, k)) :
    (k = 1 ∧ b0 < 128 ∧ r = b0) ∨ (k = 2 ∧ 1 < m ∧ b0 / 32 = 6 ∧ b1 / 64 = 2 ∧ r = b0 % 32 * 64 + b1 % 64 ∧ 128 ≤ r) ∨
      (k = 3 ∧ 2 < m ∧ b0 / 16 = 14 ∧ b1 / 64 = 2 ∧ b2 / 64 = 2 ∧ r = b0 % 16 * 4096 + b1 % 64 * 64 + b2 % 64 ∧ 2048 ≤ r) ∨
      (k = 4 ∧ 3 < m ∧ b0 / 8 = 30 ∧ b1 / 64 = 2 ∧ b2 / 64 = 2 ∧ b3 / 64 = 2 ∧ r = b0 % 8 * 262144 + b1 % 64 * 4096 + b2 % 64 * 64 + b3 % 64 ∧ 65536 ≤ r) := by
  rw [e] at hok
  unfold Lib.decodeN at e
  by_cases q0 : b0 < 128
  · rw [if_pos q0] at e
    obtain ⟨e1, e2⟩ := Prod.mk.inj e
    exact .inl ⟨e2.symm, q0, e1.symm⟩
  · rw [if_neg q0] at e
    by_cases q1 : b0 / 32 = 6 ∧ (1 < m ∧ b1 / 64 = 2)
    · rw [if_pos q1] at e
      split at e
      · rename_i q
        obtain ⟨e1, e2⟩ := Prod.mk.inj e
        exact .inr (.inl ⟨e2.symm, q1.2.1, q1.1, q1.2.2, e1.symm, by rw [← e1]; exact q⟩)
      · obtain ⟨e1, e2⟩ := Prod.mk.inj e
        exact absurd ⟨e1.symm, e2.symm⟩ hok
    · rw [if_neg q1] at e
      by_cases q2 : b0 / 16 = 14 ∧ (1 < m ∧ b1 / 64 = 2) ∧ (2 < m ∧ b2 / 64 = 2)
      · rw [if_pos q2] at e
        split at e
        · rename_i q
          obtain ⟨e1, e2⟩ := Prod.mk.inj e
          exact .inr (.inr (.inl ⟨e2.symm, q2.2.2.1, q2.1, q2.2.1.2, q2.2.2.2, e1.symm, by rw [← e1]; exact q.1⟩))
        · obtain ⟨e1, e2⟩ := Prod.mk.inj e
          exact absurd ⟨e1.symm, e2.symm⟩ hok
      · rw [if_neg q2] at e
        by_cases q3 : b0 / 8 = 30 ∧ (1 < m ∧ b1 / 64 = 2) ∧ (2 < m ∧ b2 / 64 = 2) ∧ (3 < m ∧ b3 / 64 = 2)
        · rw [if_pos q3] at e
          split at e
          · rename_i q
            obtain ⟨e1, e2⟩ := Prod.mk.inj e
            exact .inr (.inr (.inr ⟨e2.symm, q3.2.2.2.1, q3.1, q3.2.1.2, q3.2.2.1.2, q3.2.2.2.2, e1.symm, by rw [← e1]; exact q.1⟩))
          · obtain ⟨e1, e2⟩ := Prod.mk.inj e
            exact absurd ⟨e1.symm, e2.symm⟩ hok
        · rw [if_neg q3] at e
          obtain ⟨e1, e2⟩ := Prod.mk.inj e
          exact absurd ⟨e1.symm, e2.symm⟩ hok
theorem dec_inj {m b0 b1 b2 b3 m' c0 c1 c2 c3 r k k' : Nat} (h0 : b0 < 256) (h1 : b1 < 256) (h2 : b2 < 256) (h3 : b3 < 256) (g0 : c0 < 256) (g1 : c1 < 256) (g2 : c2 < 256) (g3 : c3 < 256)
    (hok : ¬ ((Lib.decodeN m b0 b1 b2 b3).1 = 65533 ∧ (Lib.decodeN m b0 b1 b2 b3).2 = 1)) (hok' : ¬ ((Lib.decodeN m' c0 c1 c2 c3).1 = 65533 ∧ (Lib.decodeN m' c0 c1 c2 c3).2 = 1))
    (e : Lib.decodeN m b0 b1 b2 b3 = (r, k)) (e' : Lib.decodeN m' c0 c1 c2 c3 = (r, k')) : k = k' ∧ b0 = c0 ∧ (1 < k → b1 = c1) ∧ (2 < k → b2 = c2) ∧ (3 < k → b3 = c3) ∧ k ≤ 4 := by
  rcases dec_cases hok r k e with h | h | h | h <;> rcases dec_cases hok' r k' e' with h' | h' | h' | h' <;> omega
theorem w_pos (s : ByteArray) (p : Nat) : 1 ≤ (Utf8.decode s p).2 := Lib.width_pos s p
theorem dN_width (m b0 b1 b2 b3 : Nat) (h : 1 ≤ m) : (Lib.decodeN m b0 b1 b2 b3).2 ≤ m := by
  unfold Lib.decodeN
  repeat' split
  all_goals (simp only; omega)
theorem runes_inj (a b : ByteArray) : ∀ (d pa pb fa fb : Nat), a.size - pa ≤ d → pa ≤ a.size → pb ≤ b.size → a.size ≤ pa + fa → b.size ≤ pb + fb → Lib.validD (a.data.toList.drop pa) = true → Lib.validD (b.data.toList.drop pb) = true →
    Val.runesF a fa pa = Val.runesF b fb pb → a.size - pa = b.size - pb ∧ ∀ j, j < a.size - pa → a.get! (pa + j) = b.get! (pb + j) := by
  intro d
  induction d with
  | zero =>
    intro pa pb fa fb h1 h2 h3 h4 h5 va vb he
    have ea : Val.runesF a fa pa = [] := by
      cases fa with
      | zero => rfl
      | succ f => rw [Val.runesF, if_neg (by omega)]
    rw [ea] at he
    have eb : ¬ pb < b.size := by
      intro hp
      obtain ⟨f, rfl⟩ : ∃ f, fb = f + 1 := ⟨fb - 1, by omega⟩
      rw [Val.runesF, if_pos hp] at he
      cases he
    exact ⟨by omega, fun j hj => absurd hj (by omega)⟩
  | succ d ih =>
    intro pa pb fa fb h1 h2 h3 h4 h5 va vb he
    by_cases hp : pa < a.size
    · obtain ⟨fa, rfl⟩ : ∃ f, fa = f + 1 := ⟨fa - 1, by omega⟩
      rw [Val.runesF.eq_2 a pa fa, if_pos hp] at he
      have hq : pb < b.size := by
        rcases Nat.lt_or_ge pb b.size with h | h
        · exact h
        · exfalso
          cases fb with
          | zero => cases he
          | succ f => rw [Val.runesF, if_neg (by omega)] at he; cases he
      obtain ⟨fb, rfl⟩ : ∃ f, fb = f + 1 := ⟨fb - 1, by omega⟩
      rw [Val.runesF.eq_2 b pb fb, if_pos hq] at he
      obtain ⟨hr, ht⟩ := List.cons.inj he
      have la : a.data.toList.length = a.size := by simp
      have lb : b.data.toList.length = b.size := by simp
      rw [Lib.validD_step _ (by intro e; have := congrArg List.length e; simp at this; omega), Lib.decodeL_drop, List.drop_drop] at va vb
      have oka : ¬ ((Utf8.decode a pa).1 = 65533 ∧ (Utf8.decode a pa).2 = 1) := fun h => by rw [if_pos h] at va; cases va
      have okb : ¬ ((Utf8.decode b pb).1 = 65533 ∧ (Utf8.decode b pb).2 = 1) := fun h => by rw [if_pos h] at vb; cases vb
      rw [if_neg oka] at va
      rw [if_neg okb] at vb
      have wa := w_pos a pa
      have wb := w_pos b pb
      have ua : (Utf8.decode a pa).2 ≤ a.size - pa := by rw [Lib.decode_at]; exact dN_width _ _ _ _ _ (by omega)
      have ub : (Utf8.decode b pb).2 ≤ b.size - pb := by rw [Lib.decode_at]; exact dN_width _ _ _ _ _ (by omega)
      rw [Lib.decode_at] at oka okb
      obtain ⟨ek, i0, i1, i2, i3, i4⟩ := dec_inj (r := (Utf8.decode a pa).1) (k := (Utf8.decode a pa).2) (k' := (Utf8.decode b pb).2) (a.get! pa).toNat_lt (a.get! (pa + 1)).toNat_lt (a.get! (pa + 2)).toNat_lt (a.get! (pa + 3)).toNat_lt (b.get! pb).toNat_lt (b.get! (pb + 1)).toNat_lt (b.get! (pb + 2)).toNat_lt (b.get! (pb + 3)).toNat_lt oka okb
        (by rw [← Lib.decode_at]) (by rw [hr, ← Lib.decode_at])
      rw [← ek] at vb ht ub
      obtain ⟨j1, j2⟩ := ih (pa + (Utf8.decode a pa).2) (pb + (Utf8.decode a pa).2) fa fb (by omega) (by omega) (by omega) (by omega) (by omega) va vb ht
      refine ⟨by omega, fun j hj => ?_⟩
      by_cases hjk : j < (Utf8.decode a pa).2
      · have : j = 0 ∨ j = 1 ∨ j = 2 ∨ j = 3 := by omega
        rcases this with rfl | rfl | rfl | rfl
        · exact UInt8.toNat_inj.1 i0
        · exact UInt8.toNat_inj.1 (i1 hjk)
        · exact UInt8.toNat_inj.1 (i2 hjk)
        · exact UInt8.toNat_inj.1 (i3 hjk)
      · have := j2 (j - (Utf8.decode a pa).2) (by omega)
        rw [show pa + (Utf8.decode a pa).2 + (j - (Utf8.decode a pa).2) = pa + j by omega, show pb + (Utf8.decode a pa).2 + (j - (Utf8.decode a pa).2) = pb + j by omega] at this
        exact this
    · exact ih pa pb fa fb (by omega) h2 h3 h4 h5 va vb he
theorem text_one (a b : ByteArray) (va : Lib.validD a.data.toList = true) (vb : Lib.validD b.data.toList = true) (he : Val.runesL a = Val.runesL b) : a = b := by
  obtain ⟨h1, h2⟩ := runes_inj a b a.size 0 0 a.size b.size (by omega) (by omega) (by omega) (by omega) (by omega) va vb he
  apply ByteArray.ext
  apply Array.ext
  · exact h1
  · intro i hi hj
    have := h2 i hi
    rw [Nat.zero_add] at this
    have ga : a.get! i = a.data[i] := by show a.data[i]! = _; exact getElem!_pos a.data i hi
    have gb : b.get! i = b.data[i] := by show b.data[i]! = _; exact getElem!_pos b.data i hj
    rw [← ga, ← gb, this]
theorem one_of (a b : S27) (h0 : 0 ≤ a.f0) (h : Val.cmpV a b = 0) (ca : Val.checkV a.f0 a.f1 a.f2 a.f3 = 0) (cb : Val.checkV b.f0 b.f1 b.f2 b.f3 = 0) : a = b := by
  rw [cmpV_eq] at h
  have hk : a.f0 = b.f0 := by
    by_cases e : a.f0 = b.f0
    · exact e
    · rw [if_neg e, cmpI_zero] at h; exact h
  rw [if_pos hk] at h
  have key : ∀ x : S27, Val.checkV x.f0 x.f1 x.f2 x.f3 = 0 → x.f0 < 4 ∧ (x.f0 ≠ 1 → x.f1 = false) ∧ (x.f0 ≠ 2 → x.f2 = 0) ∧ (x.f0 ≠ 3 → x.f3.size = 0) ∧ Lib.validD x.f3.data.toList = true := by
    intro x hx
    unfold Val.checkV at hx
    split at hx
    · cases hx
    · rename_i hn
      split at hx
      · cases hx
      · split at hx
        · rename_i hv
          refine ⟨by omega, fun h => ?_, fun h => by omega, fun h => by omega, hv⟩
          cases hb : x.f1
          · rfl
          · exact absurd (Or.inr (Or.inl ⟨h, hb⟩)) hn
        · cases hx
  obtain ⟨a1, a2, a3, a4, a5⟩ := key a ca
  obtain ⟨b1, b2, b3, b4, b5⟩ := key b cb
  have empty : ∀ s t : ByteArray, s.size = 0 → t.size = 0 → s = t := fun s t hs ht => by
    apply ByteArray.ext
    apply Array.ext
    · show s.size = t.size; omega
    · intro i hi; exact absurd hi (by show ¬ i < s.size; omega)
  rcases a with ⟨x0, x1, x2, x3⟩
  rcases b with ⟨y0, y1, y2, y3⟩
  simp only at *
  subst hk
  unfold cmpK at h
  by_cases h1 : x0 = 1
  · rw [if_pos h1] at h
    have e1 : x1 = y1 := by
      unfold cmpB at h
      cases x1 <;> cases y1 <;> first | rfl | (simp at h)
    have e2 : x2 = y2 := by rw [a3 (by omega), b3 (by omega)]
    rw [e1, e2, empty x3 y3 (a4 (by omega)) (b4 (by omega))]
  · have e1 : x1 = y1 := by rw [a2 h1, b2 h1]
    rw [if_neg h1] at h
    by_cases h2 : x0 = 2
    · rw [if_pos h2, cmpI_zero] at h
      simp only at h
      rw [e1, h, empty x3 y3 (a4 (by omega)) (b4 (by omega))]
    · have e2 : x2 = y2 := by rw [a3 h2, b3 h2]
      rw [if_neg h2] at h
      by_cases h3 : x0 = 3
      · rw [if_pos h3] at h
        rw [e1, e2, text_one x3 y3 a5 b5 (cmpR_zero _ _ h)]
      · rw [e1, e2, empty x3 y3 (a4 h3) (b4 h3)]
theorem order (a b c : S27) (a0 : 0 ≤ a.f0) (b0 : 0 ≤ b.f0) (c0 : 0 ≤ c.f0) (sa : a.f3.size ≤ 9223372036854775807) (sb : b.f3.size ≤ 9223372036854775807) (sc : c.f3.size ≤ 9223372036854775807) :
    ∃ k, law_Order.f k a.f0 a.f1 a.f2 a.f3 b.f0 b.f1 b.f2 b.f3 c.f0 c.f1 c.f2 c.f3 = some true := by
  refine ⟨2, ?_⟩
  have cm : ∀ x y : S27, x.f3.size ≤ 9223372036854775807 → y.f3.size ≤ 9223372036854775807 → value_Compare.f x.f0 x.f1 x.f2 x.f3 y.f0 y.f1 y.f2 y.f3 = some (Val.cmpV x y) := fun x y h h' => by unfold value_Compare.f; rw [if_pos ⟨h, h'⟩]
  have ck : ∀ x : S27, 0 ≤ x.f0 → value_Check.f x.f0 x.f1 x.f2 x.f3 = some (Val.checkV x.f0 x.f1 x.f2 x.f3) := fun x h => by unfold value_Check.f; rw [if_pos h]
  have hs : ∀ x : S27, x.f3.size ≤ 9223372036854775807 → value_Hash.f x.f0 x.f1 x.f2 x.f3 = some (Val.hashV x.f0 x.f1 x.f2 x.f3) := fun x h => by unfold value_Hash.f; rw [if_pos h]
  have cr : ∀ l m : List S27, l.length ≤ 2 → m.length ≤ 2 → Val.Short l → Val.Short m → value_CompareRows.f l m = some (Val.rowsN Val.cmpV l m) := fun l m h h' g g' => by unfold value_CompareRows.f; rw [if_pos ⟨⟨by omega, by omega⟩, g, g'⟩]
  obtain ⟨x, hx⟩ : ∃ x, x = Val.cmpV a b := ⟨_, rfl⟩
  obtain ⟨y, hy⟩ : ∃ y, y = Val.cmpV b c := ⟨_, rfl⟩
  obtain ⟨z, hz⟩ : ∃ z, z = Val.cmpV a c := ⟨_, rfl⟩
  have an : ∀ u v, wrap64 (-Val.cmpV u v) = -Val.cmpV u v := fun u v => by
    have h1 : -1 ≤ Val.cmpV u v ∧ Val.cmpV u v ≤ 1 := bound u v
    unfold wrap64; omega
  have th := cmpV_three a b c
  have sh : ∀ u v : S27, u.f3.size ≤ 9223372036854775807 → v.f3.size ≤ 9223372036854775807 → Val.Short [u, v] := fun u v h h' w hw => by
    rcases List.mem_cons.1 hw with rfl | hw
    · exact h
    · rw [List.mem_singleton.1 hw]; exact h'
  have sh1 : ∀ u : S27, u.f3.size ≤ 9223372036854775807 → Val.Short [u] := fun u h w hw => by rw [List.mem_singleton.1 hw]; exact h
  have r1 : Val.rowsN Val.cmpV [a, b] [a, c] = y := by
    rw [Val.rowsN, if_pos (cmpV_self a), Val.rowsN, ← hy]
    by_cases h : y = 0
    · rw [if_pos h, h]; rfl
    · rw [if_neg h]
  have r2 : Val.rowsN Val.cmpV [a, c] [a, b] = -y := by
    rw [Val.rowsN, if_pos (cmpV_self a), Val.rowsN, cmpV_anti b c, ← hy]
    by_cases h : y = 0
    · rw [h]; rfl
    · rw [if_neg (by omega)]
  have r3 : Val.rowsN Val.cmpV [a, b] [a] = 1 := by rw [Val.rowsN, if_pos (cmpV_self a)]; rfl
  have j1 : law_Order.j1 1 y false a.f0 a.f1 a.f2 a.f3 b.f0 b.f1 b.f2 b.f3 c.f0 c.f1 c.f2 c.f3 = some true := by
    rw [law_Order.j1, if_neg (by decide), Option.bind_some, Option.bind_some, cr [a, b] [a, c] (by simp) (by simp) (sh a b sa sb) (sh a c sa sc), Option.bind_some, r1, if_pos rfl, cr [a, c] [a, b] (by simp) (by simp) (sh a c sa sc) (sh a b sa sb), Option.bind_some, r2, hy, an, if_pos rfl, if_pos (by simp)]
    show (value_CompareRows.f [a, b] [a]).bind _ = _
    rw [cr [a, b] [a] (by simp) (by simp) (sh a b sa sb) (sh1 a sa), Option.bind_some, r3]; rfl
  have j0 : law_Order.j0 2 x y false a.f0 a.f1 a.f2 a.f3 b.f0 b.f1 b.f2 b.f3 c.f0 c.f1 c.f2 c.f3 = some true := by
    rw [law_Order.j0, if_neg (by decide)]
    by_cases h : x = 0
    · rw [if_pos h, ck a a0, Option.bind_some]
      by_cases h1 : Val.checkV a.f0 a.f1 a.f2 a.f3 = 0
      · rw [if_pos h1, ck b b0, Option.bind_some]
        by_cases h2 : Val.checkV b.f0 b.f1 b.f2 b.f3 = 0
        · have he := one_of a b a0 (by rw [← hx]; exact h) h1 h2
          subst he
          rw [if_pos h2, if_neg (by simp), hs a sa, Option.bind_some, Option.bind_some, show (Val.hashV a.f0 a.f1 a.f2 a.f3 != Val.hashV a.f0 a.f1 a.f2 a.f3) = false by simp]
          exact j1
        · rw [if_neg h2]; exact j1
      · rw [if_neg h1]; exact j1
    · rw [if_neg h]; exact j1
  unfold law_Order.f potsherdlaw01_lives.f
  rw [Option.bind_some, if_pos rfl, cm a b sa sb, Option.bind_some, cm b c sb sc, Option.bind_some, cm a c sa sc, Option.bind_some, cm b a sb sa, Option.bind_some, cmpV_anti a b, an, if_pos rfl, cm a a sa sa, Option.bind_some, if_pos (cmpV_self a), ← hx, ← hy, ← hz]
  rw [← hx, ← hy, ← hz] at th
  by_cases hx1 : x ≤ 0
  · rw [if_pos hx1]
    by_cases hy1 : y ≤ 0
    · obtain ⟨t1, t2⟩ := th hx1 hy1
      rw [if_pos hy1, if_neg (by omega)]
      by_cases hz1 : z = 0
      · obtain ⟨t3, t4⟩ := t2 hz1
        rw [if_pos hz1, if_neg (by omega), show decide (y < 0) = false from decide_eq_false (by omega)]
        exact j0
      · rw [if_neg hz1]; exact j0
    · rw [if_neg hy1]; exact j0
  · rw [if_neg hx1]; exact j0
end Go.Proofs.YtepgjdmdogblmaaDoor.Lx
