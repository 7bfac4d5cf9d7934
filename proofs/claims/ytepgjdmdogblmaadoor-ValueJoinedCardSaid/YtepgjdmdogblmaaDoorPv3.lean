/- ValueJoined: right texts have together as many runes as each one; a text is below itself with more behind it. No condition. -/
import Derived.Test.YtepgjdmdogblmaaDoorLs5
namespace Go.Proofs.YtepgjdmdogblmaaDoor.Lx
open Go.RowKit Go.Proofs.YtepgjdmdogblmaaDoor.G Go.Proofs.YtepgjdmdogblmaaDoorW.PrintWords Go.Proofs.YtepgjdmdogblmaaDoorW.PrintLast Go.Proofs.YtepgjdmdogblmaaDoorW.PrintMore
set_option linter.unusedVariables false
set_option linter.unusedSimpArgs false
theorem decodeN_ext {m m' b0 b1 b2 b3 c1 c2 c3 : Nat} (hm : m ≤ m') (h1 : 1 < m → c1 = b1) (h2 : 2 < m → c2 = b2) (h3 : 3 < m → c3 = b3) (hok : ¬ ((Lib.decodeN m b0 b1 b2 b3).1 = 65533 ∧ (Lib.decodeN m b0 b1 b2 b3).2 = 1)) :
    Lib.decodeN m' b0 c1 c2 c3 = Lib.decodeN m b0 b1 b2 b3 := by
  unfold Lib.decodeN at hok ⊢
  by_cases q0 : b0 < 128
  · rw [if_pos q0, if_pos q0]
  · rw [if_neg q0] at hok ⊢
    rw [if_neg q0]
    by_cases q1 : b0 / 32 = 6 ∧ (1 < m ∧ b1 / 64 = 2)
    · obtain rfl := h1 q1.2.1
      rw [if_pos q1, if_pos ⟨q1.1, by omega, q1.2.2⟩]
    · rw [if_neg q1] at hok ⊢
      by_cases q2 : b0 / 16 = 14 ∧ (1 < m ∧ b1 / 64 = 2) ∧ (2 < m ∧ b2 / 64 = 2)
      · obtain rfl := h1 q2.2.1.1
        obtain rfl := h2 q2.2.2.1
        rw [if_neg (by omega), if_pos q2, if_pos ⟨q2.1, ⟨by omega, q2.2.1.2⟩, by omega, q2.2.2.2⟩]
      · rw [if_neg q2] at hok ⊢
        by_cases q3 : b0 / 8 = 30 ∧ (1 < m ∧ b1 / 64 = 2) ∧ (2 < m ∧ b2 / 64 = 2) ∧ (3 < m ∧ b3 / 64 = 2)
        · obtain rfl := h1 q3.2.1.1
          obtain rfl := h2 q3.2.2.1.1
          obtain rfl := h3 q3.2.2.2.1
          rw [if_neg (by omega), if_neg (by omega), if_pos q3, if_pos ⟨q3.1, ⟨by omega, q3.2.1.2⟩, ⟨by omega, q3.2.2.1.2⟩, by omega, q3.2.2.2.2⟩]
        · rw [if_neg q3] at hok
          exact absurd ⟨rfl, rfl⟩ hok
theorem decodeN_width (m b0 b1 b2 b3 : Nat) (h : 1 ≤ m) : (Lib.decodeN m b0 b1 b2 b3).2 ≤ m := by
  unfold Lib.decodeN
  repeat' split
  all_goals (simp only; omega)
theorem get_left (a b : ByteArray) (i : Nat) (h : i < a.size) : (a ++ b).get! i = a.get! i := by
  have e : (a ++ b).data = a.data ++ b.data := by simp
  show (a ++ b).data[i]! = a.data[i]!
  have h' : i < a.data.size := h
  rw [getElem!_def, getElem!_def, e, Array.getElem?_append_left h']
theorem get_right (a b : ByteArray) (i : Nat) : (a ++ b).get! (a.size + i) = b.get! i := by
  have e : (a ++ b).data = a.data ++ b.data := by simp
  show (a ++ b).data[a.size + i]! = b.data[i]!
  have h' : a.size = a.data.size := rfl
  rw [getElem!_def, getElem!_def, e, h', Array.getElem?_append_right (Nat.le_add_right _ _), Nat.add_sub_cancel_left]
theorem size_add (a b : ByteArray) : (a ++ b).size = a.size + b.size := by simp
theorem decode_left (a b : ByteArray) (i : Nat) (hi : i < a.size) (hok : ¬ ((Utf8.decode a i).1 = 65533 ∧ (Utf8.decode a i).2 = 1)) : Utf8.decode (a ++ b) i = Utf8.decode a i := by
  rw [Lib.decode_at] at hok ⊢
  rw [Lib.decode_at, get_left a b i hi, size_add]
  refine decodeN_ext (by omega) (fun h => ?_) (fun h => ?_) (fun h => ?_) hok
  · rw [get_left a b _ (by omega)]
  · rw [get_left a b _ (by omega)]
  · rw [get_left a b _ (by omega)]
theorem decode_right (a b : ByteArray) (i : Nat) : Utf8.decode (a ++ b) (a.size + i) = Utf8.decode b i := by
  rw [Lib.decode_at, Lib.decode_at, size_add, Nat.add_sub_add_left, Nat.add_assoc, Nat.add_assoc, Nat.add_assoc, get_right, get_right, get_right, get_right]
theorem runesF_fuel (s : ByteArray) : ∀ (f g pos : Nat), s.size ≤ pos + f → s.size ≤ pos + g → Val.runesF s f pos = Val.runesF s g pos
  | 0, 0, _, _, _ => rfl
  | 0, g + 1, pos, h, _ => by rw [Val.runesF, Val.runesF, if_neg (by omega)]
  | f + 1, 0, pos, _, h => by rw [Val.runesF, Val.runesF, if_neg (by omega)]
  | f + 1, g + 1, pos, h, h' => by
    rw [Val.runesF, Val.runesF]
    by_cases hp : pos < s.size
    · have hw := Lib.width_pos s pos
      rw [if_pos hp, if_pos hp, runesF_fuel s f g _ (by omega) (by omega)]
    · rw [if_neg hp, if_neg hp]
theorem runesF_right (a b : ByteArray) : ∀ (f i : Nat), Val.runesF (a ++ b) f (a.size + i) = Val.runesF b f i
  | 0, _ => rfl
  | f + 1, i => by
    rw [Val.runesF, Val.runesF, size_add, decode_right, Nat.add_assoc, runesF_right a b f]
    by_cases h : i < b.size
    · rw [if_pos h, if_pos (by omega)]
    · rw [if_neg h, if_neg (by omega)]
theorem runesF_joined (a b : ByteArray) : ∀ (d pos f F : Nat), a.size - pos ≤ d → pos ≤ a.size → a.size ≤ pos + f → (a ++ b).size ≤ pos + F → Lib.validD (a.data.toList.drop pos) = true →
    Val.runesF (a ++ b) F pos = Val.runesF a f pos ++ Val.runesF (a ++ b) F a.size := by
  intro d
  induction d with
  | zero =>
    intro pos f F h1 h2 h3 h4 h5
    obtain rfl : pos = a.size := by omega
    cases f with
    | zero => rfl
    | succ f => rw [Val.runesF.eq_2 a, if_neg (by omega)]; rfl
  | succ d ih =>
    intro pos f F h1 h2 h3 h4 h5
    by_cases hp : pos < a.size
    · obtain ⟨f, rfl⟩ : ∃ m, f = m + 1 := ⟨f - 1, by omega⟩
      have hs := size_add a b
      obtain ⟨F, rfl⟩ : ∃ m, F = m + 1 := ⟨F - 1, by omega⟩
      have hl : a.data.toList.length = a.size := by simp
      rw [Lib.validD_step _ (by intro e; have := congrArg List.length e; simp at this; omega), Lib.decodeL_drop, List.drop_drop] at h5
      by_cases hb : (Utf8.decode a pos).1 = 65533 ∧ (Utf8.decode a pos).2 = 1
      · rw [if_pos hb] at h5; cases h5
      · rw [if_neg hb] at h5
        have hw := Lib.width_pos a pos
        have hw2 : (Utf8.decode a pos).2 ≤ a.size - pos := by rw [Lib.decode_at]; exact decodeN_width _ _ _ _ _ (by omega)
        rw [Val.runesF.eq_2 (a ++ b) pos F, if_pos (by omega), decode_left a b pos hp hb, Val.runesF.eq_2 a pos f, if_pos hp, ih (pos + (Utf8.decode a pos).2) f F (by omega) (by omega) (by omega) (by omega) h5, List.cons_append,
          runesF_fuel (a ++ b) F (F + 1) a.size (by omega) (by omega)]
    · exact ih pos f F (by omega) h2 h3 h4 h5
theorem runesL_joined (a b : ByteArray) (h : Lib.validD a.data.toList = true) : Val.runesL (a ++ b) = Val.runesL a ++ Val.runesL b := by
  unfold Val.runesL
  have hs := size_add a b
  rw [runesF_joined a b a.size 0 a.size (a ++ b).size (by omega) (by omega) (by omega) (by omega) h]
  have := runesF_right a b (a ++ b).size 0
  rw [Nat.add_zero] at this
  rw [this, runesF_fuel b (a ++ b).size b.size 0 (by omega) (by omega)]
theorem runesL_nil (b : ByteArray) : Val.runesL b = [] ↔ b.size = 0 := by
  unfold Val.runesL
  constructor
  · intro h
    rcases Nat.eq_zero_or_pos b.size with h0 | h0
    · exact h0
    · obtain ⟨n, hn⟩ : ∃ n, b.size = n + 1 := ⟨b.size - 1, by omega⟩
      rw [hn, Val.runesF, if_pos h0] at h
      cases h
  · intro h
    rw [h]; rfl
theorem cmpR_more : ∀ (x y : List Nat), Val.cmpR x (x ++ y) = if y = [] then 0 else -1
  | [], [] => rfl
  | [], _ :: _ => rfl
  | a :: x, y => by
    rw [List.cons_append, Val.cmpR, if_pos rfl, cmpR_more x y]
theorem right_of (s : ByteArray) (h : Val.checkV 3 false 0 s = 0) : Lib.validD s.data.toList = true ∧ s.size ≤ 256 := by
  unfold Val.checkV at h
  rw [if_neg (by simp)] at h
  split at h
  · cases h
  · split at h
    · rename_i h2; exact ⟨h2, by omega⟩
    · cases h
theorem below_more (a b : ByteArray) (v0 : Lib.validD a.data.toList = true) (s0 : a.size ≤ 256) (s1 : b.size ≤ 256) : value_Compare.f 3 false 0 a 3 false 0 (a ++ b) = some (if Val.runesL b = [] then 0 else -1) := by
  have hs := size_add a b
  unfold value_Compare.f Val.cmpV
  rw [if_pos ⟨by omega, by omega⟩]
  simp only [ne_eq, not_true_eq_false, if_false]
  rw [if_neg (by decide), if_neg (by decide), if_pos trivial, runesL_joined a b v0, cmpR_more]
theorem joined_j0 (a b : ByteArray) (v0 : Lib.validD a.data.toList = true) (s0 : a.size ≤ 256) (s1 : b.size ≤ 256) : potsherdlaw01_ValueJoined.j0 1 a b false = some true := by
  have hs := size_add a b
  have hj := runesL_joined a b v0
  have r : ∀ s : ByteArray, s.size ≤ 9223372036854775807 → value_Runes.f s = some ((Val.runesL s).length : Int) := fun s h => by unfold value_Runes.f; rw [if_pos h]
  have l0 : (Val.runesL a).length ≤ a.size := Val.runesF_len a a.size 0
  have l1 : (Val.runesL b).length ≤ b.size := Val.runesF_len b b.size 0
  have tx : ∀ s, potsherdlaw01_text.f s = some (3, false, 0, s) := fun s => rfl
  have hw : ((Val.runesL (a ++ b)).length : Int) = wrap64 (((Val.runesL a).length : Int) + (Val.runesL b).length) := by rw [hj, List.length_append]; unfold wrap64; omega
  rw [potsherdlaw01_ValueJoined.j0, if_neg (by decide)]
  have hle : a.size + b.size ≤ 9223372036854775807 := by omega
  rw [tx, Option.bind_some, if_pos hle, tx, Option.bind_some, below_more a b v0 s0 s1, Option.bind_some, r (a ++ b) (by omega), Option.bind_some, r a (by omega), Option.bind_some, r b (by omega), Option.bind_some, if_pos hw]
  clear hw hj r
  by_cases hn : Val.runesL b = []
  · have e : b.toList = [] := Val.empty_of ((runesL_nil b).1 hn)
    rw [if_pos hn, e]; simp
  · have e : b.toList ≠ [] := Val.nonempty_of (fun h => hn ((runesL_nil b).2 h))
    have e2 : (b.toList != []) = true := by simpa using e
    rw [if_neg hn, e2]; simp
theorem joined (a b : ByteArray) : ∃ k, potsherdlaw01_ValueJoined.f k a b = some true := by
  refine ⟨1, ?_⟩
  unfold potsherdlaw01_ValueJoined.f potsherdlaw01_lives.f
  have tx : ∀ s, potsherdlaw01_text.f s = some (3, false, 0, s) := fun s => rfl
  have ck : ∀ s, value_Check.f 3 false 0 s = some (Val.checkV 3 false 0 s) := fun s => by unfold value_Check.f; rw [if_pos (by decide)]
  simp only [Option.bind_some, if_true, tx, ck]
  have j1 : potsherdlaw01_ValueJoined.j0 1 a b true = some true := by rw [potsherdlaw01_ValueJoined.j0, if_pos rfl]
  by_cases h0 : Val.checkV 3 false 0 a = 0
  · rw [if_pos h0]
    by_cases h1 : Val.checkV 3 false 0 b = 0
    · obtain ⟨v0, s0⟩ := right_of a h0
      obtain ⟨_, s1⟩ := right_of b h1
      rw [h1, show ((0 : Int) != 0) = false from rfl]
      exact joined_j0 a b v0 s0 s1
    · rw [show (Val.checkV 3 false 0 b != 0) = true by simpa using h1]
      exact j1
  · rw [if_neg h0]
    exact j1
end Go.Proofs.YtepgjdmdogblmaaDoor.Lx
