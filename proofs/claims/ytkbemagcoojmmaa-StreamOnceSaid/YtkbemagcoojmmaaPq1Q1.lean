/- Plain laws of the printed copies of package stream and of its document (own, ownIn, CopyRows): a copy is what was copied. Condition: rows, values of a row, batches are not too many. -/
import Derived.Test.YtkbemagcoojmmaaLp1Q1
namespace Go.Proofs.Ytkbemagcoojmmaa.Lx
open Go.RowKit Go.Proofs.Ytkbemagcoojmmaa.G Go.Proofs.YtkbemagcoojmmaaW.PrintWords Go.Proofs.YtkbemagcoojmmaaW.PrintLast Go.Proofs.YtkbemagcoojmmaaW.PrintMore
set_option linter.unusedVariables false
theorem v64 {i : Nat} (h : i < 4611686018427387904) : wrap64 ((i : Int) + 1) = ((i + 1 : Nat) : Int) := by unfold wrap64; omega
def FitR (m : List (List S112)) : Prop := m.length < 5864062014805 ∧ ∀ r ∈ m, r.length < 4398046511104
theorem FitR.take {m : List (List S112)} (h : FitR m) (n : Nat) : FitR (m.take n) := ⟨by rw [List.length_take]; have := h.1; omega, fun r hr => h.2 r (List.mem_of_mem_take hr)⟩
theorem FitR.drop {m : List (List S112)} (h : FitR m) (n : Nat) : FitR (m.drop n) := ⟨by rw [List.length_drop]; have := h.1; omega, fun r hr => h.2 r (List.mem_of_mem_drop hr)⟩
theorem set_self {α : Type} (x : List α) (i : Nat) (hi : i < x.length) : x.set i x[i] = x := by
  apply List.ext_getElem
  · simp
  · intro j h1 h2
    rw [List.getElem_set]
    split
    · rename_i h; subst h; rfl
    · rfl
theorem own_l0 (m : List (List S112)) (hm : FitR m) : ∀ (d i k : Nat), m.length = i + d → d + 1 ≤ k → stream_own.l0 k m (m.length : Int) (i : Int) = some m := by
  have hm1 := hm.1
  intro d
  induction d with
  | zero =>
    intro i k hd hk
    obtain ⟨k, rfl⟩ : ∃ j, k = j + 1 := ⟨k - 1, by omega⟩
    rw [stream_own.l0, if_neg (by omega)]
  | succ d ih =>
    intro i k hd hk
    obtain ⟨k, rfl⟩ : ∃ j, k = j + 1 := ⟨k - 1, by omega⟩
    have hi : i < m.length := by omega
    have he : rd_L5 m (i : Int) = m[i] := by simp [rd_L5, List.getD_eq_getElem?_getD, hi]
    have h1 := hm.2 _ (List.getElem_mem hi)
    have e1 : api_Value.f m[i] = some m[i] := by
      unfold api_Value.f
      rw [Option.bind_some, List.nil_append, if_pos (by rw [List.length_nil]; omega)]
    rw [stream_own.l0, if_pos (by omega), if_pos (by omega), if_pos (by omega), he, e1, Option.bind_some, Int.toNat_natCast, set_self m i hi, v64 (by omega), ih (i + 1) k (by omega) (by omega)]
theorem own_f (k : Nat) (m : List (List S112)) (hm : FitR m) (hk : m.length + 1 ≤ k) : stream_own.f k m = some m := by
  have hm1 := hm.1
  unfold stream_own.f api_Row_53.f
  rw [Option.bind_some, List.nil_append, if_pos (by rw [List.length_nil]; omega), Option.bind_some]
  exact own_l0 m hm m.length 0 k (by omega) hk
def FitB (h : List S83) : Prop := h.length < 3518437208883 ∧ ∀ b ∈ h, FitR b.f2
def most (h : List S83) : Nat := h.foldr (fun b n => max b.f2.length n) 0
theorem most_le {h : List S83} {b : S83} (hb : b ∈ h) : b.f2.length ≤ most h := by
  induction h with
  | nil => cases hb
  | cons x t ih =>
    rcases List.mem_cons.1 hb with rfl | hb
    · exact Nat.le_max_left _ _
    · exact Nat.le_trans (ih hb) (Nat.le_max_right _ _)
theorem ownIn_l0 (h : List S83) (hf : FitB h) (s0 s1 s2 s3 s4 n : Int) (rows : List (List S112)) (dn : Bool) : ∀ (d i k : Nat), h.length = i + d → most h + d + 2 ≤ k → stream_ownIn.l0 k (h.length : Int) (i : Int) s0 s1 s2 s3 s4 n h rows dn = some (s0, s1, s2, s3, s4, n, h, rows, dn) := by
  have hm1 := hf.1
  intro d
  induction d with
  | zero =>
    intro i k hd hk
    obtain ⟨k, rfl⟩ : ∃ j, k = j + 1 := ⟨k - 1, by omega⟩
    rw [stream_ownIn.l0, if_neg (by omega)]
  | succ d ih =>
    intro i k hd hk
    obtain ⟨k, rfl⟩ : ∃ j, k = j + 1 := ⟨k - 1, by omega⟩
    have hi : i < h.length := by omega
    have he : rd_T83 h (i : Int) = h[i] := by simp [rd_T83, List.getD_eq_getElem?_getD, hi]
    have hmem := List.getElem_mem hi
    have hle := most_le hmem
    rw [stream_ownIn.l0, if_pos (by omega), if_pos (by omega), if_pos (by omega), he, own_f k _ (hf.2 _ hmem) (by omega), Option.bind_some, Int.toNat_natCast, show (⟨h[i].f0, h[i].f1, h[i].f2⟩ : S83) = h[i] from rfl, set_self h i hi, v64 (by omega), ih (i + 1) k (by omega) (by omega)]
theorem ownIn_f (k : Nat) (h : List S83) (hf : FitB h) (s0 s1 s2 s3 s4 n : Int) (rows : List (List S112)) (hr : FitR rows) (dn : Bool) (hk : most h + h.length + rows.length + 2 ≤ k) : stream_ownIn.f k s0 s1 s2 s3 s4 n h rows dn = some (s0, s1, s2, s3, s4, n, h, rows, dn) := by
  have hm1 := hf.1
  unfold stream_ownIn.f api_Batch.f
  rw [Option.bind_some, List.nil_append, if_pos (by rw [List.length_nil]; omega), Option.bind_some, own_f k rows hr (by omega), Option.bind_some]
  exact ownIn_l0 h hf s0 s1 s2 s3 s4 n rows dn h.length 0 k (by omega) (by omega)
def chunkN {α : Type} : Nat → List α → List (List α)
  | 0, l => [l]
  | d + 1, l => if 8 < l.length then l.take 8 :: chunkN d (l.drop 8) else [l]
def cutG {α : Type} (l : List α) : List (List α) := chunkN l.length l
theorem chunkN_more {α : Type} : ∀ (d e : Nat) (l : List α), l.length ≤ d → d ≤ e → chunkN e l = chunkN d l
  | 0, 0, l, _, _ => rfl
  | 0, e + 1, l, h, _ => by
    show (if 8 < l.length then _ else _) = _
    rw [if_neg (by omega)]
    rfl
  | d + 1, 0, l, _, h => by omega
  | d + 1, e + 1, l, h1, h2 => by
    rw [chunkN, chunkN]
    split
    · rw [chunkN_more d e (l.drop 8) (by rw [List.length_drop]; omega) (by omega)]
    · rfl
theorem cutG_more {α : Type} (l : List α) (h : 8 < l.length) : cutG l = l.take 8 :: cutG (l.drop 8) := by
  unfold cutG
  obtain ⟨d, hd⟩ : ∃ d, l.length = d + 1 := ⟨l.length - 1, by omega⟩
  rw [hd, chunkN, if_pos h, chunkN_more (l.drop 8).length d (l.drop 8) (Nat.le_refl _) (by rw [List.length_drop]; omega)]
theorem cutG_less {α : Type} (l : List α) (h : l.length ≤ 8) : cutG l = [l] := by
  unfold cutG
  cases hl : l.length with
  | zero => rfl
  | succ d => rw [chunkN, if_neg (by omega)]
end Go.Proofs.Ytkbemagcoojmmaa.Lx
