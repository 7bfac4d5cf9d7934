/- Plain laws of chapter 13's other functions: what Acked and Send answer, an Out is the same as itself. Conditions: batches, rows, values of a row are not too many. -/
import Derived.Test.YtkbemagcoojmmaaPk1Q1
import Derived.Test.YtkbemagcoojmmaaLp9Q1
import Derived.Test.YtkbemagcoojmmaaAcdQ1
namespace Go.Proofs.Ytkbemagcoojmmaa.Lx
open Go.RowKit Go.Proofs.Ytkbemagcoojmmaa.G Go.Proofs.Ytkbemagcoojmmaa.Val Go.Proofs.YtkbemagcoojmmaaW.PrintWords Go.Proofs.YtkbemagcoojmmaaW.PrintLast Go.Proofs.YtkbemagcoojmmaaW.PrintMore
set_option linter.unusedVariables false
set_option linter.unusedSimpArgs false
theorem sameS_refl (s0 s1 s2 s3 s4 : Int) : sameS s0 s1 s2 s3 s4 s0 s1 s2 s3 s4 = true := by simp [sameS]
theorem u64_len (n : Nat) (h : n ≤ 4611686018427387904) : IntKind.u64.wrap (n : Int) = (n : Int) := by
  simp only [IntKind.wrap, IntKind.bits, IntKind.signed]
  first | omega | (simp; omega)
def msgS (s0 s1 s2 s3 s4 sq : Int) (lst : Bool) (rows : List (List S112)) : S52 := (⟨4, 0, (⟨(⟨s0, s1⟩ : S24), s2, s3, s4⟩ : S26), (⟨(⟨#[]⟩ : ByteArray), (⟨#[]⟩ : ByteArray), 0, 0, 0, ([] : List (S130)), ([] : List Int), ([] : List (S119)), false, ([] : List ByteArray), ([] : List Int)⟩ : S38), ([] : List (S91)), (⟨0, 0, (⟨0, (⟨#[]⟩ : ByteArray), (⟨0, 0⟩ : S42), 0, ([] : List Int)⟩ : S44), (⟨0, (⟨#[]⟩ : ByteArray), (⟨0, 0⟩ : S42), 0, ([] : List Int)⟩ : S44), false, 0, ([] : List Int)⟩ : S46), ([] : List Int), sq, lst, rows, (⟨(⟨#[]⟩ : ByteArray), (⟨0, 0⟩ : S42), 0, ([] : List (S114)), ([] : List (List (S112)))⟩ : S49), ([] : List (S125))⟩ : S52)
def msgAt (s0 s1 s2 s3 s4 : Int) (l : List (List (List S112))) (i : Nat) : S52 := msgS s0 s1 s2 s3 s4 (i : Int) (decide (i + 1 = l.length)) (l.getD i [])
def sendV (s0 s1 s2 s3 s4 : Int) (l : List (List (List S112))) (a : Nat) : List S52 := (List.range (min 4 (l.length - a))).map fun j => msgAt s0 s1 s2 s3 s4 l (a + j)
theorem sendV_length (s0 s1 s2 s3 s4 : Int) (l : List (List (List S112))) (a : Nat) : (sendV s0 s1 s2 s3 s4 l a).length = min 4 (l.length - a) := by simp [sendV]
theorem u64_at (a j : Nat) (h : a + j ≤ 4611686018427387904) : IntKind.u64.wrap ((a : Int) + IntKind.u64.wrap (j : Int)) = ((a + j : Nat) : Int) := by
  rw [u64_len j (by omega), show (a : Int) + (j : Int) = ((a + j : Nat) : Int) by omega, u64_len _ h]
theorem send_l0 (s0 s1 s2 s3 s4 : Int) (l : List (List (List S112))) (hf : FitO l) (a : Nat) (ha : a ≤ l.length) (m : Nat) (hm : m = min 4 (l.length - a)) :
    ∀ (d j k : Nat), m = j + d → 5864062014810 + d ≤ k → stream_Send.l0 k ((List.range j).map fun j => msgAt s0 s1 s2 s3 s4 l (a + j)) (l.drop a) ((l.drop a).take m) (m : Int) (j : Int) s0 s1 s2 s3 s4 l (a : Int) = some ((List.range m).map (fun j => msgAt s0 s1 s2 s3 s4 l (a + j)), 0) := by
  have hm1 := hf.1
  intro d
  induction d with
  | zero =>
    intro j k hd hk
    obtain ⟨k, rfl⟩ : ∃ j, k = j + 1 := ⟨k - 1, by omega⟩
    obtain rfl : j = m := by omega
    rw [stream_Send.l0, if_neg (by omega)]
  | succ d ih =>
    intro j k hd hk
    obtain ⟨k, rfl⟩ : ∃ j, k = j + 1 := ⟨k - 1, by omega⟩
    have hi : a + j < l.length := by omega
    have hlen : ((l.drop a).take m).length = m := by rw [List.length_take, List.length_drop]; omega
    have he : ((l.drop a).take m)[j]'(by omega) = l[a + j] := by rw [List.getElem_take, List.getElem_drop]
    have hb := hf.2 _ (List.getElem_mem hi)
    have hb1 := hb.1
    have e8 : ((j : Int) == wrap64 (((l.drop a).length : Int) - 1)) = decide (a + j + 1 = l.length) := by
      rw [List.length_drop, show wrap64 (((l.length - a : Nat) : Int) - 1) = ((l.length - a : Nat) : Int) - 1 by unfold wrap64; omega]
      by_cases h : a + j + 1 = l.length
      · rw [decide_eq_true h, beq_iff_eq]; omega
      · rw [decide_eq_false h, beq_eq_false_iff_ne]; omega
    have hmsg : (⟨4, 0, (⟨(⟨s0, s1⟩ : S24), s2, s3, s4⟩ : S26), (⟨(⟨#[]⟩ : ByteArray), (⟨#[]⟩ : ByteArray), 0, 0, 0, ([] : List (S130)), ([] : List Int), ([] : List (S119)), false, ([] : List ByteArray), ([] : List Int)⟩ : S38), ([] : List (S91)), (⟨0, 0, (⟨0, (⟨#[]⟩ : ByteArray), (⟨0, 0⟩ : S42), 0, ([] : List Int)⟩ : S44), (⟨0, (⟨#[]⟩ : ByteArray), (⟨0, 0⟩ : S42), 0, ([] : List Int)⟩ : S44), false, 0, ([] : List Int)⟩ : S46), ([] : List Int), IntKind.u64.wrap ((a : Int) + (IntKind.u64.wrap (j : Int))), ((j : Int) == (wrap64 (((l.drop a).length : Int) - 1))), l[a + j], (⟨(⟨#[]⟩ : ByteArray), (⟨0, 0⟩ : S42), 0, ([] : List (S114)), ([] : List (List (S112)))⟩ : S49), ([] : List (S125))⟩ : S52) = msgAt s0 s1 s2 s3 s4 l (a + j) := by
      rw [u64_at a j (by omega), e8, msgAt, msgS, show l.getD (a + j) [] = l[a + j] by simp [List.getD_eq_getElem?_getD, hi]]
    rw [stream_Send.l0, if_pos (by omega), if_pos (by omega), if_pos (by omega), at7 _ j (by omega), he, own_f k _ hb (by omega), Option.bind_some, if_pos (by rw [List.length_map, List.length_range]; omega), hmsg, v64 (by omega),
      show (List.range j).map (fun j => msgAt s0 s1 s2 s3 s4 l (a + j)) ++ [msgAt s0 s1 s2 s3 s4 l (a + j)] = (List.range (j + 1)).map (fun j => msgAt s0 s1 s2 s3 s4 l (a + j)) by rw [List.range_succ, List.map_append]; rfl, ih (j + 1) k (by omega) (by omega)]
theorem send_f (k : Nat) (s0 s1 s2 s3 s4 : Int) (l : List (List (List S112))) (hf : FitO l) (a : Nat) (ho : outV l a = 0) (ha : a ≤ l.length) (hk : 5864062014820 ≤ k) : stream_Send.f k s0 s1 s2 s3 s4 l (a : Int) = some (sendV s0 s1 s2 s3 s4 l a, 0) := by
  have hm1 := hf.1
  unfold stream_Send.f stream_CheckOut.f
  have hmn : mn (((l.drop a).length : Nat) : Int) 4 = ((min 4 (l.length - a) : Nat) : Int) := by
    rw [List.length_drop, mn]
    split <;> omega
  have hlen : ((l.drop a).take (min 4 (l.length - a))).length = min 4 (l.length - a) := by rw [List.length_take, List.length_drop]; omega
  rw [if_pos (by omega), Option.bind_some, ho, if_pos rfl, if_pos (by omega), if_pos (by omega), Option.bind_some, Int.toNat_natCast, hmn, if_pos (by omega), if_pos (by rw [List.length_drop]; omega), Option.bind_some, Int.toNat_natCast, hlen]
  exact send_l0 s0 s1 s2 s3 s4 l hf a ha _ rfl (min 4 (l.length - a)) 0 k (by omega) (by omega)
end Go.Proofs.Ytkbemagcoojmmaa.Lx
