/- Small lemmas beside the printed words: rows told by their values. No condition. -/
import Derived.Test.YtkbemagcoojmmaaWNEvQ1
import Derived.Test.YtkbemagcoojmmaaWMoreQ1
import Derived.WalkSpells
import Derived.Sort.Walk0
namespace Go.Proofs.YtkbemagcoojmmaaW.PrintWords
open Go.RowKit
theorem bytesLess_total (a b : List UInt8) : (Op.bytesLess a b || a == b) = !Op.bytesLess b a := by
  rw [bytesLess_eq, bytesLess_eq, Bool.eq_iff_iff]
  simp only [Bool.or_eq_true, decide_eq_true_eq, beq_iff_eq, Bool.not_eq_true', decide_eq_false_iff_not]
  constructor
  · rintro (h | rfl) h2
    · exact List.lt_irrefl _ (List.lt_trans h h2)
    · exact List.lt_irrefl _ h2
  · intro h
    rcases List.le_iff_lt_or_eq.1 (List.not_lt.1 h) with h2 | h2
    · exact .inl h2
    · exact .inr h2
theorem str_leq (t : TypeId) (a b : ByteArray) : binOp .leq t (.string a) (.string b) = pure (.bool (!Op.bytesLess b.toList a.toList)) := by
  rw [← bytesLess_total]
  simp [binOp, Op.stringOp]
theorem str_gtr (t : TypeId) (a b : ByteArray) : binOp .gtr t (.string a) (.string b) = pure (.bool (Op.bytesLess b.toList a.toList)) := by
  have h := bytesLess_total a.toList b.toList
  have h2 : Op.bytesLess b.toList a.toList = !(Op.bytesLess a.toList b.toList || a.toList == b.toList) := by rw [h, Bool.not_not]
  rw [h2]
  simp [binOp, Op.stringOp]
theorem str_geq (t : TypeId) (a b : ByteArray) : binOp .geq t (.string a) (.string b) = pure (.bool (!Op.bytesLess a.toList b.toList)) := by simp [binOp, Op.stringOp]
namespace Kd
theorem FK_slice_V {α : Type} {d : Kd α} {e base : Nat} {W : World} {ok : Nat → Prop} {v : Value} {xs : List α} (h : V d e W base ok v xs) : FK (Kd.slice e d) W ok xs [v] := by
  obtain ⟨A, c, rfl, hl, hf⟩ := h
  exact FK_slice_mk hl hf
end Kd
end Go.Proofs.YtkbemagcoojmmaaW.PrintWords
