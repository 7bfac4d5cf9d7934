/- StreamEnds, by hand: it answers true. Conditions: rows, values of a row are not too many. Printed by gen_ends.py. -/
import Derived.Test.YtkbemagcoojmmaaPk3Q1
import Derived.Test.YtkbemagcoojmmaaLvQ1
import Derived.Test.YtkbemagcoojmmaaAcdQ1
import Derived.Test.YtkbemagcoojmmaaPk5Q1
namespace Go.Proofs.Ytkbemagcoojmmaa.Val
open Go.RowKit Go.Proofs.Ytkbemagcoojmmaa.G Go.Proofs.Ytkbemagcoojmmaa.Lx Go.Proofs.YtkbemagcoojmmaaW.PrintWords Go.Proofs.YtkbemagcoojmmaaW.PrintLast Go.Proofs.YtkbemagcoojmmaaW.PrintMore
set_option linter.unusedVariables false
set_option linter.unusedSimpArgs false
attribute [local go_sem high] eqA26
theorem msg_lit {W : World} {ok : Nat → Prop} {s0 s1 s2 s3 s4 sq : Int} {lst : Bool} {rows : List (List S112)} {cs : List Value} (h : Kd.FK k52 W ok (msgS s0 s1 s2 s3 s4 sq lst rows) cs) :
    ∃ (A12 A13 A14 A16 A17 A18 A26 A32 A35 A36 A39 A44 A45 A46 : Option Addr) (c12 c13 c14 c16 c17 c18 c26 c32 c35 c36 c39 c44 c45 c46 : Nat), cs = [.int .u8 4, .int .u64 0, .int .u64 s0, .int .u64 s1, .int .i64 s2, .int .i64 s3, .int .i64 s4, .string (⟨#[]⟩ : ByteArray), .string (⟨#[]⟩ : ByteArray), .int .i64 0, .int .i64 0, .int .i64 0, .slice A12 0 c12, .slice A13 0 c13, .slice A14 0 c14, .bool false, .slice A16 0 c16, .slice A17 0 c17, .slice A18 0 c18, .int .i64 0, .int .i64 0, .int .u8 0, .string (⟨#[]⟩ : ByteArray), .int .u64 0, .int .u64 0, .int .i64 0, .slice A26 0 c26, .int .u8 0, .string (⟨#[]⟩ : ByteArray), .int .u64 0, .int .u64 0, .int .i64 0, .slice A32 0 c32, .bool false, .int .i64 0, .slice A35 0 c35, .slice A36 0 c36, .int .u64 sq, .bool lst, .slice A39 rows.length c39, .string (⟨#[]⟩ : ByteArray), .int .u64 0, .int .u64 0, .int .i64 0, .slice A44 0 c44, .slice A45 0 c45, .slice A46 0 c46] ∧ rows.length ≤ c39 ∧ Kd.F (Kd.slice 112 k112) W ok A39 rows.length rows := by
  obtain ⟨A12, c12, A13, c13, A14, c14, A16, c16, A17, c17, A18, c18, A26, c26, A32, c32, A35, c35, A36, c36, A39, c39, A44, c44, A45, c45, A46, c46, e, _, _, _, _, _, _, _, _, _, _, _, _, _, _, _, _, _, _, _, _, l39, f39, _⟩ := k52_openF h
  exact ⟨A12, A13, A14, A16, A17, A18, A26, A32, A35, A36, A39, A44, A45, A46, c12, c13, c14, c16, c17, c18, c26, c32, c35, c36, c39, c44, c45, c46, e, l39, f39⟩
def came (bs : List (List (List S112))) (t : Nat) : List (List S112) := (bs.take t).flatten
theorem came_next {bs : List (List (List S112))} {t : Nat} (h : t < bs.length) : came bs (t + 1) = came bs t ++ bs[t] := by
  unfold came
  rw [List.take_succ_eq_append_getElem h, List.flatten_append, List.flatten_singleton]
theorem came_all {bs : List (List (List S112))} {t : Nat} (h : bs.length ≤ t) : came bs t = bs.flatten := by unfold came; rw [List.take_of_length_le h]
theorem came_le {bs : List (List (List S112))} (h8 : ∀ b ∈ bs, b.length ≤ 8) : ∀ t, (came bs t).length ≤ 8 * t
  | 0 => by simp [came]
  | t + 1 => by
    have := came_le h8 t
    by_cases h : t < bs.length
    · rw [came_next h, List.length_append]
      have := h8 _ (List.getElem_mem h)
      omega
    · rw [came_all (by omega)]
      rw [came_all (by omega)] at this
      omega
theorem came_fit {bs : List (List (List S112))} (hf : FitO bs) (h8 : ∀ b ∈ bs, b.length ≤ 8) (t : Nat) (ht : t ≤ 512) : FitR (came bs t) := by
  have := came_le h8 t
  refine ⟨by omega, fun r hr => ?_⟩
  unfold came at hr
  obtain ⟨b, hb, hr⟩ := List.mem_flatten.1 hr
  exact (hf.2 b (List.mem_of_mem_take hb)).2 r hr
end Go.Proofs.Ytkbemagcoojmmaa.Val
