/- The cells of messages that were sent. No condition. -/
import Derived.Test.YtkbemagcoojmmaaPk3Qe
import Derived.Test.YtkbemagcoojmmaaLvQe
namespace Go.Proofs.Ytkbemagcoojmmaa.Val
open Go.RowKit Go.Proofs.Ytkbemagcoojmmaa.G Go.Proofs.Ytkbemagcoojmmaa.Lx Go.Proofs.YtkbemagcoojmmaaW.PrintWords Go.Proofs.YtkbemagcoojmmaaW.PrintLast Go.Proofs.YtkbemagcoojmmaaW.PrintMore
set_option linter.unusedVariables false
theorem msg_at {W : World} {base q c : Nat} {ok : Nat → Prop} {Av : Option Addr} {ms : List S52} (h : Kd.V k52 52 W base ok (.slice Av q c) ms) (j : Nat) (hj : j < ms.length) : ∃ ab ao cs, Av = some ⟨ab, ao, none⟩ ∧ Kd.FK k52 W ok (ms.getD j z52) cs ∧ W.rangeAt ab (ao + j * 47) cs := by
  have h0 := Kd.V_reads' h
  have hq : q = ms.length := h0.1
  obtain ⟨ad, _, eA, _⟩ := Kd.C_get h0.2.2 z52 (j : Int) (by omega) (by omega)
  subst eA
  obtain ⟨cs, l0, f0, c0⟩ := Kd.V_get h z52 (j : Int) (by omega) (by omega)
  rw [Int.toNat_natCast] at f0 c0
  have hs : ad.spot = none := by
    obtain ⟨cs1, _, f1, c1⟩ := Kd.V_get h z52 0 (by omega) (by omega)
    have hl : 0 < cs1.length := by
      obtain ⟨_, _, _, _, _, _, _, _, _, _, _, _, _, _, _, _, _, _, _, _, _, _, _, _, _, _, _, _, e, _⟩ := k52_openF f1
      rw [e]
      simp
    have h1 : W.cell? (ad.add 0) = some _ := c1 0 _ (List.getElem?_eq_getElem hl)
    cases hsp : ad.spot with
    | none => rfl
    | some s =>
      have h2 : W.cell? (ad.add 0) = none := by
        unfold World.cell? Addr.add
        rw [if_pos rfl, hsp]
        split <;> rfl
      rw [h2] at h1
      cases h1
  obtain ⟨ab, ao, sp⟩ := ad
  subst hs
  have ha : ∀ j, (⟨ab, ao, none⟩ : Addr).add j = ⟨ab, ao + j, none⟩ := by
    intro j
    unfold Addr.add
    split
    · rename_i h_
      rw [h_]
      rfl
    · rfl
  refine ⟨ab, ao, cs, rfl, f0, fun i v hi => ?_⟩
  have h_ := c0 i v hi
  rw [ha, show Kd.sz k52 = 47 from rfl] at h_
  rw [show ao + j * 47 + i = ao + (j * 47 + i) by omega]
  exact h_
theorem range_arr {w : World} {g : Nat} {cs : List Value} {t : TypeId} (h : w.heap[g]? = some (.cells cs.toArray t (0, 0))) : w.rangeAt g 0 cs := by
  have := World.rangeAt_of_block h 0 cs.length
  simpa using this
theorem row_below {w W : World} {g n : Nat} {cells : Array Value} (hb : Below n w W) (hg : n ≤ g) : Below n w (W.setRow g cells) := below_setRow hb hg _
end Go.Proofs.Ytkbemagcoojmmaa.Val
