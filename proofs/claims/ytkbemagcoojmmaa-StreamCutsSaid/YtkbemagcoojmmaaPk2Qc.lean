/- StreamCuts: what is cut comes together to the rows again. Conditions: rows, values of a row are not too many. -/
import Derived.Test.YtkbemagcoojmmaaPk1Qc
import Derived.Test.YtkbemagcoojmmaaLp7Qc
namespace Go.Proofs.Ytkbemagcoojmmaa.Lx
open Go.RowKit Go.Proofs.Ytkbemagcoojmmaa.G Go.Proofs.Ytkbemagcoojmmaa.Val Go.Proofs.YtkbemagcoojmmaaW.PrintWords Go.Proofs.YtkbemagcoojmmaaW.PrintLast Go.Proofs.YtkbemagcoojmmaaW.PrintMore
set_option linter.unusedVariables false
set_option linter.unusedSimpArgs false
theorem cuts_l0 (x : List (List S112)) (hx : FitR x) (hl : x.length ≤ 4096) (bs : List (List (List S112))) (hbs : bs.flatten = x) (hle : ∀ b ∈ bs, b.length ≤ 8) (hn : bs.length ≤ 4096) (ho : outV bs 0 = 0) (s0 s1 s2 s3 s4 : Int) :
    ∀ (d i k : Nat), bs.length = i + d → 4398046520000 + d ≤ k → potsherdlaw13_StreamCuts.l0 k x (bs.take i).flatten bs (bs.length : Int) (i : Int) s0 s1 s2 s3 s4 s0 s1 s2 s3 s4 bs 0 = some true := by
  intro d
  induction d with
  | zero =>
    intro i k hd hk
    obtain ⟨k, rfl⟩ : ∃ j, k = j + 1 := ⟨k - 1, by omega⟩
    rw [potsherdlaw13_StreamCuts.l0, if_neg (by omega), List.take_of_length_le (by omega), hbs, same_fit k x hx (by omega), Option.bind_some, if_pos rfl]
    unfold stream_CheckOut.f
    rw [if_pos (by omega), Option.bind_some, ho, if_pos rfl, if_pos rfl]
    simp
  | succ d ih =>
    intro i k hd hk
    obtain ⟨k, rfl⟩ : ∃ j, k = j + 1 := ⟨k - 1, by omega⟩
    have hi : i < bs.length := by omega
    have he : rd_L7 bs (i : Int) = bs[i] := by simp [rd_L7, List.getD_eq_getElem?_getD, hi]
    have h1 := hle _ (List.getElem_mem hi)
    have h2 : (bs.take i).flatten.length ≤ 4096 := by
      have h3 : (bs.take i).flatten.length + (bs.drop i).flatten.length = bs.flatten.length := by rw [← List.length_append, ← List.flatten_append, List.take_append_drop]
      rw [hbs] at h3
      omega
    have h4 : (bs.take i).flatten ++ bs[i] = (bs.take (i + 1)).flatten := by rw [List.take_succ_eq_append_getElem hi, List.flatten_append, List.flatten_singleton]
    rw [potsherdlaw13_StreamCuts.l0, if_pos (by omega), if_pos (by omega), if_pos (by omega), he, if_neg (by omega), if_pos (by omega), h4, v64 (by omega), ih (i + 1) k (by omega) (by omega)]
theorem cuts (s0 s1 s2 s3 s4 : Int) (x : List (List S112)) (hx : FitR x) : ∃ k, potsherdlaw13_StreamCuts.f k s0 s1 s2 s3 s4 x = some true := by
  refine ⟨4398046530000, ?_⟩
  have hl : potsherdlaw13_lives.f = some true := rfl
  unfold potsherdlaw13_StreamCuts.f stream_Cut.f
  rw [hl, Option.bind_some, if_pos rfl, if_pos hx, Option.bind_some]
  unfold cutV
  by_cases h : 4096 < x.length
  · rw [if_pos h, if_neg (by decide)]
    simp only [gt_iff_lt, Option.some.injEq, decide_eq_true_eq]
    omega
  · rw [if_neg h, if_pos rfl]
    have hc := cutG_count x
    exact cuts_l0 x hx (by omega) (cutG x) (cutG_flat x) (cutG_le x) (by omega) (cutG_right x (by omega) 0 (by omega)) s0 s1 s2 s3 s4 (cutG x).length 0 _ (by omega) (by omega)
end Go.Proofs.Ytkbemagcoojmmaa.Lx
