/- slices.Delete of one element of three cells. No condition but that the element is there. -/
import Derived.Test.YtebngchdmpabhaaGx0
import Derived.Test.YtebngchdmpabhaaIns
namespace Go.Proofs.Ytebngchdmpabhaa.Disk
open Go.RowKit Go.Proofs.YtebngchdmpabhaaW.PrintWords Go.Proofs.YtebngchdmpabhaaW.PrintLast Go.Proofs.YtebngchdmpabhaaW.PrintMore Go.Proofs.YtebngchdmpabhaaW.Raw
set_option linter.unusedVariables false
set_option linter.unusedSimpArgs false
theorem info41z : (Try.prog.info? 41).map (fun i => (i.zero, i.size)) = some (some (.agg #[(.string ⟨#[]⟩), (.string ⟨#[]⟩), (.int .i64 0)]), 3) := by kernel_rfl
set_option maxHeartbeats 400000 in
set_option maxRecDepth 100000 in
theorem delete_in (w : World) (g m c i : Nat) (cur : List Value)
    (hg : w.heap[g]? = some (.cells cur.toArray 41 (0, 0))) (hlen : cur.length = c * 3) (hn : i + 1 + m ≤ c) (hcm : c ≤ 9223372036854775807) (h1 : ∀ j v, cur[j]? = some v → j < (i + 1 + m) * 3 → v.oneCell' = true) :
    Calls Try.prog 35 #[.slice (some ⟨g, 0, none⟩) (i + 1 + m) c, .int .i64 i, .int .i64 (i + 1)] w fun e w' => ∃ R : List Value, e = .returned (.slice (some ⟨g, 0, none⟩) (i + m) c) ∧ R.length = c * 3 ∧ R.take ((i + m) * 3) = (cur.take ((i + 1 + m) * 3)).take (i * 3) ++ (cur.take ((i + 1 + m) * 3)).drop ((i + 1) * 3) ∧
      w'.heap[g]? = some (.cells R.toArray 41 (0, 0)) ∧ w.grownBy w' (some g) := by
  have HG := Lib.hid hg
  have HL := Lib.hid hlen
  have H1 := Lib.hid h1
  clear hg hlen h1
  have t1 : ((i : Int) == ((i : Int) + 1)) = false := by simp; omega
  obtain ⟨C1, hC1⟩ : ∃ C1, C1 = (cur.drop ((i + 1) * 3)).take (m * 3) := ⟨_, rfl⟩
  have HC1 := Lib.hid hC1
  clear hC1
  have LC1 : Hid (C1.length = m * 3) := by
    show C1.length = _
    rw [HC1.out, List.length_take, List.length_drop, HL.out]; omega
  obtain ⟨Z, hZ⟩ : ∃ Z, Z = (Builtin.zeroCells (Value.cells (.agg #[(.string ⟨#[]⟩), (.string ⟨#[]⟩), (.int .i64 0)])) 1).toList := ⟨_, rfl⟩
  have HZ := Lib.hid hZ
  clear hZ
  have LZ : Hid (Z.length = 3) := by
    show Z.length = _
    rw [HZ.out, Array.length_toList, size_zeroCells]; rfl
  have H1Z : Hid (∀ v ∈ Z, v.oneCell' = true) := by
    show ∀ v ∈ Z, _
    rw [HZ.out]; decide +kernel
  have hC1m : Hid (∀ v ∈ C1, v.oneCell' = true) := by
    intro v hv
    obtain ⟨j, hj, he⟩ := List.getElem_of_mem hv
    rw [LC1.out] at hj
    refine H1.out ((i + 1) * 3 + j) v ?_ (by omega)
    have h2 := List.getElem?_eq_getElem (l := C1) (i := j) (by rw [LC1.out]; exact hj)
    rw [he, HC1.out, List.getElem?_take, if_pos hj, List.getElem?_drop] at h2
    exact h2
  have hsrc : Hid (∀ j v, C1[j]? = some v → cur[(i + 1) * 3 + j]? = some v) := by
    intro j v hj
    rw [HC1.out, List.getElem?_take] at hj
    split at hj
    · rw [List.getElem?_drop] at hj; exact hj
    · cases hj
  have LS : Hid ((splice cur (i * 3) C1).length = c * 3) := by
    show (splice cur _ C1).length = _
    rw [length_splice _ _ _ (by rw [LC1.out, HL.out]; omega)]; exact HL.out
  have fin : Hid ((splice (splice cur (i * 3) C1) ((i + m) * 3) Z).take ((i + m) * 3) = (cur.take ((i + 1 + m) * 3)).take (i * 3) ++ (cur.take ((i + 1 + m) * 3)).drop ((i + 1) * 3)) := by
    have h0 := del_room cur Z (i + 1 + m) i c 3 HL.out hn (by omega) LZ.out
    rw [show i + 1 + m - (i + 1) = m by omega, show i + 1 + m - 1 = i + m by omega, ← HC1.out] at h0
    exact h0
  have LF : Hid ((splice (splice cur (i * 3) C1) ((i + m) * 3) Z).length = c * 3) := by
    show (splice _ _ _).length = _
    rw [length_splice _ _ _ (by rw [LZ.out, LS.out]; omega)]; exact LS.out
  have hj1 : (i : Int) + 1 ≤ (i : Int) + 1 + (m : Int) := by omega
  by_cases hc : c = i + 1
  · obtain rfl : m = 0 := by omega
    have HCN : Hid (C1 = []) := List.eq_nil_of_length_eq_zero (by have := LC1.out; omega)
    subst hc
    go_enter Try.func35, Try.ntmps35
    go_wp2_with fail
    have hw1 : IntKind.i64.wrap ((i : Int) + 1) = (i : Int) + 1 := by rw [IntKind.wrap_i64]; omega
    have hb1 : (0 : Int) ≤ (i : Int) + 1 := by omega
    have htn : ((i : Int) + 1).toNat = i + 1 := by omega
    have hb4 : (i : Int) ≤ (i : Int) + 1 := by omega
    have hb5 : i ≤ i + 1 := by omega
    go_region_law (refine step_append_cells rfl (.tmp 22) (.tmp 25) 22 41 3 rfl Try.underlying22 info41s g i (i + 1) ⟨g, 0, none⟩ 0 0 (by simp [Act.eval, Act.put]) (by simp [Act.eval, Act.put]) cur HG.out C1 LC1.out (by rw [HCN.out]; intro j u hu; cases hu) hC1m.out (by omega) (by rw [LC1.out, HL.out]; omega) ?_; intro w1 HG1 hgr1; have Hg1 := Lib.hid hgr1; clear hgr1)
    clear hw1 hb1 htn
    have hq2 : i + 1 - i = 1 := by omega
    have hq3 : ¬ i + 1 = i := by omega
    go_wp2_with (with_reducible refine wpList_clear_cells rfl (.tmp 31) 22 rfl 41 3 (.agg #[(.string ⟨#[]⟩), (.string ⟨#[]⟩), (.int .i64 0)]) Try.underlying22 info41z rfl g (i * 3) 1 1 rfl (splice cur (i * 3) C1) HG1.out (by rw [LS.out]; omega) (by rw [← HZ.out]; exact H1Z.out) ?_; intro w2 HG2 hgr2; have Hg2 := Lib.hid hgr2; clear hgr2)
    clear hq2 hq3 hb4 hb5
    go_wp2
    go_ret
    rw [← HZ.out] at HG2
    exact ⟨_, rfl, LF.out, fin.out, HG2.out, World.grownBy.trans ⟨Hg1.out.os, Hg1.out.tape, Hg1.out.output, Hg1.out.size, Hg1.out.block⟩ Hg2.out⟩
  · skip
    go_enter Try.func35, Try.ntmps35
    go_wp2_with fail
    have hw1 : IntKind.i64.wrap ((i : Int) + 1) = (i : Int) + 1 := by rw [IntKind.wrap_i64]; omega
    have hb1 : (0 : Int) ≤ (i : Int) + 1 := by omega
    have htn : ((i : Int) + 1).toNat = i + 1 := by omega
    have hb4 : i ≤ c := by omega
    have hb6 : (i : Int) + 1 ≤ (i : Int) + 1 + (m : Int) := by omega
    have hb7 : i + 1 ≤ i + 1 + m := by omega
    go_region_law (refine step_append_cells rfl (.tmp 22) (.tmp 25) 22 41 3 rfl Try.underlying22 info41s g i c ⟨g, (i + 1) * 3, none⟩ m (c - (i + 1)) (by simp [Act.eval, Act.put]) (by simp [Act.eval, Act.put]) cur HG.out C1 LC1.out (cells_at HG.out ((i + 1) * 3) hsrc.out) hC1m.out (by omega) (by rw [LC1.out, HL.out]; omega) ?_; intro w1 HG1 hgr1; have Hg1 := Lib.hid hgr1; clear hgr1)
    clear hw1 hb1 htn hb4 hb6 hb7
    have hq1 : (i : Int) + (m : Int) ≤ (i : Int) + 1 + (m : Int) := by omega
    have hq2 : i + 1 + m - (i + m) = 1 := by omega
    have hq3 : ¬ c = i + m := by omega
    have hq4 : i + m ≤ i + 1 + m := by omega
    have hq5 : ((i : Int) + (m : Int)).toNat = i + m := by omega
    go_wp2_with (with_reducible refine wpList_clear_cells rfl (.tmp 31) 22 rfl 41 3 (.agg #[(.string ⟨#[]⟩), (.string ⟨#[]⟩), (.int .i64 0)]) Try.underlying22 info41z rfl g ((i + m) * 3) (i + 1 + m - (i + m)) (c - (i + m)) rfl (splice cur (i * 3) C1) HG1.out (by rw [LS.out]; omega) (by rw [hq2, ← HZ.out]; exact H1Z.out) ?_; intro w2 HG2 hgr2; rw [hq2] at HG2; have Hg2 := Lib.hid hgr2; clear hgr2)
    clear hq1 hq2 hq3 hq4 hq5
    go_wp2
    go_ret
    rw [← HZ.out] at HG2
    exact ⟨_, rfl, LF.out, fin.out, HG2.out, World.grownBy.trans ⟨Hg1.out.os, Hg1.out.tape, Hg1.out.output, Hg1.out.size, Hg1.out.block⟩ Hg2.out⟩
/-- slices.Delete(s, i, i + 1). -/
theorem delete_calls (w : World) (base n i : Nat) (v : Value) (cells : List Value) (HO : w.ownsRow base 41 3 v n cells) (hi : i < n) (h1 : ∀ u ∈ cells, u.oneCell' = true) :
    Calls Try.prog 35 #[v, .int .i64 i, .int .i64 (i + 1)] w fun e w' => ∃ v1, e = .returned v1 ∧ w'.ownsRow base 41 3 v1 (n - 1) (cells.take (i * 3) ++ cells.drop ((i + 1) * 3)) ∧ w.grownBy w' v.ownBlock ∧ v1.ownBlock = v.ownBlock := by
  have hlc := HO.1
  rcases HO.2 with ⟨_, h0⟩ | ⟨g, c, cur, rfl, hbg, hg, hnc, hcm, hcs, htake⟩
  · omega
  · obtain ⟨L, hL⟩ : ∃ L, L = cur.toList := ⟨_, rfl⟩
    have hg' : w.heap[g]? = some (.cells L.toArray 41 (0, 0)) := by rw [hL]; simpa using hg
    have hLl : L.length = c * 3 := by rw [hL]; simpa using hcs
    rw [← hL] at htake
    obtain ⟨m, rfl⟩ : ∃ m, n = i + 1 + m := ⟨n - (i + 1), by omega⟩
    refine (delete_in w g m c i L hg' hLl hnc (by simp only [maxLen] at hcm; omega) (fun j u hj hjn => h1 u ?_)).mono ?_
    · rw [← htake]
      exact List.mem_of_getElem? (i := j) (by rw [List.getElem?_take, if_pos hjn]; exact hj)
    · rintro e w' ⟨R, rfl, hR, hRt, hh, hgr⟩
      rw [htake] at hRt
      rw [show i + 1 + m - 1 = i + m by omega]
      refine ⟨_, rfl, ⟨?_, .inr ⟨g, c, _, rfl, hbg, hh, by omega, hcm, by simpa using hR, hRt⟩⟩, hgr, rfl⟩
      rw [List.length_append, List.length_take, List.length_drop]; omega
end Go.Proofs.Ytebngchdmpabhaa.Disk
