/- slices.Insert of one element of three cells: whatever the row's room. The room's bound alone is asked. -/
import Derived.Test.YtkbemagcoojmmaaLw0Q1
import Derived.Test.YtkbemagcoojmmaaRawQ1
namespace Go.Proofs.Ytkbemagcoojmmaa.Val
open Go.RowKit Go.Proofs.YtkbemagcoojmmaaW.PrintWords Go.Proofs.YtkbemagcoojmmaaW.PrintLast Go.Proofs.YtkbemagcoojmmaaW.PrintMore Go.Proofs.YtkbemagcoojmmaaW.Raw
set_option linter.unusedVariables false
set_option linter.unusedSimpArgs false
theorem info83s : (Try.prog.info? 83).map (·.size) = some 3 := by kernel_rfl
theorem info83a : (Try.prog.info? 83).map (fun i => (i.zero, i.size, i.bytes)) = some (some (.agg #[(.int .u64 0), (.bool false), (.slice none 0 0)]), 3, 40) := by kernel_rfl
theorem size83 (w : World) : (Go.sizeOf 83).run Try.prog w = .ok 3 w := by kernel_rfl
set_option maxHeartbeats 400000 in
set_option maxRecDepth 100000 in
theorem insert_room (w : World) (g n c i bx : Nat) (cur xs : List Value)
    (hg : w.heap[g]? = some (.cells cur.toArray 83 (0, 0))) (hlen : cur.length = c * 3) (hn : n + 1 ≤ c) (hi : i < n) (hbx : w.heap[bx]? = some (.cells xs.toArray 83 (0, 0))) (hxs : xs.length = 3) (hne : bx ≠ g) (hcm : c ≤ 9223372036854775807)
    (h1 : ∀ j v, cur[j]? = some v → j < n * 3 → v.oneCell' = true) (h1x : ∀ v ∈ xs, v.oneCell' = true) :
    Calls Try.prog 35 #[.slice (some ⟨g, 0, none⟩) n c, .int .i64 i, .slice (some ⟨bx, 0, none⟩) 1 1] w fun e w' => e = .returned (.slice (some ⟨g, 0, none⟩) (n + 1) c) ∧
      w'.heap[g]? = some (.cells (splice (splice cur ((i + 1) * 3) ((cur.drop (i * 3)).take ((n - i) * 3))) (i * 3) xs).toArray 83 (0, 0)) ∧ w.grownBy w' (some g) := by
  have hov : ∀ la ca lb cb, (callFunc 51 #[.slice (some ⟨bx, 0, none⟩) la ca, .slice (some ⟨g, (i + 1) * 3, none⟩) lb cb]).run Try.prog w = .ok (.value (.bool false)) w := fun la ca lb cb => by
    rw [run_callFunc_extern Try.func51 (by kernel_rfl) (by kernel_rfl) (by kernel_rfl) (e := Extern.SlicesOverlaps.overlaps #[27, 27] #[4]) (by kernel_rfl),
      Lib.run_overlaps_apart w 27 4 83 Try.underlying27 3 size83 ⟨bx, 0, none⟩ ⟨g, (i + 1) * 3, none⟩ la ca lb cb hne 83 83 xs.toArray.size cur.toArray.size (by simp [World.shape?, hbx]) (by simp [World.shape?, hg]) (by simp only [List.size_toArray]; rw [hlen]; omega) (by simp [World.frozen?, hbx]) (by simp [World.frozen?, hbx])]
    rfl
  have HG := Lib.hid hg
  have HX := Lib.hid hbx
  have HL := Lib.hid hlen
  have HXS := Lib.hid hxs
  have H1 := Lib.hid h1
  have H1X := Lib.hid h1x
  clear hg hbx hlen hxs h1 h1x
  have t1 : ((i : Int) == (n : Int)) = false := by simp; omega
  have t2 : ((1 : Int) == 0) = false := rfl
  have t3 : ¬ c < n + 1 := by omega
  have t4 : ¬ c = i := by omega
  have t5 : ¬ c = i + 1 := by omega
  obtain ⟨C1, hC1⟩ : ∃ C1, C1 = (cur.drop (i * 3)).take ((n - i) * 3) := ⟨_, rfl⟩
  rw [← hC1]
  have HC1 := Lib.hid hC1
  clear hC1
  have LC1 : Hid (C1.length = (n - i) * 3) := by
    show C1.length = _
    rw [HC1.out, List.length_take, List.length_drop, HL.out]; omega
  go_enter Try.func35, Try.ntmps35
  go_wp2_with (simp only [hov])
  have hw1 : IntKind.i64.wrap ((i : Int) + 1) = (i : Int) + 1 := by rw [IntKind.wrap_i64]; omega
  have hb1 : (0 : Int) ≤ (i : Int) + 1 := by omega
  have hin : i ≤ n := by omega
  have htn : ((i : Int) + 1).toNat = i + 1 := by omega
  have hb3 : (i : Int) ≤ (n : Int) + 1 := by omega
  go_region_law (refine step_copy_cells rfl (.tmp 73) (.tmp 76) 27 27 rfl 83 3 Try.underlying27 info83s g ((i + 1) * 3) (n + 1 - (i + 1)) (c - (i + 1)) ⟨g, i * 3, none⟩ (n + 1 - i) (c - i) (by simp [Act.eval, Act.put]) (by simp [Act.eval, Act.put]) cur 83 HG.out C1 (by rw [LC1.out]; simp only [Nat.min_def]; split <;> omega) (fun j v hj => cells_at HG.out (i * 3) (fun j v hj => ?hsrc) j v hj) (by rw [LC1.out, HL.out]; omega) ?h1c ?_; (case h1c => intro v hv; obtain ⟨j, hj, he⟩ := List.getElem_of_mem hv; rw [LC1.out] at hj; refine H1.out (i * 3 + j) v ?_ (by omega); have h2 := List.getElem?_eq_getElem (l := C1) (i := j) (by rw [LC1.out]; exact hj); rw [he, HC1.out, List.getElem?_take, if_pos hj, List.getElem?_drop] at h2; exact h2); (case hsrc => rw [HC1.out, List.getElem?_take] at hj; split at hj <;> simp_all); intro w1 HG1 hgr1)
  clear hw1 hb1 hin htn hb3 hov
  have HX1 : Hid (w1.heap[bx]? = some (.cells xs.toArray 83 (0, 0))) := (hgr1.block bx (blk_lt HX.out) (fun e => hne (Option.some.inj e))).trans HX.out
  have LS : Hid ((splice cur ((i + 1) * 3) C1).length = c * 3) := by
    show (splice cur _ C1).length = _
    rw [length_splice _ _ _ (by rw [LC1.out, HL.out]; omega)]; exact HL.out
  go_wp2_with (with_reducible refine wpList_copy_cells rfl (.tmp 80) (.tmp 81) 27 27 rfl 83 3 Try.underlying27 info83s g (i * 3) (n + 1 - i) (c - i) ⟨bx, 0, none⟩ 1 1 rfl rfl (splice cur ((i + 1) * 3) C1) 83 HG1.out xs (by rw [HXS.out]; simp only [Nat.min_def]; split <;> omega) (cells_at HX1.out 0 (fun j v hj => by rw [Nat.zero_add]; exact hj)) (by rw [HXS.out, LS.out]; omega) H1X.out ?_; intro w2 HG2 hgr2)
  go_ret
  exact ⟨rfl, HG2.out, (World.grownBy.trans ⟨hgr1.os, hgr1.tape, hgr1.output, hgr1.size, hgr1.block⟩ hgr2)⟩
set_option maxHeartbeats 400000 in
set_option maxRecDepth 100000 in
theorem insert_end (w : World) (base n bx : Nat) (v : Value) (cells xs : List Value) (HO : w.ownsRow base 83 3 v n cells) (hbx : w.heap[bx]? = some (.cells xs.toArray 83 (0, 0))) (hxs : xs.length = 3) (hbase : base ≤ w.heap.size) (hlim : (n + 1) * 40 ≤ 140737488355328) (h1x : ∀ v ∈ xs, v.oneCell' = true) :
    Calls Try.prog 35 #[v, .int .i64 n, .slice (some ⟨bx, 0, none⟩) 1 1] w fun e w' => ∃ v1, e = .returned v1 ∧ w'.ownsRow base 83 3 v1 (n + 1) (cells ++ xs) ∧ w.grownBy w' v.ownBlock ∧ (v1.ownBlock = v.ownBlock ∨ ∃ b, v1.ownBlock = some b ∧ w.heap.size ≤ b) := by
  obtain ⟨A, c, hv⟩ := own_slice HO
  have hnc : n ≤ c := own_le (hv ▸ HO)
  subst hv
  have HO' := Lib.hid HO
  have HX := Lib.hid hbx
  have HXS := Lib.hid hxs
  have H1X := Lib.hid h1x
  clear HO hbx hxs h1x
  obtain ⟨i0, hi0, hzz⟩ := Option.map_eq_some_iff.1 info83a
  simp only [Prod.mk.injEq] at hzz
  have HI := Lib.hid hi0
  have HZ := Lib.hid hzz
  clear hi0 hzz
  have t1 : ((n : Int) == (n : Int)) = true := by simp
  have t2 : ((1 : Int) == 0) = false := rfl
  by_cases hcn : c = n
  · have e_ : Value.slice A n c = Value.slice A n n := by rw [hcn]
    rw [e_] at HO' ⊢
    clear e_ hcn hnc
    go_enter Try.func35, Try.ntmps35
    go_wp2_with (at_builtin; refine wpList_append_own_at _ rfl (.tmp 23) (.tmp 24) 27 rfl base 83 i0 (.agg #[(.int .u64 0), (.bool false), (.slice none 0 0)]) 3 40 Try.underlying27 HI.out HZ.out.1 HZ.out.2.1 HZ.out.2.2 rfl (by decide) (.slice A n n) n cells rfl HO'.out ⟨bx, 0, none⟩ 1 1 xs rfl (by rw [HXS.out]) (cells_at HX.out 0 (fun j v hj => by rw [Nat.zero_add]; exact hj)) H1X.out (by simp only [maxLen]; omega) hlim hbase ?_; intro v1 w1 ho1 hg1 hn1 hat1; have HO1 := Lib.hid ho1; have HG1 := Lib.hid hg1; have HA1 := Lib.hid hat1; clear ho1 hg1 hn1 hat1)
    go_ret
    exact ⟨_, rfl, HO1.out, HG1.out, HA1.out.imp id (fun h => ⟨_, h, Nat.le_refl _⟩)⟩
  · skip
    go_enter Try.func35, Try.ntmps35
    go_wp2_with (at_builtin; refine wpList_append_own_at _ rfl (.tmp 23) (.tmp 24) 27 rfl base 83 i0 (.agg #[(.int .u64 0), (.bool false), (.slice none 0 0)]) 3 40 Try.underlying27 HI.out HZ.out.1 HZ.out.2.1 HZ.out.2.2 rfl (by decide) (.slice A n c) n cells rfl HO'.out ⟨bx, 0, none⟩ 1 1 xs rfl (by rw [HXS.out]) (cells_at HX.out 0 (fun j v hj => by rw [Nat.zero_add]; exact hj)) H1X.out (by simp only [maxLen]; omega) hlim hbase ?_; intro v1 w1 ho1 hg1 hn1 hat1; have HO1 := Lib.hid ho1; have HG1 := Lib.hid hg1; have HA1 := Lib.hid hat1; clear ho1 hg1 hn1 hat1)
    go_ret
    exact ⟨_, rfl, HO1.out, HG1.out, HA1.out.imp id (fun h => ⟨_, h, Nat.le_refl _⟩)⟩
set_option maxHeartbeats 400000 in
set_option maxRecDepth 100000 in
theorem insert_grow (w : World) (g n i bx : Nat) (cur xs : List Value)
    (hg : w.heap[g]? = some (.cells cur.toArray 83 (0, 0))) (hlen : cur.length = n * 3) (hi : i < n) (hbx : w.heap[bx]? = some (.cells xs.toArray 83 (0, 0))) (hxs : xs.length = 3)
    (hlim : (n + 1) * 40 ≤ 140737488355328) (h1 : ∀ v ∈ cur, v.oneCell' = true) (h1x : ∀ v ∈ xs, v.oneCell' = true) :
    Calls Try.prog 35 #[.slice (some ⟨g, 0, none⟩) n n, .int .i64 i, .slice (some ⟨bx, 0, none⟩) 1 1] w fun e w' => ∃ (c : Nat) (R : List Value), e = .returned (.slice (some ⟨w.heap.size, 0, none⟩) (n + 1) c) ∧ n + 1 ≤ c ∧ c ≤ maxLen ∧ R.length = c * 3 ∧ R.take ((n + 1) * 3) = cur.take (i * 3) ++ xs ++ cur.drop (i * 3) ∧
      w'.heap[w.heap.size]? = some (.cells R.toArray 83 (0, 0)) ∧ w.grownBy w' none := by
  have HG := Lib.hid hg
  have HX := Lib.hid hbx
  have HL := Lib.hid hlen
  have HXS := Lib.hid hxs
  have H1 := Lib.hid h1
  have H1X := Lib.hid h1x
  have hgl := blk_lt hg
  have hxl := blk_lt hbx
  clear hg hbx hlen hxs h1 h1x
  have t1 : ((i : Int) == (n : Int)) = false := by simp; omega
  have t2 : ((1 : Int) == 0) = false := rfl
  have t3 : n < n + 1 := by omega
  have t4 : ¬ n = i := by omega
  obtain ⟨m, hm⟩ : ∃ m, m = n + 1 - i := ⟨_, rfl⟩
  have hmi : (n : Int) + 1 - (i : Int) = (m : Int) := by omega
  have HM := Lib.hid hm
  have hm1 : 2 ≤ m := by omega
  have hm2 : i + m ≤ n + 1 := by omega
  clear hm
  obtain ⟨C1, hC1⟩ : ∃ C1, C1 = cur.take (i * 3) := ⟨_, rfl⟩
  obtain ⟨C2, hC2⟩ : ∃ C2, C2 = cur.drop (i * 3) := ⟨_, rfl⟩
  have HC1 := Lib.hid hC1
  have HC2 := Lib.hid hC2
  clear hC1 hC2
  have LC1 : Hid (C1.length = i * 3) := by
    show C1.length = _
    rw [HC1.out, List.length_take, HL.out]; omega
  have LC2 : Hid (C2.length = (n - i) * 3) := by
    show C2.length = _
    rw [HC2.out, List.length_drop, HL.out]; omega
  obtain ⟨Z, hZ⟩ : ∃ Z, Z = (Builtin.zeroCells (Value.cells (.agg #[(.int .u64 0), (.bool false), (.slice none 0 0)])) m).toList := ⟨_, rfl⟩
  have HZ := Lib.hid hZ
  clear hZ
  have LZ : Hid (Z.length = m * 3) := by
    show Z.length = _
    rw [HZ.out, Array.length_toList, size_zeroCells]; rfl
  go_enter Try.func35, Try.ntmps35
  go_wp2_with (first
    | ((with_reducible refine gate_builtin (b := .append) (xs := #[.tmp 34, .tmp 39]) rfl ?_); go_must (refine wpList_append_zeros_new rfl (.tmp 34) (.tmp 39) 27 3 83 3 40 (.agg #[(.int .u64 0), (.bool false), (.slice none 0 0)]) rfl Try.underlying27 Try.underlying3 info83a rfl (by decide) (by decide) ⟨g, 0, none⟩ i n m .i64 rfl (by simp [Act.eval, hmi]) C1 LC1.out (cells_at HG.out 0 (fun j v hj => by rw [Nat.zero_add]; rw [HC1.out, List.getElem?_take] at hj; split at hj <;> simp_all)) (by omega) (by omega) (by omega) ?_; intro w1 c R hc hcm hR hG1 hg1 hs1; have HG1 := Lib.hid hG1; have HR := Lib.hid hR; have Hg1 := Lib.hid hg1; clear hR hG1 hg1)
       have HX1 : Hid (w1.heap[bx]? = some (.cells xs.toArray 83 (0, 0))) := (Hg1.out.block bx hxl (fun e => by cases e)).trans HX.out
       have HG0 : Hid (w1.heap[g]? = some (.cells cur.toArray 83 (0, 0))) := (Hg1.out.block g hgl (fun e => by cases e)).trans HG.out
       have LB : Hid ((C1 ++ Z ++ R).length = c * 3) := by
         show (C1 ++ Z ++ R).length = _
         rw [List.length_append, List.length_append, LC1.out, LZ.out, HR.out]; omega
       obtain ⟨G, hG⟩ : ∃ G, G = w.heap.size := ⟨_, rfl⟩
       rw [← hG] at HG1 hs1 hgl hxl ⊢
       have eG := Lib.hid hG
       clear hG
       obtain ⟨B, hB⟩ : ∃ B, B = C1 ++ Z ++ R := ⟨_, rfl⟩
       have HGB : Hid (w1.heap[G]? = some (.cells B.toArray 83 (0, 0))) := by
         show w1.heap[G]? = _
         rw [hB, HZ.out]; exact HG1.out
       rw [← hB] at LB
       have eB := Lib.hid hB
       clear hB HG1)
    | (with_reducible refine wpList_copy_cells rfl (.tmp 43) (.tmp 44) 27 27 rfl 83 3 Try.underlying27 info83s G (i * 3) m (c - i) ⟨bx, 0, none⟩ 1 1 rfl rfl B 83 HGB.out xs (by rw [HXS.out]; simp only [Nat.min_def]; split <;> omega) (cells_at HX1.out 0 (fun j v hj => by rw [Nat.zero_add]; exact hj)) (by rw [HXS.out, LB.out]; omega) H1X.out ?_; intro w2 HG2 hgr2; have Hg2 := Lib.hid hgr2; clear hgr2))
  have HG02 : Hid (w2.heap[g]? = some (.cells cur.toArray 83 (0, 0))) := (Hg2.out.block g (by have := blk_lt HG0.out; exact this) (fun e => by have h_ := Option.some.inj e; omega)).trans HG0.out
  have LB2 : Hid ((splice B (i * 3) xs).length = c * 3) := by
    show (splice B (i * 3) xs).length = _
    rw [length_splice _ _ _ (by rw [HXS.out, LB.out]; omega)]; exact LB.out
  have hw1 : IntKind.i64.wrap ((i : Int) + 1) = (i : Int) + 1 := by rw [IntKind.wrap_i64]; omega
  have hb1 : (0 : Int) ≤ (i : Int) + 1 := by omega
  have hin : i ≤ n := by omega
  have htn : ((i : Int) + 1).toNat = i + 1 := by omega
  have hb3 : (i : Int) + 1 ≤ (i : Int) + (m : Int) := by omega
  have hb4 : i + 1 ≤ i + m := by omega
  have hb5 : ¬ c = i + 1 := by omega
  have hb6 : 1 ≤ m := by omega
  go_region_law (refine step_copy_cells rfl (.tmp 50) (.tmp 53) 27 27 rfl 83 3 Try.underlying27 info83s G ((i + 1) * 3) (i + m - (i + 1)) (c - (i + 1)) ⟨g, i * 3, none⟩ (n - i) (n - i) (by simp [Act.eval, Act.put]) (by simp [Act.eval, Act.put]) (splice B (i * 3) xs) 83 HG2.out C2 (by rw [LC2.out]; simp only [Nat.min_def]; split <;> omega) (fun j v hj => cells_at HG02.out (i * 3) (fun j v hj => ?hsrc) j v hj) (by rw [LC2.out, LB2.out]; omega) ?h1c ?_; (case h1c => intro v hv; rw [HC2.out] at hv; exact H1.out v (List.mem_of_mem_drop hv)); (case hsrc => rw [HC2.out, List.getElem?_drop] at hj; exact hj); intro w3 HG3 hgr3; have Hg3 := Lib.hid hgr3; clear hgr3)
  clear hw1 hb1 hin htn hb3 hb4 hb5 hb6
  have fin : Hid ((splice (splice B (i * 3) xs) ((i + 1) * 3) C2).take ((n + 1) * 3) = cur.take (i * 3) ++ xs ++ cur.drop (i * 3)) := by
    show _ = _
    rw [eB.out, HC1.out, HC2.out]
    exact ins_grow cur xs R Z n i 3 HL.out hi HXS.out (by rw [LZ.out, HM.out])
  have LB3 : Hid ((splice (splice B (i * 3) xs) ((i + 1) * 3) C2).length = c * 3) := by
    show (splice _ _ _).length = _
    rw [length_splice _ _ _ (by rw [LC2.out, LB2.out]; omega)]; exact LB2.out
  have hnm : i + m = n + 1 := by have := HM.out; omega
  have hnm2 := Lib.hid hnm
  clear hnm
  go_wp2
  go_ret
  exact ⟨c, _, by rw [← eG.out, ← hnm2.out]; rfl, by rw [← hnm2.out]; exact hc, hcm, LB3.out, fin.out, by rw [← eG.out]; exact HG3.out, ⟨Hg3.out.os.trans (Hg2.out.os.trans Hg1.out.os), Hg3.out.tape.trans (Hg2.out.tape.trans Hg1.out.tape), Hg3.out.output.trans (Hg2.out.output.trans Hg1.out.output), by rw [← eG.out]; exact Nat.le_trans (Nat.le_of_lt hs1) (Nat.le_trans Hg2.out.size Hg3.out.size), fun k hk hne => by
    rw [← eG.out] at hk
    have hkG : some k ≠ some G := fun e => by have h_ := Option.some.inj e; omega
    exact (Hg3.out.block k (Nat.lt_of_lt_of_le (Nat.lt_trans hk hs1) Hg2.out.size) hkG).trans ((Hg2.out.block k (Nat.lt_trans hk hs1) hkG).trans (Hg1.out.block k (by rw [← eG.out]; exact hk) hne))⟩⟩
theorem insert_calls (w : World) (base n i bx : Nat) (v : Value) (cells xs : List Value) (HO : w.ownsRow base 83 3 v n cells) (hi : i ≤ n) (hbx : w.heap[bx]? = some (.cells xs.toArray 83 (0, 0))) (hxs : xs.length = 3) (hne : v.ownBlock ≠ some bx) (hbase : base ≤ w.heap.size) (hlim : (n + 1) * 40 ≤ 140737488355328) (h1 : ∀ u ∈ cells, u.oneCell' = true) (h1x : ∀ v ∈ xs, v.oneCell' = true) :
    Calls Try.prog 35 #[v, .int .i64 i, .slice (some ⟨bx, 0, none⟩) 1 1] w fun e w' => ∃ v1, e = .returned v1 ∧ w'.ownsRow base 83 3 v1 (n + 1) (cells.take (i * 3) ++ xs ++ cells.drop (i * 3)) ∧ w.grownBy w' v.ownBlock ∧ (v1.ownBlock = v.ownBlock ∨ ∃ b, v1.ownBlock = some b ∧ w.heap.size ≤ b) := by
  have hlc := HO.1
  by_cases hin : i = n
  · subst hin
    have e1 : cells.take (i * 3) = cells := List.take_of_length_le (by omega)
    have e2 : cells.drop (i * 3) = [] := List.drop_eq_nil_of_le (by omega)
    rw [e1, e2, List.append_nil]
    exact insert_end w base i bx v cells xs HO hbx hxs hbase hlim h1x
  · have hlt : i < n := by omega
    rcases HO.2 with ⟨_, h0⟩ | ⟨g, c, cur, rfl, hbg, hg, hnc, hcm, hcs, htake⟩
    · omega
    · have hne' : bx ≠ g := fun e => hne (by rw [e]; rfl)
      obtain ⟨L, hL⟩ : ∃ L, L = cur.toList := ⟨_, rfl⟩
      have hg' : w.heap[g]? = some (.cells L.toArray 83 (0, 0)) := by rw [hL]; simpa using hg
      have hLl : L.length = c * 3 := by rw [hL]; simpa using hcs
      rw [← hL] at htake
      by_cases hroom : n + 1 ≤ c
      · refine (insert_room w g n c i bx L xs hg' hLl hroom hlt hbx hxs hne' (by simp only [maxLen] at hcm; omega) (fun j u hj hjn => h1 u ?_) h1x).mono ?_
        · rw [← htake]
          exact List.mem_of_getElem? (i := j) (by rw [List.getElem?_take, if_pos hjn]; exact hj)
        · rintro e w' ⟨rfl, hh, hgr⟩
          have hfit := ins_room L xs n i c 3 hLl hroom hlt hxs
          have hl2 : (splice (splice L ((i + 1) * 3) ((L.drop (i * 3)).take ((n - i) * 3))) (i * 3) xs).length = c * 3 := by
            have h3 : ((L.drop (i * 3)).take ((n - i) * 3)).length = (n - i) * 3 := by rw [List.length_take, List.length_drop]; omega
            have h4 : (splice L ((i + 1) * 3) ((L.drop (i * 3)).take ((n - i) * 3))).length = c * 3 := by rw [length_splice _ _ _ (by rw [h3]; omega)]; exact hLl
            rw [length_splice _ _ _ (by omega)]; exact h4
          refine ⟨_, rfl, ⟨?_, .inr ⟨g, c, _, rfl, hbg, hh, hroom, hcm, by simpa using hl2, by rw [htake] at hfit; exact hfit⟩⟩, hgr, .inl rfl⟩
          rw [List.length_append, List.length_append, List.length_take, List.length_drop]; omega
      · obtain rfl : c = n := by omega
        have htL : L = cells := by rw [← htake]; exact (List.take_of_length_le (by omega)).symm
        refine (insert_grow w g c i bx L xs hg' hLl hlt hbx hxs hlim (by rw [htL]; exact h1) h1x).mono ?_
        rintro e w' ⟨c', R, rfl, hc', hcm', hR, hRt, hh, hgr⟩
        rw [htL] at hRt
        refine ⟨_, rfl, ⟨?_, .inr ⟨w.heap.size, c', _, rfl, hbase, hh, hc', hcm', by simpa using hR, hRt⟩⟩, ⟨hgr.os, hgr.tape, hgr.output, hgr.size, fun k hk _ => hgr.block k hk (fun e => by cases e)⟩, .inr ⟨_, rfl, Nat.le_refl _⟩⟩
        rw [List.length_append, List.length_append, List.length_take, List.length_drop]; omega
end Go.Proofs.Ytkbemagcoojmmaa.Val
