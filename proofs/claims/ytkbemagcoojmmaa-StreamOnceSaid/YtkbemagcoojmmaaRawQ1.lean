/- Builtins over a block that is known whole, elements of any number of cells: copy, clear, append in place, append of zeros into a new block. No condition. -/
import Derived.Laws.CopyOwn
import Derived.Laws.OwnMore
import Derived.Deep.RegionLaw
import Derived.Deep.DeepMust
import Derived.Lib.Hide
import Derived.Lib.Overlaps
import Derived.Test.YtkbemagcoojmmaaXQ1
namespace Go.Proofs.YtkbemagcoojmmaaW.Raw
open Go.RowKit
section
variable {P : Program}
theorem setRow_grown (w : World) (g : Nat) (cs : Array Value) : w.grownBy (w.setRow g cs) (some g) :=
  ⟨rfl, rfl, rfl, by simp [World.setRow], fun k _ hk => setRow_other w g k cs (fun e => hk (by rw [e]))⟩
theorem run_copy_cells (w : World) (dT sT ty elem size : Nat) (g o dLen dCap : Nat) (a : Addr) (sLen sCap : Nat) (cur : List Value) (t : TypeId) (cs : List Value)
    (hu : P.underlying dT = some (.slice elem)) (hs : (P.info? elem).map (·.size) = some size)
    (hg : w.heap[g]? = some (.cells cur.toArray t (0, 0))) (hn : cs.length = Nat.min sLen dLen * size)
    (hsrc : ∀ j v, cs[j]? = some v → w.cell? (a.add j) = some v) (hfit : o + cs.length ≤ cur.length) (h1 : ∀ v ∈ cs, v.oneCell' = true) :
    (Builtin.copy_ #[dT, sT] ty #[.slice (some ⟨g, o, none⟩) dLen dCap, .slice (some a) sLen sCap]).run P w =
      .ok (goInt (Nat.min sLen dLen)) (w.setRow g (splice cur o cs).toArray) := by
  have hl := run_firstCells_some (P := P) w size (Nat.min sLen dLen) a sLen sCap cs hn hsrc
  have hst := run_storeCells_at P g o t cs 0 cur.toArray w hg (by simpa using hfit) h1
  cases hq : P.info? elem with
  | none => simp [hq] at hs
  | some i =>
    have hi : i.size = size := by simpa [hq] using hs
    simp [Builtin.copy_, run_underlying hu, Builtin.lenOf, sizeOf, typeInfo, hq, hi, hl, hst, splice]
theorem run_append_zeros_new (w : World) (t ti ty e size bytes : Nat) (z : Value) (ht : P.underlying t = some (.slice e)) {k : IntKind} (hti : P.underlying ti = some (.int k)) (hi : (P.info? e).map (fun i => (i.zero, i.size, i.bytes)) = some (some z, size, bytes)) (hz : z.cells.size = size) (hsz : 0 < size) (hb0 : 0 < bytes)
    (b : Addr) (n cap m : Nat) (olds : List Value) (hlo : olds.length = n * size) (holds : ∀ j v, olds[j]? = some v → w.cell? (b.add j) = some v) (hm0 : 0 < m) (kx : IntKind)
    (hcap : cap < n + m) (hbytes : (n + m) * bytes ≤ 140737488355328) :
    (Builtin.append_ #[t, ti] ty #[.slice (some b) n cap, .int kx m]).run P w =
      .ok (.slice (some ⟨w.heap.size, 0, none⟩) (n + m) (grownCap w (n + m) cap e)) (w.drew.alloc (.cells (olds ++ (Builtin.zeroCells z.cells m).toList ++ (Builtin.zeroCells z.cells (grownCap w (n + m) cap e - (n + m))).toList).toArray e)) := by
  obtain ⟨i, hi0, hzz⟩ := Option.map_eq_some_iff.1 hi
  simp only [Prod.mk.injEq] at hzz
  obtain ⟨hz0, rfl, rfl⟩ := hzz
  have hle : n + m ≤ 140737488355328 := Nat.le_trans (Nat.le_mul_of_pos_right _ hb0) hbytes
  have hw : IntKind.i64.wrap (m : Int) = m := by rw [IntKind.wrap_i64]; omega
  have hneg : ¬ ((m : Int) < 0) := by omega
  have hmb : m * i.bytes ≤ 140737488355328 := Nat.le_trans (Nat.mul_le_mul_right _ (Nat.le_add_left m n)) hbytes
  have hbig : ¬ (281474976710656 < (m : Int) * (i.bytes : Int)) := by
    rw [← Int.natCast_mul]
    omega
  have hn : ¬ (n + m ≤ cap) := by omega
  have h63' : ¬ (9223372036854775807 < ((n : Int) + (m : Int))) := by omega
  have hfit := growslice_fits hcap hbytes
  have h48' : ¬ (281474976710656 < Builtin.nextslicecap (n + m) cap * i.bytes) := by omega
  have hmz : ¬ (m * i.size = 0) := Nat.mul_ne_zero (by omega) (by omega)
  have hfo := run_firstCells_some (P := P) w.drew i.size n b n cap olds hlo (by simpa using holds)
  simp [Builtin.append_, run_underlying ht, run_underlying hti, sizeOf, typeInfo, zeroValue, hi0, hz0, asInt, asIntOf, hw, hneg, hbig, hn, h63', h48', Question.forced, hfo, newRow, grownCap, hmz]
  congr 2
  apply Array.ext'
  simp
end
section
variable {P : Program} {w : World} {ops : Array Oper} {rest : List Oper} {o : Oper} {a : Act} {Q : Exit → Act → World → Prop} {K : Act → World → Prop} {E : Prop}
theorem wpList_copy_cells (hgd : o.guard = none) (d s : Operand) (dT sT : TypeId) (ho : o.op = .call { callee := .builtin .copy, args := #[d, s], argTypes := #[dT, sT] }) (elem size : Nat)
    (hu : P.underlying dT = some (.slice elem)) (hs : (P.info? elem).map (·.size) = some size)
    (g off dLen dCap : Nat) (ad : Addr) (sLen sCap : Nat) (hd : a.eval d = .slice (some ⟨g, off, none⟩) dLen dCap) (hx : a.eval s = .slice (some ad) sLen sCap)
    (cur : List Value) (t : TypeId) (hg : w.heap[g]? = some (.cells cur.toArray t (0, 0))) (cs : List Value) (hn : cs.length = Nat.min sLen dLen * size)
    (hsrc : ∀ j v, cs[j]? = some v → w.cell? (ad.add j) = some v) (hfit : off + cs.length ≤ cur.length) (h1 : ∀ v ∈ cs, v.oneCell' = true)
    (h : ∀ w', Hid (w'.heap[g]? = some (.cells (splice cur off cs).toArray t (0, 0))) → w.grownBy w' (some g) → wpList P ops Q rest (a.put o.dst (goInt (Nat.min sLen dLen))) w') : wpList P ops Q (o :: rest) a w := by
  refine wpList_plain hgd fun K hK => ?_
  have hrun := run_copy_cells (P := P) w dT sT o.type elem size g off dLen dCap ad sLen sCap cur t cs hu hs hg hn hsrc hfit h1
  unfold Oper.wp
  simp [execOp, ho, resolve, invoke, builtin, hd, hx, hrun, Result.andThen]
  exact hK _ _ (by simpa using h _ (setRow_heap w g _ _ t _ hg) (setRow_grown w g _))
theorem step_copy_cells (hgd : o.guard = none) (d s : Operand) (dT sT : TypeId) (ho : o.op = .call { callee := .builtin .copy, args := #[d, s], argTypes := #[dT, sT] }) (elem size : Nat)
    (hu : P.underlying dT = some (.slice elem)) (hs : (P.info? elem).map (·.size) = some size)
    (g off dLen dCap : Nat) (ad : Addr) (sLen sCap : Nat) (hd : a.eval d = .slice (some ⟨g, off, none⟩) dLen dCap) (hx : a.eval s = .slice (some ad) sLen sCap)
    (cur : List Value) (t : TypeId) (hg : w.heap[g]? = some (.cells cur.toArray t (0, 0))) (cs : List Value) (hn : cs.length = Nat.min sLen dLen * size)
    (hsrc : ∀ j v, cs[j]? = some v → w.cell? (ad.add j) = some v) (hfit : off + cs.length ≤ cur.length) (h1 : ∀ v ∈ cs, v.oneCell' = true)
    (h : ∀ w', Hid (w'.heap[g]? = some (.cells (splice cur off cs).toArray t (0, 0))) → w.grownBy w' (some g) → K (a.put o.dst (goInt (Nat.min sLen dLen))) w') :
    if Region.wanted o (yielded ops a.tmps) = true then Oper.wp P o a w K Q else E := by
  have hw : Region.wanted o (yielded ops a.tmps) = true := by simp [Region.wanted, hgd]
  rw [if_pos hw]
  have hrun := run_copy_cells (P := P) w dT sT o.type elem size g off dLen dCap ad sLen sCap cur t cs hu hs hg hn hsrc hfit h1
  unfold Oper.wp
  simp [execOp, ho, resolve, invoke, builtin, hd, hx, hrun, Result.andThen]
  exact h _ (setRow_heap w g _ _ t _ hg) (setRow_grown w g _)
theorem wpList_append_zeros_new (hgd : o.guard = none) (s x : Operand) (t ti e size bytes : Nat) (z : Value) (ho : o.op = .call { callee := .builtin .append, args := #[s, x], argTypes := #[t, ti] })
    (ht : P.underlying t = some (.slice e)) {k : IntKind} (hti : P.underlying ti = some (.int k)) (hi : (P.info? e).map (fun i => (i.zero, i.size, i.bytes)) = some (some z, size, bytes)) (hz : z.cells.size = size) (hsz : 0 < size) (hb0 : 0 < bytes)
    (b : Addr) (n cap m : Nat) (kx : IntKind) (hs : a.eval s = .slice (some b) n cap) (hx : a.eval x = .int kx m) (olds : List Value) (hlo : olds.length = n * size) (holds : ∀ j v, olds[j]? = some v → w.cell? (b.add j) = some v) (hm0 : 0 < m)
    (hcap : cap < n + m) (hbytes : (n + m) * bytes ≤ 140737488355328)
    (h : ∀ w' c' rest', n + m ≤ c' → c' ≤ maxLen → rest'.length = (c' - (n + m)) * size → Hid (w'.heap[w.heap.size]? = some (.cells (olds ++ (Builtin.zeroCells z.cells m).toList ++ rest').toArray e (0, 0))) → w.grownBy w' none → w.heap.size < w'.heap.size → wpList P ops Q rest (a.put o.dst (.slice (some ⟨w.heap.size, 0, none⟩) (n + m) c')) w') : wpList P ops Q (o :: rest) a w := by
  refine wpList_plain hgd fun K hK => ?_
  have hrun := run_append_zeros_new (P := P) w t ti o.type e size bytes z ht hti hi hz hsz hb0 b n cap m olds hlo holds hm0 kx hcap hbytes
  have hle : n + m ≤ 140737488355328 := Nat.le_trans (Nat.le_mul_of_pos_right _ hb0) hbytes
  unfold Oper.wp
  simp [execOp, ho, resolve, invoke, builtin, hs, hx, hrun, Result.andThen]
  refine hK _ _ (h _ _ (Builtin.zeroCells z.cells (grownCap w (n + m) cap e - (n + m))).toList (grownCap_ge w (n + m) cap e) (grownCap_le_maxLen w (n + m) cap e (by simp only [maxLen]; omega)) ?_ ?_ ?_ ?_)
  · rw [Array.length_toList, size_zeroCells, hz]
  · have := heap_alloc_new w.drew (.cells (olds ++ (Builtin.zeroCells z.cells m).toList ++ (Builtin.zeroCells z.cells (grownCap w (n + m) cap e - (n + m))).toList).toArray e)
    exact (show _ = _ by simpa using this)
  · exact ⟨rfl, rfl, rfl, by simp, fun k hk _ => heap_alloc_old w.drew _ hk⟩
  · simp
end
theorem splice_get (L : List Value) (o : Nat) (cs : List Value) (ho : o ≤ L.length) (j : Nat) : (splice L o cs)[j]? = if j < o then L[j]? else if j < o + cs.length then cs[j - o]? else L[j]? := by
  unfold splice
  have hl : (L.take o).length = o := by rw [List.length_take]; omega
  by_cases h1 : j < o
  · rw [if_pos h1, List.getElem?_append_left (by omega), List.getElem?_take, if_pos h1]
  · rw [if_neg h1, List.getElem?_append_right (by omega), hl]
    by_cases h2 : j < o + cs.length
    · rw [if_pos h2, List.getElem?_append_left (by omega)]
    · rw [if_neg h2, List.getElem?_append_right (by omega), List.getElem?_drop]
      congr 1
      omega
theorem ins_get (L xs : List Value) (a m j : Nat) (ha : a ≤ L.length) (hx : xs.length = m) : (L.take a ++ xs ++ L.drop a)[j]? = if j < a then L[j]? else if j < a + m then xs[j - a]? else L[j - m]? := by
  have hl : (L.take a).length = a := by rw [List.length_take]; omega
  rw [List.append_assoc]
  by_cases h1 : j < a
  · rw [if_pos h1, List.getElem?_append_left (by omega), List.getElem?_take, if_pos h1]
  · rw [if_neg h1, List.getElem?_append_right (by omega), hl]
    by_cases h2 : j < a + m
    · rw [if_pos h2, List.getElem?_append_left (by omega)]
    · rw [if_neg h2, List.getElem?_append_right (by omega), List.getElem?_drop]
      congr 1
      omega
theorem ins_room (cur xs : List Value) (n i c k : Nat) (hlen : cur.length = c * k) (hn : n + 1 ≤ c) (hi : i < n) (hxs : xs.length = k) :
    (splice (splice cur ((i + 1) * k) ((cur.drop (i * k)).take ((n - i) * k))) (i * k) xs).take ((n + 1) * k) = (cur.take (n * k)).take (i * k) ++ xs ++ (cur.take (n * k)).drop (i * k) := by
  have e1 : (n + 1) * k = n * k + k := Nat.succ_mul _ _
  have e2 : (i + 1) * k = i * k + k := Nat.succ_mul _ _
  have e3 : (n - i) * k = n * k - i * k := Nat.sub_mul _ _ _
  have l1 : i * k + k ≤ n * k := by rw [← e2]; exact Nat.mul_le_mul_right _ hi
  have l2 : n * k + k ≤ c * k := by rw [← e1]; exact Nat.mul_le_mul_right _ hn
  have hlc : ((cur.drop (i * k)).take ((n - i) * k)).length = n * k - i * k := by rw [List.length_take, List.length_drop]; omega
  have hls : (splice cur ((i + 1) * k) ((cur.drop (i * k)).take ((n - i) * k))).length = c * k := by rw [length_splice _ _ _ (by omega)]; exact hlen
  apply List.ext_getElem?
  intro j
  rw [ins_get _ xs (i * k) k j (by rw [List.length_take]; omega) hxs, List.getElem?_take, splice_get _ _ _ (by omega), splice_get _ _ _ (by omega), hlc, hxs, e1, e2]
  simp only [List.getElem?_take, List.getElem?_drop]
  repeat' split
  all_goals first | rfl | omega | (congr 1; omega) | (rw [List.getElem?_eq_none]; omega) | (rw [eq_comm, List.getElem?_eq_none]; omega)
theorem ins_grow (L xs R : List Value) (Z : List Value) (n i k : Nat) (hlen : L.length = n * k) (hi : i < n) (hxs : xs.length = k) (hZ : Z.length = (n + 1 - i) * k) :
    (splice (splice (L.take (i * k) ++ Z ++ R) (i * k) xs) ((i + 1) * k) (L.drop (i * k))).take ((n + 1) * k) = L.take (i * k) ++ xs ++ L.drop (i * k) := by
  have e1 : (n + 1) * k = n * k + k := Nat.succ_mul _ _
  have e2 : (i + 1) * k = i * k + k := Nat.succ_mul _ _
  have e3 : (n + 1 - i) * k = n * k + k - i * k := by rw [Nat.sub_mul, e1]
  have l1 : i * k + k ≤ n * k := by rw [← e2]; exact Nat.mul_le_mul_right _ hi
  have lt : (L.take (i * k)).length = i * k := by rw [List.length_take]; omega
  have hlb : (L.take (i * k) ++ Z ++ R).length = n * k + k + R.length := by rw [List.length_append, List.length_append, lt, hZ]; omega
  have hls : (splice (L.take (i * k) ++ Z ++ R) (i * k) xs).length = n * k + k + R.length := by rw [length_splice _ _ _ (by omega)]; exact hlb
  apply List.ext_getElem?
  intro j
  rw [ins_get _ xs (i * k) k j (by omega) hxs, List.getElem?_take, splice_get _ _ _ (by omega), splice_get _ _ _ (by omega), hxs, e1, e2, List.length_drop, hlen]
  simp only [List.getElem?_drop]
  by_cases h1 : j < i * k
  · rw [if_pos (by omega), if_pos (by omega), if_pos (by omega), if_pos (by omega), List.append_assoc, List.getElem?_append_left (by omega), List.getElem?_take, if_pos h1]
  · repeat' split
    all_goals first | rfl | omega | (congr 1; omega) | (rw [List.getElem?_eq_none]; omega) | (rw [eq_comm, List.getElem?_eq_none]; omega)
section
variable {P : Program} {w : World} {ops : Array Oper} {rest : List Oper} {o : Oper} {a : Act} {Q : Exit → Act → World → Prop} {K : Act → World → Prop} {E : Prop}
theorem step_append_cells (hgd : o.guard = none) (s x : Operand) (t e size : Nat) (ho : o.op = .call { callee := .builtin .append, args := #[s, x], argTypes := #[t, t] })
    (ht : P.underlying t = some (.slice e)) (hi : (P.info? e).map (·.size) = some size)
    (g n cap : Nat) (ad : Addr) (m c : Nat) (hs : a.eval s = .slice (some ⟨g, 0, none⟩) n cap) (hx : a.eval x = .slice (some ad) m c)
    (cur : List Value) (hg : w.heap[g]? = some (.cells cur.toArray e (0, 0))) (news : List Value) (hl : news.length = m * size)
    (hnews : ∀ j u, news[j]? = some u → w.cell? (ad.add j) = some u) (h1 : ∀ u ∈ news, u.oneCell' = true) (hroom : n + m ≤ cap) (hfit : n * size + news.length ≤ cur.length)
    (h : ∀ w', Hid (w'.heap[g]? = some (.cells (splice cur (n * size) news).toArray e (0, 0))) → w.grownBy w' (some g) → K (a.put o.dst (.slice (some ⟨g, 0, none⟩) (n + m) cap)) w') :
    if Region.wanted o (yielded ops a.tmps) = true then Oper.wp P o a w K Q else E := by
  have hw : Region.wanted o (yielded ops a.tmps) = true := by simp [Region.wanted, hgd]
  rw [if_pos hw]
  obtain ⟨i, hi0, rfl⟩ := Option.map_eq_some_iff.1 hi
  have hrun := run_append_room (P := P) w t o.type e i ht hi0 g n cap cur.toArray hg ad m c news hl hnews h1 hroom (by simpa using hfit)
  have h2 := h _ (setRow_heap w g _ _ e _ hg) (setRow_grown w g _)
  unfold Oper.wp
  simp only [splice] at h2
  simp [execOp, ho, resolve, invoke, builtin, hs, hx, hrun, Result.andThen]
  exact h2
end
theorem cells_at {w : World} {g : Nat} {cur : List Value} {t : TypeId} (hg : w.heap[g]? = some (.cells cur.toArray t (0, 0))) (o : Nat) {cs : List Value} (hcs : ∀ j v, cs[j]? = some v → cur[o + j]? = some v) (j : Nat) (v : Value) (h : cs[j]? = some v) : w.cell? ((⟨g, o, none⟩ : Addr).add j) = some v := by
  rw [Addr.add_lit]
  simpa [World.cell?, hg] using hcs j v h
end Go.Proofs.YtkbemagcoojmmaaW.Raw
