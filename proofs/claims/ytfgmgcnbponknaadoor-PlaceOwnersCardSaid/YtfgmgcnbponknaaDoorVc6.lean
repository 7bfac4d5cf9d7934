/- Package slices: DeleteFunc of the owners that are not alive, in a list of the call's own. Conditions: the lists are read, owners are no negative numbers. -/
import Derived.Test.YtfgmgcnbponknaaDoorVc5
import Derived.Test.YtfgmgcnbponknaaDoorRaw
namespace Go.Proofs.YtfgmgcnbponknaaDoor.Val
open Go.RowKit Go.Proofs.YtfgmgcnbponknaaDoor.G Go.Proofs.YtfgmgcnbponknaaDoor.Lx Go.Proofs.YtfgmgcnbponknaaDoor.Opn Go.Proofs.YtfgmgcnbponknaaDoorW.PrintWords Go.Proofs.YtfgmgcnbponknaaDoorW.PrintLast Go.Proofs.YtfgmgcnbponknaaDoorW.PrintMore Go.Proofs.YtfgmgcnbponknaaDoorW.Raw
set_option linter.unusedVariables false
set_option linter.unusedSimpArgs false
theorem info3z : (Tryd.prog.info? 3).map (fun i => (i.zero, i.size)) = some (some (.int .i64 0), 1) := by kernel_rfl
def ints (l : List Int) : List Value := l.map (Value.int .i64)
theorem blk_C {w : World} {g : Nat} {cur : List Value} {l : List Int} (h : w.heap[g]? = some (.cells cur.toArray 3 (0, 0))) (hc : cur.take l.length = ints l) (hl : l.length ≤ 9223372036854775807) : Kd.C (Kd.int .i64) w (some ⟨g, 0, none⟩) l.length l := by
  refine ⟨rfl, hl, fun _ => ⟨⟨g, 0, none⟩, rfl, fun j p hj => ⟨[.int .i64 p], rfl, rfl, fun i u hi => ?_⟩⟩⟩
  match i, hi with
  | 0, hi =>
    obtain rfl : Value.int .i64 p = u := by simpa using hi
    have hlt : j < l.length := (List.getElem?_eq_some_iff.1 hj).1
    have e : cur[j]? = some (.int .i64 p) := by
      have e1 : (cur.take l.length)[j]? = (ints l)[j]? := by rw [hc]
      rw [List.getElem?_take, if_pos hlt] at e1
      rw [e1, ints, List.getElem?_map, hj]; rfl
    have := (blk_cell h j).trans (by simpa using e)
    rw [show j * (Kd.int .i64).sz + 0 = j by show j * 1 + 0 = j; omega]
    rcases Nat.eq_zero_or_pos j with h0 | h0
    · subst h0; simpa [Addr.add] using this
    · simpa [Addr.add, Nat.ne_of_gt h0] using this
/-- the first that is not alive -/
def firstD (b : List Bool) : List Int → Nat → Int
  | [], _ => -1
  | x :: r, k => if deadB b x = true then (k : Int) else firstD b r (k + 1)
theorem dropI {l : List Int} {k : Nat} (h : k < l.length) : l.drop k = l.getD k 0 :: l.drop (k + 1) := by
  rw [List.getD_eq_getElem?_getD, List.getElem?_eq_getElem h]
  exact List.drop_eq_getElem_cons h
/-- what the closure reads stands in later worlds -/
def Lives (b : List Bool) (g5 : Nat) (w0 : World) : Prop := ∀ w1 x, Below w0.heap.size w0 w1 → 0 ≤ x → Calls Tryd.prog 37 #[.int .i64 x, .pointer (some ⟨g5, 0, none⟩)] w1 fun e w' => e = .returned (.bool (deadB b x)) ∧ Below w1.heap.size w1 w'
theorem below2 {w0 w w1 : World} (h : Below w0.heap.size w0 w) (k : Below w.heap.size w w1) : Below w0.heap.size w0 w1 := below_step h k
set_option maxHeartbeats 4000000 in
set_option maxRecDepth 100000 in
theorem indexD_calls (g c g5 : Nat) (cur : List Value) (l : List Int) (b : List Bool) (w0 w : World) (hB : Below w0.heap.size w0 w) (hg : w.heap[g]? = some (.cells cur.toArray 3 (0, 0))) (hc : cur.take l.length = ints l) (hl : l.length < 4611686018427387904) (h0 : ∀ x ∈ l, 0 ≤ x) (hd : Lives b g5 w0) :
    Calls Tryd.prog 60 #[.slice (some ⟨g, 0, none⟩) l.length c, .func (.func 37) #[] #[.pointer (some ⟨g5, 0, none⟩)]] w fun e w' => e = .returned (.int .i64 (firstD b l 0)) ∧ Below w.heap.size w w' := by
  have HA := Lib.hid (blk_C hg hc (by omega))
  have HD := Lib.hid hd
  have HZ := Lib.hid h0
  have HBB := Lib.hid hB
  clear hg hc h0 hd hB
  obtain ⟨n, hn⟩ : ∃ n, n = l.length := ⟨_, rfl⟩
  rw [← hn] at HA hl ⊢
  have HN := Lib.hid hn
  clear hn
  go_enter Tryd.func60, Tryd.ntmps60
  go_wp2
  go_loopw [8] (fun vi wr => ∃ k : Nat, vi = .int .i64 k ∧ k ≤ n ∧ Hid (firstD b l 0 = firstD b (l.drop k) k) ∧ Hid (Below w.heap.size w wr)) (fun vi _ => n - (intOf vi).toNat)
  case atStart => exact ⟨0, rfl, Nat.zero_le _, Lib.hid rfl, Lib.hid (Below.refl _ _)⟩
  case round =>
    obtain ⟨k, rfl, hk, HE, HB⟩ := hrel
    by_cases h1 : k < n
    · have hkl : k < l.length := by rw [← HN.out]; exact h1
      obtain ⟨ad, eA, x0⟩ := cell_int (Kd.C_below HA.out HB.out) (j := k) h1
      obtain rfl := Option.some.inj eA
      have x1 : wr.cell? ⟨g, k, none⟩ = some (.int .i64 (l.getD k 0)) := by
        rcases Nat.eq_zero_or_pos k with h | h
        · subst h; simpa [Addr.add] using x0
        · simpa [Addr.add, Nat.ne_of_gt h] using x0
      have hE := HE.out
      rw [dropI hkl] at hE
      have hx0 : 0 ≤ l.getD k 0 := HZ.out _ (by rw [List.getD_eq_getElem?_getD, List.getElem?_eq_getElem hkl]; exact List.getElem_mem hkl)
      obtain ⟨F, hF⟩ : ∃ F, F = l.getD k 0 := ⟨_, rfl⟩
      rw [← hF] at x1 hE hx0
      clear HE hF eA x0
      have hkk : (k : Int) < (n : Int) := by omega
      rcases hs : deadB b F with _ | _
      · have HX := Lib.hid (show firstD b l 0 = firstD b (l.drop (k + 1)) (k + 1) by rw [hE, firstD, hs]; rfl)
        have HS := Lib.hid hs
        clear hE hs
        go_wp2_with (go_at_call 37; refine (HD.out _ F (below2 HBB.out HB.out) hx0).mono ?_; rw [HS.out]; rintro e w6 ⟨rfl, hb⟩; have nB := Lib.hid (below_step HB.out hb); clear HB hb x1; have HB := nB; clear nB)
        go_roundw
        case rel => exact ⟨k + 1, by simp, h1, HX, HB⟩
        case measure => simp [intOf]; omega
      · have HX := Lib.hid (show firstD b l 0 = k by rw [hE, firstD, hs]; rfl)
        have HS := Lib.hid hs
        clear hE hs
        go_wp2_with (go_at_call 37; refine (HD.out _ F (below2 HBB.out HB.out) hx0).mono ?_; rw [HS.out]; rintro e w6 ⟨rfl, hb⟩; have nB := Lib.hid (below_step HB.out hb); clear HB hb x1; have HB := nB; clear nB)
        go_ret
        rw [HX.out]
        exact ⟨rfl, HB.out⟩
    · obtain rfl : k = n := by omega
      have HX := Lib.hid (show firstD b l 0 = -1 by rw [HE.out, show l.drop k = [] from List.drop_of_length_le (by rw [← HN.out]; exact Nat.le_refl _)]; rfl)
      go_wp2
      go_ret
      rw [HX.out]
      exact ⟨rfl, HB.out⟩
theorem zeros_one (n : Nat) : ∀ v ∈ (Builtin.zeroCells (Value.int IntKind.i64 0).cells n).toList, v.oneCell' = true := by
  intro v hv
  simp only [Builtin.zeroCells, Array.toList_map, List.mem_map] at hv
  obtain ⟨i, _, rfl⟩ := hv
  have e : i % (Value.int IntKind.i64 0).cells.size = 0 := by show i % 1 = 0; omega
  rw [e]
  rfl
def keepL (b : List Bool) (l : List Int) : List Int := l.filter fun x => !deadB b x
theorem keep_snoc (b : List Bool) (l : List Int) (j : Nat) (h : j < l.length) : keepL b (l.take (j + 1)) = keepL b (l.take j) ++ (if deadB b (l.getD j 0) = true then [] else [l.getD j 0]) := by
  rw [List.take_succ_eq_append_getElem h, keepL, List.filter_append, List.getD_eq_getElem?_getD, List.getElem?_eq_getElem h]
  show _ = keepL b (l.take j) ++ _
  congr 1
  simp only [Option.getD_some]
  rcases hd : deadB b l[j] with _ | _ <;> simp [hd]
theorem firstD_spec (b : List Bool) : ∀ (l : List Int) (k : Nat), (firstD b l k = -1 ∧ keepL b l = l) ∨ ∃ i, i < l.length ∧ firstD b l k = ((k + i : Nat) : Int) ∧ keepL b (l.take (i + 1)) = l.take i
  | [], _ => .inl ⟨rfl, rfl⟩
  | x :: r, k => by
    unfold firstD
    rcases h : deadB b x with _ | _
    · rcases firstD_spec b r (k + 1) with ⟨h1, h2⟩ | ⟨i, h1, h2, h3⟩
      · exact .inl ⟨by rw [if_neg (by simp)]; exact h1, by rw [show keepL b (x :: r) = x :: keepL b r by simp [keepL, h], h2]⟩
      · refine .inr ⟨i + 1, by simpa using h1, by rw [if_neg (by simp), h2]; congr 1; omega, ?_⟩
        rw [List.take_succ_cons, List.take_succ_cons]
        simp only [keepL, List.filter_cons, h] at h3 ⊢
        simpa using h3
    · refine .inr ⟨0, by simp, by rw [if_pos rfl]; simp, ?_⟩
      simp [keepL, h]
set_option maxHeartbeats 8000000 in
set_option maxRecDepth 100000 in
theorem deleteD_calls (g c g5 : Nat) (cur : List Value) (l : List Int) (b : List Bool) (w0 w : World) (hB : Below w0.heap.size w0 w) (hbg : w0.heap.size ≤ g) (hg : w.heap[g]? = some (.cells cur.toArray 3 (0, 0))) (hc : cur.take l.length = ints l) (hlc : l.length ≤ c) (hcc : cur.length = c) (hl : l.length < 4611686018427387904) (h0 : ∀ x ∈ l, 0 ≤ x) (hd : Lives b g5 w0) :
    Calls Tryd.prog 35 #[.slice (some ⟨g, 0, none⟩) l.length c, .func (.func 37) #[] #[.pointer (some ⟨g5, 0, none⟩)]] w fun e w' => e = .returned (.slice (some ⟨g, 0, none⟩) (keepL b l).length c) ∧ Hid (Kd.C (Kd.int .i64) w' (some ⟨g, 0, none⟩) (keepL b l).length (keepL b l)) ∧ Hid (Below w0.heap.size w0 w') := by
  have HI := Lib.hid (indexD_calls g c g5 cur l b w0 w hB hg hc hl h0 hd)
  have HG := Lib.hid hg
  have HC := Lib.hid hc
  have HD := Lib.hid hd
  have HZ := Lib.hid h0
  have HBB := Lib.hid hB
  have HCC := Lib.hid hcc
  clear hg hc h0 hd hB hcc
  obtain ⟨r, hr⟩ : ∃ r, r = keepL b l := ⟨_, rfl⟩
  rw [← hr]
  have HRR := Lib.hid hr
  clear hr
  rcases firstD_spec b l 0 with ⟨h1, h2⟩ | ⟨i, h1, h2, h3⟩
  · have H1 := Lib.hid h1
    obtain rfl : r = l := by rw [HRR.out, h2]
    clear h1 h2
    go_enter Tryd.func35, Tryd.ntmps35
    go_wp2_with (go_at_call 60; refine HI.out.mono ?_; rw [H1.out]; rintro e w6 ⟨rfl, hb⟩)
    go_ret
    exact ⟨rfl, Lib.hid (blk_C (blk_below HG.out hb) HC.out (by omega)), Lib.hid (below2 HBB.out hb)⟩
  · rw [Nat.zero_add] at h2
    have H2 := Lib.hid h2
    have H3 := Lib.hid h3
    clear h2 h3
    obtain ⟨n, hn⟩ : ∃ n, n = l.length := ⟨_, rfl⟩
    rw [← hn] at HI HC hlc hl h1
    rw [← hn]
    have HN := Lib.hid hn
    clear hn
    have e1 : ((i : Int) == -1) = false := by simp
    have w1 : IntKind.i64.wrap ((i : Int) + 1) = (i : Int) + 1 := by rw [IntKind.wrap_i64]; omega
    go_enter Tryd.func35, Tryd.ntmps35
    go_wp2_with (go_at_call 60; refine HI.out.mono ?_; rw [H2.out]; rintro e w6 ⟨rfl, hb⟩; have HB6 := Lib.hid (below2 HBB.out hb); have HG6 := Lib.hid (blk_below HG.out hb); clear hb)
    go_loopw [5, 6] (fun v5 v6 wr => ∃ (p j : Nat) (X : List Value), v5 = .int .i64 p ∧ v6 = .int .i64 j ∧ p < j ∧ j ≤ n ∧ Hid (X.length = c) ∧ Hid (p = (keepL b (l.take j)).length) ∧ Hid (X.take p = ints (keepL b (l.take j))) ∧ Hid (∀ q, j ≤ q → q < n → X[q]? = some (.int .i64 (l.getD q 0))) ∧ Hid (wr.heap[g]? = some (.cells X.toArray 3 (0, 0))) ∧ Hid (Below w0.heap.size w0 wr)) (fun _ v6 _ => n - (intOf v6).toNat)
    case atStart =>
      refine ⟨i, i + 1, cur, rfl, by simp, by omega, by omega, HCC, Lib.hid ?_, Lib.hid ?_, Lib.hid ?_, HG6, HB6⟩
      · rw [H3.out, List.length_take, ← HN.out, Nat.min_eq_left (by omega)]
      · rw [H3.out]
        have := congrArg (List.take i) HC.out
        rw [List.take_take, Nat.min_eq_left (by omega)] at this
        rw [this, ints, ints, List.map_take]
      · intro q hq1 hq2
        have e : (cur.take n)[q]? = (ints l)[q]? := by rw [HC.out]
        rw [List.getElem?_take, if_pos hq2] at e
        rw [e, ints, List.getElem?_map, List.getElem?_eq_getElem (by rw [← HN.out]; exact hq2), List.getD_eq_getElem?_getD, List.getElem?_eq_getElem (by rw [← HN.out]; exact hq2)]
        rfl
    case round =>
      obtain ⟨p, j, X, rfl, rfl, hpj, hjn, HXL, HP, HXT, HXR, HGX, HBX⟩ := hrel
      have hpX : p < X.length := by rw [HXL.out]; omega
      by_cases hj : j < n
      · have hjl : j < l.length := by rw [← HN.out]; exact hj
        have x1 : wr.cell? ⟨g, j, none⟩ = some (.int .i64 (l.getD j 0)) := (blk_cell HGX.out j).trans (by have := HXR.out j (Nat.le_refl _) hj; simpa using this)
        have hx0 : 0 ≤ l.getD j 0 := HZ.out _ (by rw [List.getD_eq_getElem?_getD, List.getElem?_eq_getElem hjl]; exact List.getElem_mem hjl)
        have hsn := keep_snoc b l j hjl
        obtain ⟨F, hF⟩ : ∃ F, F = l.getD j 0 := ⟨_, rfl⟩
        rw [← hF] at x1 hx0 hsn
        have HFF := Lib.hid hF
        clear hF
        have q1 : (j : Int) < (n : Int) := by omega
        have wj : IntKind.i64.wrap ((j : Int) + 1) = (j : Int) + 1 := by rw [IntKind.wrap_i64]; omega
        have wp : IntKind.i64.wrap ((p : Int) + 1) = (p : Int) + 1 := by rw [IntKind.wrap_i64]; omega
        have q2 : (p : Int) < (n : Int) := by omega
        rcases hs : deadB b F with _ | _
        · rw [hs, if_neg (by simp)] at hsn
          have HS := Lib.hid hs
          have HSN := Lib.hid hsn
          clear hs hsn
          have x2 := blk_frozen HGX.out p
          go_wp2_with (go_at_call 37; refine (HD.out _ F HBX.out hx0).mono ?_; rw [HS.out]; rintro e w7 ⟨rfl, hb⟩; have nG := Lib.hid (blk_below HGX.out hb); have nB := Lib.hid (below2 HBX.out hb); clear hb x1 x2; have x3 := (blk_cell nG.out p).trans (Array.getElem?_eq_getElem (by simpa using hpX)); have x2 := blk_frozen nG.out p)
          go_roundw
          case rel =>
            refine ⟨p + 1, j + 1, X.set p (.int .i64 F), by simp, by simp, by omega, by omega, Lib.hid (by rw [List.length_set]; exact HXL.out), Lib.hid (by rw [HSN.out, List.length_append, ← HP.out]; rfl), Lib.hid ?_, Lib.hid (fun q h1 h2 => by rw [List.getElem?_set_ne (by omega)]; exact HXR.out q (by omega) h2), Lib.hid (blk_put nG.out p (.int .i64 F) (List.setIfInBounds_toArray ..)), Lib.hid (nB.out.setCell hbg _)⟩
            rw [HSN.out, ints, List.map_append, List.take_succ_eq_append_getElem (by rw [List.length_set]; exact hpX), List.take_set_of_le (Nat.le_refl _), List.getElem_set_self, HXT.out]
            rfl
          case measure => simp [intOf]; omega
        · rw [hs, if_pos rfl, List.append_nil] at hsn
          have HS := Lib.hid hs
          have HSN := Lib.hid hsn
          clear hs hsn
          go_wp2_with (go_at_call 37; refine (HD.out _ F HBX.out hx0).mono ?_; rw [HS.out]; rintro e w7 ⟨rfl, hb⟩; have nG := Lib.hid (blk_below HGX.out hb); have nB := Lib.hid (below2 HBX.out hb); clear hb x1)
          go_roundw
          case rel => exact ⟨p, j + 1, X, rfl, by simp, by omega, by omega, HXL, Lib.hid (by rw [HSN.out]; exact HP.out), Lib.hid (by rw [HSN.out]; exact HXT.out), Lib.hid (fun q h1 h2 => HXR.out q (by omega) h2), nG, nB⟩
          case measure => simp [intOf]; omega
      · obtain rfl : j = n := by omega
        have hk : l.take j = l := List.take_of_length_le (by rw [← HN.out]; exact Nat.le_refl _)
        rw [hk, ← HRR.out] at HP HXT
        have q3 : (p : Int) ≤ (j : Int) := by omega
        have q4 : p ≤ j := by omega
        clear hk HXR
        have q5 : ¬ (c = p) := by omega
        go_wp2_with (with_reducible refine wpList_clear_cells rfl (.tmp 38) 42 rfl 3 1 (.int .i64 0) Tryd.underlying42 info3z rfl g p (j - p) (c - p) rfl X HGX.out (by rw [HXL.out]; omega) (zeros_one _) ?_; intro w2 HG2 hgr2; have Hg2 := Lib.hid hgr2; clear hgr2)
        go_ret
        refine ⟨congrArg (fun z => Ending.returned (.slice (some ⟨g, 0, none⟩) z c)) HP.out, Lib.hid (blk_C HG2.out ?_ (by rw [← HP.out]; omega)), Lib.hid (HBX.out.grown Hg2.out HBX.out.size (fun k h => by cases h; exact hbg))⟩
        rw [← HP.out, splice, List.take_append_of_le_length (by rw [List.length_take, HXL.out]; omega), List.take_take, Nat.min_self]
        exact HXT.out
end Go.Proofs.YtfgmgcnbponknaaDoor.Val
