/- CheckIn of package stream, and of its document. Conditions: what is held is read; Next is a uint64. Printed by gci.py. -/
import Derived.Test.YtkbemagcoojmmaaCbQ1
namespace Go.Proofs.Ytkbemagcoojmmaa.Val
open Go.RowKit Go.Proofs.Ytkbemagcoojmmaa.G Go.Proofs.Ytkbemagcoojmmaa.Lx Go.Proofs.YtkbemagcoojmmaaW.PrintWords Go.Proofs.YtkbemagcoojmmaaW.PrintLast Go.Proofs.YtkbemagcoojmmaaW.PrintMore
set_option linter.unusedVariables false
set_option linter.unusedSimpArgs false
def badB (next last : Int) (b : S83) (more : Bool) : Bool := decide (b.f0 ≤ last) || decide (4 ≤ IntKind.u64.wrap (b.f0 - next)) || decide (512 ≤ b.f0) || decide (8 < b.f2.length) || (b.f1 && more)
def bads (next : Int) : Int → List S83 → Bool
  | _, [] => false
  | last, b :: t => badB next last b (!t.isEmpty) || bads next b.f0 t
def inBad (next : Int) (l : List S83) (m : Nat) (done : Bool) : Bool := decide (512 < next) || decide (8 * next < (m : Int)) || (done && (decide (0 < l.length) || next == 0)) || bads next next l
def inV (next : Int) (l : List S83) (m : Nat) (done : Bool) : Int := if inBad next l m done then 6 else 0
theorem drop83 {l : List S83} {k : Nat} (h : k < l.length) : l.drop k = l.getD k z83 :: l.drop (k + 1) := by
  rw [List.getD_eq_getElem?_getD, List.getElem?_eq_getElem h]
  exact List.drop_eq_getElem_cons h
set_option maxHeartbeats 2000000 in
theorem ci_first (a0 a1 a2 a3 a4 next : Int) (A D : Option Addr) (n m c d : Nat) (done : Bool) (w : World) (h0 : 0 ≤ next) (hm : m ≤ 4611686018427387904) (h : (decide (512 < next) || decide (8 * next < (m : Int)) || (done && (decide (0 < n) || next == 0))) = true) :
    Calls Try.prog 14 #[.agg #[.int .u64 a0, .int .u64 a1, .int .i64 a2, .int .i64 a3, .int .i64 a4, .int .u64 next, .slice A n c, .slice D m d, .bool done]] w fun e w' => e = .returned (.int .i64 6) ∧ Below w.heap.size w w' := by
  have HB := Lib.hid (Below.refl w.heap.size w)
  by_cases h1 : 512 < next
  · have e1 : decide (512 < next) = true := decide_eq_true h1
    clear h
    go_enter Try.func14, Try.ntmps14
    go_wp2_with (((with_reducible refine gate_dst (N := 1) rfl ?_); refine box_event ?hg (N := 1) ?hd (cs := #[.int .u64 a0, .int .u64 a1, .int .i64 a2, .int .i64 a3, .int .i64 a4, .int .u64 next, .slice A n c, .slice D m d, .bool done]) (t := 30) ?hr ?_; (case hd => rfl); (case hg => rfl); (case hr => first | (go_simp; done) | (go_simp; rfl)); intro g1 hg wb1 hbx hb; have Eg1 := Lib.hid (show w.heap.size ≤ g1 by rw [hg]; exact HB.out.size); have n_HB := Lib.hid (below_step HB.out hb); clear HB; have HB := n_HB; clear n_HB; have B1 := Lib.hid hbx; clear hg hbx hb; have p1_1 := (blk_cell B1.out 1).trans rfl; have p1_2 := (blk_cell B1.out 2).trans rfl; have p1_3 := (blk_cell B1.out 3).trans rfl; have p1_4 := (blk_cell B1.out 4).trans rfl; have p1_5 := (blk_cell B1.out 5).trans rfl; have p1_6 := (blk_cell B1.out 6).trans rfl; have p1_7 := (blk_cell B1.out 7).trans rfl; have p1_8 := (blk_cell B1.out 8).trans rfl; have l1 := blk_lt B1.out))
    go_ret
    exact ⟨rfl, HB.out⟩
  · have e1 : decide (512 < next) = false := decide_eq_false h1
    have hw1 : wrap64 next = next := by unfold wrap64; omega
    have hw2 : wrap64 (8 * next) = 8 * next := by unfold wrap64; omega
    have hw3 : IntKind.i64.wrap next = next := by simp only [IntKind.wrap, IntKind.bits, IntKind.signed]; first | omega | (simp; omega)
    by_cases h2 : 8 * next < (m : Int)
    · have e2 : decide (8 * next < (m : Int)) = true := decide_eq_true h2
      clear h
      go_enter Try.func14, Try.ntmps14
      go_wp2_with (((with_reducible refine gate_dst (N := 1) rfl ?_); refine box_event ?hg (N := 1) ?hd (cs := #[.int .u64 a0, .int .u64 a1, .int .i64 a2, .int .i64 a3, .int .i64 a4, .int .u64 next, .slice A n c, .slice D m d, .bool done]) (t := 30) ?hr ?_; (case hd => rfl); (case hg => rfl); (case hr => first | (go_simp; done) | (go_simp; rfl)); intro g1 hg wb1 hbx hb; have Eg1 := Lib.hid (show w.heap.size ≤ g1 by rw [hg]; exact HB.out.size); have n_HB := Lib.hid (below_step HB.out hb); clear HB; have HB := n_HB; clear n_HB; have B1 := Lib.hid hbx; clear hg hbx hb; have p1_1 := (blk_cell B1.out 1).trans rfl; have p1_2 := (blk_cell B1.out 2).trans rfl; have p1_3 := (blk_cell B1.out 3).trans rfl; have p1_4 := (blk_cell B1.out 4).trans rfl; have p1_5 := (blk_cell B1.out 5).trans rfl; have p1_6 := (blk_cell B1.out 6).trans rfl; have p1_7 := (blk_cell B1.out 7).trans rfl; have p1_8 := (blk_cell B1.out 8).trans rfl; have l1 := blk_lt B1.out))
      go_ret
      exact ⟨rfl, HB.out⟩
    · have e2 : decide (8 * next < (m : Int)) = false := decide_eq_false h2
      rw [e1, e2, Bool.false_or, Bool.false_or] at h
      rcases done with _ | _
      · cases h
      · rw [Bool.true_and] at h
        by_cases h3 : 0 < n
        · have e3 : decide ((0 : Int) < (n : Int)) = true := decide_eq_true (by omega)
          have e3' : decide (0 < n) = true := decide_eq_true h3
          clear h
          go_enter Try.func14, Try.ntmps14
          go_wp2_with (((with_reducible refine gate_dst (N := 1) rfl ?_); refine box_event ?hg (N := 1) ?hd (cs := #[.int .u64 a0, .int .u64 a1, .int .i64 a2, .int .i64 a3, .int .i64 a4, .int .u64 next, .slice A n c, .slice D m d, .bool true]) (t := 30) ?hr ?_; (case hd => rfl); (case hg => rfl); (case hr => first | (go_simp; done) | (go_simp; rfl)); intro g1 hg wb1 hbx hb; have Eg1 := Lib.hid (show w.heap.size ≤ g1 by rw [hg]; exact HB.out.size); have n_HB := Lib.hid (below_step HB.out hb); clear HB; have HB := n_HB; clear n_HB; have B1 := Lib.hid hbx; clear hg hbx hb; have p1_1 := (blk_cell B1.out 1).trans rfl; have p1_2 := (blk_cell B1.out 2).trans rfl; have p1_3 := (blk_cell B1.out 3).trans rfl; have p1_4 := (blk_cell B1.out 4).trans rfl; have p1_5 := (blk_cell B1.out 5).trans rfl; have p1_6 := (blk_cell B1.out 6).trans rfl; have p1_7 := (blk_cell B1.out 7).trans rfl; have p1_8 := (blk_cell B1.out 8).trans rfl; have l1 := blk_lt B1.out))
          go_ret
          exact ⟨rfl, HB.out⟩
        · obtain rfl : n = 0 := by omega
          have h4 : next = 0 := by simpa using h
          subst h4
          obtain rfl : m = 0 := by omega
          clear h
          go_enter Try.func14, Try.ntmps14
          go_wp2_with (((with_reducible refine gate_dst (N := 1) rfl ?_); refine box_event ?hg (N := 1) ?hd (cs := #[.int .u64 a0, .int .u64 a1, .int .i64 a2, .int .i64 a3, .int .i64 a4, .int .u64 0, .slice A 0 c, .slice D 0 d, .bool true]) (t := 30) ?hr ?_; (case hd => rfl); (case hg => rfl); (case hr => first | (go_simp; done) | (go_simp; rfl)); intro g1 hg wb1 hbx hb; have Eg1 := Lib.hid (show w.heap.size ≤ g1 by rw [hg]; exact HB.out.size); have n_HB := Lib.hid (below_step HB.out hb); clear HB; have HB := n_HB; clear n_HB; have B1 := Lib.hid hbx; clear hg hbx hb; have p1_1 := (blk_cell B1.out 1).trans rfl; have p1_2 := (blk_cell B1.out 2).trans rfl; have p1_3 := (blk_cell B1.out 3).trans rfl; have p1_4 := (blk_cell B1.out 4).trans rfl; have p1_5 := (blk_cell B1.out 5).trans rfl; have p1_6 := (blk_cell B1.out 6).trans rfl; have p1_7 := (blk_cell B1.out 7).trans rfl; have p1_8 := (blk_cell B1.out 8).trans rfl; have l1 := blk_lt B1.out))
          go_ret
          exact ⟨rfl, HB.out⟩
set_option maxHeartbeats 8000000 in
set_option maxRecDepth 100000 in
theorem ci_main (a0 a1 a2 a3 a4 next : Int) (A D : Option Addr) (m c d : Nat) (done : Bool) (l : List S83) (w : World) (hr : Kd.C k83 w A l.length l) (hl : l.length ≤ 4611686018427387904) (h0 : 0 ≤ next) (hm : m ≤ 4611686018427387904) (h : (decide (512 < next) || decide (8 * next < (m : Int)) || (done && (decide (0 < l.length) || next == 0))) = false) :
    Calls Try.prog 14 #[.agg #[.int .u64 a0, .int .u64 a1, .int .i64 a2, .int .i64 a3, .int .i64 a4, .int .u64 next, .slice A l.length c, .slice D m d, .bool done]] w fun e w' => e = .returned (.int .i64 (if bads next next l then 6 else 0)) ∧ Below w.heap.size w w' := by
  have HB := Lib.hid (Below.refl w.heap.size w)
  have HR := Lib.hid hr
  rw [Bool.or_eq_false_iff, Bool.or_eq_false_iff] at h
  obtain ⟨⟨e1, e2⟩, h3⟩ := h
  have h1 : next ≤ 512 := by have := of_decide_eq_false e1; omega
  have hw1 : wrap64 next = next := by unfold wrap64; omega
  have hw2 : wrap64 (8 * next) = 8 * next := by unfold wrap64; omega
  have hw3 : IntKind.i64.wrap next = next := by simp only [IntKind.wrap, IntKind.bits, IntKind.signed]; first | omega | (simp; omega)
  obtain ⟨res, hres⟩ : ∃ res : Int, res = if bads next next l then 6 else 0 := ⟨_, rfl⟩
  rw [← hres]
  have HRES := Lib.hid hres
  obtain ⟨n, hN⟩ : ∃ n, n = l.length := ⟨_, rfl⟩
  rw [← hN] at HR hl h3 ⊢
  have HN := Lib.hid hN
  clear hN hr hres
  have hd : done = false ∨ (done = true ∧ n = 0 ∧ (next == 0) = false) := by
    rcases done with _ | _
    · exact .inl rfl
    · rw [Bool.true_and, Bool.or_eq_false_iff] at h3
      exact .inr ⟨rfl, by have := of_decide_eq_false h3.1; omega, h3.2⟩
  clear h3
  rcases hd with rfl | ⟨rfl, rfl, e3⟩
  · go_enter Try.func14, Try.ntmps14
    go_wp2_with (((with_reducible refine gate_dst (N := 1) rfl ?_); refine box_event ?hg (N := 1) ?hd (cs := #[.int .u64 a0, .int .u64 a1, .int .i64 a2, .int .i64 a3, .int .i64 a4, .int .u64 next, .slice A n c, .slice D m d, .bool false]) (t := 30) ?hr ?_; (case hd => rfl); (case hg => rfl); (case hr => first | (go_simp; done) | (go_simp; rfl)); intro g1 hg wb1 hbx hb; have Eg1 := Lib.hid (show w.heap.size ≤ g1 by rw [hg]; exact HB.out.size); have n_HB := Lib.hid (below_step HB.out hb); clear HB; have HB := n_HB; clear n_HB; have B1 := Lib.hid hbx; clear hg hbx hb; have p1_1 := (blk_cell B1.out 1).trans rfl; have p1_2 := (blk_cell B1.out 2).trans rfl; have p1_3 := (blk_cell B1.out 3).trans rfl; have p1_4 := (blk_cell B1.out 4).trans rfl; have p1_5 := (blk_cell B1.out 5).trans rfl; have p1_6 := (blk_cell B1.out 6).trans rfl; have p1_7 := (blk_cell B1.out 7).trans rfl; have p1_8 := (blk_cell B1.out 8).trans rfl; have l1 := blk_lt B1.out))
    go_loopw [39, 3] (fun vk vl wr => ∃ (k : Nat) (last : Int), vk = .int .i64 k ∧ vl = .int .u64 last ∧ k ≤ n ∧ Hid (next ≤ last) ∧ Hid (last = if k = 0 then next else seqAt l (k - 1)) ∧ Hid (res = if bads next last (l.drop k) then 6 else 0) ∧ Hid (wr.heap[g1]? = some (.cells #[.int .u64 a0, .int .u64 a1, .int .i64 a2, .int .i64 a3, .int .i64 a4, .int .u64 next, .slice A n c, .slice D m d, .bool false] 30 (0, 0))) ∧ Hid (Below w.heap.size w wr)) (fun vk _ _ => n - (intOf vk).toNat)
    case atStart => exact ⟨0, next, rfl, rfl, Nat.zero_le _, Lib.hid (Int.le_refl _), Lib.hid rfl, HRES, B1, HB⟩
    case round =>
      clear HRES B1 HB
      obtain ⟨k, last, rfl, rfl, hk, HNL, HLS, HE, B1, HB⟩ := hrel
      have p1_1 := (blk_cell B1.out 5).trans rfl
      have p1_2 := (blk_cell B1.out 6).trans rfl
      by_cases hlt : k < n
      · have hkl : k < l.length := by rw [← HN.out]; exact hlt
        obtain ⟨ad, A2, c2, eA, x0, x1, x2, _⟩ := at_T83 (Kd.C_below HR.out HB.out) (k : Int) (by omega) (by omega)
        simp only [Int.toNat_natCast] at x0 x1 x2
        have hF : rd_T83 l (k : Int) = l.getD k z83 := by simp [rd_T83]
        rw [hF] at x0 x1 x2
        have hE := HE.out
        rw [drop83 hkl, bads] at hE
        have hmore : (!(l.drop (k + 1)).isEmpty) = decide (k + 1 < n) := by
          rw [HN.out]
          by_cases h9 : k + 1 < l.length
          · rw [decide_eq_true h9, drop83 h9]; rfl
          · rw [decide_eq_false h9, List.drop_of_length_le (by omega)]; rfl
        rw [hmore] at hE
        have hsq : seqAt l k = (l.getD k z83).f0 := rfl
        generalize l.getD k z83 = F at x0 x1 x2 hE hsq
        subst eA
        obtain ⟨q, hq⟩ : ∃ q, q = F.f2.length := ⟨_, rfl⟩
        unfold badB at hE
        rw [← hq] at x2 hE
        have HE2 := Lib.hid hE
        have HSQ := Lib.hid hsq
        clear hE HE hF hq hmore hkl hsq
        have hkk : (k : Int) < (n : Int) := by omega
        by_cases kc0 : F.f0 ≤ last
        · have y0 := decide_eq_true kc0
          have HR2 := Lib.hid (show res = 6 by rw [HE2.out, decide_eq_true kc0]; simp)
          clear HE2 kc0
          go_wp2_with (first
            | ((with_reducible refine gate_dst (N := 5) rfl ?_); refine box_event ?hg (N := 5) ?hd (cs := #[.int .u64 0, .bool false, .slice none 0 0]) (t := 83) ?hr ?_; (case hd => rfl); (case hg => rfl); (case hr => first | (go_simp; done) | (go_simp; rfl)); intro g5 hg wb5 hbx hb; have Eg5 := Lib.hid (show w.heap.size ≤ g5 by rw [hg]; exact HB.out.size); have Ne1_5 := Lib.hid (show ¬ g1 = g5 by rw [hg]; have := blk_lt B1.out; omega); (try clear p1_5 p1_6); have n_B1 := Lib.hid (blk_below B1.out hb); have n_HB := Lib.hid (below_step HB.out hb); clear B1 HB; have B1 := n_B1; have HB := n_HB; clear n_B1 n_HB; have p1_5 := (blk_cell B1.out 5).trans rfl; have p1_6 := (blk_cell B1.out 6).trans rfl; have B5 := Lib.hid hbx; clear hg hbx hb; have l5 := blk_lt B5.out)
            | ((with_reducible refine gate_store (t := 83) (p := 5) rfl ?_); have zc0 := (blk_cell B5.out 0).trans rfl; have zf0 := blk_frozen B5.out 0; have zc1 := (blk_cell B5.out 1).trans rfl; have zf1 := blk_frozen B5.out 1; have zc2 := (blk_cell B5.out 2).trans rfl; have zf2 := blk_frozen B5.out 2; refine store_event (t := 83) (p := 5) (v := ?vows1) (w1 := setAll wb5 g5 0 [.int .u64 F.f0, .bool F.f1, .slice A2 q c2]) ?hg ?ho ?hn ?hr ?_; (case ho => rfl); (case hg => rfl); (case hn => rfl); (case hr => first | (go_simp; done) | (go_simp; rfl)); intro ws1 hw; clear zc0 zf0 zc1 zf1 zc2 zf2; (try clear p1_5 p1_6 p5_0 p5_1 p5_2); have n_B1 := Lib.hid (((by rw [hw]; exact blk_kept B1.out (setAll_kept [.int .u64 F.f0, .bool F.f1, .slice A2 q c2] 0 wb5) (fun e_ => Ne1_5.out e_)) : ws1.heap[g1]? = some (.cells #[.int .u64 a0, .int .u64 a1, .int .i64 a2, .int .i64 a3, .int .i64 a4, .int .u64 next, .slice (some ad) n c, .slice D m d, .bool false] 30 (0, 0)))); have n_B5 := Lib.hid (((by rw [hw]; exact setAll_box [.int .u64 F.f0, .bool F.f1, .slice A2 q c2] B5.out rfl) : ws1.heap[g5]? = some (.cells #[.int .u64 F.f0, .bool F.f1, .slice A2 q c2] 83 (0, 0)))); have n_HB := Lib.hid ((by rw [hw]; exact setAll_below Eg5.out [.int .u64 F.f0, .bool F.f1, .slice A2 q c2] 0 wb5 HB.out : Below w.heap.size w ws1)); clear B1 B5 HB; have B1 := n_B1; have B5 := n_B5; have HB := n_HB; clear n_B1 n_B5 n_HB; clear hw; have p1_5 := (blk_cell B1.out 5).trans rfl; have p1_6 := (blk_cell B1.out 6).trans rfl; have p5_0 := (blk_cell B5.out 0).trans rfl; have p5_1 := (blk_cell B5.out 1).trans rfl; have p5_2 := (blk_cell B5.out 2).trans rfl; skip))
          go_ret
          exact ⟨by rw [HR2.out]; rfl, HB.out⟩
        · have y0 := decide_eq_false kc0
          have z0 := kc0
          by_cases kc1 : 4 ≤ IntKind.u64.wrap (F.f0 - next)
          · have y1 := decide_eq_true kc1
            have HR2 := Lib.hid (show res = 6 by rw [HE2.out, decide_eq_false z0, decide_eq_true kc1]; simp)
            clear HE2 kc1
            go_wp2_with (first
              | ((with_reducible refine gate_dst (N := 5) rfl ?_); refine box_event ?hg (N := 5) ?hd (cs := #[.int .u64 0, .bool false, .slice none 0 0]) (t := 83) ?hr ?_; (case hd => rfl); (case hg => rfl); (case hr => first | (go_simp; done) | (go_simp; rfl)); intro g5 hg wb5 hbx hb; have Eg5 := Lib.hid (show w.heap.size ≤ g5 by rw [hg]; exact HB.out.size); have Ne1_5 := Lib.hid (show ¬ g1 = g5 by rw [hg]; have := blk_lt B1.out; omega); (try clear p1_5 p1_6); have n_B1 := Lib.hid (blk_below B1.out hb); have n_HB := Lib.hid (below_step HB.out hb); clear B1 HB; have B1 := n_B1; have HB := n_HB; clear n_B1 n_HB; have p1_5 := (blk_cell B1.out 5).trans rfl; have p1_6 := (blk_cell B1.out 6).trans rfl; have B5 := Lib.hid hbx; clear hg hbx hb; have l5 := blk_lt B5.out)
              | ((with_reducible refine gate_store (t := 83) (p := 5) rfl ?_); have zc0 := (blk_cell B5.out 0).trans rfl; have zf0 := blk_frozen B5.out 0; have zc1 := (blk_cell B5.out 1).trans rfl; have zf1 := blk_frozen B5.out 1; have zc2 := (blk_cell B5.out 2).trans rfl; have zf2 := blk_frozen B5.out 2; refine store_event (t := 83) (p := 5) (v := ?vows1) (w1 := setAll wb5 g5 0 [.int .u64 F.f0, .bool F.f1, .slice A2 q c2]) ?hg ?ho ?hn ?hr ?_; (case ho => rfl); (case hg => rfl); (case hn => rfl); (case hr => first | (go_simp; done) | (go_simp; rfl)); intro ws1 hw; clear zc0 zf0 zc1 zf1 zc2 zf2; (try clear p1_5 p1_6 p5_0 p5_1 p5_2); have n_B1 := Lib.hid (((by rw [hw]; exact blk_kept B1.out (setAll_kept [.int .u64 F.f0, .bool F.f1, .slice A2 q c2] 0 wb5) (fun e_ => Ne1_5.out e_)) : ws1.heap[g1]? = some (.cells #[.int .u64 a0, .int .u64 a1, .int .i64 a2, .int .i64 a3, .int .i64 a4, .int .u64 next, .slice (some ad) n c, .slice D m d, .bool false] 30 (0, 0)))); have n_B5 := Lib.hid (((by rw [hw]; exact setAll_box [.int .u64 F.f0, .bool F.f1, .slice A2 q c2] B5.out rfl) : ws1.heap[g5]? = some (.cells #[.int .u64 F.f0, .bool F.f1, .slice A2 q c2] 83 (0, 0)))); have n_HB := Lib.hid ((by rw [hw]; exact setAll_below Eg5.out [.int .u64 F.f0, .bool F.f1, .slice A2 q c2] 0 wb5 HB.out : Below w.heap.size w ws1)); clear B1 B5 HB; have B1 := n_B1; have B5 := n_B5; have HB := n_HB; clear n_B1 n_B5 n_HB; clear hw; have p1_5 := (blk_cell B1.out 5).trans rfl; have p1_6 := (blk_cell B1.out 6).trans rfl; have p5_0 := (blk_cell B5.out 0).trans rfl; have p5_1 := (blk_cell B5.out 1).trans rfl; have p5_2 := (blk_cell B5.out 2).trans rfl; skip))
            go_ret
            exact ⟨by rw [HR2.out]; rfl, HB.out⟩
          · have y1 := decide_eq_false kc1
            have z1 := kc1
            by_cases kc2 : 512 ≤ F.f0
            · have y2 := decide_eq_true kc2
              have HR2 := Lib.hid (show res = 6 by rw [HE2.out, decide_eq_false z0, decide_eq_false z1, decide_eq_true kc2]; simp)
              clear HE2 kc2
              go_wp2_with (first
                | ((with_reducible refine gate_dst (N := 5) rfl ?_); refine box_event ?hg (N := 5) ?hd (cs := #[.int .u64 0, .bool false, .slice none 0 0]) (t := 83) ?hr ?_; (case hd => rfl); (case hg => rfl); (case hr => first | (go_simp; done) | (go_simp; rfl)); intro g5 hg wb5 hbx hb; have Eg5 := Lib.hid (show w.heap.size ≤ g5 by rw [hg]; exact HB.out.size); have Ne1_5 := Lib.hid (show ¬ g1 = g5 by rw [hg]; have := blk_lt B1.out; omega); (try clear p1_5 p1_6); have n_B1 := Lib.hid (blk_below B1.out hb); have n_HB := Lib.hid (below_step HB.out hb); clear B1 HB; have B1 := n_B1; have HB := n_HB; clear n_B1 n_HB; have p1_5 := (blk_cell B1.out 5).trans rfl; have p1_6 := (blk_cell B1.out 6).trans rfl; have B5 := Lib.hid hbx; clear hg hbx hb; have l5 := blk_lt B5.out)
                | ((with_reducible refine gate_store (t := 83) (p := 5) rfl ?_); have zc0 := (blk_cell B5.out 0).trans rfl; have zf0 := blk_frozen B5.out 0; have zc1 := (blk_cell B5.out 1).trans rfl; have zf1 := blk_frozen B5.out 1; have zc2 := (blk_cell B5.out 2).trans rfl; have zf2 := blk_frozen B5.out 2; refine store_event (t := 83) (p := 5) (v := ?vows1) (w1 := setAll wb5 g5 0 [.int .u64 F.f0, .bool F.f1, .slice A2 q c2]) ?hg ?ho ?hn ?hr ?_; (case ho => rfl); (case hg => rfl); (case hn => rfl); (case hr => first | (go_simp; done) | (go_simp; rfl)); intro ws1 hw; clear zc0 zf0 zc1 zf1 zc2 zf2; (try clear p1_5 p1_6 p5_0 p5_1 p5_2); have n_B1 := Lib.hid (((by rw [hw]; exact blk_kept B1.out (setAll_kept [.int .u64 F.f0, .bool F.f1, .slice A2 q c2] 0 wb5) (fun e_ => Ne1_5.out e_)) : ws1.heap[g1]? = some (.cells #[.int .u64 a0, .int .u64 a1, .int .i64 a2, .int .i64 a3, .int .i64 a4, .int .u64 next, .slice (some ad) n c, .slice D m d, .bool false] 30 (0, 0)))); have n_B5 := Lib.hid (((by rw [hw]; exact setAll_box [.int .u64 F.f0, .bool F.f1, .slice A2 q c2] B5.out rfl) : ws1.heap[g5]? = some (.cells #[.int .u64 F.f0, .bool F.f1, .slice A2 q c2] 83 (0, 0)))); have n_HB := Lib.hid ((by rw [hw]; exact setAll_below Eg5.out [.int .u64 F.f0, .bool F.f1, .slice A2 q c2] 0 wb5 HB.out : Below w.heap.size w ws1)); clear B1 B5 HB; have B1 := n_B1; have B5 := n_B5; have HB := n_HB; clear n_B1 n_B5 n_HB; clear hw; have p1_5 := (blk_cell B1.out 5).trans rfl; have p1_6 := (blk_cell B1.out 6).trans rfl; have p5_0 := (blk_cell B5.out 0).trans rfl; have p5_1 := (blk_cell B5.out 1).trans rfl; have p5_2 := (blk_cell B5.out 2).trans rfl; skip))
              go_ret
              exact ⟨by rw [HR2.out]; rfl, HB.out⟩
            · have y2 := decide_eq_false kc2
              have z2 := kc2
              by_cases kc3 : 8 < q
              · have y3 := decide_eq_true kc3
                have f3_0 : decide ((8 : Int) < (q : Int)) = true := decide_eq_true (by omega)
                have HR2 := Lib.hid (show res = 6 by rw [HE2.out, decide_eq_false z0, decide_eq_false z1, decide_eq_false z2, decide_eq_true kc3]; simp)
                clear HE2 kc3
                go_wp2_with (first
                  | ((with_reducible refine gate_dst (N := 5) rfl ?_); refine box_event ?hg (N := 5) ?hd (cs := #[.int .u64 0, .bool false, .slice none 0 0]) (t := 83) ?hr ?_; (case hd => rfl); (case hg => rfl); (case hr => first | (go_simp; done) | (go_simp; rfl)); intro g5 hg wb5 hbx hb; have Eg5 := Lib.hid (show w.heap.size ≤ g5 by rw [hg]; exact HB.out.size); have Ne1_5 := Lib.hid (show ¬ g1 = g5 by rw [hg]; have := blk_lt B1.out; omega); (try clear p1_5 p1_6); have n_B1 := Lib.hid (blk_below B1.out hb); have n_HB := Lib.hid (below_step HB.out hb); clear B1 HB; have B1 := n_B1; have HB := n_HB; clear n_B1 n_HB; have p1_5 := (blk_cell B1.out 5).trans rfl; have p1_6 := (blk_cell B1.out 6).trans rfl; have B5 := Lib.hid hbx; clear hg hbx hb; have l5 := blk_lt B5.out)
                  | ((with_reducible refine gate_store (t := 83) (p := 5) rfl ?_); have zc0 := (blk_cell B5.out 0).trans rfl; have zf0 := blk_frozen B5.out 0; have zc1 := (blk_cell B5.out 1).trans rfl; have zf1 := blk_frozen B5.out 1; have zc2 := (blk_cell B5.out 2).trans rfl; have zf2 := blk_frozen B5.out 2; refine store_event (t := 83) (p := 5) (v := ?vows1) (w1 := setAll wb5 g5 0 [.int .u64 F.f0, .bool F.f1, .slice A2 q c2]) ?hg ?ho ?hn ?hr ?_; (case ho => rfl); (case hg => rfl); (case hn => rfl); (case hr => first | (go_simp; done) | (go_simp; rfl)); intro ws1 hw; clear zc0 zf0 zc1 zf1 zc2 zf2; (try clear p1_5 p1_6 p5_0 p5_1 p5_2); have n_B1 := Lib.hid (((by rw [hw]; exact blk_kept B1.out (setAll_kept [.int .u64 F.f0, .bool F.f1, .slice A2 q c2] 0 wb5) (fun e_ => Ne1_5.out e_)) : ws1.heap[g1]? = some (.cells #[.int .u64 a0, .int .u64 a1, .int .i64 a2, .int .i64 a3, .int .i64 a4, .int .u64 next, .slice (some ad) n c, .slice D m d, .bool false] 30 (0, 0)))); have n_B5 := Lib.hid (((by rw [hw]; exact setAll_box [.int .u64 F.f0, .bool F.f1, .slice A2 q c2] B5.out rfl) : ws1.heap[g5]? = some (.cells #[.int .u64 F.f0, .bool F.f1, .slice A2 q c2] 83 (0, 0)))); have n_HB := Lib.hid ((by rw [hw]; exact setAll_below Eg5.out [.int .u64 F.f0, .bool F.f1, .slice A2 q c2] 0 wb5 HB.out : Below w.heap.size w ws1)); clear B1 B5 HB; have B1 := n_B1; have B5 := n_B5; have HB := n_HB; clear n_B1 n_B5 n_HB; clear hw; have p1_5 := (blk_cell B1.out 5).trans rfl; have p1_6 := (blk_cell B1.out 6).trans rfl; have p5_0 := (blk_cell B5.out 0).trans rfl; have p5_1 := (blk_cell B5.out 1).trans rfl; have p5_2 := (blk_cell B5.out 2).trans rfl; skip))
                go_ret
                exact ⟨by rw [HR2.out]; rfl, HB.out⟩
              · have y3 := decide_eq_false kc3
                have z3 := kc3
                have f3_0 : decide ((8 : Int) < (q : Int)) = false := decide_eq_false (by omega)
                rcases y4 : F.f1 with _ | _
                · have HE3 := Lib.hid (show res = if bads next F.f0 (l.drop (k + 1)) then 6 else 0 by rw [HE2.out, decide_eq_false z0, decide_eq_false z1, decide_eq_false z2, decide_eq_false z3, y4]; rfl)
                  have z0' := z0
                  have HLT := Lib.hid (show next ≤ F.f0 by have := HNL.out; omega)
                  clear HE2 z0 z1 z2 z3 z0' kc0 kc1 kc2 kc3
                  go_wp2_with (first
                    | ((with_reducible refine gate_dst (N := 5) rfl ?_); refine box_event ?hg (N := 5) ?hd (cs := #[.int .u64 0, .bool false, .slice none 0 0]) (t := 83) ?hr ?_; (case hd => rfl); (case hg => rfl); (case hr => first | (go_simp; done) | (go_simp; rfl)); intro g5 hg wb5 hbx hb; have Eg5 := Lib.hid (show w.heap.size ≤ g5 by rw [hg]; exact HB.out.size); have Ne1_5 := Lib.hid (show ¬ g1 = g5 by rw [hg]; have := blk_lt B1.out; omega); (try clear p1_5 p1_6); have n_B1 := Lib.hid (blk_below B1.out hb); have n_HB := Lib.hid (below_step HB.out hb); clear B1 HB; have B1 := n_B1; have HB := n_HB; clear n_B1 n_HB; have p1_5 := (blk_cell B1.out 5).trans rfl; have p1_6 := (blk_cell B1.out 6).trans rfl; have B5 := Lib.hid hbx; clear hg hbx hb; have l5 := blk_lt B5.out)
                    | ((with_reducible refine gate_store (t := 83) (p := 5) rfl ?_); have zc0 := (blk_cell B5.out 0).trans rfl; have zf0 := blk_frozen B5.out 0; have zc1 := (blk_cell B5.out 1).trans rfl; have zf1 := blk_frozen B5.out 1; have zc2 := (blk_cell B5.out 2).trans rfl; have zf2 := blk_frozen B5.out 2; refine store_event (t := 83) (p := 5) (v := ?vows1) (w1 := setAll wb5 g5 0 [.int .u64 F.f0, .bool F.f1, .slice A2 q c2]) ?hg ?ho ?hn ?hr ?_; (case ho => rfl); (case hg => rfl); (case hn => rfl); (case hr => first | (go_simp; done) | (go_simp; rfl)); intro ws1 hw; clear zc0 zf0 zc1 zf1 zc2 zf2; (try clear p1_5 p1_6 p5_0 p5_1 p5_2); have n_B1 := Lib.hid (((by rw [hw]; exact blk_kept B1.out (setAll_kept [.int .u64 F.f0, .bool F.f1, .slice A2 q c2] 0 wb5) (fun e_ => Ne1_5.out e_)) : ws1.heap[g1]? = some (.cells #[.int .u64 a0, .int .u64 a1, .int .i64 a2, .int .i64 a3, .int .i64 a4, .int .u64 next, .slice (some ad) n c, .slice D m d, .bool false] 30 (0, 0)))); have n_B5 := Lib.hid (((by rw [hw]; exact setAll_box [.int .u64 F.f0, .bool F.f1, .slice A2 q c2] B5.out rfl) : ws1.heap[g5]? = some (.cells #[.int .u64 F.f0, .bool F.f1, .slice A2 q c2] 83 (0, 0)))); have n_HB := Lib.hid ((by rw [hw]; exact setAll_below Eg5.out [.int .u64 F.f0, .bool F.f1, .slice A2 q c2] 0 wb5 HB.out : Below w.heap.size w ws1)); clear B1 B5 HB; have B1 := n_B1; have B5 := n_B5; have HB := n_HB; clear n_B1 n_B5 n_HB; clear hw; have p1_5 := (blk_cell B1.out 5).trans rfl; have p1_6 := (blk_cell B1.out 6).trans rfl; have p5_0 := (blk_cell B5.out 0).trans rfl; have p5_1 := (blk_cell B5.out 1).trans rfl; have p5_2 := (blk_cell B5.out 2).trans rfl; skip))
                  go_roundw
                  case rel => exact ⟨k + 1, F.f0, by simp, rfl, hlt, HLT, Lib.hid (by rw [if_neg (by omega), Nat.add_sub_cancel]; exact HSQ.out.symm), HE3, B1, HB⟩
                  case measure => simp [intOf]; omega
                · by_cases c5 : k + 1 < n
                  · have y5 : decide ((k : Int) + 1 < (n : Int)) = true := decide_eq_true (by omega)
                    have y5' : decide (k + 1 < n) = true := decide_eq_true c5
                    have HR2 := Lib.hid (show res = 6 by rw [HE2.out, decide_eq_false z0, decide_eq_false z1, decide_eq_false z2, decide_eq_false z3, y4, y5']; rfl)
                    clear HE2 z0 z1 z2 z3 kc0 kc1 kc2 kc3
                    go_wp2_with (first
                      | ((with_reducible refine gate_dst (N := 5) rfl ?_); refine box_event ?hg (N := 5) ?hd (cs := #[.int .u64 0, .bool false, .slice none 0 0]) (t := 83) ?hr ?_; (case hd => rfl); (case hg => rfl); (case hr => first | (go_simp; done) | (go_simp; rfl)); intro g5 hg wb5 hbx hb; have Eg5 := Lib.hid (show w.heap.size ≤ g5 by rw [hg]; exact HB.out.size); have Ne1_5 := Lib.hid (show ¬ g1 = g5 by rw [hg]; have := blk_lt B1.out; omega); (try clear p1_5 p1_6); have n_B1 := Lib.hid (blk_below B1.out hb); have n_HB := Lib.hid (below_step HB.out hb); clear B1 HB; have B1 := n_B1; have HB := n_HB; clear n_B1 n_HB; have p1_5 := (blk_cell B1.out 5).trans rfl; have p1_6 := (blk_cell B1.out 6).trans rfl; have B5 := Lib.hid hbx; clear hg hbx hb; have l5 := blk_lt B5.out)
                      | ((with_reducible refine gate_store (t := 83) (p := 5) rfl ?_); have zc0 := (blk_cell B5.out 0).trans rfl; have zf0 := blk_frozen B5.out 0; have zc1 := (blk_cell B5.out 1).trans rfl; have zf1 := blk_frozen B5.out 1; have zc2 := (blk_cell B5.out 2).trans rfl; have zf2 := blk_frozen B5.out 2; refine store_event (t := 83) (p := 5) (v := ?vows1) (w1 := setAll wb5 g5 0 [.int .u64 F.f0, .bool F.f1, .slice A2 q c2]) ?hg ?ho ?hn ?hr ?_; (case ho => rfl); (case hg => rfl); (case hn => rfl); (case hr => first | (go_simp; done) | (go_simp; rfl)); intro ws1 hw; clear zc0 zf0 zc1 zf1 zc2 zf2; (try clear p1_5 p1_6 p5_0 p5_1 p5_2); have n_B1 := Lib.hid (((by rw [hw]; exact blk_kept B1.out (setAll_kept [.int .u64 F.f0, .bool F.f1, .slice A2 q c2] 0 wb5) (fun e_ => Ne1_5.out e_)) : ws1.heap[g1]? = some (.cells #[.int .u64 a0, .int .u64 a1, .int .i64 a2, .int .i64 a3, .int .i64 a4, .int .u64 next, .slice (some ad) n c, .slice D m d, .bool false] 30 (0, 0)))); have n_B5 := Lib.hid (((by rw [hw]; exact setAll_box [.int .u64 F.f0, .bool F.f1, .slice A2 q c2] B5.out rfl) : ws1.heap[g5]? = some (.cells #[.int .u64 F.f0, .bool F.f1, .slice A2 q c2] 83 (0, 0)))); have n_HB := Lib.hid ((by rw [hw]; exact setAll_below Eg5.out [.int .u64 F.f0, .bool F.f1, .slice A2 q c2] 0 wb5 HB.out : Below w.heap.size w ws1)); clear B1 B5 HB; have B1 := n_B1; have B5 := n_B5; have HB := n_HB; clear n_B1 n_B5 n_HB; clear hw; have p1_5 := (blk_cell B1.out 5).trans rfl; have p1_6 := (blk_cell B1.out 6).trans rfl; have p5_0 := (blk_cell B5.out 0).trans rfl; have p5_1 := (blk_cell B5.out 1).trans rfl; have p5_2 := (blk_cell B5.out 2).trans rfl; skip))
                    go_ret
                    exact ⟨by rw [HR2.out]; rfl, HB.out⟩
                  · have y5 : decide ((k : Int) + 1 < (n : Int)) = false := decide_eq_false (by omega)
                    have y5' : decide (k + 1 < n) = false := decide_eq_false c5
                    have HE3 := Lib.hid (show res = if bads next F.f0 (l.drop (k + 1)) then 6 else 0 by rw [HE2.out, decide_eq_false z0, decide_eq_false z1, decide_eq_false z2, decide_eq_false z3, y4, y5']; rfl)
                    have HLT := Lib.hid (show next ≤ F.f0 by have := HNL.out; omega)
                    clear HE2 z0 z1 z2 z3 kc0 kc1 kc2 kc3
                    go_wp2_with (first
                      | ((with_reducible refine gate_dst (N := 5) rfl ?_); refine box_event ?hg (N := 5) ?hd (cs := #[.int .u64 0, .bool false, .slice none 0 0]) (t := 83) ?hr ?_; (case hd => rfl); (case hg => rfl); (case hr => first | (go_simp; done) | (go_simp; rfl)); intro g5 hg wb5 hbx hb; have Eg5 := Lib.hid (show w.heap.size ≤ g5 by rw [hg]; exact HB.out.size); have Ne1_5 := Lib.hid (show ¬ g1 = g5 by rw [hg]; have := blk_lt B1.out; omega); (try clear p1_5 p1_6); have n_B1 := Lib.hid (blk_below B1.out hb); have n_HB := Lib.hid (below_step HB.out hb); clear B1 HB; have B1 := n_B1; have HB := n_HB; clear n_B1 n_HB; have p1_5 := (blk_cell B1.out 5).trans rfl; have p1_6 := (blk_cell B1.out 6).trans rfl; have B5 := Lib.hid hbx; clear hg hbx hb; have l5 := blk_lt B5.out)
                      | ((with_reducible refine gate_store (t := 83) (p := 5) rfl ?_); have zc0 := (blk_cell B5.out 0).trans rfl; have zf0 := blk_frozen B5.out 0; have zc1 := (blk_cell B5.out 1).trans rfl; have zf1 := blk_frozen B5.out 1; have zc2 := (blk_cell B5.out 2).trans rfl; have zf2 := blk_frozen B5.out 2; refine store_event (t := 83) (p := 5) (v := ?vows1) (w1 := setAll wb5 g5 0 [.int .u64 F.f0, .bool F.f1, .slice A2 q c2]) ?hg ?ho ?hn ?hr ?_; (case ho => rfl); (case hg => rfl); (case hn => rfl); (case hr => first | (go_simp; done) | (go_simp; rfl)); intro ws1 hw; clear zc0 zf0 zc1 zf1 zc2 zf2; (try clear p1_5 p1_6 p5_0 p5_1 p5_2); have n_B1 := Lib.hid (((by rw [hw]; exact blk_kept B1.out (setAll_kept [.int .u64 F.f0, .bool F.f1, .slice A2 q c2] 0 wb5) (fun e_ => Ne1_5.out e_)) : ws1.heap[g1]? = some (.cells #[.int .u64 a0, .int .u64 a1, .int .i64 a2, .int .i64 a3, .int .i64 a4, .int .u64 next, .slice (some ad) n c, .slice D m d, .bool false] 30 (0, 0)))); have n_B5 := Lib.hid (((by rw [hw]; exact setAll_box [.int .u64 F.f0, .bool F.f1, .slice A2 q c2] B5.out rfl) : ws1.heap[g5]? = some (.cells #[.int .u64 F.f0, .bool F.f1, .slice A2 q c2] 83 (0, 0)))); have n_HB := Lib.hid ((by rw [hw]; exact setAll_below Eg5.out [.int .u64 F.f0, .bool F.f1, .slice A2 q c2] 0 wb5 HB.out : Below w.heap.size w ws1)); clear B1 B5 HB; have B1 := n_B1; have B5 := n_B5; have HB := n_HB; clear n_B1 n_B5 n_HB; clear hw; have p1_5 := (blk_cell B1.out 5).trans rfl; have p1_6 := (blk_cell B1.out 6).trans rfl; have p5_0 := (blk_cell B5.out 0).trans rfl; have p5_1 := (blk_cell B5.out 1).trans rfl; have p5_2 := (blk_cell B5.out 2).trans rfl; skip))
                    go_roundw
                    case rel => exact ⟨k + 1, F.f0, by simp, rfl, hlt, HLT, Lib.hid (by rw [if_neg (by omega), Nat.add_sub_cancel]; exact HSQ.out.symm), HE3, B1, HB⟩
                    case measure => simp [intOf]; omega
      · have hkk : ¬ ((k : Int) < (n : Int)) := by omega
        have hk2 : decide ((k : Int) < (n : Int)) = false := decide_eq_false hkk
        have HR2 := Lib.hid (show res = 0 by rw [HE.out, List.drop_of_length_le (by rw [← HN.out]; omega)]; rfl)
        clear HE
        go_wp2
        go_ret
        exact ⟨by rw [HR2.out]; rfl, HB.out⟩
  · go_enter Try.func14, Try.ntmps14
    go_wp2_with (((with_reducible refine gate_dst (N := 1) rfl ?_); refine box_event ?hg (N := 1) ?hd (cs := #[.int .u64 a0, .int .u64 a1, .int .i64 a2, .int .i64 a3, .int .i64 a4, .int .u64 next, .slice A 0 c, .slice D m d, .bool true]) (t := 30) ?hr ?_; (case hd => rfl); (case hg => rfl); (case hr => first | (go_simp; done) | (go_simp; rfl)); intro g1 hg wb1 hbx hb; have Eg1 := Lib.hid (show w.heap.size ≤ g1 by rw [hg]; exact HB.out.size); have n_HB := Lib.hid (below_step HB.out hb); clear HB; have HB := n_HB; clear n_HB; have B1 := Lib.hid hbx; clear hg hbx hb; have p1_1 := (blk_cell B1.out 1).trans rfl; have p1_2 := (blk_cell B1.out 2).trans rfl; have p1_3 := (blk_cell B1.out 3).trans rfl; have p1_4 := (blk_cell B1.out 4).trans rfl; have p1_5 := (blk_cell B1.out 5).trans rfl; have p1_6 := (blk_cell B1.out 6).trans rfl; have p1_7 := (blk_cell B1.out 7).trans rfl; have p1_8 := (blk_cell B1.out 8).trans rfl; have l1 := blk_lt B1.out))
    go_loopw [39, 3] (fun vk vl wr => ∃ (k : Nat) (last : Int), vk = .int .i64 k ∧ vl = .int .u64 last ∧ k ≤ 0 ∧ Hid (next ≤ last) ∧ Hid (last = if k = 0 then next else seqAt l (k - 1)) ∧ Hid (res = if bads next last (l.drop k) then 6 else 0) ∧ Hid (wr.heap[g1]? = some (.cells #[.int .u64 a0, .int .u64 a1, .int .i64 a2, .int .i64 a3, .int .i64 a4, .int .u64 next, .slice A 0 c, .slice D m d, .bool true] 30 (0, 0))) ∧ Hid (Below w.heap.size w wr)) (fun vk _ _ => 0 - (intOf vk).toNat)
    case atStart => exact ⟨0, next, rfl, rfl, Nat.zero_le _, Lib.hid (Int.le_refl _), Lib.hid rfl, HRES, B1, HB⟩
    case round =>
      clear HRES B1 HB
      obtain ⟨k, last, rfl, rfl, hk, HNL, HLS, HE, B1, HB⟩ := hrel
      have p1_1 := (blk_cell B1.out 5).trans rfl
      have p1_2 := (blk_cell B1.out 6).trans rfl
      obtain rfl : k = 0 := by omega
      have HR2 := Lib.hid (show res = 0 by rw [HE.out, show l.drop 0 = [] from List.length_eq_zero_iff.1 (by rw [List.length_drop, ← HN.out])]; rfl)
      go_wp2
      go_ret
      exact ⟨by rw [HR2.out]; rfl, HB.out⟩
end Go.Proofs.Ytkbemagcoojmmaa.Val
