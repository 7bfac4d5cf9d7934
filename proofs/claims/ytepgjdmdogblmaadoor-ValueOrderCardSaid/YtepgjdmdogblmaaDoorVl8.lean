/- Package slices: two rows sorted by SortFunc, two lists of two rows held equal by EqualFunc. No condition but that the rows are read. Package slices: two lists of two rows held equal by EqualFunc. No condition but that the rows are read. Package value: SameBag at two lists of two rows. No condition but that the rows are read. Package value: SameBag at two lists of two rows, of which the second stands the other way round. No condition but that the rows are read. -/
import Derived.Test.YtepgjdmdogblmaaDoorVl4
import Derived.Test.YtepgjdmdogblmaaDoorShelf
namespace Go.Proofs.YtepgjdmdogblmaaDoor.Val
open Go.RowKit Go.Proofs.YtepgjdmdogblmaaDoor.G Go.Proofs.YtepgjdmdogblmaaDoorW.PrintWords Go.Proofs.YtepgjdmdogblmaaDoorW.PrintLast Go.Proofs.YtepgjdmdogblmaaDoorW.PrintMore
set_option linter.unusedVariables false
set_option linter.unusedSimpArgs false
def sw (b : Bool) (x y : Value) : Value := if b = true then y else x
theorem ins_calls (base g c : Nat) (A0 A1 : Option Addr) (c0 c1 : Nat) (l0 l1 : List S27) (v0 v1 : Value) (w : World) (e0 : v0 = .slice A0 l0.length c0) (e1 : v1 = .slice A1 l1.length c1) (hT : Two w g v0 v1) (hr0 : ∀ w', KeepBut w w' g none → Kd.C k27 w' A0 l0.length l0) (hr1 : ∀ w', KeepBut w w' g none → Kd.C k27 w' A1 l1.length l1) (hl0 : l0.length < 4611686018427387904) (hl1 : l1.length < 4611686018427387904) (hbg : base ≤ g) (hbw : base ≤ w.heap.size) :
    Calls Tryd.prog 88 #[.slice (some ⟨g, 0, none⟩) 2 c, .int .i64 0, .int .i64 2, .func (.func 63) #[] #[]] w fun e w' => e = .returned (.tuple #[]) ∧ Two w' g (sw (decide (rowsN exactN l1 l0 < 0)) v0 v1) (sw (decide (rowsN exactN l1 l0 < 0)) v1 v0) ∧ Below base w w' ∧ KeepBut w w' g none := by
  by_cases h : rowsN exactN l1 l0 < 0
  · rw [decide_eq_true h]
    exact ins_swap base g c A0 A1 c0 c1 l0 l1 v0 v1 w e0 e1 hT hr0 hr1 hl0 hl1 hbg hbw h
  · rw [decide_eq_false h]
    exact ins_keep base g c A0 A1 c0 c1 l0 l1 v0 v1 w e0 e1 hT hr0 hr1 hl0 hl1 hbg hbw h
set_option maxHeartbeats 4000000 in
set_option maxRecDepth 100000 in
theorem pdq_calls (base g c : Nat) (A0 A1 : Option Addr) (c0 c1 : Nat) (l0 l1 : List S27) (v0 v1 : Value) (L : Int) (w : World) (e0 : v0 = .slice A0 l0.length c0) (e1 : v1 = .slice A1 l1.length c1) (hT : Two w g v0 v1) (hr0 : ∀ w', KeepBut w w' g none → Kd.C k27 w' A0 l0.length l0) (hr1 : ∀ w', KeepBut w w' g none → Kd.C k27 w' A1 l1.length l1) (hl0 : l0.length < 4611686018427387904) (hl1 : l1.length < 4611686018427387904) (hbg : base ≤ g) (hbw : base ≤ w.heap.size) :
    Calls Tryd.prog 83 #[.slice (some ⟨g, 0, none⟩) 2 c, .int .i64 0, .int .i64 2, .int .i64 L, .func (.func 63) #[] #[]] w fun e w' => e = .returned (.tuple #[]) ∧ Two w' g (sw (decide (rowsN exactN l1 l0 < 0)) v0 v1) (sw (decide (rowsN exactN l1 l0 < 0)) v1 v0) ∧ Below base w w' ∧ KeepBut w w' g none := by
  have hI := ins_calls base g c A0 A1 c0 c1 l0 l1 v0 v1 w e0 e1 hT hr0 hr1 hl0 hl1 hbg hbw
  obtain ⟨u0, h0⟩ : ∃ u, u = sw (decide (rowsN exactN l1 l0 < 0)) v0 v1 := ⟨_, rfl⟩
  obtain ⟨u1, h1⟩ : ∃ u, u = sw (decide (rowsN exactN l1 l0 < 0)) v1 v0 := ⟨_, rfl⟩
  rw [← h0, ← h1] at hI ⊢
  clear h0 h1 e0 e1 hT hr0 hr1
  have HI := Lib.hid hI
  clear hI
  go_enter Tryd.func83, Tryd.ntmps83
  go_wp2
  go_loopw [1, 2, 3, 10, 11] (fun v1 v2 v3 v10 v11 wr => v1 = .int .i64 0 ∧ v2 = .int .i64 2 ∧ v3 = .int .i64 L ∧ v10 = .bool true ∧ v11 = .bool true ∧ wr = w) (fun _ _ _ _ _ _ => 0)
  case atStart => exact ⟨rfl, rfl, rfl, rfl, rfl, rfl⟩
  case round =>
    obtain ⟨rfl, rfl, rfl, rfl, rfl, rfl⟩ := hrel
    go_wp2_with (first
      | (go_at_call 88; refine HI.out.mono ?_; rintro e w6 ⟨rfl, ht, hb, hk⟩))
    first | go_end0 | refine bodyPost_ret (results_none rfl _ _ _) rfl ?_
    exact ⟨rfl, ht, hb, hk⟩
set_option maxHeartbeats 4000000 in
set_option maxRecDepth 100000 in
theorem sort_calls (base g c : Nat) (A0 A1 : Option Addr) (c0 c1 : Nat) (l0 l1 : List S27) (v0 v1 : Value) (w : World) (e0 : v0 = .slice A0 l0.length c0) (e1 : v1 = .slice A1 l1.length c1) (hT : Two w g v0 v1) (hr0 : ∀ w', KeepBut w w' g none → Kd.C k27 w' A0 l0.length l0) (hr1 : ∀ w', KeepBut w w' g none → Kd.C k27 w' A1 l1.length l1) (hl0 : l0.length < 4611686018427387904) (hl1 : l1.length < 4611686018427387904) (hbg : base ≤ g) (hbw : base ≤ w.heap.size) :
    Calls Tryd.prog 66 #[.slice (some ⟨g, 0, none⟩) 2 c, .func (.func 63) #[] #[]] w fun e w' => e = .returned (.tuple #[]) ∧ Two w' g (sw (decide (rowsN exactN l1 l0 < 0)) v0 v1) (sw (decide (rowsN exactN l1 l0 < 0)) v1 v0) ∧ Below base w w' ∧ KeepBut w w' g none := by
  have hI := fun L => pdq_calls base g c A0 A1 c0 c1 l0 l1 v0 v1 L w e0 e1 hT hr0 hr1 hl0 hl1 hbg hbw
  obtain ⟨u0, h0⟩ : ∃ u, u = sw (decide (rowsN exactN l1 l0 < 0)) v0 v1 := ⟨_, rfl⟩
  obtain ⟨u1, h1⟩ : ∃ u, u = sw (decide (rowsN exactN l1 l0 < 0)) v1 v0 := ⟨_, rfl⟩
  rw [← h0, ← h1] at hI ⊢
  clear h0 h1 e0 e1 hT hr0 hr1
  have HI := Lib.hid hI
  clear hI
  go_enter Tryd.func66, Tryd.ntmps66
  go_wp2_with (first
    | (go_at_call 84; refine (Tryd.bits_Len 2 w (by decide) (by decide)).mono ?_; rintro e w6 ⟨rfl, rfl⟩; obtain ⟨L, hL⟩ : ∃ L : Int, L = ((Lib.bitLen (2 : Int).toNat : Nat) : Int) := ⟨_, rfl⟩; rw [← hL]; clear hL)
    | (go_at_call 83; refine (HI.out _).mono ?_; rintro e w6 ⟨rfl, ht, hb, hk⟩))
  go_end0
  exact ⟨rfl, ht, hb, hk⟩
end Go.Proofs.YtepgjdmdogblmaaDoor.Val
namespace Go.Proofs.YtepgjdmdogblmaaDoor.Val
open Go.RowKit Go.Proofs.YtepgjdmdogblmaaDoor.G Go.Proofs.YtepgjdmdogblmaaDoorW.PrintWords Go.Proofs.YtepgjdmdogblmaaDoorW.PrintLast Go.Proofs.YtepgjdmdogblmaaDoorW.PrintMore
set_option linter.unusedVariables false
set_option linter.unusedSimpArgs false
/-- a row's header and what it leads to -/
structure Row (w : World) (v : Value) (l : List S27) : Prop where
  ex : ∃ A c, v = .slice A l.length c ∧ Kd.C k27 w A l.length l ∧ l.length < 4611686018427387904 ∧ l.length ≤ c
theorem Row.below {w w1 : World} {v : Value} {l : List S27} (h : Row w v l) (hb : Below w.heap.size w w1) : Row w1 v l := by
  obtain ⟨A, c, e, h1, h2⟩ := h.ex
  exact ⟨A, c, e, Kd.C_below h1 hb, h2⟩
set_option maxHeartbeats 4000000 in
set_option maxRecDepth 100000 in
theorem eqf_calls (ga gb ca cb : Nat) (l0 l1 m0 m1 : List S27) (p0 p1 q0 q1 : Value) (w : World) (hTa : Two w ga p0 p1) (hTb : Two w gb q0 q1) (hp0 : Row w p0 l0) (hp1 : Row w p1 l1) (hq0 : Row w q0 m0) (hq1 : Row w q1 m1) (he0 : eqRows l0 m0 = true) (he1 : eqRows l1 m1 = true) :
    Calls Tryd.prog 67 #[.slice (some ⟨ga, 0, none⟩) 2 ca, .slice (some ⟨gb, 0, none⟩) 2 cb, .func (.func 68) #[] #[]] w fun e w' => e = .returned (.bool true) ∧ Below w.heap.size w w' := by
  obtain ⟨A0, a0, e0, h0, b0, _⟩ := hp0.ex
  obtain ⟨A1, a1, e1, h1, b1, _⟩ := hp1.ex
  obtain ⟨B0, c0, e2, h2, b2, _⟩ := hq0.ex
  obtain ⟨B1, c1, e3, h3, b3, _⟩ := hq1.ex
  subst e0 e1 e2 e3
  have HTa := Lib.hid hTa
  have HTb := Lib.hid hTb
  have H0 := Lib.hid h0
  have H1 := Lib.hid h1
  have H2 := Lib.hid h2
  have H3 := Lib.hid h3
  have HE0 := Lib.hid he0
  have HE1 := Lib.hid he1
  clear hTa hTb h0 h1 h2 h3 hp0 hp1 hq0 hq1 he0 he1
  go_enter Tryd.func67, Tryd.ntmps67
  go_wp2
  go_loopw [17] (fun vi wr => (vi = .int .i64 0 ∨ vi = .int .i64 1 ∨ vi = .int .i64 2) ∧ Hid (Below w.heap.size w wr)) (fun vi _ => 2 - (intOf vi).toNat)
  case atStart => exact ⟨.inl rfl, Lib.hid (Below.refl _ _)⟩
  case round =>
    obtain ⟨rfl | rfl | rfl, HB⟩ := hrel
    · have x0 := (HTa.out.below HB.out).c0
      have y0 := (HTb.out.below HB.out).c0
      go_wp2_with (first
        | (go_at_call 68; refine (eq2_calls A0 B0 a0 c0 l0 m0 _ (Kd.C_below H0.out HB.out) (Kd.C_below H2.out HB.out) b0 b2).mono ?_; rintro e w6 ⟨rfl, hb⟩; rw [HE0.out]; have nB := Lib.hid (below_step HB.out hb); clear HB hb x0 y0; have HB := nB; clear nB))
      go_roundw
      case rel => exact ⟨.inr (.inl rfl), HB⟩
      case measure => simp [intOf]
    · have x0 := (HTa.out.below HB.out).c1
      have y0 := (HTb.out.below HB.out).c1
      go_wp2_with (first
        | (go_at_call 68; refine (eq2_calls A1 B1 a1 c1 l1 m1 _ (Kd.C_below H1.out HB.out) (Kd.C_below H3.out HB.out) b1 b3).mono ?_; rintro e w6 ⟨rfl, hb⟩; rw [HE1.out]; have nB := Lib.hid (below_step HB.out hb); clear HB hb x0 y0; have HB := nB; clear nB))
      go_roundw
      case rel => exact ⟨.inr (.inr rfl), HB⟩
      case measure => simp [intOf]
    · go_wp2
      go_ret
      exact ⟨rfl, HB.out⟩
end Go.Proofs.YtepgjdmdogblmaaDoor.Val
namespace Go.Proofs.YtepgjdmdogblmaaDoor.Val
open Go.RowKit Go.Proofs.YtepgjdmdogblmaaDoor.G Go.Proofs.YtepgjdmdogblmaaDoorW.PrintWords Go.Proofs.YtepgjdmdogblmaaDoorW.PrintLast Go.Proofs.YtepgjdmdogblmaaDoorW.PrintMore
set_option linter.unusedVariables false
set_option linter.unusedSimpArgs false
/-- what agrees with a world on the blocks of ok reads as it did -/
def Agree (ok : Nat → Prop) (W W' : World) : Prop := ∀ k, ok k → k < W.heap.size → W'.heap[k]? = W.heap[k]?
theorem C_agree {W W' : World} {A : Option Addr} {n : Nat} {xs : List S27} (h : Kd.C k27 W A n xs) (ha : Agree (fun _ => True) W W') : Kd.C k27 W' A n xs := by
  obtain ⟨h1, h2, h3⟩ := h
  refine ⟨h1, h2, fun hp => ?_⟩
  obtain ⟨ad, e, hc⟩ := h3 hp
  refine ⟨ad, e, fun j p hj => ?_⟩
  obtain ⟨c, hl, hK, hcc⟩ := hc j p hj
  refine ⟨c, hl, ?_, fun i u hi => ?_⟩
  · have := k27_open hK
    subst this
    exact k27_mk W' p
  · have h5 := hcc i u hi
    rw [World.cell?_of_block (ha _ trivial (World.block_lt_of_cell? W _ h5))]
    exact h5
theorem Row.agree {W W' : World} {v : Value} {l : List S27} (h : Row W v l) (ha : Agree (fun _ => True) W W') : Row W' v l := by
  obtain ⟨A, c, e, h1, h2⟩ := h.ex
  exact ⟨A, c, e, C_agree h1 ha, h2⟩
theorem Two.agree {W W' : World} {g : Nat} {v0 v1 : Value} (h : Two W g v0 v1) (ha : W'.heap[g]? = W.heap[g]?) : Two W' g v0 v1 := by
  obtain ⟨cs, hg, h0, h1⟩ := h
  exact ⟨cs, ha.trans hg, h0, h1⟩
theorem Two.lt {W : World} {g : Nat} {v0 v1 : Value} (h : Two W g v0 v1) : g < W.heap.size := by
  obtain ⟨cs, hg, h0, h1⟩ := h
  exact blk_lt hg
theorem two_C {W : World} {g : Nat} {v0 v1 : Value} {l0 l1 : List S27} (h : Two W g v0 v1) (h0 : Row W v0 l0) (h1 : Row W v1 l1) : (Kd.slice 27 k27).C W (some ⟨g, 0, none⟩) 2 [l0, l1] := by
  refine ⟨rfl, by decide, fun _ => ⟨_, rfl, fun j p hj => ?_⟩⟩
  match j, hj with
  | 0, hj =>
    obtain rfl : l0 = p := by simpa using hj
    obtain ⟨A, c, e, hC, _, hc⟩ := h0.ex
    refine ⟨[v0], rfl, ⟨A, c, by rw [e], hc, hC⟩, fun i u hi => ?_⟩
    match i, hi with
    | 0, hi =>
      obtain rfl : v0 = u := by simpa using hi
      exact h.c0
  | 1, hj =>
    obtain rfl : l1 = p := by simpa using hj
    obtain ⟨A, c, e, hC, _, hc⟩ := h1.ex
    refine ⟨[v1], rfl, ⟨A, c, by rw [e], hc, hC⟩, fun i u hi => ?_⟩
    match i, hi with
    | 0, hi =>
      obtain rfl : v1 = u := by simpa using hi
      exact h.c1
theorem two_V {w W : World} {g c : Nat} {v0 v1 : Value} {l0 l1 : List S27} (h : Two w g v0 v1) (h0 : Row w v0 l0) (h1 : Row w v1 l1) (hc : 2 ≤ c) (ha : Agree (fun _ => True) w W) (hs : w.heap.size ≤ W.heap.size) :
    Kd.V (Kd.slice 27 k27) 33 W W.heap.size (fun k => k < w.heap.size) (.slice (some ⟨g, 0, none⟩) 2 c) [l0, l1] := by
  refine ⟨some ⟨g, 0, none⟩, c, rfl, hc, fun W' hW => ?_⟩
  have hag : Agree (fun _ => True) w W' := fun k _ hk => (hW k hk (Nat.lt_of_lt_of_le hk hs)).trans (ha k trivial hk)
  exact two_C (h.agree (hag g trivial h.lt)) (h0.agree hag) (h1.agree hag)
theorem N_two {W : World} {base : Nat} {ok : Nat → Prop} {v : Value} {l0 l1 : List S27} (h : Kd.N (Kd.slice 27 k27) 33 W base ok v [l0, l1]) (hl0 : l0.length < 4611686018427387904) (hl1 : l1.length < 4611686018427387904) :
    ∃ g cap p0 p1, v = .slice (some ⟨g, 0, none⟩) 2 cap ∧ 2 ≤ cap ∧ base ≤ g ∧ g < W.heap.size ∧ Two W g p0 p1 ∧ (∀ W', Agree (fun k => ok k ∧ k ≠ g) W W' → Row W' p0 l0) ∧ (∀ W', Agree (fun k => ok k ∧ k ≠ g) W W' → Row W' p1 l1) := by
  obtain ⟨g, cap, rfl, hb, hlt, cells, hg⟩ := Kd.N_form h (by simp)
  have hcap := (Kd.N_reads' h).2.1
  obtain ⟨c, hcl, hF, hcc, _⟩ := Kd.N_elem h [] 0 (by omega) (by simp)
  obtain ⟨d, hdl, hG, hdd, _⟩ := Kd.N_elem h [] 1 (by omega) (by simp)
  have hone : (Kd.slice 27 k27).sz = 1 := rfl
  rw [hone] at hcl hdl hcc hdd
  match c, hcl with
  | [p0], _ =>
    match d, hdl with
    | [p1], _ =>
      have x0 : W.cell? ⟨g, 0, none⟩ = some p0 := hcc 0 p0 rfl
      have x1 : W.cell? ⟨g, 1, none⟩ = some p1 := hdd 0 p1 rfl
      rw [blk_cell hg] at x0 x1
      have row : ∀ (l : List S27) (p : Value), l.length < 4611686018427387904 → Kd.FK (Kd.slice 27 k27) W (fun k => ok k ∧ k ≠ g) l [p] → ∀ W', Agree (fun k => ok k ∧ k ≠ g) W W' → Row W' p l := by
        intro l p hl hF W' hW
        obtain ⟨A, cc, e, hle, hC⟩ := hF W' hW
        have e' : p = .slice A l.length cc := by simpa using e
        exact ⟨A, cc, e', hC, hl, hle⟩
      exact ⟨g, cap, p0, p1, rfl, hcap, hb, hlt, ⟨cells, hg, x0, x1⟩, row _ _ hl0 hF, row _ _ hl1 hG⟩
theorem sort_rows (base g c : Nat) (l0 l1 : List S27) (v0 v1 : Value) (w : World) (hT : Two w g v0 v1) (hr0 : ∀ w', KeepBut w w' g none → Row w' v0 l0) (hr1 : ∀ w', KeepBut w w' g none → Row w' v1 l1) (hbg : base ≤ g) (hbw : base ≤ w.heap.size) :
    Calls Tryd.prog 66 #[.slice (some ⟨g, 0, none⟩) 2 c, .func (.func 63) #[] #[]] w fun e w' => e = .returned (.tuple #[]) ∧ Two w' g (sw (decide (rowsN exactN l1 l0 < 0)) v0 v1) (sw (decide (rowsN exactN l1 l0 < 0)) v1 v0) ∧ Below base w w' ∧ KeepBut w w' g none := by
  obtain ⟨A0, c0, e0, _, b0, _⟩ := (hr0 w (KeepBut.refl _ _ _)).ex
  obtain ⟨A1, c1, e1, _, b1, _⟩ := (hr1 w (KeepBut.refl _ _ _)).ex
  have same : ∀ (A A' : Option Addr) (c c' : Nat) (l : List S27) (v : Value) (w' : World), v = .slice A l.length c → Row w' v l → Kd.C k27 w' A l.length l := by
    intro A A' c c' l v w' e h
    obtain ⟨B, d, e', hC, _⟩ := h.ex
    rw [e] at e'
    injection e' with h1
    rw [h1]; exact hC
  exact sort_calls base g c A0 A1 c0 c1 l0 l1 v0 v1 w e0 e1 hT (fun w' hk => same _ A0 _ c0 _ _ _ e0 (hr0 w' hk)) (fun w' hk => same _ A1 _ c1 _ _ _ e1 (hr1 w' hk)) b0 b1 hbg hbw
end Go.Proofs.YtepgjdmdogblmaaDoor.Val
namespace Go.Proofs.YtepgjdmdogblmaaDoor.Val
open Go.RowKit Go.Proofs.YtepgjdmdogblmaaDoor.G Go.Proofs.YtepgjdmdogblmaaDoorW.PrintWords Go.Proofs.YtepgjdmdogblmaaDoorW.PrintLast Go.Proofs.YtepgjdmdogblmaaDoorW.PrintMore
set_option linter.unusedVariables false
set_option linter.unusedSimpArgs false
theorem clone_two {w W : World} {g c : Nat} {v0 v1 : Value} {l0 l1 : List S27} (h : Two w g v0 v1) (h0 : Row w v0 l0) (h1 : Row w v1 l1) (hc : 2 ≤ c) (ha : Agree (fun _ => True) w W) (hs : w.heap.size ≤ W.heap.size) :
    Calls Tryd.prog 65 #[.slice (some ⟨g, 0, none⟩) 2 c] W fun e w' => ∃ g' cap p0 p1, e = .returned (.slice (some ⟨g', 0, none⟩) 2 cap) ∧ 2 ≤ cap ∧ W.heap.size ≤ g' ∧ g' < w'.heap.size ∧ Two w' g' p0 p1 ∧ (∀ W', Agree (fun k => (k < w.heap.size ∨ W.heap.size ≤ k) ∧ k ≠ g') w' W' → Row W' p0 l0) ∧ (∀ W', Agree (fun k => (k < w.heap.size ∨ W.heap.size ≤ k) ∧ k ≠ g') w' W' → Row W' p1 l1) ∧ Below W.heap.size W w' := by
  obtain ⟨_, _, _, _, b0, _⟩ := h0.ex
  obtain ⟨_, _, _, _, b1, _⟩ := h1.ex
  refine (api_Row_65.calls (fun k => k < w.heap.size) (some ⟨g, 0, none⟩) c [l0, l1] [l0, l1] W (two_V h h0 h1 hc ha hs) (by simp [api_Row_65.f])).mono ?_
  rintro e w' ⟨v, rfl, hN, hb⟩
  obtain ⟨g', cap, p0, p1, rfl, k1, k2, k3, k4, k5, k6⟩ := N_two hN b0 b1
  exact ⟨g', cap, p0, p1, rfl, k1, k2, k3, k4, k5, k6, hb⟩
set_option maxHeartbeats 4000000 in
set_option maxRecDepth 100000 in
theorem bag_calls (ga gb ca cb : Nat) (l0 l1 m0 m1 : List S27) (p0 p1 q0 q1 : Value) (w : World) (hTa : Two w ga p0 p1) (hTb : Two w gb q0 q1) (hp0 : Row w p0 l0) (hp1 : Row w p1 l1) (hq0 : Row w q0 m0) (hq1 : Row w q1 m1) (hca : 2 ≤ ca) (hcb : 2 ≤ cb)
    (ha : ¬ rowsN exactN l1 l0 < 0) (hb : rowsN exactN m1 m0 < 0) (he0 : eqRows l0 m1 = true) (he1 : eqRows l1 m0 = true) :
    Calls Tryd.prog 40 #[.slice (some ⟨ga, 0, none⟩) 2 ca, .slice (some ⟨gb, 0, none⟩) 2 cb] w fun e w' => e = .returned (.bool true) ∧ Below w.heap.size w w' := by
  have HTa := Lib.hid hTa
  have HTb := Lib.hid hTb
  have P0 := Lib.hid hp0
  have P1 := Lib.hid hp1
  have Q0 := Lib.hid hq0
  have Q1 := Lib.hid hq1
  have HA := Lib.hid (decide_eq_false ha)
  have HB := Lib.hid (decide_eq_true hb)
  have HE0 := Lib.hid he0
  have HE1 := Lib.hid he1
  have M1 := Lib.hid hca
  have M2 := Lib.hid hcb
  clear hTa hTb hp0 hp1 hq0 hq1 ha hb he0 he1 hca hcb
  go_enter Tryd.func40, Tryd.ntmps40
  go_upto_region 3 with (first
    | (go_at_call 65; have M := M1; refine (clone_two HTa.out P0.out P1.out M1.out (fun _ _ _ => rfl) (Nat.le_refl _)).mono ?_; rintro e w1 ⟨g1, c1, x0, x1, rfl, h1, h2, h3, h4, h5, h6, hb⟩; have C1 := Lib.hid h1; have G1 := Lib.hid h2; have L1 := Lib.hid h3; have T1 := Lib.hid h4; have X0 := Lib.hid h5; have X1 := Lib.hid h6; have B1 := Lib.hid hb; clear h1 h2 h3 h4 h5 h6 hb M1 M)
    | (go_at_call 65; refine (clone_two HTb.out Q0.out Q1.out M2.out (fun k _ hk => B1.out.block k hk) B1.out.size).mono ?_; rintro e w2 ⟨g2, c2, y0, y1, rfl, h1, h2, h3, h4, h5, h6, hb⟩; have C2 := Lib.hid h1; have G2 := Lib.hid h2; have L2 := Lib.hid h3; have T2 := Lib.hid h4; have Y0 := Lib.hid h5; have Y1 := Lib.hid h6; have B2 := Lib.hid hb; clear h1 h2 h3 h4 h5 h6 hb M2))
  -- the first is sorted
  have hg1 := G1.out
  have hl1 := L1.out
  have hg2 := G2.out
  have hl2 := L2.out
  have hs1 := B1.out.size
  have hs2 := B2.out.size
  have ra : ∀ (p : Value) (l : List S27), (∀ W', Agree (fun k => (k < w.heap.size ∨ w.heap.size ≤ k) ∧ k ≠ g1) w1 W' → Row W' p l) → ∀ w', KeepBut w2 w' g1 none → Row w' p l := by
    intro p l h w' hk
    exact h w' (fun k hk1 hk2 => (hk.2 k (by omega) hk1.2 (by simp)).trans (B2.out.block k hk2))
  have S1 := Lib.hid (sort_rows w.heap.size g1 c1 l0 l1 x0 x1 w2 (T1.out.agree (B2.out.block _ hl1)) (ra _ _ X0.out) (ra _ _ X1.out) hg1 (by omega))
  go_upto_region 4 with (first
    | (go_at_call 66; refine S1.out.mono ?_; rintro e w3 ⟨rfl, ht, hb, hk⟩; rw [HA.out] at ht; have T3 := Lib.hid ht; have B3 := Lib.hid hb; have K3 := Lib.hid hk; clear ht hb hk))
  have hs3 := B3.out.size
  have rb : ∀ (p : Value) (l : List S27), (∀ W', Agree (fun k => (k < w.heap.size ∨ w1.heap.size ≤ k) ∧ k ≠ g2) w2 W' → Row W' p l) → ∀ w', KeepBut w3 w' g2 none → Row w' p l := by
    intro p l h w' hk
    refine h w' (fun k hk1 hk2 => (hk.2 k (by omega) hk1.2 (by simp)).trans (K3.out.2 k hk2 ?_ (by simp)))
    rcases hk1.1 with h | h <;> omega
  have S2 := Lib.hid (sort_rows w.heap.size g2 c2 m0 m1 y0 y1 w3 (T2.out.agree (K3.out.2 g2 hl2 (by omega) (by simp))) (rb _ _ Y0.out) (rb _ _ Y1.out) (by omega) (by omega))
  go_upto_region 5 with (first
    | (go_at_call 66; refine S2.out.mono ?_; rintro e w4 ⟨rfl, ht, hb, hk⟩; rw [HB.out] at ht; have T4 := Lib.hid ht; have B4 := Lib.hid hb; have K4 := Lib.hid hk; clear ht hb hk))
  have t3 : Two w3 g1 x0 x1 := T3.out
  have t4 : Two w4 g2 y1 y0 := T4.out
  have ta : Two w4 g1 x0 x1 := t3.agree (K4.out.2 g1 (by omega) (by omega) (by simp))
  have r0 : ∀ (p : Value) (l : List S27), (∀ W', Agree (fun k => (k < w.heap.size ∨ w.heap.size ≤ k) ∧ k ≠ g1) w1 W' → Row W' p l) → Row w4 p l := by
    intro p l h
    exact h w4 (fun k hk1 hk2 => (K4.out.2 k (by omega) (by omega) (by simp)).trans ((K3.out.2 k (by omega) hk1.2 (by simp)).trans (B2.out.block k hk2)))
  have EF := Lib.hid (eqf_calls g1 g2 c1 c2 l0 l1 m1 m0 x0 x1 y1 y0 w4 ta t4 (r0 _ _ X0.out) (r0 _ _ X1.out) (rb _ _ Y1.out w4 K4.out) (rb _ _ Y0.out w4 K4.out) HE0.out HE1.out)
  clear t3 t4 ta r0 ra rb
  go_wp2_with (first
    | (go_at_call 67; refine EF.out.mono ?_; rintro e w5 ⟨rfl, hb⟩))
  go_ret
  refine ⟨rfl, ?_⟩
  have hs4 := B4.out.size
  exact (B1.out.trans (B2.out.mono (by omega))).trans ((B3.out.trans B4.out).trans (hb.mono (by omega)))
end Go.Proofs.YtepgjdmdogblmaaDoor.Val
