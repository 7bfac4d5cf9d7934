/- Package disk: a disk that is being changed by a step: the place of a file, a file laid. No condition but that the files' names rise, and that they are not too many. -/
import Derived.Test.YtebngchdmpabhaaDsk2
namespace Go.Proofs.Ytebngchdmpabhaa.Disk
open Go.RowKit Go.Proofs.Ytebngchdmpabhaa.G Go.Proofs.YtebngchdmpabhaaW.PrintWords Go.Proofs.YtebngchdmpabhaaW.PrintLast Go.Proofs.YtebngchdmpabhaaW.PrintMore Go.Proofs.YtebngchdmpabhaaW.Raw
set_option linter.unusedVariables false
set_option linter.unusedSimpArgs false
/-- the plate's block: its files' row, whether it is down, its fuse; the step -/
def Plate (w : World) (base g : Nat) (files : List S41) (down : Bool) (fuse kind : Int) (name dst data : ByteArray) : Prop :=
  ∃ v, w.heap[g]? = some (.cells #[v, .bool down, .int .i64 fuse, .int .u8 kind, .string name, .string dst, .string data] 51 (0, 0)) ∧ Kd.R k41 41 w base (fun k => k ≠ g) v files
theorem Plate.below {w w1 : World} {base g : Nat} {files : List S41} {down : Bool} {fuse kind : Int} {name dst data : ByteArray} (h : Plate w base g files down fuse kind name dst data) (hb : Below w.heap.size w w1) : Plate w1 base g files down fuse kind name dst data := by
  obtain ⟨v, hg, hR⟩ := h
  exact ⟨v, blk_below hg hb, Kd.R_below hR hb⟩
theorem Plate.alloc {w : World} {base g : Nat} {files : List S41} {down : Bool} {fuse kind : Int} {name dst data : ByteArray} (h : Plate w base g files down fuse kind name dst data) (o : Obj) : Plate (w.alloc o) base g files down fuse kind name dst data := h.below (below_alloc (Below.refl _ _) o)
theorem find_calls (g base : Nat) (files : List S41) (down : Bool) (fuse kind : Int) (name dst data key : ByteArray) (w : World) (hp : Plate w base g files down fuse kind name dst data) (hn : files.length ≤ 4611686018427387904) (hs : Rises files) :
    Calls Try.prog 31 #[.pointer (some ⟨g, 0, none⟩), .string key] w fun e w' => e = .returned (.tuple #[.int .i64 (lb files key), .bool (foundAt files key)]) ∧ Below w.heap.size w w' := by
  obtain ⟨v, hg, hR⟩ := hp
  obtain ⟨A, c, rfl, hl, hC⟩ := Kd.R_reads hR
  have HR := Lib.hid hC
  have HS := Lib.hid hs
  clear hR hC hs
  have c0 : w.cell? ⟨g, 0, none⟩ = some (.slice A files.length c) := by simp [World.cell?, hg]
  clear hg
  go_enter Try.func31, Try.ntmps31
  go_wp2_with (go_at_call 37; refine (search_calls _ _ files key _ HR.out hn HS.out).mono ?_; rintro e w' ⟨rfl, hb⟩; have HB := Lib.hid hb; clear hb)
  go_ret2
  exact ⟨rfl, HB.out⟩

theorem R_cells {w : World} {base : Nat} {ok : Nat → Prop} {v : Value} {l : List S41} (h : Kd.R k41 41 w base ok v l) : w.ownsRow base 41 3 v l.length (l.flatMap cellsOf) := by
  obtain ⟨_, inner, ho, hr⟩ := h
  have key : ∀ (l : List S41) (inner : List Value), Reps (k41.M w base (fun k => ok k ∧ some k ≠ v.ownBlock)) 3 l inner → inner = l.flatMap cellsOf := by
    intro l
    induction l with
    | nil => intro inner h; exact List.eq_nil_of_length_eq_zero (by simpa using h.1)
    | cons f l ih =>
      intro inner h
      have h0 := h.2 0 f rfl
      have e0 := k41_openM h0
      have hl := h.1
      rw [List.length_cons] at hl
      have h1 : Reps (k41.M w base (fun k => ok k ∧ some k ≠ v.ownBlock)) 3 l (inner.drop 3) := by
        refine ⟨by rw [List.length_drop]; omega, fun j p hj => ?_⟩
        have := h.2 (j + 1) p (by simpa using hj)
        rw [List.drop_drop]
        rwa [show 3 + j * 3 = (j + 1) * 3 by omega]
      have e1 := ih _ h1
      rw [List.flatMap_cons, ← e1]
      have e2 : inner.take 3 = cellsOf f := by simpa [cellsOf] using e0
      rw [← e2, List.take_append_drop]
  rw [← key l inner hr]
  exact ho
theorem R_of_cells {w : World} {base : Nat} {ok : Nat → Prop} {v : Value} {l : List S41} (ho : w.ownsRow base 41 3 v l.length (l.flatMap cellsOf)) (hok : ∀ k, v.ownBlock = some k → ok k) : Kd.R k41 41 w base ok v l := by
  refine ⟨hok, _, ho, ?_⟩
  have key : ∀ (ok' : Nat → Prop) (l : List S41), Reps (k41.M w base ok') 3 l (l.flatMap cellsOf) := by
    intro ok' l
    induction l with
    | nil => exact Reps.none _ _
    | cons f l ih =>
      refine ⟨by have := ih.1; rw [List.flatMap_cons, List.length_append, List.length_cons, this]; simp [cellsOf]; omega, fun j p hj => ?_⟩
      cases j with
      | zero =>
        obtain rfl : f = p := by simpa using hj
        have : (((f :: l).flatMap cellsOf).drop (0 * 3)).take 3 = cellsOf f := by simp [cellsOf]
        rw [this]
        exact k41_mkM w base ok' f
      | succ j =>
        have h2 := ih.2 j p (by simpa using hj)
        have : (((f :: l).flatMap cellsOf).drop ((j + 1) * 3)).take 3 = ((l.flatMap cellsOf).drop (j * 3)).take 3 := by
          rw [List.flatMap_cons, show (j + 1) * 3 = (cellsOf f).length + j * 3 by simp [cellsOf]; omega, ← List.drop_drop, List.drop_left]
        rw [this]
        exact h2
  exact key _ l
theorem cells_take : ∀ (l : List S41) (i : Nat), (l.flatMap cellsOf).take (i * 3) = (l.take i).flatMap cellsOf
  | [], i => by simp
  | f :: l, 0 => by simp
  | f :: l, i + 1 => by
    rw [List.flatMap_cons, List.take_succ_cons, List.flatMap_cons, ← cells_take l i, show (i + 1) * 3 = (cellsOf f).length + i * 3 by simp [cellsOf]; omega, List.take_length_add_append]
theorem cells_drop : ∀ (l : List S41) (i : Nat), (l.flatMap cellsOf).drop (i * 3) = (l.drop i).flatMap cellsOf
  | [], i => by simp
  | f :: l, 0 => by simp
  | f :: l, i + 1 => by
    rw [List.flatMap_cons, List.drop_succ_cons, ← cells_drop l i, show (i + 1) * 3 = (cellsOf f).length + i * 3 by simp [cellsOf]; omega, ← List.drop_drop, List.drop_left]
theorem cells_one (l : List S41) : ∀ u ∈ l.flatMap cellsOf, u.oneCell' = true := by
  intro u hu
  obtain ⟨f, _, hf⟩ := List.mem_flatMap.1 hu
  simp [cellsOf] at hf
  rcases hf with rfl | rfl | rfl <;> rfl
def layF (files : List S41) (f : S41) : List S41 := if foundAt files f.f0 = true then files.set (lb files f.f0) f else files.take (lb files f.f0) ++ [f] ++ files.drop (lb files f.f0)
theorem lb_le (l : List S41) (name : ByteArray) : lb l name ≤ l.length := by
  unfold lb
  exact (List.takeWhile_sublist _).length_le
set_option maxHeartbeats 1000000 in
set_option maxRecDepth 100000 in
theorem lay_found (g base : Nat) (files : List S41) (down : Bool) (fuse kind : Int) (name dst data : ByteArray) (f : S41) (w : World) (hp : Plate w base g files down fuse kind name dst data) (hn : files.length ≤ 4611686018427387904) (hs : Rises files) (hbg : base ≤ g) (hbw : base ≤ w.heap.size) (hf : foundAt files f.f0 = true) :
    Calls Try.prog 33 #[.pointer (some ⟨g, 0, none⟩), .agg #[.string f.f0, .string f.f1, .int .i64 f.f2]] w fun e w' => e = .returned (.tuple #[]) ∧ Plate w' base g (files.set (lb files f.f0) f) down fuse kind name dst data ∧ Below base w w' := by
  have hlt : lb files f.f0 < files.length := by
    unfold foundAt at hf
    simp at hf
    exact hf.1
  have HP := Lib.hid hp
  have HS := Lib.hid hs
  have HF := Lib.hid hf
  clear hp hs hf
  obtain ⟨i, hi⟩ : ∃ i, i = lb files f.f0 := ⟨_, rfl⟩
  rw [← hi] at hlt ⊢
  have HI := Lib.hid hi
  clear hi
  have hgl : g < w.heap.size := by obtain ⟨v, hg, _⟩ := HP.out; exact blk_lt hg
  go_enter Try.func33, Try.ntmps33
  go_wp2_with (go_at_call 31; refine (find_calls g base files down fuse kind name dst data f.f0 _ (HP.out.alloc _) hn HS.out).mono ?_; rintro e w2 ⟨rfl, hb⟩; rw [HF.out, ← HI.out]; have HB := Lib.hid hb; clear hb)
  have hp2 := (HP.out.alloc (.cells #[.string f.f0, .string f.f1, .int .i64 f.f2] 41 (0, 0))).below HB.out
  have hbox := blk_below (blk_new w (.cells #[.string f.f0, .string f.f1, .int .i64 f.f2] 41 (0, 0))) HB.out
  have hsz := HB.out.size
  obtain ⟨v2, hg2, hR2⟩ := hp2
  obtain ⟨gv, cap, rfl, hbv, hlv, cellsv, hgv⟩ := Kd.R_form hR2 (by omega)
  have hgne : g ≠ gv := fun e => hR2.1 gv rfl e.symm
  obtain ⟨ce, hcl, hM, hcc, hfr⟩ := Kd.R_elem hR2 z41 (i : Int) (by omega) (by omega)
  obtain rfl := k41_openM hM
  have p0 : w2.cell? ⟨g, 0, none⟩ = some (.slice (some ⟨gv, 0, none⟩) files.length cap) := by simp [World.cell?, hg2]
  have b0 : w2.cell? ⟨w.heap.size, 0, none⟩ = some (.string f.f0) := by simp [World.cell?, hbox]
  have b1 : w2.cell? ⟨w.heap.size, 1, none⟩ = some (.string f.f1) := by simp [World.cell?, hbox]
  have b2 : w2.cell? ⟨w.heap.size, 2, none⟩ = some (.int .i64 f.f2) := by simp [World.cell?, hbox]
  have x0 := hcc 0 _ rfl
  have x1 := hcc 1 _ rfl
  have x2 := hcc 2 _ rfl
  have y0 := hfr 0
  have y1 := hfr 1
  have y2 := hfr 2
  simp only [Int.toNat_natCast, show k41.sz = 3 from rfl, Nat.add_zero] at x0 x1 x2 y0 y1 y2
  have hii : (i : Int) < (files.length : Int) := by omega
  have HR2 := Lib.hid hR2
  have HG2 := Lib.hid hg2
  have HCC := Lib.hid hcc
  clear hR2 hg2 hbox hgv hcc hfr hM hcl
  go_region
  go_wp2
  first | go_end0 | refine bodyPost_ret (results_none rfl _ _ _) rfl ?_
  have hseg := Kd.R_seg (okp := fun k => k ≠ g ∧ k ≠ gv) HR2.out (i : Int) (by omega) hii (seg := cellsOf f) (j := 0) (x' := f) rfl HCC.out (by simp [cellsOf]; exact Nat.le_refl _) (by simpa [cellsOf] using k41_mkM w2 base _ f) (fun k hk => hk)
  simp only [Int.toNat_natCast, show k41.sz = 3 from rfl, Nat.add_zero] at hseg
  have hB2 : Below base w w2 := ((Below.refl base w).alloc hbw _).trans (HB.out.mono (by simp; omega))
  exact ⟨rfl, ⟨_, (hseg.2.block g (blk_lt HG2.out) (fun e => hgne (Option.some.inj e))).trans HG2.out, Kd.R_drew hseg.1⟩, below_drew1 (hB2.grown hseg.2 (Nat.le_trans hbw (by simp at hsz; omega)) (fun k hk => by injection hk with hk; omega))⟩
theorem plate_store {base g : Nat} {files' : List S41} {down : Bool} {fuse kind : Int} {name dst data : ByteArray} {w3 : World} {v0 : Value} (hg3 : w3.heap[g]? = some (.cells #[v0, .bool down, .int .i64 fuse, .int .u8 kind, .string name, .string dst, .string data] 51 (0, 0))) {v1 : Value} (ho : w3.ownsRow base 41 3 v1 files'.length (files'.flatMap cellsOf)) (hne : v1.ownBlock ≠ some g) :
    Plate (w3.setCell ⟨g, 0, none⟩ v1) base g files' down fuse kind name dst data := by
  refine ⟨v1, ?_, Kd.R_far (p := ⟨g, 0, none⟩) (R_of_cells (ok := fun k => k ≠ g) ho (fun k hk (e : k = g) => hne (by rw [hk, e]))) (fun k hk => hk) _⟩
  exact blk_put (cs := #[v0, .bool down, .int .i64 fuse, .int .u8 kind, .string name, .string dst, .string data]) hg3 0 _ rfl
set_option maxHeartbeats 1000000 in
set_option maxRecDepth 100000 in
theorem lay_new (g base : Nat) (files : List S41) (down : Bool) (fuse kind : Int) (name dst data : ByteArray) (f : S41) (w : World) (hp : Plate w base g files down fuse kind name dst data) (hn : (files.length + 1) * 40 ≤ 140737488355328) (hs : Rises files) (hbg : base ≤ g) (hbw : base ≤ w.heap.size) (hf : foundAt files f.f0 = false) :
    Calls Try.prog 33 #[.pointer (some ⟨g, 0, none⟩), .agg #[.string f.f0, .string f.f1, .int .i64 f.f2]] w fun e w' => e = .returned (.tuple #[]) ∧ Plate w' base g (files.take (lb files f.f0) ++ [f] ++ files.drop (lb files f.f0)) down fuse kind name dst data ∧ Below base w w' := by
  have hle : lb files f.f0 ≤ files.length := lb_le _ _
  have HP := Lib.hid hp
  have HS := Lib.hid hs
  have HF := Lib.hid hf
  clear hp hs hf
  obtain ⟨i, hi⟩ : ∃ i, i = lb files f.f0 := ⟨_, rfl⟩
  rw [← hi] at hle ⊢
  have HI := Lib.hid hi
  clear hi
  have hgl : g < w.heap.size := by obtain ⟨v, hg, _⟩ := HP.out; exact blk_lt hg
  go_enter Try.func33, Try.ntmps33
  go_wp2_with (go_at_call 31; refine (find_calls g base files down fuse kind name dst data f.f0 _ (HP.out.alloc _) (by omega) HS.out).mono ?_; rintro e w2 ⟨rfl, hb⟩; rw [HF.out, ← HI.out]; have HB := Lib.hid hb; clear hb)
  have hp2 := (HP.out.alloc (.cells #[.string f.f0, .string f.f1, .int .i64 f.f2] 41 (0, 0))).below HB.out
  have hbox := blk_below (blk_new w (.cells #[.string f.f0, .string f.f1, .int .i64 f.f2] 41 (0, 0))) HB.out
  have hsz := HB.out.size
  obtain ⟨v2, hg2, hR2⟩ := hp2
  obtain ⟨A, cap, rfl⟩ := Kd.R_slice hR2
  have hgl2 := blk_lt hg2
  have p0 : w2.cell? ⟨g, 0, none⟩ = some (.slice A files.length cap) := by simp [World.cell?, hg2]
  have b0 : w2.cell? ⟨w.heap.size, 0, none⟩ = some (.string f.f0) := by simp [World.cell?, hbox]
  have b1 : w2.cell? ⟨w.heap.size, 1, none⟩ = some (.string f.f1) := by simp [World.cell?, hbox]
  have b2 : w2.cell? ⟨w.heap.size, 2, none⟩ = some (.int .i64 f.f2) := by simp [World.cell?, hbox]
  have HR2 := Lib.hid hR2
  have HG2 := Lib.hid hg2
  have hbw2 : base ≤ w2.heap.size := by simp at hsz; omega
  clear hR2 hg2 hbox
  have hins := insert_calls ((w2.alloc (.cells #[.string f.f0, .string f.f1, .int .i64 f.f2] 41)).drew) base files.length i w2.heap.size (.slice A files.length cap) (files.flatMap cellsOf) (cellsOf f) ((R_cells HR2.out).alloc _) hle (blk_new w2 _) rfl (fun e => by have h_ := own_lt (R_cells HR2.out) _ e; omega) (by simp; omega) hn (cells_one _) (fun u hu => cells_one [f] u (by simpa using hu))
  have HINS := Lib.hid hins
  clear hins
  go_region_with (go_at_call 40; refine HINS.out.mono ?_; rintro e w3 ⟨v1, rfl, ho, hg, hat⟩; obtain ⟨A1, c1, rfl⟩ := own_slice ho; have HG3 : Hid (w3.heap[g]? = some (.cells #[.slice A files.length cap, .bool down, .int .i64 fuse, .int .u8 kind, .string name, .string dst, .string data] 51 (0, 0))) := (hg.block g (by simp; omega) (fun e_ => HR2.out.1 g e_.symm rfl)).trans (blk_alloc HG2.out _); have q0 : w3.cell? ⟨g, 0, none⟩ = some (.slice A files.length cap) := (by simp [World.cell?, HG3.out]); have q1 : w3.frozen? ⟨g, 0, none⟩ = false := (by simp [World.frozen?, HG3.out]); have HO := Lib.hid ho; have HH := Lib.hid hg; have HA := Lib.hid hat; clear ho hg hat)
  all_goals
    first | go_end0 | refine bodyPost_ret (results_none rfl _ _ _) rfl ?_
    have hB2 : Below base w w2 := ((Below.refl base w).alloc hbw _).trans (HB.out.mono (by simp; omega))
    have el : (files.take i ++ [f] ++ files.drop i).length = files.length + 1 := by
      rw [List.length_append, List.length_append, List.length_take, List.length_drop, List.length_singleton]; omega
    have ec : (files.take i ++ [f] ++ files.drop i).flatMap cellsOf = (files.flatMap cellsOf).take (i * 3) ++ cellsOf f ++ (files.flatMap cellsOf).drop (i * 3) := by
      rw [List.flatMap_append, List.flatMap_append, cells_take, cells_drop]; simp
    refine ⟨rfl, plate_store HG3.out (by rw [el, ec]; exact HO.out) (fun e => ?_), ?_⟩
    · rcases HA.out with h | ⟨b, h, hb⟩
      · rw [h] at e; exact HR2.out.1 g e rfl
      · rw [h] at e; injection e with e; simp at hb; omega
    · refine Below.setCell (((hB2.alloc hbw2 _).drew).grown HH.out (by simp; omega) (fun k hk => own_base (R_cells HR2.out) k hk)) ?_ _
      exact hbg
end Go.Proofs.Ytebngchdmpabhaa.Disk
