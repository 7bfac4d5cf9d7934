/- Package disk: the changes sync, move and drop. No condition but that the files' names rise, and that they are not too many. -/
import Derived.Test.YtebngchdmpabhaaDsk3
namespace Go.Proofs.Ytebngchdmpabhaa.Disk
open Go.RowKit Go.Proofs.Ytebngchdmpabhaa.G Go.Proofs.YtebngchdmpabhaaW.PrintWords Go.Proofs.YtebngchdmpabhaaW.PrintLast Go.Proofs.YtebngchdmpabhaaW.PrintMore Go.Proofs.YtebngchdmpabhaaW.Raw
set_option linter.unusedVariables false
set_option linter.unusedSimpArgs false
def knownN (b : Bool) : Int := if b = true then 0 else 7
theorem known_calls (b : Bool) (w : World) : Calls Try.prog 34 #[.bool b] w fun e w' => e = .returned (.int .i64 (knownN b)) ∧ w = w' := by
  cases b
  all_goals
    go_enter Try.func34, Try.ntmps34
    go_wp2
    go_ret
    exact ⟨rfl, rfl⟩
theorem lay_calls (g base : Nat) (files : List S41) (down : Bool) (fuse kind : Int) (name dst data : ByteArray) (f : S41) (w : World) (hp : Plate w base g files down fuse kind name dst data) (hn : (files.length + 1) * 40 ≤ 140737488355328) (hs : Rises files) (hbg : base ≤ g) (hbw : base ≤ w.heap.size) :
    Calls Try.prog 33 #[.pointer (some ⟨g, 0, none⟩), .agg #[.string f.f0, .string f.f1, .int .i64 f.f2]] w fun e w' => e = .returned (.tuple #[]) ∧ Plate w' base g (layF files f) down fuse kind name dst data ∧ Below base w w' := by
  rcases hf : foundAt files f.f0 with _ | _
  · simp only [layF, hf, Bool.false_eq_true, if_false]
    exact lay_new g base files down fuse kind name dst data f w hp hn hs hbg hbw hf
  · simp only [layF, hf, if_true]
    exact lay_found g base files down fuse kind name dst data f w hp (by omega) hs hbg hbw hf
theorem found_lt {files : List S41} {name : ByteArray} (hf : foundAt files name = true) : lb files name < files.length := by
  unfold foundAt at hf
  simp at hf
  exact hf.1
def dropF (files : List S41) (name : ByteArray) : List S41 := files.take (lb files name) ++ files.drop (lb files name + 1)
def syncF (files : List S41) (name : ByteArray) : List S41 := files.set (lb files name) ⟨(files.getD (lb files name) z41).f0, (files.getD (lb files name) z41).f1, ((files.getD (lb files name) z41).f1.size : Int)⟩
/-- what a plate's block tells -/
theorem Plate.cells {w : World} {base g : Nat} {files : List S41} {down : Bool} {fuse kind : Int} {name dst data : ByteArray} (h : Plate w base g files down fuse kind name dst data) :
    ∃ A c, w.cell? ⟨g, 0, none⟩ = some (.slice A files.length c) ∧ w.cell? ⟨g, 1, none⟩ = some (.bool down) ∧ w.cell? ⟨g, 2, none⟩ = some (.int .i64 fuse) ∧ w.cell? ⟨g, 3, none⟩ = some (.int .u8 kind) ∧ w.cell? ⟨g, 4, none⟩ = some (.string name) ∧ w.cell? ⟨g, 5, none⟩ = some (.string dst) ∧ w.cell? ⟨g, 6, none⟩ = some (.string data) ∧
      w.heap[g]? = some (.cells #[.slice A files.length c, .bool down, .int .i64 fuse, .int .u8 kind, .string name, .string dst, .string data] 51 (0, 0)) ∧ Kd.R k41 41 w base (fun k => k ≠ g) (.slice A files.length c) files := by
  obtain ⟨v, hg, hR⟩ := h
  obtain ⟨A, c, rfl⟩ := Kd.R_slice hR
  refine ⟨A, c, ?_, ?_, ?_, ?_, ?_, ?_, ?_, hg, hR⟩ <;> simp [World.cell?, hg]
set_option maxHeartbeats 1000000 in
set_option maxRecDepth 100000 in
theorem drop_calls (g base : Nat) (files : List S41) (down : Bool) (fuse kind : Int) (name dst data : ByteArray) (power : Bool) (w : World) (hp : Plate w base g files down fuse kind name dst data) (hn : (files.length + 1) * 40 ≤ 140737488355328) (hs : Rises files) (hbg : base ≤ g) (hbw : base ≤ w.heap.size) :
    Calls Try.prog 26 #[.pointer (some ⟨g, 0, none⟩), .bool power] w fun e w' => e = .returned (.int .i64 (knownN (foundAt files name))) ∧ Plate w' base g (if (foundAt files name && power) = true then dropF files name else files) down fuse kind name dst data ∧ Below base w w' := by
  have HP := Lib.hid hp
  have HS := Lib.hid hs
  obtain ⟨A, c, p0, p1, p2, p3, p4, p5, p6, hg, hR⟩ := hp.cells
  have hgl := blk_lt hg
  clear hp hs p0 p1 p2 p3 p5 p6 hg hR
  rcases hf : foundAt files name with _ | _
  · have HF := Lib.hid hf
    clear hf
    simp only [Bool.false_and, Bool.false_eq_true, if_false]
    go_enter Try.func26, Try.ntmps26
    go_wp2_with (first
      | (go_at_call 31; refine (find_calls g base files down fuse kind name dst data name _ HP.out (by omega) HS.out).mono ?_; rintro e w2 ⟨rfl, hb⟩; rw [HF.out]; have HB := Lib.hid hb; clear hb)
      | (go_at_call 34; refine (known_calls _ _).mono ?_; rintro e w' ⟨rfl, rfl⟩))
    go_ret
    exact ⟨rfl, HP.out.below HB.out, HB.out.mono hbw⟩
  · have hlt := found_lt hf
    have HF := Lib.hid hf
    clear hf
    obtain ⟨i, hi⟩ : ∃ i, i = lb files name := ⟨_, rfl⟩
    have HD : Hid (dropF files name = files.take i ++ files.drop (i + 1)) := by rw [hi]; exact rfl
    rw [← hi] at hlt
    have HI := Lib.hid hi
    clear hi
    cases power
    · simp only [Bool.and_false, Bool.false_eq_true, if_false]
      go_enter Try.func26, Try.ntmps26
      go_wp2_with (first
        | (go_at_call 31; refine (find_calls g base files down fuse kind name dst data name _ HP.out (by omega) HS.out).mono ?_; rintro e w2 ⟨rfl, hb⟩; rw [HF.out]; have HB := Lib.hid hb; clear hb)
        | (go_at_call 34; refine (known_calls _ _).mono ?_; rintro e w' ⟨rfl, rfl⟩))
      go_ret
      exact ⟨rfl, HP.out.below HB.out, HB.out.mono hbw⟩
    · simp only [Bool.and_true, if_true]
      go_enter Try.func26, Try.ntmps26
      go_wp2_with (first
        | (go_at_call 31; refine (find_calls g base files down fuse kind name dst data name _ HP.out (by omega) HS.out).mono ?_; rintro e w2 ⟨rfl, hb⟩; rw [HF.out, ← HI.out]; obtain ⟨A2, c2, q0, q1, q2, q3, q4, q5, q6, hg2, hR2⟩ := (HP.out.below hb).cells; have HG2 := Lib.hid hg2; have HR2 := Lib.hid hR2; have hs2 := hb.size; have HB := Lib.hid hb; clear hb hg2 hR2)
        | (go_at_call 35; refine (delete_calls _ base files.length i _ _ (R_cells HR2.out) hlt (cells_one _)).mono ?_; rintro e w3 ⟨v1, rfl, ho, hgr, hob⟩; obtain ⟨A1, c1, rfl⟩ := own_slice ho; have HG3 : Hid (w3.heap[g]? = some (.cells #[.slice A2 files.length c2, .bool down, .int .i64 fuse, .int .u8 kind, .string name, .string dst, .string data] 51 (0, 0))) := (hgr.block g (blk_lt HG2.out) (fun e_ => HR2.out.1 g e_.symm rfl)).trans HG2.out; have r0 : w3.cell? ⟨g, 0, none⟩ = some (.slice A2 files.length c2) := (by simp [World.cell?, HG3.out]); have r1 : w3.frozen? ⟨g, 0, none⟩ = false := (by simp [World.frozen?, HG3.out]); have HO := Lib.hid ho; have HH := Lib.hid hgr; have HA := Lib.hid hob; clear ho hgr hob q0 q1 q2 q3 q4 q5 q6)
        | (go_at_call 34; refine (known_calls _ _).mono ?_; rintro e w' ⟨rfl, rfl⟩))
      go_ret
      have el : (files.take i ++ files.drop (i + 1)).length = files.length - 1 := by
        rw [List.length_append, List.length_take, List.length_drop]; omega
      have ec : (files.take i ++ files.drop (i + 1)).flatMap cellsOf = (files.flatMap cellsOf).take (i * 3) ++ (files.flatMap cellsOf).drop ((i + 1) * 3) := by
        rw [List.flatMap_append, cells_take, cells_drop]
      refine ⟨rfl, ?_, ?_⟩
      · rw [HD.out]
        exact plate_store HG3.out (by rw [el, ec]; exact HO.out) (fun e => HR2.out.1 g (HA.out.symm.trans e) rfl)
      · exact Below.setCell ((HB.out.mono hbw).grown HH.out (Nat.le_trans hbw hs2) (fun k hk => own_base (R_cells HR2.out) k hk)) hbg _
set_option maxHeartbeats 1000000 in
set_option maxRecDepth 100000 in
theorem sync_calls (g base : Nat) (files : List S41) (down : Bool) (fuse kind : Int) (name dst data : ByteArray) (power : Bool) (w : World) (hp : Plate w base g files down fuse kind name dst data) (hn : (files.length + 1) * 40 ≤ 140737488355328) (hs : Rises files) (hbg : base ≤ g) (hbw : base ≤ w.heap.size) :
    Calls Try.prog 24 #[.pointer (some ⟨g, 0, none⟩), .bool power] w fun e w' => e = .returned (.int .i64 (knownN (foundAt files name))) ∧ Plate w' base g (if (foundAt files name && power) = true then syncF files name else files) down fuse kind name dst data ∧ Below base w w' := by
  have HP := Lib.hid hp
  have HS := Lib.hid hs
  obtain ⟨A, c, p0, p1, p2, p3, p4, p5, p6, hg, hR⟩ := hp.cells
  have hgl := blk_lt hg
  clear hp hs p0 p1 p2 p3 p5 p6 hg hR
  rcases hf : foundAt files name with _ | _
  · have HF := Lib.hid hf
    clear hf
    simp only [Bool.false_and, Bool.false_eq_true, if_false]
    go_enter Try.func24, Try.ntmps24
    go_wp2_with (first
      | (go_at_call 31; refine (find_calls g base files down fuse kind name dst data name _ HP.out (by omega) HS.out).mono ?_; rintro e w2 ⟨rfl, hb⟩; rw [HF.out]; have HB := Lib.hid hb; clear hb)
      | (go_at_call 34; refine (known_calls _ _).mono ?_; rintro e w' ⟨rfl, rfl⟩))
    go_ret
    exact ⟨rfl, HP.out.below HB.out, HB.out.mono hbw⟩
  · have hlt := found_lt hf
    have HF := Lib.hid hf
    clear hf
    obtain ⟨i, hi⟩ : ∃ i, i = lb files name := ⟨_, rfl⟩
    have HD : Hid (syncF files name = files.set i ⟨(files.getD i z41).f0, (files.getD i z41).f1, ((files.getD i z41).f1.size : Int)⟩) := by rw [hi]; exact rfl
    rw [← hi] at hlt
    have HI := Lib.hid hi
    clear hi
    cases power
    · simp only [Bool.and_false, Bool.false_eq_true, if_false]
      go_enter Try.func24, Try.ntmps24
      go_wp2_with (first
        | (go_at_call 31; refine (find_calls g base files down fuse kind name dst data name _ HP.out (by omega) HS.out).mono ?_; rintro e w2 ⟨rfl, hb⟩; rw [HF.out]; have HB := Lib.hid hb; clear hb)
        | (go_at_call 34; refine (known_calls _ _).mono ?_; rintro e w' ⟨rfl, rfl⟩))
      go_ret
      exact ⟨rfl, HP.out.below HB.out, HB.out.mono hbw⟩
    · simp only [Bool.and_true, if_true]
      go_enter Try.func24, Try.ntmps24
      go_wp2_with (go_at_call 31; refine (find_calls g base files down fuse kind name dst data name _ HP.out (by omega) HS.out).mono ?_; rintro e w2 ⟨rfl, hb⟩; rw [HF.out, ← HI.out]; obtain ⟨A2, c2, q0, q1, q2, q3, q4, q5, q6, hg2, hR2⟩ := (HP.out.below hb).cells; have HG2 := Lib.hid hg2; have HR2 := Lib.hid hR2; have hs2 := hb.size; have HB := Lib.hid hb; clear hb hg2 hR2)
      obtain ⟨gv, cap, ev, hbv, hlv, cellsv, hgv⟩ := Kd.R_form HR2.out (by omega)
      injection ev with ea _ _
      subst ea
      have hgne : g ≠ gv := fun e => HR2.out.1 gv rfl e.symm
      obtain ⟨ce, hcl, hM, hcc, hfr⟩ := Kd.R_elem HR2.out z41 (i : Int) (by omega) (by omega)
      obtain rfl := k41_openM hM
      have x1 := hcc 1 _ rfl
      have x2 := hcc 2 _ rfl
      have y2 := hfr 2
      simp only [Int.toNat_natCast, show k41.sz = 3 from rfl] at x1 x2 y2
      have HCC := Lib.hid hcc
      have hii : (i : Int) < (files.length : Int) := by omega
      clear hcc hfr hM hcl q1 q2 q3 q4 q5 q6 p4 hgv
      obtain ⟨F, hF⟩ : ∃ F, F = files.getD i z41 := ⟨_, rfl⟩
      rw [← hF] at x1 x2
      have HFF := Lib.hid hF
      clear hF
      go_region
      go_wp2_with (go_at_call 34; refine (known_calls _ _).mono ?_; rintro e w' ⟨rfl, rfl⟩)
      go_ret
      have hseg := Kd.R_seg (okp := fun k => k ≠ g ∧ k ≠ gv) HR2.out (i : Int) (by omega) hii (seg := [.int .i64 (F.f1.size : Int)]) (j := 2) (x' := ⟨F.f0, F.f1, (F.f1.size : Int)⟩) rfl HCC.out (by simp; exact Nat.le_refl _) (by simpa [HFF.out] using k41_mkM w2 base _ (⟨F.f0, F.f1, (F.f1.size : Int)⟩ : S41)) (fun k hk => hk)
      simp only [Int.toNat_natCast, show k41.sz = 3 from rfl] at hseg
      refine ⟨rfl, ⟨_, (hseg.2.block g (blk_lt HG2.out) (fun e => hgne (Option.some.inj e))).trans HG2.out, ?_⟩, below_drew1 ((HB.out.mono hbw).grown hseg.2 (Nat.le_trans hbw hs2) (fun k hk => by injection hk with hk; omega))⟩
      rw [HD.out, ← HFF.out]
      exact Kd.R_drew hseg.1
theorem Rises.drop {files : List S41} (h : Rises files) (i : Nat) : Rises (files.take i ++ files.drop (i + 1)) := by
  have key : ∀ k, k < (files.take i ++ files.drop (i + 1)).length → nameAt (files.take i ++ files.drop (i + 1)) k = nameAt files (if k < i then k else k + 1) ∧ (if k < i then k else k + 1) < files.length := by
    intro k hk
    rw [List.length_append, List.length_take, List.length_drop] at hk
    unfold nameAt
    rw [List.getD_eq_getElem?_getD, List.getD_eq_getElem?_getD]
    by_cases h1 : k < i
    · rw [if_pos h1, List.getElem?_append_left (by rw [List.length_take]; omega), List.getElem?_take, if_pos h1]
      exact ⟨rfl, by omega⟩
    · rw [if_neg h1, List.getElem?_append_right (by rw [List.length_take]; omega), List.getElem?_drop, List.length_take]
      exact ⟨by congr 3; omega, by omega⟩
  intro a b hab hb
  obtain ⟨ea, la⟩ := key a (by omega)
  obtain ⟨eb, lb'⟩ := key b hb
  rw [ea, eb]
  refine h _ _ ?_ lb'
  split <;> split <;> omega
theorem del_len {files : List S41} {i : Nat} (h : i < files.length) : (files.take i ++ files.drop (i + 1)).length = files.length - 1 := by
  rw [List.length_append, List.length_take, List.length_drop]; omega
theorem del_cells (files : List S41) (i : Nat) : (files.take i ++ files.drop (i + 1)).flatMap cellsOf = (files.flatMap cellsOf).take (i * 3) ++ (files.flatMap cellsOf).drop ((i + 1) * 3) := by
  rw [List.flatMap_append, cells_take, cells_drop]
def moveF (files : List S41) (name dst : ByteArray) : List S41 := layF (dropF files name) ⟨dst, (files.getD (lb files name) z41).f1, (files.getD (lb files name) z41).f2⟩
def emptyS (s : ByteArray) : Bool := s.toList.isEmpty
set_option maxHeartbeats 2000000 in
set_option maxRecDepth 100000 in
theorem move_calls (g base : Nat) (files : List S41) (down : Bool) (fuse kind : Int) (name dst data : ByteArray) (power : Bool) (w : World) (hp : Plate w base g files down fuse kind name dst data) (hn : (files.length + 1) * 40 ≤ 140737488355328) (hs : Rises files) (hbg : base ≤ g) (hbw : base ≤ w.heap.size) :
    Calls Try.prog 25 #[.pointer (some ⟨g, 0, none⟩), .bool power] w fun e w' => e = .returned (.int .i64 (knownN (foundAt files name && !emptyS dst))) ∧ Plate w' base g (if (foundAt files name && power && !emptyS dst) = true then moveF files name dst else files) down fuse kind name dst data ∧ Below base w w' := by
  have HP := Lib.hid hp
  have HS := Lib.hid hs
  obtain ⟨A, c, p0, p1, p2, p3, p4, p5, p6, hg, hR⟩ := hp.cells
  have hgl := blk_lt hg
  clear hp hs p0 p1 p2 p3 p5 p6 hg hR
  rcases hf : foundAt files name with _ | _
  · have HF := Lib.hid hf
    clear hf
    simp only [Bool.false_and, Bool.false_eq_true, if_false]
    go_enter Try.func25, Try.ntmps25
    go_wp2_with (first
      | (go_at_call 31; refine (find_calls g base files down fuse kind name dst data name _ HP.out (by omega) HS.out).mono ?_; rintro e w2 ⟨rfl, hb⟩; rw [HF.out]; have HB := Lib.hid hb; clear hb)
      | (go_at_call 34; refine (known_calls _ _).mono ?_; rintro e w' ⟨rfl, rfl⟩))
    go_ret
    exact ⟨rfl, HP.out.below HB.out, HB.out.mono hbw⟩
  · have hlt := found_lt hf
    have HF := Lib.hid hf
    clear hf
    obtain ⟨i, hi⟩ : ∃ i, i = lb files name := ⟨_, rfl⟩
    have HD : Hid (dropF files name = files.take i ++ files.drop (i + 1)) := by rw [hi]; exact rfl
    have HM : Hid (moveF files name dst = layF (dropF files name) ⟨dst, (files.getD i z41).f1, (files.getD i z41).f2⟩) := by rw [hi]; exact rfl
    rw [← hi] at hlt
    have HI := Lib.hid hi
    clear hi
    rcases he : emptyS dst with _ | _
    · have e1 : dst.toList = [] → False := by intro h; simp [emptyS, h] at he
      have e2 : (!dst.toList.isEmpty) = true := by simpa [emptyS] using he
      have e3 : dst.toList.isEmpty = false := he
      clear he
      simp only [Bool.not_false, Bool.and_true]
      cases power
      · simp only [Bool.and_false, Bool.false_eq_true, if_false]
        go_enter Try.func25, Try.ntmps25
        go_wp2_with (first
          | (go_at_call 31; refine (find_calls g base files down fuse kind name dst data name _ HP.out (by omega) HS.out).mono ?_; rintro e w2 ⟨rfl, hb⟩; rw [HF.out]; obtain ⟨A2, c2, q0, q1, q2, q3, q4, q5, q6, hg2, hR2⟩ := (HP.out.below hb).cells; have HB := Lib.hid hb; clear hb hg2 hR2 q0 q1 q2 q3 q4 q6)
          | (go_at_call 34; refine (known_calls _ _).mono ?_; rintro e w' ⟨rfl, rfl⟩))
        go_ret
        exact ⟨rfl, HP.out.below HB.out, HB.out.mono hbw⟩
      · simp only [Bool.and_true, if_true]
        go_enter Try.func25, Try.ntmps25
        go_wp2_with (first
          | (go_at_call 31; refine (find_calls g base files down fuse kind name dst data name _ HP.out (by omega) HS.out).mono ?_; rintro e w2 ⟨rfl, hb⟩; rw [HF.out, ← HI.out]; obtain ⟨A2, c2, q0, q1, q2, q3, q4, q5, q6, hg2, hR2⟩ := (HP.out.below hb).cells; have hs2 := hb.size; have HB := Lib.hid hb; obtain ⟨gv, cap, ev, hbv, hlv, cellsv, hgv⟩ := Kd.R_form hR2 (by omega); cases ev; have hgne : g ≠ gv := (fun e => hR2.1 gv rfl e.symm); obtain ⟨ce, hcl, hM, hcc, hfr⟩ := Kd.R_elem hR2 z41 (i : Int) (by omega) (by omega); obtain rfl := k41_openM hM; have x0 := hcc 0 _ rfl; have x1 := hcc 1 _ rfl; have x2 := hcc 2 _ rfl; simp only [Int.toNat_natCast, show k41.sz = 3 from rfl, Nat.add_zero] at x0 x1 x2; obtain ⟨F, hF⟩ : ∃ F, F = files.getD i z41 := ⟨_, rfl⟩; rw [← hF] at x0 x1 x2; have HFF := Lib.hid hF; have hii : (i : Int) < (files.length : Int) := (by omega); have hgl2 := blk_lt hg2; have HG2 := Lib.hid hg2; have HR2 := Lib.hid hR2; clear hb hg2 hR2 hcc hfr hM hcl q1 q2 q3 q4 q6 p4 hgv hF)
          | (go_at_call 35; go_must (refine (delete_calls _ base files.length i _ _ (R_cells (Kd.R_alloc HR2.out _)) hlt (cells_one _)).mono ?_); rintro e w3 ⟨v1, rfl, ho, hgr, hob⟩; obtain ⟨A1, c1, rfl⟩ := own_slice ho; have hb3 : Below base w w3 := (((HB.out.mono hbw).alloc (Nat.le_trans hbw hs2) _).grown hgr (by simp; omega) (fun k hk => own_base (R_cells HR2.out) k hk)); have HG3 : Hid (w3.heap[g]? = some (.cells #[.slice (some ⟨gv, 0, none⟩) files.length c2, .bool down, .int .i64 fuse, .int .u8 kind, .string name, .string dst, .string data] 51 (0, 0))) := (hgr.block g (by simp; omega) (fun e_ => hgne (Option.some.inj e_))).trans (blk_alloc HG2.out _); have HX3 : Hid (w3.heap[w2.heap.size]? = some (.cells #[.string dst, .string F.f1, .int .i64 F.f2] 41 (0, 0))) := (hgr.block w2.heap.size (by simp) (fun e_ => by have h_ : w2.heap.size = gv := Option.some.inj e_; omega)).trans (blk_new w2 _); have r0 : w3.cell? ⟨g, 0, none⟩ = some (.slice (some ⟨gv, 0, none⟩) files.length c2) := (by simp [World.cell?, HG3.out]); have r1 : w3.frozen? ⟨g, 0, none⟩ = false := (by simp [World.frozen?, HG3.out]); have z0 : w3.cell? ⟨w2.heap.size, 0, none⟩ = some (.string dst) := (by simp [World.cell?, HX3.out]); have z1 : w3.cell? ⟨w2.heap.size, 1, none⟩ = some (.string F.f1) := (by simp [World.cell?, HX3.out]); have z2 : w3.cell? ⟨w2.heap.size, 2, none⟩ = some (.int .i64 F.f2) := (by simp [World.cell?, HX3.out]); have HPL : Hid (Plate (w3.setCell ⟨g, 0, none⟩ (.slice A1 (files.length - 1) c1)) base g (files.take i ++ files.drop (i + 1)) down fuse kind name dst data) := plate_store HG3.out (by rw [del_len hlt, del_cells]; exact ho) (fun e => hgne (Option.some.inj (hob.symm.trans e)).symm); have HB3 : Hid (Below base w (w3.setCell ⟨g, 0, none⟩ (.slice A1 (files.length - 1) c1))) := hb3.setCell hbg _; have hgx : ¬ g = w2.heap.size := (by omega); have hgx' : ¬ w2.heap.size = g := (by omega); have hsz3 : base ≤ w3.heap.size := Nat.le_trans hbw hb3.size; clear ho hgr hob hb3)
          | (go_at_call 33; refine (lay_calls g base (files.take i ++ files.drop (i + 1)) down fuse kind name dst data ⟨dst, F.f1, F.f2⟩ _ HPL.out ?hnn (HS.out.drop i) hbg ?hbb).mono ?_; (case hnn => rw [del_len hlt]; omega); (case hbb => simp; exact hsz3); rintro e w4 ⟨rfl, hp4, hb4⟩; obtain ⟨A4, c4, s0, s1, s2, s3, s4, s5, s6, hg4, hR4⟩ := hp4.cells; have HP4 := Lib.hid hp4; have HB4 := Lib.hid hb4; clear hp4 hb4 s0 s1 s2 s3 s4 s6 hg4 hR4)
          | (go_at_call 34; refine (known_calls _ _).mono ?_; rintro e w' ⟨rfl, rfl⟩))
        go_ret
        refine ⟨rfl, ?_, HB3.out.trans HB4.out⟩
        rw [HM.out, HD.out, ← HFF.out]
        exact HP4.out
    · have e1 : dst.toList = [] := by simpa [emptyS] using he
      have e2 : (!dst.toList.isEmpty) = false := by simpa [emptyS] using he
      have e3 : dst.toList.isEmpty = true := he
      clear he
      simp only [Bool.not_true, Bool.and_false, Bool.false_eq_true, if_false]
      cases power
      all_goals
        go_enter Try.func25, Try.ntmps25
        go_wp2_with (first
          | (go_at_call 31; refine (find_calls g base files down fuse kind name dst data name _ HP.out (by omega) HS.out).mono ?_; rintro e w2 ⟨rfl, hb⟩; rw [HF.out]; obtain ⟨A2, c2, q0, q1, q2, q3, q4, q5, q6, hg2, hR2⟩ := (HP.out.below hb).cells; have HB := Lib.hid hb; clear hb hg2 hR2 q0 q1 q2 q3 q4 q6)
          | (go_at_call 34; refine (known_calls _ _).mono ?_; rintro e w' ⟨rfl, rfl⟩))
        go_ret
        exact ⟨rfl, HP.out.below HB.out, HB.out.mono hbw⟩
end Go.Proofs.Ytebngchdmpabhaa.Disk
