/- Package disk: the change put. No condition but that the files' names rise, that they are not too many, and that their bytes are no more than a disk may have. -/
import Derived.Test.YtebngchdmpabhaaDsk4
namespace Go.Proofs.Ytebngchdmpabhaa.Disk
open Go.RowKit Go.Proofs.Ytebngchdmpabhaa.G Go.Proofs.YtebngchdmpabhaaW.PrintWords Go.Proofs.YtebngchdmpabhaaW.PrintLast Go.Proofs.YtebngchdmpabhaaW.PrintMore Go.Proofs.YtebngchdmpabhaaW.Raw
set_option linter.unusedVariables false
set_option linter.unusedSimpArgs false
/-- the bytes of all files that are not called so -/
def others (name : ByteArray) : List S41 → Nat
  | [] => 0
  | f :: l => (if eqS f.f0 name = true then 0 else f.f1.size) + others name l
def total : List S41 → Nat
  | [] => 0
  | f :: l => f.f1.size + total l
theorem others_le (name : ByteArray) : ∀ l : List S41, others name l ≤ total l
  | [] => Nat.le_refl _
  | f :: l => by have := others_le name l; simp only [others, total]; split <;> omega
theorem others_snoc (name : ByteArray) (l : List S41) (f : S41) : others name (l ++ [f]) = others name l + (if eqS f.f0 name = true then 0 else f.f1.size) := by
  induction l with
  | nil => simp [others]
  | cons g l ih => simp only [List.cons_append, others, ih]; omega
theorem others_append (name : ByteArray) (l m : List S41) : others name (l ++ m) = others name l + others name m := by
  induction l with
  | nil => simp [others]
  | cons g l ih => simp only [List.cons_append, others, ih]; omega
theorem others_take (name : ByteArray) (l : List S41) (k : Nat) : others name (l.take k) ≤ others name l := by
  induction l generalizing k with
  | nil => simp
  | cons g l ih => cases k with
    | zero => simp [others]
    | succ k => simp only [List.take_succ_cons, others]; have := ih k; omega
def putN (files : List S41) (name data : ByteArray) : Int := if emptyS name = true then 7 else if (data.size : Int) > 1048576 - (others name files : Int) then 8 else 0
def putF (files : List S41) (name data : ByteArray) : List S41 := if putN files name data = 0 then layF files ⟨name, data, 0⟩ else files
set_option maxHeartbeats 2000000 in
set_option maxRecDepth 100000 in
theorem put_calls (g base : Nat) (files : List S41) (down : Bool) (fuse kind : Int) (name dst data : ByteArray) (power : Bool) (w : World) (hp : Plate w base g files down fuse kind name dst data) (hn : (files.length + 1) * 40 ≤ 140737488355328) (hs : Rises files) (ht : total files ≤ 1048576) (hbg : base ≤ g) (hbw : base ≤ w.heap.size) (hds : data.size ≤ 9223372036854775807) :
    Calls Try.prog 23 #[.pointer (some ⟨g, 0, none⟩), .bool power] w fun e w' => e = .returned (.int .i64 (putN files name data)) ∧ Plate w' base g (putF files name data) down fuse kind name dst data ∧ Below base w w' := by
  have HP := Lib.hid hp
  have HS := Lib.hid hs
  have HT := Lib.hid ht
  obtain ⟨A, c, p0, p1, p2, p3, p4, p5, p6, hg, hR⟩ := hp.cells
  have hgl := blk_lt hg
  have HG := Lib.hid hg
  have HR := Lib.hid hR
  clear hp hs ht p1 p2 p3 p5 hg hR
  rcases he : emptyS name with _ | _
  · have e3 : name.toList.isEmpty = false := he
    have e1 : name.toList = [] → False := by intro h; simp [h] at e3
    have HN : Hid (putN files name data = if (data.size : Int) > 1048576 - (others name files : Int) then 8 else 0) := by
      show putN files name data = _
      unfold putN; rw [he]; rfl
    clear he
    go_enter Try.func23, Try.ntmps23
    go_wp2
    go_loopw [5, 20] (fun vr vi wr => ∃ k : Nat, k ≤ files.length ∧ vi = .int .i64 k ∧ vr = .int .i64 (1048576 - (others name (files.take k) : Int)) ∧ Hid (Below w.heap.size w wr)) (fun _ vi _ => files.length - (intOf vi).toNat)
    case atStart => exact ⟨0, Nat.zero_le _, rfl, by simp [others], Lib.hid (Below.refl _ _)⟩
    case round =>
      obtain ⟨k, hk, rfl, rfl, HB⟩ := hrel
      have hot : others name (files.take k) ≤ 1048576 := Nat.le_trans (others_take name files k) (Nat.le_trans (others_le name files) HT.out)
      have hs2 := HB.out.size
      by_cases hlt : k < files.length
      · obtain ⟨gv, cap, ev, hbv, hlv, cellsv, hgv⟩ := Kd.R_form HR.out (by omega)
        cases ev
        obtain ⟨ce, hcl, hM, hcc, hfr⟩ := Kd.R_elem (Kd.R_below HR.out HB.out) z41 (k : Int) (by omega) (by omega)
        obtain rfl := k41_openM hM
        have x0 := hcc 0 _ rfl
        have x1 := hcc 1 _ rfl
        have x2 := hcc 2 _ rfl
        simp only [Int.toNat_natCast, show k41.sz = 3 from rfl, Nat.add_zero] at x0 x1 x2
        have hkk : (k : Int) < (files.length : Int) := by omega
        have htk : Hid (others name (files.take (k + 1)) = others name (files.take k) + (if eqS (files.getD k z41).f0 name = true then 0 else (files.getD k z41).f1.size)) := by
          show others name (files.take (k + 1)) = _
          rw [List.take_add_one, others_append, List.getElem?_eq_getElem hlt, List.getD_eq_getElem?_getD, List.getElem?_eq_getElem hlt]
          simp [others]
        obtain ⟨F, hF⟩ : ∃ F, F = files.getD k z41 := ⟨_, rfl⟩
        rw [← hF] at x0 x1 x2 htk
        clear hF hcc hfr hM hcl hgv
        have hgr : g < wr.heap.size := by omega
        have hot2 : others name (files.take (k + 1)) ≤ 1048576 := Nat.le_trans (others_take name files (k + 1)) (Nat.le_trans (others_le name files) HT.out)
        have q4 : wr.cell? ⟨g, 4, none⟩ = some (.string name) := (HB.out.cell (p := ⟨g, 4, none⟩) hgl).trans p4
        rcases hq : eqS F.f0 name with _ | _
        · have HQ := Lib.hid hq
          have e5 : (F.f0.toList == name.toList) = false := hq
          have hszb : others name (files.take k) + F.f1.size ≤ 1048576 := by have h_ := htk.out; rw [hq] at h_; simp at h_; omega
          clear hq
          go_wp2
          go_quiet (fail)
          go_wp2
          exact ⟨⟨k + 1, hlt, by simp, by rw [htk.out, HQ.out]; simp; omega, Lib.hid (pw_below_drewN (HB.out.alloc hs2 _) _)⟩, by simp [intOf]; omega⟩
        · have HQ := Lib.hid hq
          have e5 : (F.f0.toList == name.toList) = true := hq
          clear hq
          go_wp2
          go_quiet (fail)
          go_wp2
          exact ⟨⟨k + 1, hlt, by simp, by rw [htk.out, HQ.out]; simp, Lib.hid (pw_below_drewN (HB.out.alloc hs2 _) _)⟩, by simp [intOf]; omega⟩
      · obtain rfl : k = files.length := by omega
        rw [List.take_length] at hot ⊢
        have HPw := Lib.hid (HP.out.below HB.out)
        obtain ⟨A3, c3, q0, q1, q2, q3, q4, q5, q6, hgw, hRw⟩ := HPw.out.cells
        have hbwr : base ≤ wr.heap.size := Nat.le_trans hbw hs2
        clear q0 q1 q2 q3 q5 hRw hgw
        by_cases hfull : (data.size : Int) > 1048576 - (others name files : Int)
        · have HN' : Hid (putN files name data = 8) := by
            show putN files name data = 8
            rw [HN.out, if_pos hfull]
          have HF : Hid (putF files name data = files) := by
            show putF files name data = _
            unfold putF; rw [HN'.out]; rfl
          have hf1 : 1048576 - (others name files : Int) < (data.size : Int) := hfull
          clear hfull
          go_wp2
          go_ret
          rw [HN'.out, HF.out]
          exact ⟨rfl, HPw.out, HB.out.mono hbw⟩
        · have HN' : Hid (putN files name data = 0) := by
            show putN files name data = 0
            rw [HN.out, if_neg hfull]
          have HF : Hid (putF files name data = layF files ⟨name, data, 0⟩) := by
            show putF files name data = _
            unfold putF; rw [HN'.out]; rfl
          have hf1 : ¬ 1048576 - (others name files : Int) < (data.size : Int) := hfull
          clear hfull
          go_wp2
          go_region_with (go_at_call 33; refine (lay_calls g base files down fuse kind name dst data ⟨name, data, 0⟩ _ (show Plate wr.drew base g files down fuse kind name dst data from HPw.out) hn HS.out hbg hbwr).mono ?_; rintro e w4 ⟨rfl, hp4, hb4⟩; have HP4 := Lib.hid hp4; have HB4 := Lib.hid hb4; clear hp4 hb4)
          all_goals
            go_wp2
            go_ret
            rw [HN'.out, HF.out]
            exact ⟨rfl, HP4.out, (below_drew1 (HB.out.mono hbw)).trans HB4.out⟩
  · have e3 : name.toList.isEmpty = true := he
    have e1 : name.toList = [] := by simpa [emptyS] using he
    have HN : Hid (putN files name data = 7) := by
      show putN files name data = _
      unfold putN; rw [he]; rfl
    have HF : Hid (putF files name data = files) := by
      show putF files name data = _
      unfold putF; rw [HN.out]; rfl
    clear he
    go_enter Try.func23, Try.ntmps23
    go_wp2
    go_ret
    rw [HN.out, HF.out]
    exact ⟨rfl, HP.out, Below.refl _ _⟩
end Go.Proofs.Ytebngchdmpabhaa.Disk
