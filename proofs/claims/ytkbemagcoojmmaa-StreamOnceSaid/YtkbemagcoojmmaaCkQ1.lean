/- slices.Chunk's closure: it hands its loop's body the pieces of eight, one by one, whatever the body does to other blocks than its two variables. Condition: the slice's length is below 2^62. -/
import Derived.Test.YtkbemagcoojmmaaCs4Q1
import Derived.RangeFuncNested
import Derived.RangeFuncBound
import Derived.RangeFuncCalls
import Derived.RangeFuncLeaves
import Derived.Shelf.Abstract
import Derived.Shelf.RegionOpen
import Derived.WalkKit
import Derived.OwnWalkIn
import Derived.TacticsInMore
import Derived.LoopNIn
import Derived.LoopIn
namespace Go.Proofs.Ytkbemagcoojmmaa.Val
open Go.RowKit Go.Shelf Go.Proofs.Ytkbemagcoojmmaa.G Go.Proofs.Ytkbemagcoojmmaa.Lx Go.Proofs.YtkbemagcoojmmaaW.PrintWords Go.Proofs.YtkbemagcoojmmaaW.PrintLast Go.Proofs.YtkbemagcoojmmaaW.PrintMore
set_option linter.unusedVariables false
set_option linter.unusedSimpArgs false
attribute [local go_sem] Oper.semAt_some min2_int min_two
def pieceN (m k : Nat) : Nat := min 8 (m - 8 * k)
def pieceV (A : Option Addr) (m k : Nat) : Value := .slice (A.map (·.add (8 * k))) (pieceN m k) (pieceN m k)
theorem cut_mid3 (A : Option Addr) (n c i j : Nat) (h : i < j) (hj : j ≤ n) (hc : n ≤ c) (W : World) : (Instr.slice 28 (.slice A n c) (some (.int .i64 (i : Int))) (some (.int .i64 (j : Int))) (some (.int .i64 (j : Int)))).run Try.prog W = .ok (.slice (A.map (·.add i)) (j - i) (j - i)) W := by
  obtain ⟨i0, hi0, _, hsz, _⟩ := info_parts info101
  have hel : Try.prog.elem 28 = 101 := by simp [Program.elem, Try.underlying28]
  have hu : Try.prog.underlying 28 = some (.slice (Try.prog.elem 28)) := by rw [hel]; exact Try.underlying28
  rw [run_slice_lhm (w := W) 28 A n c hu .i64 .i64 .i64 i j j (by omega) (by omega) (by omega) (by omega), hel]
  have hji : ¬ j = i := by omega
  simp [sizeOf, typeInfo, hi0, hsz, sliced, Result.andThen, hji]
def KeepTwo (bs bn : Nat) (W W' : World) : Prop := W'.heap[bs]? = W.heap[bs]? ∧ W'.heap[bn]? = W.heap[bn]?
set_option maxRecDepth 100000 in
set_option maxHeartbeats 2000000 in
theorem chunk1_in (n : Nat) (hn : 1 ≤ n) (l bs bn : Nat) (A : Option Addr) (m c : Nat) (hmc : m ≤ c) (hm : m ≤ 4611686018427387904) (J Jx : List Nat → World → Prop) (hJd : ∀ pre W, J pre W → J pre W.drew)
    (hY : ∀ pre x W, J pre W → pre.length < (m + 7) / 8 → YieldAt Fence.wide (n - 1) Try.prog l #[pieceV A m x] W fun e W' =>
      (e = .returned (.bool true) ∧ J (pre ++ [x]) W' ∧ KeepTwo bs bn W W') ∨ (e = .returned (.bool false) ∧ Jx (pre ++ [x]) W'))
    (W : World) (hbs : W.heap[bs]? = some (.cells #[.slice A m c] 28 (0, 0))) (hbn : W.heap[bn]? = some (.cells #[.int .i64 8] 3 (0, 0))) (h0 : J [] W) :
    CallsIn Fence.wide n Try.prog 60 #[.func (.yield l) #[] #[], .pointer (some ⟨bs, 0, none⟩), .pointer (some ⟨bn, 0, none⟩)] W fun e W' => (∃ v, e = .returned v) ∧
      ((∃ ys, ys = List.range ((m + 7) / 8) ∧ J ys W') ∨ (∃ pre, True ∧ Jx pre W')) := by
  obtain ⟨i0_, hi0_, _, hsz_, _⟩ := info_parts info101
  refine callsIn_of_wp Try.func60 rfl trivial ?_ rfl
  simp only [Try.ntmps60, List.size_toArray, List.length_cons, List.length_nil, Nat.reduceAdd, Nat.reduceSub, Array.replicate_succ, Array.replicate_zero, List.push_toArray, List.append_toArray, List.nil_append, List.cons_append]
  gi_wp2
  gi_loopw [4] (fun v4 wr => ∃ k i : Nat, v4 = .int .i64 i ∧ Hid (i = 8 * k) ∧ Hid (k ≤ (m + 7) / 8) ∧ Hid (J (List.range k) wr) ∧ Hid (wr.heap[bs]? = some (.cells #[.slice A m c] 28 (0, 0))) ∧ Hid (wr.heap[bn]? = some (.cells #[.int .i64 8] 3 (0, 0))))
    (fun v4 _ => m + 8 - (intOf v4).toNat)
  case atStart => exact ⟨0, 0, rfl, Lib.hid rfl, Lib.hid (Nat.zero_le _), Lib.hid h0, Lib.hid hbs, Lib.hid hbn⟩
  case round =>
    clear hbs hbn h0
    obtain ⟨k, i, rfl, HI, HK, HJ, HS, HN⟩ := hrel
    have c1 := (blk_cell HS.out 0).trans rfl
    have c2 := (blk_cell HN.out 0).trans rfl
    by_cases hlt : i < m
    · have hkk : k < (m + 7) / 8 := by have := HI.out; omega
      have hcf := cut_from (P := Try.prog) 28 101 .i64 Try.underlying28 hi0_ 1 hsz_ A m c (i : Int) (by omega) (by omega)
      simp only [Int.toNat_natCast] at hcf
      obtain ⟨p, hp⟩ : ∃ p, p = pieceN m k := ⟨_, rfl⟩
      have hpq : p = min 8 (m - i) := by rw [hp, pieceN, HI.out]
      have hmin : (if ((m - i : Nat) : Int) < 8 then ((m - i : Nat) : Int) else 8) = (p : Int) := by rw [hpq]; split <;> omega
      have hmin' : (if m - i < 8 then ((m - i : Nat) : Int) else 8) = (p : Int) := by rw [hpq]; split <;> omega
      have hp1 : 1 ≤ p := by omega
      have hpm : i + p ≤ m := by omega
      have hc3 := fun w_ => cut_mid3 A m c i (i + p) (by omega) hpm hmc w_
      rw [show i + p - i = p by omega, show ((i + p : Nat) : Int) = (i : Int) + (p : Int) by omega] at hc3
      have HPV := Lib.hid (show pieceV A m k = .slice (A.map (·.add i)) p p by rw [pieceV, ← hp, HI.out])
      have HPQ := Lib.hid (show i + p ≤ m ∧ (p = 8 ∨ i + p = m) by omega)
      have hii : (i : Int) < (m : Int) := by omega
      clear hp hpq
      gi_wp2
      refine wpIn_wide.2 ?_
      refine start_ (n := 7) (S := fun w' => w'.cell? ⟨bn, 0, none⟩ = some (.int .i64 8) ∧ w'.cell? ⟨bs, 0, none⟩ = some (.slice A m c)) (ds := []) #[false, false, false, false, false, false, false] (by kernel_rfl) rfl rfl ⟨c2, c1⟩ (fun hHeld => ?_)
      have HJ2 := Lib.hid (hJd _ _ HJ.out)
      have HS2 := Lib.hid (blk_drew HS.out)
      have HN2 := Lib.hid (blk_drew HN.out)
      generalize World.drew _ = wd at hHeld HJ2 HS2 HN2 ⊢
      clear HJ HS HN c1 c2
      refine pure_ (i := 2) (N := some 15) (v := ?_) (a' := ?_) #[false, false, true, false, false, false, false] rfl rfl (by kernel_rfl) (fun _ _ _ h => h) (Or.inl ⟨by rfl, ?_⟩) ?_ ?_
      rotate_left
      · intro w'
        go_simp
        with_reducible rfl
      rotate_left
      · simp only [Act.put, List.setIfInBounds_toArray, List.set_cons_zero, List.set_cons_succ, i64_w, i32_w]
        rfl
      refine take_ (i := 0) (N := some 13) (v := ?_) (a' := ?_) #[true, false, true, false, false, false, false] rfl rfl (by kernel_rfl) (fun _ _ _ h => h) (Or.inl ⟨by rfl, ?_⟩) hHeld ?_ ?_
      rotate_left
      · rintro w' ⟨s0_, s1_⟩
        go_simp
        with_reducible rfl
      rotate_left
      · simp only [Act.put, List.setIfInBounds_toArray, List.set_cons_zero, List.set_cons_succ, i64_w, i32_w]
        rfl
      refine take_ (i := 1) (N := some 14) (v := ?_) (a' := ?_) #[true, true, true, false, false, false, false] rfl rfl (by kernel_rfl) (fun _ _ _ h => h) (Or.inl ⟨by rfl, ?_⟩) hHeld ?_ ?_
      rotate_left
      · rintro w' ⟨s0_, s1_⟩
        go_simp
        with_reducible rfl
      rotate_left
      · simp only [Act.put, List.setIfInBounds_toArray, List.set_cons_zero, List.set_cons_succ, i64_w, i32_w]
        rfl
      refine pure_ (i := 3) (N := some 16) (v := ?_) (a' := ?_) #[true, true, true, true, false, false, false] rfl rfl (by kernel_rfl) (fun _ _ _ h => h) (Or.inl ⟨by rfl, ?_⟩) ?_ ?_
      rotate_left
      · intro w'
        go_simp
        with_reducible rfl
      rotate_left
      · simp only [Act.put, List.setIfInBounds_toArray, List.set_cons_zero, List.set_cons_succ, i64_w, i32_w]
        rfl
      refine pure_ (i := 4) (N := some 17) (v := ?_) (a' := ?_) #[true, true, true, true, true, false, false] rfl rfl (by kernel_rfl) (fun _ _ _ h => h) (Or.inl ⟨by rfl, ?_⟩) ?_ ?_
      rotate_left
      · intro w'
        go_simp
        with_reducible rfl
      rotate_left
      · simp only [Act.put, List.setIfInBounds_toArray, List.set_cons_zero, List.set_cons_succ, i64_w, i32_w]
        rfl
      refine pure_ (i := 5) (N := some 18) (v := ?_) (a' := ?_) #[true, true, true, true, true, true, false] rfl rfl (by kernel_rfl) (fun _ _ _ h => h) (Or.inl ⟨by rfl, ?_⟩) ?_ ?_
      rotate_left
      · intro w'
        go_simp
        with_reducible rfl
      rotate_left
      · simp only [Act.put, List.setIfInBounds_toArray, List.set_cons_zero, List.set_cons_succ, i64_w, i32_w]
        rfl
      refine pure_ (i := 6) (N := some 5) (v := ?_) (a' := ?_) #[true, true, true, true, true, true, true] rfl rfl (by kernel_rfl) (fun _ _ _ h => h) (Or.inl ⟨by rfl, ?_⟩) ?_ ?_
      rotate_left
      · intro w'
        go_simp
        with_reducible rfl
      rotate_left
      · simp only [Act.put, List.setIfInBounds_toArray, List.set_cons_zero, List.set_cons_succ, i64_w, i32_w]
        rfl
      refine done_ (by kernel_rfl) ?_
      have c1 := (blk_cell HS2.out 0).trans rfl
      have c2 := (blk_cell HN2.out 0).trans rfl
      obtain ⟨fn, tmps, assign, body, hy, hR⟩ := hY _ k wd HJ2.out (by rw [List.length_range]; exact hkk)
      rw [HPV.out] at hy
      gi_wp2
      refine hR.mono ?_
      rintro e W3 (⟨rfl, hJ3, hk3⟩ | ⟨rfl, hJx3⟩)
      · have HS3 := Lib.hid (hk3.1.trans HS2.out)
        have HN3 := Lib.hid (hk3.2.trans HN2.out)
        have c3 := (blk_cell HS3.out 0).trans rfl
        have c4 := (blk_cell HN3.out 0).trans rfl
        gi_wp2
        go_roundw
        case rel => exact ⟨k + 1, i + 8, by simp, Lib.hid (by have := HI.out; omega), Lib.hid hkk, Lib.hid (by rw [List.range_succ]; exact hJ3), HS3, HN3⟩
        case measure => simp [intOf]; omega
      · gi_wp2
        refine bodyPost_ret (results_none rfl _ _ _) rfl ?_
        exact ⟨⟨_, rfl⟩, .inr ⟨_, trivial, hJx3⟩⟩
    · have hii : ¬ ((i : Int) < (m : Int)) := by omega
      have e1 : decide ((i : Int) < (m : Int)) = false := decide_eq_false hii
      gi_wp2
      go_end0
      have hfin : J (List.range ((m + 7) / 8)) wr := by
        have : k = (m + 7) / 8 := by have := HI.out; have := HK.out; omega
        rw [← this]
        exact HJ.out
      first | exact ⟨⟨_, rfl⟩, .inl ⟨_, rfl, hfin⟩⟩ | exact ⟨⟨_, rfl⟩, .inl hfin⟩ | exact .inl hfin
theorem chunk_stops (n : Nat) (hn : 1 ≤ n) (bs bn : Nat) (A : Option Addr) (m c : Nat) (hmc : m ≤ c) (hm : m ≤ 4611686018427387904) (w : World) (hbs : w.heap[bs]? = some (.cells #[.slice A m c] 28 (0, 0))) (hbn : w.heap[bn]? = some (.cells #[.int .i64 8] 3 (0, 0))) :
    SeqStopsK Fence.wide n Try.prog 60 #[.pointer (some ⟨bs, 0, none⟩), .pointer (some ⟨bn, 0, none⟩)] (fun x : Nat => #[pieceV A m x]) (KeepTwo bs bn) (fun ys => ys = List.range ((m + 7) / 8)) (fun _ => True) ((m + 7) / 8) w := fun l J Jx W hW hJ _ hY h0 =>
  chunk1_in n hn l bs bn A m c hmc hm J Jx (fun pre W hj => hJ pre W W.drew none hj ⟨rfl, rfl, rfl, Nat.le_refl _, fun _ _ _ => rfl⟩ (fun r e => by cases e)) hY W (blk_below hbs hW) (blk_below hbn hW) h0
end Go.Proofs.Ytkbemagcoojmmaa.Val
