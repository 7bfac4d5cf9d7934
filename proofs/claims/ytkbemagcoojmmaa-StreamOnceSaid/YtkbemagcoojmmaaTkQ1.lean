/- Package stream: Take. Conditions: what comes in is read; the copies' bounds; Next is a uint64. Printed by gtk.py. -/
import Derived.Test.YtkbemagcoojmmaaCiQ1
import Derived.Test.YtkbemagcoojmmaaCs4Q1
namespace Go.Proofs.Ytkbemagcoojmmaa.Val
open Go.RowKit Go.Proofs.Ytkbemagcoojmmaa.G Go.Proofs.Ytkbemagcoojmmaa.Lx Go.Proofs.YtkbemagcoojmmaaW.PrintWords Go.Proofs.YtkbemagcoojmmaaW.PrintLast Go.Proofs.YtkbemagcoojmmaaW.PrintMore
set_option linter.unusedVariables false
set_option linter.unusedSimpArgs false
attribute [local go_sem high] eqA26
theorem checkin_calls (a0 a1 a2 a3 a4 next : Int) (A D : Option Addr) (m c d : Nat) (done : Bool) (l : List S83) (w : World) (hr : Kd.C k83 w A l.length l) (hl : l.length ≤ 4611686018427387904) (h0 : 0 ≤ next) (hm : m ≤ 4611686018427387904) :
    Calls Try.prog 14 #[.agg #[.int .u64 a0, .int .u64 a1, .int .i64 a2, .int .i64 a3, .int .i64 a4, .int .u64 next, .slice A l.length c, .slice D m d, .bool done]] w fun e w' => e = .returned (.int .i64 (inV next l m done)) ∧ Below w.heap.size w w' := by
  rcases h : (decide (512 < next) || decide (8 * next < (m : Int)) || (done && (decide (0 < l.length) || next == 0))) with _ | _
  · have e : inV next l m done = if bads next next l then 6 else 0 := by unfold inV inBad; rw [h, Bool.false_or]
    rw [e]
    exact ci_main a0 a1 a2 a3 a4 next A D m c d done l w hr hl h0 hm h
  · have e : inV next l m done = 6 := by unfold inV inBad; rw [h, Bool.true_or]; rfl
    rw [e]
    exact ci_first a0 a1 a2 a3 a4 next A D l.length m c d done w h0 hm h
theorem bads_rise (next : Int) : ∀ (l : List S83) (last : Int), bads next last l = false → (∀ k, k < l.length → last < seqAt l k) ∧ Rises l
  | [], _, _ => ⟨fun k hk => by simp at hk, fun i j _ hj => by simp at hj⟩
  | b :: t, last, h => by
    rw [bads, Bool.or_eq_false_iff] at h
    obtain ⟨h1, h2⟩ := h
    obtain ⟨ih1, ih2⟩ := bads_rise next t b.f0 h2
    have hb : last < b.f0 := by
      unfold badB at h1
      simp only [Bool.or_eq_false_iff, decide_eq_false_iff_not] at h1
      omega
    refine ⟨fun k hk => ?_, fun i j hij hj => ?_⟩
    · cases k with
      | zero => exact hb
      | succ k => have := ih1 k (by simpa using hk); have e : seqAt (b :: t) (k + 1) = seqAt t k := by simp [seqAt]
                  omega
    · cases j with
      | zero => omega
      | succ j =>
        have e1 : seqAt (b :: t) (j + 1) = seqAt t j := by simp [seqAt]
        cases i with
        | zero => have := ih1 j (by simpa using hj); have e : seqAt (b :: t) 0 = b.f0 := by simp [seqAt]
                  omega
        | succ i => have := ih2 i j (by omega) (by simpa using hj); have e : seqAt (b :: t) (i + 1) = seqAt t i := by simp [seqAt]
                    omega
def TakePost (w : World) (P : Nat → Prop) (st : List Value) (next : Int) (held : List S83) (rows : List (List S112)) (done : Bool) (r : Int) (e : Ending) (w' : World) : Prop :=
  ∃ v6 v7, e = .returned (.tuple #[.agg (st ++ [.int .u64 next, v6, v7, .bool done]).toArray, .int .i64 r]) ∧ Kd.V k83 83 w' w.heap.size (fun k => (P k ∨ w.heap.size ≤ k) ∧ some k ≠ (v7 : Value).ownBlock) v6 held ∧ Kd.N E1 101 w' w.heap.size (fun k => P k ∨ w.heap.size ≤ k) v7 rows ∧ Below w.heap.size w w'
end Go.Proofs.Ytkbemagcoojmmaa.Val
