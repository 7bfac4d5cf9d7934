/- What Take comes to where it takes, or says twice or out of range (no other answer). Condition: the answer is one of these. -/
import Derived.Test.YtkbemagcoojmmaaTnQ1
import Derived.Test.YtkbemagcoojmmaaTbQ1
import Derived.Test.YtkbemagcoojmmaaCs6Q1
namespace Go.Proofs.Ytkbemagcoojmmaa.Lx
open Go.RowKit Go.Proofs.Ytkbemagcoojmmaa.G Go.Proofs.Ytkbemagcoojmmaa.Val Go.Proofs.YtkbemagcoojmmaaW.PrintWords Go.Proofs.YtkbemagcoojmmaaW.PrintLast Go.Proofs.YtkbemagcoojmmaaW.PrintMore
set_option linter.unusedVariables false
theorem take_calls1 (a0 a1 a2 a3 a4 next kd b0 b1 b2 b3 b4 sq : Int) (done lst : Bool) (x1 x7 x8 x9 x10 x11 x12 x13 x14 x15 x16 x17 x18 x19 x20 x21 x22 x23 x24 x25 x26 x27 x28 x29 x30 x31 x32 x33 x34 x35 x36 x40 x41 x42 x43 x44 x45 x46 : Value) (P6 P7 P9 : Nat → Prop) (A D E : Option Addr) (c d mc : Nat) (held : List S83) (rows mrows : List (List S112)) (w : World) (r1 r2 r3 r4 r5 r6 r10 : Int) (r7 : List S83) (r8 : List (List S112)) (r9 : Bool) (hH : Kd.V k83 83 w w.heap.size P6 (.slice A held.length c) held) (hR : Kd.V E1 101 w w.heap.size P7 (.slice D rows.length d) rows) (hM : Kd.V E1 101 w w.heap.size P9 (.slice E mrows.length mc) mrows) (hf : TakeFit next held rows mrows) (e : takeV ((!(b0 == a0) || (!(b1 == a1))) || (!(b2 == a2) || (!(b3 == a3) || (!(b4 == a4))))) a0 a1 a2 a3 a4 next held rows done kd sq lst mrows = (r1, r2, r3, r4, r5, r6, r7, r8, r9, r10)) (hne : r10 = 0 ∨ r10 = 15 ∨ r10 = 2) :
    Calls Try.prog 10 #[.agg #[.int .u64 a0, .int .u64 a1, .int .i64 a2, .int .i64 a3, .int .i64 a4, .int .u64 next, .slice A held.length c, .slice D rows.length d, .bool done], .agg #[.int .u8 kd, x1, .int .u64 b0, .int .u64 b1, .int .i64 b2, .int .i64 b3, .int .i64 b4, x7, x8, x9, x10, x11, x12, x13, x14, x15, x16, x17, x18, x19, x20, x21, x22, x23, x24, x25, x26, x27, x28, x29, x30, x31, x32, x33, x34, x35, x36, .int .u64 sq, .bool lst, .slice E mrows.length mc, x40, x41, x42, x43, x44, x45, x46]] w (TakePost w (fun k => P6 k ∨ P7 k ∨ P9 k) [.int .u64 r1, .int .u64 r2, .int .i64 r3, .int .i64 r4, .int .i64 r5] r6 r7 r8 r9 r10) := by
  obtain ⟨hn0, hB, hR_, hM_, hhl, htt⟩ := hf
  have hl1 : held.length ≤ 4611686018427387904 := by have := hB.1; omega
  have hl2 : rows.length ≤ 4611686018427387904 := by have := hR_.1; omega
  have hl3 : mrows.length ≤ 4611686018427387904 := by have := hM_.1; omega
  have hoi : stream_ownIn.f (takeK held rows mrows) a0 a1 a2 a3 a4 next held rows done = some (a0, a1, a2, a3, a4, next, held, rows, done) := ownIn_f _ _ hB _ _ _ _ _ _ _ hR_ _ (by unfold takeK; omega)
  have hown : stream_own.f (takeK held rows mrows) mrows = some mrows := own_f _ _ hM_ (by unfold takeK; omega)
  clear hB hR_ hM_
  unfold takeV at e
  by_cases c1 : inV next held rows.length done = 6
  · rw [if_pos c1] at e
    cases e
    omega
  rw [if_neg c1] at e
  have hv : inV next held rows.length done = 0 := by
    unfold inV at c1 ⊢
    split
    · rename_i h_
      rw [if_pos h_] at c1
      exact absurd rfl c1
    · rfl
  by_cases c2 : ¬ (kd = 4 ∧ ((!(b0 == a0) || (!(b1 == a1))) || (!(b2 == a2) || (!(b3 == a3) || (!(b4 == a4))))) = false ∧ mrows.length ≤ 8)
  · rw [if_pos c2] at e
    cases e
    omega
  rw [if_neg c2] at e
  obtain ⟨hk4, hst, hml⟩ := Classical.not_not.1 c2
  by_cases c3 : foundAt held sq = true ∨ done = true ∨ sq < next
  · rw [if_pos c3] at e
    cases e
    exact take_twice a0 a1 a2 a3 a4 next kd b0 b1 b2 b3 b4 sq done lst x1 x7 x8 x9 x10 x11 x12 x13 x14 x15 x16 x17 x18 x19 x20 x21 x22 x23 x24 x25 x26 x27 x28 x29 x30 x31 x32 x33 x34 x35 x36 x40 x41 x42 x43 x44 x45 x46 (takeK held rows mrows) P6 P7 P9 A D E c d mc held rows mrows w hH hR hM hn0 hl1 hl2 hl3 hoi hv hk4 hst hml c3
  rw [if_neg c3] at e
  have hnf : foundAt held sq = false := Bool.eq_false_iff.2 (fun h_ => c3 (.inl h_))
  have hnd : done = false := Bool.eq_false_iff.2 (fun h_ => c3 (.inr (.inl h_)))
  have hge : next ≤ sq := Int.not_lt.1 (fun h_ => c3 (.inr (.inr h_)))
  by_cases c4 : 4 ≤ IntKind.u64.wrap (sq - next) ∨ 512 ≤ sq
  · rw [if_pos c4] at e
    cases e
    exact take_range a0 a1 a2 a3 a4 next kd b0 b1 b2 b3 b4 sq done lst x1 x7 x8 x9 x10 x11 x12 x13 x14 x15 x16 x17 x18 x19 x20 x21 x22 x23 x24 x25 x26 x27 x28 x29 x30 x31 x32 x33 x34 x35 x36 x40 x41 x42 x43 x44 x45 x46 (takeK held rows mrows) P6 P7 P9 A D E c d mc held rows mrows w hH hR hM hn0 hl1 hl2 hl3 hoi hv hk4 hst hml hnf hnd hge c4
  rw [if_neg c4] at e
  by_cases c5 : (0 < lb held sq ∧ (held.getD (lb held sq - 1) z83).f1 = true) ∨ (lst = true ∧ lb held sq < held.length)
  · rw [if_pos c5] at e
    cases e
    omega
  rw [if_neg c5] at e
  obtain ⟨D_, hD_⟩ : ∃ x, x = Val.drain next (insS held (lb held sq) ⟨sq, lst, mrows⟩) rows false := ⟨_, rfl⟩
  have hm_ := take_main a0 a1 a2 a3 a4 next kd b0 b1 b2 b3 b4 sq done lst x1 x7 x8 x9 x10 x11 x12 x13 x14 x15 x16 x17 x18 x19 x20 x21 x22 x23 x24 x25 x26 x27 x28 x29 x30 x31 x32 x33 x34 x35 x36 x40 x41 x42 x43 x44 x45 x46 (takeK held rows mrows) P6 P7 P9 A D E c d mc held rows mrows w hH hR hM hn0 hl1 hl2 hl3 hoi hv hk4 hst hml hnf hnd hge (fun h_ => c4 (.inl h_)) (fun h_ => c4 (.inr h_)) c5 hown hhl (by rw [tot_ins]; exact htt)
  rw [← hD_] at e hm_
  cases e
  exact hm_
end Go.Proofs.Ytkbemagcoojmmaa.Lx
