/- Package value: what lives asks of Check, Runes and Compare. Condition: utf8's two tables are laid. -/
import Derived.Test.YtepgjdmdogblmaaDoorVl8
import Derived.Laws.RangeAny
import Derived.Lib.TrimU
namespace Go.Proofs.YtepgjdmdogblmaaDoor.Val
open Go.RowKit Go.Proofs.YtepgjdmdogblmaaDoor.G Go.Proofs.YtepgjdmdogblmaaDoorW.PrintWords Go.Proofs.YtepgjdmdogblmaaDoorW.PrintLast Go.Proofs.YtepgjdmdogblmaaDoorW.PrintMore
set_option linter.unusedVariables false
set_option linter.unusedSimpArgs false
attribute [local go_sem high] eqA27
set_option maxHeartbeats 4000000 in
set_option maxRecDepth 100000 in
theorem check_one (w : World) : Calls Tryd.prog 14 #[.agg #[.int .u8 0, .bool false, .int .i64 1, .string ⟨#[]⟩]] w fun e w' => e = .returned (.int .i64 5) ∧ Below w.heap.size w w' := by
  have HB := Lib.hid (Below.refl w.heap.size w)
  go_enter Tryd.func14, Tryd.ntmps14
  go_wp2_with (first
    | ((with_reducible refine gate_dst (N := 1) rfl ?_); refine box_event ?hg (N := 1) ?hd (cs := #[.int .u8 0, .bool false, .int .i64 1, .string ⟨#[]⟩]) (t := 27) ?hr ?_; (case hd => rfl); (case hg => rfl); (case hr => first | (go_simp; done) | (go_simp; rfl)); intro g1 hg w1 hbx hb; have Eg1 : w.heap.size ≤ g1 := (by rw [hg]; exact HB.out.size); have nHB := Lib.hid (below_step HB.out hb); clear HB; have HB := nHB; have Bg1 := Lib.hid hbx; clear nHB hg hbx hb; have q0 := (blk_cell Bg1.out 0).trans rfl; have q1 := (blk_cell Bg1.out 1).trans rfl; have q2 := (blk_cell Bg1.out 2).trans rfl; have q3 := (blk_cell Bg1.out 3).trans rfl; have l1 := blk_lt Bg1.out))
  go_ret
  exact ⟨rfl, HB.out.alloc HB.out.size _⟩
/-- a text's runes, as a range over it tells them -/
def runesF (s : ByteArray) : Nat → Nat → List Nat
  | 0, _ => []
  | f + 1, pos => if pos < s.size then (Utf8.decode s pos).1 :: runesF s f (pos + (Utf8.decode s pos).2) else []
def runesL (s : ByteArray) : List Nat := runesF s s.size 0
set_option maxHeartbeats 4000000 in
set_option maxRecDepth 100000 in
theorem runes_calls (s : ByteArray) (w : World) (hs : s.size ≤ 9223372036854775807) : Calls Tryd.prog 17 #[.string s] w fun e w' => e = .returned (.int .i64 ((runesL s).length : Int)) ∧ Below w.heap.size w w' := by
  go_enter Tryd.func17, Tryd.ntmps17
  go_wp2
  go_loopw [3] (fun v3 wr => ∃ f pos n : Nat, v3 = .int .i64 n ∧ wr = w.iter s pos ∧ n ≤ pos ∧ s.size ≤ pos + f ∧ Hid ((runesL s).length = n + (runesF s f pos).length)) (fun _ wr => s.size - wr.iterPos w.heap.size)
  case atStart => exact ⟨s.size, 0, 0, rfl, rfl, Nat.le_refl _, by omega, Lib.hid (by rw [Nat.zero_add]; rfl)⟩
  case round =>
    obtain ⟨f, pos, n, rfl, rfl, hn, hf, HE⟩ := hrel
    by_cases hlt : pos < s.size
    · obtain ⟨f', rfl⟩ : ∃ f', f = f' + 1 := ⟨f - 1, by omega⟩
      have hw := Lib.width_pos s pos
      have HX : Hid ((runesL s).length = (n + 1) + (runesF s f' (pos + (Utf8.decode s pos).2)).length) := Lib.hid (by rw [HE.out, runesF, if_pos hlt, List.length_cons]; omega)
      have hnx := fun ty => run_next_any (P := Tryd.prog) w s pos ty hlt
      clear HE
      obtain ⟨k, hk⟩ : ∃ k, k = (Utf8.decode s pos).2 := ⟨_, rfl⟩
      rw [← hk] at hw HX
      have hnx' : ∀ ty, (Instr.next (.pointer (some ⟨w.heap.size, 0, none⟩)) true ty).run Tryd.prog (w.iter s pos) = .ok (.tuple #[.bool true, .int .i64 pos, .int .i32 (Utf8.decode s pos).1]) (w.iter s (pos + k)) := by rw [hk]; exact hnx
      clear hnx hk
      have hw1 : IntKind.i64.wrap ((n : Int) + 1) = (n : Int) + 1 := by rw [IntKind.wrap_i64]; omega
      go_wp2
      go_roundw
      case rel => exact ⟨f', pos + k, n + 1, by simp, rfl, by omega, by omega, HX⟩
      case measure => simp; omega
    · have hnx := fun ty => run_next_end (P := Tryd.prog) w s pos ty hlt
      have HX : Hid ((runesL s).length = n) := Lib.hid (by
        rw [HE.out]
        cases f with
        | zero => rfl
        | succ f => rw [runesF, if_neg hlt]; rfl)
      clear HE
      go_wp2
      go_ret
      rw [HX.out]
      exact ⟨rfl, (Below.refl _ _).alloc (Nat.le_refl _) _⟩
end Go.Proofs.YtepgjdmdogblmaaDoor.Val
