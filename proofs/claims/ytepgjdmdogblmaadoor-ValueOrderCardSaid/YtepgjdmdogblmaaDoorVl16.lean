/- The document of package value: a text's runes in a list. Condition: the text has at most 2^45 - 1 bytes (a list of more runes passes 2^47 bytes). -/
import Derived.Test.YtepgjdmdogblmaaDoorVl15
import Derived.Lib.OthersKept
namespace Go.Proofs.YtepgjdmdogblmaaDoor.Val
open Go.RowKit Go.Proofs.YtepgjdmdogblmaaDoor.G Go.Proofs.YtepgjdmdogblmaaDoorW.PrintWords Go.Proofs.YtepgjdmdogblmaaDoorW.PrintLast Go.Proofs.YtepgjdmdogblmaaDoorW.PrintMore
set_option linter.unusedVariables false
set_option linter.unusedSimpArgs false
theorem info21 : (Tryd.prog.info? 21).map (fun i => (i.zero, i.size, i.bytes)) = some (some (.int .i32 0), 1, 4) := by kernel_rfl
def runeI (l : List Nat) : List Int := l.map fun n : Nat => (n : Int)
theorem runesF_len (s : ByteArray) : ∀ f pos, (runesF s f pos).length ≤ s.size - pos
  | 0, _ => by simp [runesF]
  | f + 1, pos => by
    unfold runesF
    split
    · have := runesF_len s f (pos + (Utf8.decode s pos).2)
      have hw := Lib.width_pos s pos
      simp only [List.length_cons]; omega
    · simp
set_option maxHeartbeats 4000000 in
set_option maxRecDepth 100000 in
theorem rrunes_calls (s : ByteArray) (w : World) (hs : s.size < 35184372088832) : Calls Tryd.prog 49 #[.string s] w fun e w' => ∃ v, e = .returned v ∧ Kd.R (Kd.int .i32) 21 w' w.heap.size (fun _ => True) v (runeI (runesL s)) ∧ Below w.heap.size w w' := by
  go_enter Tryd.func49, Tryd.ntmps49
  go_wp2
  go_loopw [3] (fun v3 wr => ∃ (f pos : Nat) (x : List Nat), Hid (wr.heap[w.heap.size]? = some (.stringIter s pos)) ∧ s.size ≤ pos + f ∧ x.length ≤ pos ∧ Hid (runesL s = x ++ runesF s f pos) ∧ Hid (Kd.R (Kd.int .i32) 21 wr w.heap.size (fun k => k ≠ w.heap.size) v3 (runeI x)) ∧ Hid (Below w.heap.size w wr)) (fun _ wr => s.size - wr.iterPos w.heap.size)
  case atStart => exact ⟨s.size, 0, [], Lib.hid (by simp [World.iter_heap]), by omega, Nat.le_refl _, Lib.hid rfl, Lib.hid (Kd.R_nil _ _ _ _ _), Lib.hid ((Below.refl _ _).alloc (Nat.le_refl _) _)⟩
  case round =>
    obtain ⟨f, pos, x, HI, hf, hx, HE, HR, HB⟩ := hrel
    have hpos : wr.iterPos w.heap.size = pos := by rw [World.iterPos, HI.out]
    have hlt0 : w.heap.size < wr.heap.size := (Array.getElem?_eq_some_iff.1 HI.out).1
    by_cases hlt : pos < s.size
    · obtain ⟨f', rfl⟩ : ∃ f', f = f' + 1 := ⟨f - 1, by omega⟩
      have hw := Lib.width_pos s pos
      have hnx := fun ty => Lib.run_next_any_at (P := Tryd.prog) wr w.heap.size s pos ty HI.out hlt
      have HX : Hid (runesL s = (x ++ [(Utf8.decode s pos).1]) ++ runesF s f' (pos + (Utf8.decode s pos).2)) := Lib.hid (by rw [HE.out, runesF, if_pos hlt, List.append_assoc]; rfl)
      clear HE
      obtain ⟨k, hk⟩ : ∃ k, k = (Utf8.decode s pos).2 := ⟨_, rfl⟩
      obtain ⟨r, hr⟩ : ∃ r, r = (Utf8.decode s pos).1 := ⟨_, rfl⟩
      rw [← hk] at hw
      rw [← hk, ← hr] at HX
      have hnx' : ∀ ty, (Instr.next (.pointer (some ⟨w.heap.size, 0, none⟩)) true ty).run Tryd.prog wr = .ok (.tuple #[.bool true, .int .i64 pos, .int .i32 (r : Int)]) (wr.iterAt w.heap.size s (pos + k)) := by rw [hk, hr]; exact hnx
      clear hnx hk hr
      have HB1 : Hid (Below w.heap.size w (wr.iterAt w.heap.size s (pos + k))) := Lib.hid (Lib.below_iterAt HB.out (Nat.le_refl _) s _)
      have HI1 : Hid ((wr.iterAt w.heap.size s (pos + k)).heap[w.heap.size]? = some (.stringIter s (pos + k))) := Lib.hid (Lib.iterAt_heap wr _ s pos _ HI.out)
      have HR1 := Lib.hid (Kd.R_step HR.out (w1 := wr.iterAt w.heap.size s (pos + k)) (fun j ho _ => Lib.iterAt_other wr _ j s _ ho))
      have hsz : (wr.iterAt w.heap.size s (pos + k)).heap.size = wr.heap.size := Lib.iterAt_size _ _ _ _
      have HL := Lib.hid (show (runeI x).length = x.length by simp [runeI])
      obtain ⟨wi, hwi⟩ : ∃ wi, wi = wr.iterAt w.heap.size s (pos + k) := ⟨_, rfl⟩
      rw [← hwi] at hnx' HB1 HI1 HR1 hsz
      have HSZ := Lib.hid hsz
      clear hwi hsz
      go_wp2_with (first
        | ((with_reducible refine gate_builtin (b := .append) (xs := #[.tmp 11, .tmp 13]) rfl ?_); at_builtin; refine Kd.R_append (Kd.int .i32) (w0 := w) w.heap.size rfl (.tmp 11) (.tmp 13) 63 21 (.int .i32 0) 4 rfl Tryd.underlying63 info21 rfl (by decide) (by omega) u3 (runeI x) (r : Int) [.int .i32 (r : Int)] (fun k => k ≠ w.heap.size) (fun _ => False) rfl rfl ?aP (fun _ hk => hk.elim) ?aF ?aO ?aB ?aS ?aL ?_; (case aP => exact rfl); (case aB => exact HB1.out); (case aF => exact (fun j hj => by have := HSZ.out; omega)); (case aO => exact HR1.out); (case aS => exact HB1.out.size); (case aL => rw [HL.out]; omega); intro v2 w2 ho hb hg hat; have HO2 := Lib.hid ho; have HB2 := Lib.hid hb; have HI2 := Lib.hid ((hg.block w.heap.size (by have := HSZ.out; omega) (fun e => (HR1.out.1 _ e.symm) rfl)).trans HI1.out); clear ho hb hg hat))
      go_roundw
      case rel => exact ⟨f', pos + k, x ++ [r], HI2, by omega, by simp; omega, HX, Lib.hid (by have := HO2.out; rwa [show runeI x ++ [(r : Int)] = runeI (x ++ [r]) by simp [runeI]] at this), HB2⟩
      case measure => rw [World.iterPos, HI2.out, hpos]; simp; omega
    · have hnx := fun ty => Lib.run_next_end_at (P := Tryd.prog) wr w.heap.size s pos ty HI.out hlt
      have HX : Hid (runesL s = x) := Lib.hid (by
        rw [HE.out]
        cases f with
        | zero => simp [runesF]
        | succ f => rw [runesF, if_neg hlt]; simp)
      clear HE
      go_wp2
      go_ret
      rw [HX.out]
      exact ⟨_, rfl, Kd.R_mono HR.out (fun _ _ => trivial), HB.out⟩
set_option maxHeartbeats 4000000 in
set_option maxRecDepth 100000 in
theorem rcount_calls (s : ByteArray) (w : World) (hs : s.size < 35184372088832) : Calls Tryd.prog 23 #[.string s] w fun e w' => e = .returned (.int .i64 ((runesL s).length : Int)) ∧ Below w.heap.size w w' := by
  have HL := Lib.hid (show (runeI (runesL s)).length = (runesL s).length by simp [runeI])
  go_enter Tryd.func23, Tryd.ntmps23
  go_wp2_with (first
    | (go_at_call 49; refine (rrunes_calls s _ hs).mono ?_; rintro e w1 ⟨v, rfl, hv, hb⟩; have HV := Lib.hid hv; have HB := Lib.hid hb; clear hv hb; obtain ⟨A, c, rfl⟩ := Kd.R_slice HV.out; rw [HL.out]))
  go_ret
  exact ⟨rfl, HB.out⟩
end Go.Proofs.YtepgjdmdogblmaaDoor.Val
