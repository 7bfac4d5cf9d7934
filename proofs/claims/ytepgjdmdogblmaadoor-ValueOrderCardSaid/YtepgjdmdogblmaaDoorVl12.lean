/- Package value: what lives asks of Check, Runes and Compare. Condition: utf8's two tables are laid. Package value: two texts held against each other, rune by rune. Condition: utf8's two tables are laid. Package value: Compare. Condition: utf8's two tables are laid. The laws of package value ask first for answers that the document gives: all are given. Condition: utf8's two tables are laid. -/
import Derived.Test.YtepgjdmdogblmaaDoorVl8
import Derived.Laws.RangeAny
import Derived.Lib.TrimU
import Derived.Lib.RuneCountTail
import Derived.Lib.QuoteLoop
namespace Go.Proofs.YtepgjdmdogblmaaDoor.Val
open Go.RowKit Go.Proofs.YtepgjdmdogblmaaDoor.G Go.Proofs.YtepgjdmdogblmaaDoorW.PrintWords Go.Proofs.YtepgjdmdogblmaaDoorW.PrintLast Go.Proofs.YtepgjdmdogblmaaDoorW.PrintMore
set_option linter.unusedVariables false
set_option linter.unusedSimpArgs false
attribute [local go_sem high] eqA27
set_option maxHeartbeats 4000000 in
set_option maxRecDepth 100000 in
theorem check_one (w : World) : Calls Tryd.prog 14 #[.agg #[.int .u8 0, .bool false, .int .i64 1, .string ⟨#[]⟩]] w fun e w' => e = .returned (.int .i64 5) ∧ Below w.heap.size w w' := by
  have HB := Lib.hid (Below.refl w.heap.size w)
  go_enter Tryd.func14, Tryd.ntmps14
  go_wp2_with (first
    | ((with_reducible refine gate_dst (N := 1) rfl ?_); refine box_event ?hg (N := 1) ?hd (cs := #[.int .u8 0, .bool false, .int .i64 1, .string ⟨#[]⟩]) (t := 27) ?hr ?_; (case hd => rfl); (case hg => rfl); (case hr => first | (go_simp; done) | (go_simp; rfl)); intro g1 hg w1 hbx hb; have Eg1 : w.heap.size ≤ g1 := (by rw [hg]; exact HB.out.size); have nHB := Lib.hid (below_step HB.out hb); clear HB; have HB := nHB; have Bg1 := Lib.hid hbx; clear nHB hg hbx hb; have q0 := (blk_cell Bg1.out 0).trans rfl; have q1 := (blk_cell Bg1.out 1).trans rfl; have q2 := (blk_cell Bg1.out 2).trans rfl; have q3 := (blk_cell Bg1.out 3).trans rfl; have l1 := blk_lt Bg1.out))
  go_ret
  exact ⟨rfl, HB.out.alloc HB.out.size _⟩
/-- a text's runes, as a range over it tells them -/
def runesF (s : ByteArray) : Nat → Nat → List Nat
  | 0, _ => []
  | f + 1, pos => if pos < s.size then (Utf8.decode s pos).1 :: runesF s f (pos + (Utf8.decode s pos).2) else []
def runesL (s : ByteArray) : List Nat := runesF s s.size 0
set_option maxHeartbeats 4000000 in
set_option maxRecDepth 100000 in
theorem runes_calls (s : ByteArray) (w : World) (hs : s.size ≤ 9223372036854775807) : Calls Tryd.prog 17 #[.string s] w fun e w' => e = .returned (.int .i64 ((runesL s).length : Int)) ∧ Below w.heap.size w w' := by
  go_enter Tryd.func17, Tryd.ntmps17
  go_wp2
  go_loopw [3] (fun v3 wr => ∃ f pos n : Nat, v3 = .int .i64 n ∧ wr = w.iter s pos ∧ n ≤ pos ∧ s.size ≤ pos + f ∧ Hid ((runesL s).length = n + (runesF s f pos).length)) (fun _ wr => s.size - wr.iterPos w.heap.size)
  case atStart => exact ⟨s.size, 0, 0, rfl, rfl, Nat.le_refl _, by omega, Lib.hid (by rw [Nat.zero_add]; rfl)⟩
  case round =>
    obtain ⟨f, pos, n, rfl, rfl, hn, hf, HE⟩ := hrel
    by_cases hlt : pos < s.size
    · obtain ⟨f', rfl⟩ : ∃ f', f = f' + 1 := ⟨f - 1, by omega⟩
      have hw := Lib.width_pos s pos
      have HX : Hid ((runesL s).length = (n + 1) + (runesF s f' (pos + (Utf8.decode s pos).2)).length) := Lib.hid (by rw [HE.out, runesF, if_pos hlt, List.length_cons]; omega)
      have hnx := fun ty => run_next_any (P := Tryd.prog) w s pos ty hlt
      clear HE
      obtain ⟨k, hk⟩ : ∃ k, k = (Utf8.decode s pos).2 := ⟨_, rfl⟩
      rw [← hk] at hw HX
      have hnx' : ∀ ty, (Instr.next (.pointer (some ⟨w.heap.size, 0, none⟩)) true ty).run Tryd.prog (w.iter s pos) = .ok (.tuple #[.bool true, .int .i64 pos, .int .i32 (Utf8.decode s pos).1]) (w.iter s (pos + k)) := by rw [hk]; exact hnx
      clear hnx hk
      have hw1 : IntKind.i64.wrap ((n : Int) + 1) = (n : Int) + 1 := by rw [IntKind.wrap_i64]; omega
      go_wp2
      go_roundw
      case rel => exact ⟨f', pos + k, n + 1, by simp, rfl, by omega, by omega, HX⟩
      case measure => simp; omega
    · have hnx := fun ty => run_next_end (P := Tryd.prog) w s pos ty hlt
      have HX : Hid ((runesL s).length = n) := Lib.hid (by
        rw [HE.out]
        cases f with
        | zero => rfl
        | succ f => rw [runesF, if_neg hlt]; rfl)
      clear HE
      go_wp2
      go_ret
      rw [HX.out]
      exact ⟨rfl, (Below.refl _ _).alloc (Nat.le_refl _) _⟩
end Go.Proofs.YtepgjdmdogblmaaDoor.Val
namespace Go.Proofs.YtepgjdmdogblmaaDoor.Val
open Go.RowKit Go.Proofs.YtepgjdmdogblmaaDoor.G Go.Proofs.YtepgjdmdogblmaaDoorW.PrintWords Go.Proofs.YtepgjdmdogblmaaDoorW.PrintLast Go.Proofs.YtepgjdmdogblmaaDoorW.PrintMore
set_option linter.unusedVariables false
set_option linter.unusedSimpArgs false
def tailS (s : ByteArray) (k : Nat) : ByteArray := s.extract k s.size
theorem tailS_size (s : ByteArray) (k : Nat) : (tailS s k).size = s.size - k := by
  unfold tailS; rw [ByteArray.size_extract]; omega
def runesS : Nat → ByteArray → List Nat
  | 0, _ => []
  | f + 1, s => if s.size = 0 then [] else (Lib.decodeGo s).1 :: runesS f (tailS s (Lib.decodeGo s).2)
theorem decodeGo_at {s : ByteArray} {pos : Nat} (h : pos < s.size) : Lib.decodeGo (tailS s pos) = Utf8.decode s pos := by
  unfold Lib.decodeGo
  rw [if_neg (by rw [tailS_size]; omega)]
  unfold tailS
  rw [Lib.tail_decode, Nat.add_zero]
theorem tailS_tailS (s : ByteArray) (p k : Nat) : tailS (tailS s p) k = tailS s (p + k) := by
  unfold tailS
  rw [ByteArray.extract_extract]
  congr 1
  rw [ByteArray.size_extract]; omega
theorem runesF_S (s : ByteArray) : ∀ (f pos : Nat), runesF s f pos = runesS f (tailS s pos)
  | 0, _ => rfl
  | f + 1, pos => by
    unfold runesF runesS
    by_cases h : pos < s.size
    · rw [if_pos h, if_neg (by rw [tailS_size]; omega), decodeGo_at h, runesF_S s f, tailS_tailS]
    · rw [if_neg h, if_pos (by rw [tailS_size]; omega)]
theorem runesL_S (s : ByteArray) : runesL s = runesS s.size s := by
  unfold runesL
  rw [runesF_S]
  have e : tailS s 0 = s := by unfold tailS; simp
  rw [e]
theorem decode_fits {s : ByteArray} (h : s.size ≠ 0) : 1 ≤ (Lib.decodeGo s).2 ∧ (Lib.decodeGo s).2 ≤ s.size := by
  unfold Lib.decodeGo
  rw [if_neg h]
  exact ⟨Lib.width_pos s 0, Lib.width_le s (by omega)⟩
def cmpR : List Nat → List Nat → Int
  | [], [] => 0
  | [], _ :: _ => -1
  | _ :: _, [] => 1
  | x :: l, y :: r => if x = y then cmpR l r else cmpI x y
def strLen : Value → Nat
  | .string s => s.size
  | _ => 0
theorem rune_calls (x y : Int) (w : World) : Calls Tryd.prog 74 #[.int .i32 x, .int .i32 y] w fun e w' => e = .returned (.int .i64 (cmpI x y)) ∧ Below w.heap.size w w' := by
  refine (cmp_Compare_rune.calls x y (cmpI x y) w (by simp [cmp_Compare_rune.f, cmp_isNaN_rune.f, cmpI]; split <;> (try split) <;> rfl)).mono ?_
  exact fun e w' h => ⟨h.1, h.2.below⟩
theorem len_calls (x y : Int) (w : World) : Calls Tryd.prog 75 #[.int .i64 x, .int .i64 y] w fun e w' => e = .returned (.int .i64 (cmpI x y)) ∧ Below w.heap.size w w' := by
  refine (cmp_Compare_int.calls x y (cmpI x y) w (by simp [cmp_Compare_int.f, cmp_isNaN_int.f, cmpI]; split <;> (try split) <;> rfl)).mono ?_
  exact fun e w' h => ⟨h.1, h.2.below⟩
theorem empty_of {s : ByteArray} (h : s.size = 0) : s.toList = [] := by
  rw [ByteArray.toList_eq]
  exact List.eq_nil_of_length_eq_zero (by simpa using h)
theorem nonempty_of {s : ByteArray} (h : s.size ≠ 0) : s.toList ≠ [] := by
  rw [ByteArray.toList_eq]
  intro e
  apply h
  have := congrArg List.length e
  simpa using this
set_option maxHeartbeats 4000000 in
set_option maxRecDepth 100000 in
theorem texts_calls (a b : ByteArray) (w : World) (ha : a.size ≤ 9223372036854775807) (hb : b.size ≤ 9223372036854775807) (hT : Lib.Utf8Tabs 0 1 w) :
    Calls Tryd.prog 46 #[.string a, .string b] w fun e w' => e = .returned (.int .i64 (cmpR (runesL a) (runesL b))) ∧ Below w.heap.size w w' := by
  have HT := Lib.hid hT
  clear hT
  obtain ⟨R, hR⟩ : ∃ R, R = cmpR (runesL a) (runesL b) := ⟨_, rfl⟩
  have HR : Hid (R = cmpR (runesS a.size a) (runesS b.size b)) := Lib.hid (by rw [hR, runesL_S, runesL_S])
  rw [← hR]
  clear hR
  go_enter Tryd.func46, Tryd.ntmps46
  go_wp2
  go_loopw [0, 1] (fun v0 v1 wr => ∃ (A B : ByteArray) (f g : Nat), v0 = .string A ∧ v1 = .string B ∧ A.size ≤ f ∧ B.size ≤ g ∧ A.size ≤ 9223372036854775807 ∧ B.size ≤ 9223372036854775807 ∧ Hid (R = cmpR (runesS f A) (runesS g B)) ∧ Hid (Below w.heap.size w wr)) (fun v0 _ _ => strLen v0)
  case atStart => exact ⟨a, b, _, _, rfl, rfl, Nat.le_refl _, Nat.le_refl _, ha, hb, HR, Lib.hid (Below.refl _ _)⟩
  case round =>
    clear HR ha hb
    obtain ⟨A, B, f, g, rfl, rfl, hf, hg, ha, hb, HR, HB⟩ := hrel
    by_cases h0 : A.size = 0
    · have hA := empty_of h0
      have hAe : A.toList.isEmpty = true := by rw [hA]; rfl
      have hX : R = cmpI (A.size : Int) (B.size : Int) := by
        rw [HR.out, h0]
        have e1 : runesS f A = [] := by
          cases f with
          | zero => rfl
          | succ f => rw [runesS, if_pos h0]
        rw [e1]
        by_cases h1 : B.size = 0
        · have e2 : runesS g B = [] := by
            cases g with
            | zero => rfl
            | succ g => rw [runesS, if_pos h1]
          rw [e2, h1]; rfl
        · obtain ⟨g', rfl⟩ : ∃ g', g = g' + 1 := ⟨g - 1, by omega⟩
          rw [runesS, if_neg h1]
          simp only [cmpR, cmpI]
          rw [if_pos (by omega)]
      have HX := Lib.hid hX
      clear HR hX h0 hA
      go_wp2_with (first
        | (go_at_call 75; refine (len_calls A.size B.size _).mono ?_; rintro e w6 ⟨rfl, hb'⟩; rw [← HX.out]; have nB := Lib.hid (below_step HB.out hb'); clear HB hb'; have HB := nB; clear nB))
      all_goals
        go_ret
        exact ⟨rfl, HB.out⟩
    · have hA := nonempty_of h0
      have hAe : A.toList.isEmpty = false := by simpa using hA
      obtain ⟨f', rfl⟩ : ∃ f', f = f' + 1 := ⟨f - 1, by omega⟩
      obtain ⟨kA1, kA2⟩ := decode_fits h0
      by_cases h1 : B.size = 0
      · have hB := empty_of h1
        have hBe : B.toList.isEmpty = true := by rw [hB]; rfl
        have hX : R = cmpI (A.size : Int) (B.size : Int) := by
          have e2 : runesS g B = [] := by
            cases g with
            | zero => rfl
            | succ g => rw [runesS, if_pos h1]
          rw [HR.out, e2, h1, runesS, if_neg h0]
          simp only [cmpR, cmpI]
          rw [if_neg (by omega), if_pos (by omega)]
        have HX := Lib.hid hX
        clear HR hX h0 hA h1 hB kA1 kA2
        go_wp2_with (first
          | (go_at_call 75; refine (len_calls A.size B.size _).mono ?_; rintro e w6 ⟨rfl, hb'⟩; rw [← HX.out]; have nB := Lib.hid (below_step HB.out hb'); clear HB hb'; have HB := nB; clear nB))
        all_goals
          go_ret
          exact ⟨rfl, HB.out⟩
      · have hB := nonempty_of h1
        have hBe : B.toList.isEmpty = false := by simpa using hB
        obtain ⟨g', rfl⟩ : ∃ g', g = g' + 1 := ⟨g - 1, by omega⟩
        obtain ⟨kB1, kB2⟩ := decode_fits h1
        have hr := HR.out
        rw [runesS, if_neg h0, runesS, if_neg h1] at hr
        obtain ⟨X, K, hDA⟩ : ∃ X K, Lib.decodeGo A = (X, K) := ⟨_, _, rfl⟩
        obtain ⟨Y, M, hDB⟩ : ∃ Y M, Lib.decodeGo B = (Y, M) := ⟨_, _, rfl⟩
        rw [hDA] at hr kA1 kA2
        rw [hDB] at hr kB1 kB2
        simp only at hr kA1 kA2 kB1 kB2
        have HDA := Lib.hid hDA
        have HDB := Lib.hid hDB
        have MM1 := Lib.hid trivial
        have sA := tailS_size A K
        have sB := tailS_size B M
        clear hDA hDB HR hA hB h0 h1
        by_cases hXY : X = Y
        · have HR : Hid (R = cmpR (runesS f' (tailS A K)) (runesS g' (tailS B M))) := Lib.hid (by rw [hr, hXY]; simp only [cmpR]; rw [if_pos trivial])
          have h2 : ¬ ((X : Int) ≠ (Y : Int)) := by omega
          have h3 : ((X : Int) != (Y : Int)) = false := by simp [hXY]
          clear hr
          have HS := Lib.hid (And.intro sA sB)
          clear sA sB
          go_wp2_with (first
            | (go_at_call 73; have M := MM1; refine (Tryd.utf8_DecodeRuneInString A _ (Utf8Tabs_below HT.out HB.out)).mono ?_; rw [HDA.out]; rintro e w6 ⟨rfl, hb'⟩; have nB := Lib.hid (below_step HB.out hb'); clear HB hb' MM1 M; have HB := nB; clear nB)
            | (go_at_call 73; refine (Tryd.utf8_DecodeRuneInString B _ (Utf8Tabs_below HT.out HB.out)).mono ?_; rw [HDB.out]; rintro e w6 ⟨rfl, hb'⟩; have nB := Lib.hid (below_step HB.out hb'); clear HB hb'; have HB := nB; clear nB))
          go_quiet (fail)
          go_wp2
          have s1 : (tailS A K).size = A.size - K := HS.out.1
          have s2 : (tailS B M).size = B.size - M := HS.out.2
          refine ⟨⟨tailS A K, tailS B M, f', g', rfl, rfl, by omega, by omega, by omega, by omega, HR, Lib.hid (pw_below_drewN HB.out _)⟩, ?_⟩
          show (tailS A K).size < A.size
          omega
        · have HX : Hid (R = cmpI (X : Int) (Y : Int)) := Lib.hid (by
            rw [hr]; simp only [cmpR]; rw [if_neg hXY])
          have h3 : ((X : Int) != (Y : Int)) = true := by rw [bne_iff_ne]; omega
          clear hr sA sB
          go_wp2_with (first
            | (go_at_call 73; have M := MM1; refine (Tryd.utf8_DecodeRuneInString A _ (Utf8Tabs_below HT.out HB.out)).mono ?_; rw [HDA.out]; rintro e w6 ⟨rfl, hb'⟩; have nB := Lib.hid (below_step HB.out hb'); clear HB hb' MM1 M; have HB := nB; clear nB)
            | (go_at_call 73; refine (Tryd.utf8_DecodeRuneInString B _ (Utf8Tabs_below HT.out HB.out)).mono ?_; rw [HDB.out]; rintro e w6 ⟨rfl, hb'⟩; have nB := Lib.hid (below_step HB.out hb'); clear HB hb'; have HB := nB; clear nB)
            | (go_at_call 74; refine (rune_calls X Y _).mono ?_; rintro e w6 ⟨rfl, hb'⟩; rw [← HX.out]; have nB := Lib.hid (below_step HB.out hb'); clear HB hb'; have HB := nB; clear nB))
          go_ret
          exact ⟨rfl, HB.out⟩
end Go.Proofs.YtepgjdmdogblmaaDoor.Val
namespace Go.Proofs.YtepgjdmdogblmaaDoor.Val
open Go.RowKit Go.Proofs.YtepgjdmdogblmaaDoor.G Go.Proofs.YtepgjdmdogblmaaDoorW.PrintWords Go.Proofs.YtepgjdmdogblmaaDoorW.PrintLast Go.Proofs.YtepgjdmdogblmaaDoorW.PrintMore
set_option linter.unusedVariables false
set_option linter.unusedSimpArgs false
def cmpV (a b : S27) : Int :=
  if a.f0 ≠ b.f0 then cmpI a.f0 b.f0 else if a.f0 = 1 then (if a.f1 = b.f1 then 0 else if a.f1 = true then 1 else -1) else if a.f0 = 2 then cmpI a.f2 b.f2 else if a.f0 = 3 then cmpR (runesL a.f3) (runesL b.f3) else 0
set_option maxHeartbeats 4000000 in
set_option maxRecDepth 100000 in
theorem compare_calls (k0 k1 : Int) (b0 b1 : Bool) (n0 n1 : Int) (s0 s1 : ByteArray) (w : World) (h0 : s0.size ≤ 9223372036854775807) (h1 : s1.size ≤ 9223372036854775807) (hT : Lib.Utf8Tabs 0 1 w) :
    Calls Tryd.prog 16 #[.agg #[.int .u8 k0, .bool b0, .int .i64 n0, .string s0], .agg #[.int .u8 k1, .bool b1, .int .i64 n1, .string s1]] w fun e w' => e = .returned (.int .i64 (cmpV ⟨k0, b0, n0, s0⟩ ⟨k1, b1, n1, s1⟩)) ∧ Below w.heap.size w w' := by
  have HB := Lib.hid (Below.refl w.heap.size w)
  have HT := Lib.hid hT
  clear hT
  by_cases hk : k0 = k1
  · subst hk
    by_cases hk1 : k0 = 1
    · subst hk1
      cases b0 <;> cases b1
      all_goals
        go_enter Tryd.func16, Tryd.ntmps16
        go_wp2_with (first
          | ((with_reducible refine gate_dst (N := 2) rfl ?_); refine box_event ?hg (N := 2) ?hd (cs := #[.int .u8 1, .bool b0, .int .i64 n0, .string s0]) (t := 27) ?hr ?_; (case hd => rfl); (case hg => rfl); (case hr => first | (go_simp; done) | (go_simp; rfl)); intro g2 hg w3 hbx hb; have Eg2 : w.heap.size ≤ g2 := (by rw [hg]; exact HB.out.size); have nHB := Lib.hid (below_step HB.out hb); clear HB; have HB := nHB; have Bg2 := Lib.hid hbx; clear nHB hg hbx hb)
          | ((with_reducible refine gate_dst (N := 3) rfl ?_); refine box_event ?hg (N := 3) ?hd (cs := #[.int .u8 1, .bool b1, .int .i64 n1, .string s1]) (t := 27) ?hr ?_; (case hd => rfl); (case hg => rfl); (case hr => first | (go_simp; done) | (go_simp; rfl)); intro g3 hg w4 hbx hb; have Eg3 : w.heap.size ≤ g3 := (by rw [hg]; exact HB.out.size); have Ng2g3 : g2 ≠ g3 := (by rw [hg]; exact Nat.ne_of_lt (blk_lt Bg2.out)); have Ng3g2 : g3 ≠ g2 := Ng2g3.symm; have nBg2 := Lib.hid (blk_below Bg2.out hb); have nHB := Lib.hid (below_step HB.out hb); clear Bg2 HB; have Bg2 := nBg2; have HB := nHB; have Bg3 := Lib.hid hbx; clear nBg2 nHB hg hbx hb; have q0 := (blk_cell Bg2.out 0).trans rfl; have q1 := (blk_cell Bg2.out 1).trans rfl; have q2 := (blk_cell Bg2.out 2).trans rfl; have q3 := (blk_cell Bg2.out 3).trans rfl; have r0 := (blk_cell Bg3.out 0).trans rfl; have r1 := (blk_cell Bg3.out 1).trans rfl; have r2 := (blk_cell Bg3.out 2).trans rfl; have r3 := (blk_cell Bg3.out 3).trans rfl))
        all_goals
          go_ret
          first | exact ⟨rfl, HB.out⟩ | exact ⟨rfl, (HB.out.alloc (Nat.le_refl _) _).alloc (HB.out.alloc (Nat.le_refl _) _).size _⟩
    · by_cases hk2 : k0 = 2
      · subst hk2
        show Calls Tryd.prog 16 _ w fun e w' => e = .returned (.int .i64 (cmpI n0 n1)) ∧ Below w.heap.size w w'
        clear hk1
        go_enter Tryd.func16, Tryd.ntmps16
        go_wp2_with (first
          | ((with_reducible refine gate_dst (N := 2) rfl ?_); refine box_event ?hg (N := 2) ?hd (cs := #[.int .u8 2, .bool b0, .int .i64 n0, .string s0]) (t := 27) ?hr ?_; (case hd => rfl); (case hg => rfl); (case hr => first | (go_simp; done) | (go_simp; rfl)); intro g2 hg w3 hbx hb; have Eg2 : w.heap.size ≤ g2 := (by rw [hg]; exact HB.out.size); have nHB := Lib.hid (below_step HB.out hb); clear HB; have HB := nHB; have Bg2 := Lib.hid hbx; clear nHB hg hbx hb)
          | ((with_reducible refine gate_dst (N := 3) rfl ?_); refine box_event ?hg (N := 3) ?hd (cs := #[.int .u8 2, .bool b1, .int .i64 n1, .string s1]) (t := 27) ?hr ?_; (case hd => rfl); (case hg => rfl); (case hr => first | (go_simp; done) | (go_simp; rfl)); intro g3 hg w4 hbx hb; have Eg3 : w.heap.size ≤ g3 := (by rw [hg]; exact HB.out.size); have Ng2g3 : g2 ≠ g3 := (by rw [hg]; exact Nat.ne_of_lt (blk_lt Bg2.out)); have Ng3g2 : g3 ≠ g2 := Ng2g3.symm; have nBg2 := Lib.hid (blk_below Bg2.out hb); have nHB := Lib.hid (below_step HB.out hb); clear Bg2 HB; have Bg2 := nBg2; have HB := nHB; have Bg3 := Lib.hid hbx; clear nBg2 nHB hg hbx hb; have q0 := (blk_cell Bg2.out 0).trans rfl; have q1 := (blk_cell Bg2.out 1).trans rfl; have q2 := (blk_cell Bg2.out 2).trans rfl; have q3 := (blk_cell Bg2.out 3).trans rfl; have r0 := (blk_cell Bg3.out 0).trans rfl; have r1 := (blk_cell Bg3.out 1).trans rfl; have r2 := (blk_cell Bg3.out 2).trans rfl; have r3 := (blk_cell Bg3.out 3).trans rfl)
          | (go_at_call 45; refine (num_calls n0 n1 _).mono ?_; rintro e w6 ⟨rfl, hb⟩; have nB := Lib.hid (below_step HB.out hb); clear HB hb; have HB := nB; clear nB))
        all_goals
          go_ret
          first | exact ⟨rfl, HB.out⟩ | exact ⟨rfl, (HB.out.alloc (Nat.le_refl _) _).alloc (HB.out.alloc (Nat.le_refl _) _).size _⟩
      · by_cases hk3 : k0 = 3
        · subst hk3
          show Calls Tryd.prog 16 _ w fun e w' => e = .returned (.int .i64 (cmpR (runesL s0) (runesL s1))) ∧ Below w.heap.size w w'
          clear hk1 hk2
          go_enter Tryd.func16, Tryd.ntmps16
          go_wp2_with (first
            | ((with_reducible refine gate_dst (N := 2) rfl ?_); refine box_event ?hg (N := 2) ?hd (cs := #[.int .u8 3, .bool b0, .int .i64 n0, .string s0]) (t := 27) ?hr ?_; (case hd => rfl); (case hg => rfl); (case hr => first | (go_simp; done) | (go_simp; rfl)); intro g2 hg w3 hbx hb; have Eg2 : w.heap.size ≤ g2 := (by rw [hg]; exact HB.out.size); have nHB := Lib.hid (below_step HB.out hb); clear HB; have HB := nHB; have Bg2 := Lib.hid hbx; clear nHB hg hbx hb)
            | ((with_reducible refine gate_dst (N := 3) rfl ?_); refine box_event ?hg (N := 3) ?hd (cs := #[.int .u8 3, .bool b1, .int .i64 n1, .string s1]) (t := 27) ?hr ?_; (case hd => rfl); (case hg => rfl); (case hr => first | (go_simp; done) | (go_simp; rfl)); intro g3 hg w4 hbx hb; have Eg3 : w.heap.size ≤ g3 := (by rw [hg]; exact HB.out.size); have Ng2g3 : g2 ≠ g3 := (by rw [hg]; exact Nat.ne_of_lt (blk_lt Bg2.out)); have Ng3g2 : g3 ≠ g2 := Ng2g3.symm; have nBg2 := Lib.hid (blk_below Bg2.out hb); have nHB := Lib.hid (below_step HB.out hb); clear Bg2 HB; have Bg2 := nBg2; have HB := nHB; have Bg3 := Lib.hid hbx; clear nBg2 nHB hg hbx hb; have q0 := (blk_cell Bg2.out 0).trans rfl; have q1 := (blk_cell Bg2.out 1).trans rfl; have q2 := (blk_cell Bg2.out 2).trans rfl; have q3 := (blk_cell Bg2.out 3).trans rfl; have r0 := (blk_cell Bg3.out 0).trans rfl; have r1 := (blk_cell Bg3.out 1).trans rfl; have r2 := (blk_cell Bg3.out 2).trans rfl; have r3 := (blk_cell Bg3.out 3).trans rfl)
            | (go_at_call 46; refine (texts_calls s0 s1 _ h0 h1 (Utf8Tabs_below HT.out HB.out)).mono ?_; rintro e w6 ⟨rfl, hb⟩; have nB := Lib.hid (below_step HB.out hb); clear HB hb; have HB := nB; clear nB))
          all_goals
            go_ret
            first | exact ⟨rfl, HB.out⟩ | exact ⟨rfl, (HB.out.alloc (Nat.le_refl _) _).alloc (HB.out.alloc (Nat.le_refl _) _).size _⟩
        · have hX : cmpV ⟨k0, b0, n0, s0⟩ ⟨k0, b1, n1, s1⟩ = 0 := by
            unfold cmpV
            rw [if_neg (by simp), if_neg hk1, if_neg hk2, if_neg hk3]
          rw [hX]
          have d1 : (k0 == 1) = false := by simpa using hk1
          have d2 : (k0 == 2) = false := by simpa using hk2
          have d3 : (k0 == 3) = false := by simpa using hk3
          clear hX hk1 hk2 hk3
          go_enter Tryd.func16, Tryd.ntmps16
          go_wp2_with (first
            | ((with_reducible refine gate_dst (N := 2) rfl ?_); refine box_event ?hg (N := 2) ?hd (cs := #[.int .u8 k0, .bool b0, .int .i64 n0, .string s0]) (t := 27) ?hr ?_; (case hd => rfl); (case hg => rfl); (case hr => first | (go_simp; done) | (go_simp; rfl)); intro g2 hg w3 hbx hb; have Eg2 : w.heap.size ≤ g2 := (by rw [hg]; exact HB.out.size); have nHB := Lib.hid (below_step HB.out hb); clear HB; have HB := nHB; have Bg2 := Lib.hid hbx; clear nHB hg hbx hb)
            | ((with_reducible refine gate_dst (N := 3) rfl ?_); refine box_event ?hg (N := 3) ?hd (cs := #[.int .u8 k0, .bool b1, .int .i64 n1, .string s1]) (t := 27) ?hr ?_; (case hd => rfl); (case hg => rfl); (case hr => first | (go_simp; done) | (go_simp; rfl)); intro g3 hg w4 hbx hb; have Eg3 : w.heap.size ≤ g3 := (by rw [hg]; exact HB.out.size); have Ng2g3 : g2 ≠ g3 := (by rw [hg]; exact Nat.ne_of_lt (blk_lt Bg2.out)); have Ng3g2 : g3 ≠ g2 := Ng2g3.symm; have nBg2 := Lib.hid (blk_below Bg2.out hb); have nHB := Lib.hid (below_step HB.out hb); clear Bg2 HB; have Bg2 := nBg2; have HB := nHB; have Bg3 := Lib.hid hbx; clear nBg2 nHB hg hbx hb; have q0 := (blk_cell Bg2.out 0).trans rfl; have q1 := (blk_cell Bg2.out 1).trans rfl; have q2 := (blk_cell Bg2.out 2).trans rfl; have q3 := (blk_cell Bg2.out 3).trans rfl; have r0 := (blk_cell Bg3.out 0).trans rfl; have r1 := (blk_cell Bg3.out 1).trans rfl; have r2 := (blk_cell Bg3.out 2).trans rfl; have r3 := (blk_cell Bg3.out 3).trans rfl))
          all_goals
            go_ret
            first | exact ⟨rfl, HB.out⟩ | exact ⟨rfl, (HB.out.alloc (Nat.le_refl _) _).alloc (HB.out.alloc (Nat.le_refl _) _).size _⟩
  · have hX : cmpV ⟨k0, b0, n0, s0⟩ ⟨k1, b1, n1, s1⟩ = cmpI k0 k1 := if_pos hk
    rw [hX]
    have d1 : (k0 != k1) = true := by rw [bne_iff_ne]; exact hk
    clear hX hk
    go_enter Tryd.func16, Tryd.ntmps16
    go_wp2_with (first
      | ((with_reducible refine gate_dst (N := 2) rfl ?_); refine box_event ?hg (N := 2) ?hd (cs := #[.int .u8 k0, .bool b0, .int .i64 n0, .string s0]) (t := 27) ?hr ?_; (case hd => rfl); (case hg => rfl); (case hr => first | (go_simp; done) | (go_simp; rfl)); intro g2 hg w3 hbx hb; have Eg2 : w.heap.size ≤ g2 := (by rw [hg]; exact HB.out.size); have nHB := Lib.hid (below_step HB.out hb); clear HB; have HB := nHB; have Bg2 := Lib.hid hbx; clear nHB hg hbx hb)
      | ((with_reducible refine gate_dst (N := 3) rfl ?_); refine box_event ?hg (N := 3) ?hd (cs := #[.int .u8 k1, .bool b1, .int .i64 n1, .string s1]) (t := 27) ?hr ?_; (case hd => rfl); (case hg => rfl); (case hr => first | (go_simp; done) | (go_simp; rfl)); intro g3 hg w4 hbx hb; have Eg3 : w.heap.size ≤ g3 := (by rw [hg]; exact HB.out.size); have Ng2g3 : g2 ≠ g3 := (by rw [hg]; exact Nat.ne_of_lt (blk_lt Bg2.out)); have Ng3g2 : g3 ≠ g2 := Ng2g3.symm; have nBg2 := Lib.hid (blk_below Bg2.out hb); have nHB := Lib.hid (below_step HB.out hb); clear Bg2 HB; have Bg2 := nBg2; have HB := nHB; have Bg3 := Lib.hid hbx; clear nBg2 nHB hg hbx hb; have q0 := (blk_cell Bg2.out 0).trans rfl; have q1 := (blk_cell Bg2.out 1).trans rfl; have q2 := (blk_cell Bg2.out 2).trans rfl; have q3 := (blk_cell Bg2.out 3).trans rfl; have r0 := (blk_cell Bg3.out 0).trans rfl; have r1 := (blk_cell Bg3.out 1).trans rfl; have r2 := (blk_cell Bg3.out 2).trans rfl; have r3 := (blk_cell Bg3.out 3).trans rfl)
      | (go_at_call 44; refine (kind_calls k0 k1 _).mono ?_; rintro e w6 ⟨rfl, hb⟩; have nB := Lib.hid (below_step HB.out hb); clear HB hb; have HB := nB; clear nB))
    all_goals
      go_ret
      first | exact ⟨rfl, HB.out⟩ | exact ⟨rfl, (HB.out.alloc (Nat.le_refl _) _).alloc (HB.out.alloc (Nat.le_refl _) _).size _⟩
end Go.Proofs.YtepgjdmdogblmaaDoor.Val
namespace Go.Proofs.YtepgjdmdogblmaaDoor.Val
open Go.RowKit Go.Proofs.YtepgjdmdogblmaaDoor.G Go.Proofs.YtepgjdmdogblmaaDoorW.PrintWords Go.Proofs.YtepgjdmdogblmaaDoorW.PrintLast Go.Proofs.YtepgjdmdogblmaaDoorW.PrintMore
set_option linter.unusedVariables false
set_option linter.unusedSimpArgs false
theorem add_over (w : World) : Calls Tryd.prog 26 #[.int .i64 4611686018427387904, .int .i64 4611686018427387904] w fun e w' => e = .returned (.tuple #[.int .i64 0, .int .i64 16]) ∧ Below w.heap.size w w' := by
  refine (value_Add.calls 4611686018427387904 4611686018427387904 0 16 w (by simp [value_Add.f, wrap64])).mono ?_
  exact fun e w' h => ⟨h.1, h.2.below⟩
theorem text_calls (s : ByteArray) (w : World) : Calls Tryd.prog 15 #[.string s] w fun e w' => e = .returned (.agg #[.int .u8 3, .bool false, .int .i64 0, .string s]) ∧ Below w.heap.size w w' := by
  refine (potsherdlaw01_text.calls s 3 false 0 s w rfl).mono ?_
  exact fun e w' h => ⟨h.1, (by first | exact h.2 | exact h.2.below)⟩
theorem whole_calls (n : Int) (w : World) : Calls Tryd.prog 42 #[.int .i64 n] w fun e w' => e = .returned (.agg #[.int .u8 2, .bool false, .int .i64 n, .string ⟨#[]⟩]) ∧ Below w.heap.size w w' := by
  refine (potsherdlaw01_whole.calls n 2 false n ⟨#[]⟩ w rfl).mono ?_
  exact fun e w' h => ⟨h.1, (by first | exact h.2 | exact h.2.below)⟩
def one (n : Int) : List S27 := [⟨2, false, n, ⟨#[]⟩⟩]
theorem cmp_lives : cmpV ⟨3, false, 0, ⟨#[97]⟩⟩ ⟨3, false, 0, ⟨#[195, 169]⟩⟩ = -1 := by kernel_rfl
theorem runes_lives : (((runesL ⟨#[195, 169]⟩).length : Nat) : Int) = 1 := by kernel_rfl
theorem row_one {w : World} {g : Nat} {n : Int} (h : w.heap[g]? = some (.cells #[.int .u8 2, .bool false, .int .i64 n, .string ⟨#[]⟩] 27 (0, 0))) : Row w (.slice (some ⟨g, 0, none⟩) 1 1) (one n) := by
  refine ⟨some ⟨g, 0, none⟩, 1, rfl, ⟨rfl, Nat.le_of_ble_eq_true rfl, fun _ => ⟨⟨g, 0, none⟩, rfl, fun j p hj => ?_⟩⟩, Nat.lt_of_lt_of_le (show 1 < 2 by decide) (by decide), Nat.le_refl _⟩
  match j, hj with
  | 0, hj =>
    obtain rfl : (⟨2, false, n, ⟨#[]⟩⟩ : S27) = p := by simpa [one] using hj
    refine ⟨_, rfl, k27_mk w _, fun i u hi => ?_⟩
    show w.cell? ((⟨g, 0, none⟩ : Addr).add (0 * 4 + i)) = some u
    rw [Nat.zero_mul, Nat.zero_add, show ((⟨g, 0, none⟩ : Addr).add i) = ⟨g, i, none⟩ from by unfold Addr.add; split <;> simp_all, blk_cell h]
    simpa using hi
theorem alloc_size (w : World) (o : Obj) : (w.alloc o).heap.size = w.heap.size + 1 := by
  show (w.heap.push o).size = _
  simp
theorem blk_new2 (w : World) (o o' : Obj) : ((w.alloc o).alloc o').heap[w.heap.size + 1]? = some o' := by
  have := blk_new (w.alloc o) o'
  rwa [alloc_size] at this
theorem hold_keep : ¬ rowsN exactN (one 2) (one 1) < 0 := by
  rw [show rowsN exactN (one 2) (one 1) = 1 by kernel_rfl]; decide
theorem hold_swap : rowsN exactN (one 1) (one 2) < 0 := by
  rw [show rowsN exactN (one 1) (one 2) = -1 by kernel_rfl]; decide
set_option maxHeartbeats 4000000 in
set_option maxRecDepth 100000 in
theorem lives_calls (w : World) (hT : Lib.Utf8Tabs 0 1 w) : Calls Tryd.prog 13 #[] w fun e w' => e = .returned (.bool true) ∧ Below w.heap.size w w' := by
  have HB := Lib.hid (Below.refl w.heap.size w)
  have HT := Lib.hid hT
  have MA := Lib.hid trivial
  have MB := Lib.hid trivial
  have MC := Lib.hid trivial
  clear hT
  go_enter Tryd.func13, Tryd.ntmps13
  go_wp2_with (first
    | (go_at_call 26; refine (add_over _).mono ?_; rintro e w1 ⟨rfl, hb⟩; have nB := Lib.hid (below_step HB.out hb); clear HB hb; have HB := nB; clear nB)
    | (go_at_call 15; refine (text_calls _ _).mono ?_; rintro e w1 ⟨rfl, hb⟩; have nB := Lib.hid (below_step HB.out hb); clear HB hb; have HB := nB; clear nB)
    | (go_at_call 16; refine (compare_calls 3 3 false false 0 0 ⟨#[97]⟩ ⟨#[195, 169]⟩ _ (by decide) (by decide) (Utf8Tabs_below HT.out HB.out)).mono ?_; rw [cmp_lives]; rintro e w1 ⟨rfl, hb⟩; have nB := Lib.hid (below_step HB.out hb); clear HB hb; have HB := nB; clear nB)
    | (go_at_call 17; refine (runes_calls ⟨#[195, 169]⟩ _ (by decide)).mono ?_; rw [runes_lives]; rintro e w1 ⟨rfl, hb⟩; have nB := Lib.hid (below_step HB.out hb); clear HB hb; have HB := nB; clear nB)
    | (go_at_call 14; refine (check_one _).mono ?_; rintro e w1 ⟨rfl, hb⟩; have nB := Lib.hid (below_step HB.out hb); clear HB hb; have HB := nB; clear nB)
    | (go_at_call 42; have M := MA; refine (whole_calls _ _).mono ?_; rintro e w1 ⟨rfl, hb⟩; have nB := Lib.hid (below_step HB.out hb); clear HB hb; have HB := nB; clear nB; clear MA M)
    | (go_at_call 42; have M := MB; refine (whole_calls _ _).mono ?_; rintro e w2 ⟨rfl, hb⟩; have R1 := Lib.hid (blk_below (blk_new w1 _) hb); have nB := Lib.hid (below_step (HB.out.alloc HB.out.size _) hb); clear HB hb; have HB := nB; clear nB; clear MB M)
    | (go_at_call 42; have M := MC; refine (whole_calls _ _).mono ?_; rintro e w3 ⟨rfl, hb⟩; have r1 := Lib.hid (blk_below (blk_alloc (blk_alloc R1.out _) _) hb); have R2 := Lib.hid (blk_below (blk_alloc (blk_new w2 _) _) hb); have RA := Lib.hid (blk_below (blk_new2 w2 _ _) hb); have nB := Lib.hid (below_step ((HB.out.alloc HB.out.size _).alloc (HB.out.alloc HB.out.size _).size _) hb); clear HB R1 hb; have HB := nB; have R1 := r1; clear nB r1 MC M)
    | (go_at_call 42; refine (whole_calls _ _).mono ?_; rintro e w4 ⟨rfl, hb⟩; have r1 := Lib.hid (blk_below (blk_alloc R1.out _) hb); have r2 := Lib.hid (blk_below (blk_alloc R2.out _) hb); have ra := Lib.hid (blk_below (blk_alloc RA.out _) hb); have R3 := Lib.hid (blk_below (blk_new w3 _) hb); have nB := Lib.hid (below_step (HB.out.alloc HB.out.size _) hb); clear HB R1 R2 RA hb; have HB := nB; have R1 := r1; have R2 := r2; have RA := ra; clear nB r1 r2 ra)
    | (go_at_call 40; refine (bag_calls (w2.heap.size + 1) (w4.heap.size + 1) 2 2 (one 1) (one 2) (one 2) (one 1) _ _ _ _ _ ⟨_, blk_alloc (blk_alloc RA.out _) _, rfl, rfl⟩ ⟨_, blk_new2 w4 _ _, rfl, rfl⟩ (row_one (blk_alloc (blk_alloc R1.out _) _)) (row_one (blk_alloc (blk_alloc R2.out _) _)) (row_one (blk_alloc (blk_alloc R3.out _) _)) (row_one (blk_alloc (blk_new w4 _) _)) (Nat.le_refl _) (Nat.le_refl _) hold_keep hold_swap (by kernel_rfl) (by kernel_rfl)).mono ?_; rintro e w5 ⟨rfl, hb⟩; have nB := Lib.hid (below_step ((HB.out.alloc HB.out.size _).alloc (HB.out.alloc HB.out.size _).size _) hb); clear HB hb; have HB := nB; clear nB))
  go_ret
  exact ⟨rfl, HB.out⟩
end Go.Proofs.YtepgjdmdogblmaaDoor.Val
