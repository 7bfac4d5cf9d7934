/- Package value: two texts held against each other, rune by rune. Condition: utf8's two tables are laid. -/
import Derived.Test.YtepgjdmdogblmaaDoorVl9
import Derived.Lib.RuneCountTail
import Derived.Lib.QuoteLoop
namespace Go.Proofs.YtepgjdmdogblmaaDoor.Val
open Go.RowKit Go.Proofs.YtepgjdmdogblmaaDoor.G Go.Proofs.YtepgjdmdogblmaaDoorW.PrintWords Go.Proofs.YtepgjdmdogblmaaDoorW.PrintLast Go.Proofs.YtepgjdmdogblmaaDoorW.PrintMore
set_option linter.unusedVariables false
set_option linter.unusedSimpArgs false
def tailS (s : ByteArray) (k : Nat) : ByteArray := s.extract k s.size
theorem tailS_size (s : ByteArray) (k : Nat) : (tailS s k).size = s.size - k := by
  unfold tailS; rw [ByteArray.size_extract]; omega
def runesS : Nat → ByteArray → List Nat
  | 0, _ => []
  | f + 1, s => if s.size = 0 then [] else (Lib.decodeGo s).1 :: runesS f (tailS s (Lib.decodeGo s).2)
theorem decodeGo_at {s : ByteArray} {pos : Nat} (h : pos < s.size) : Lib.decodeGo (tailS s pos) = Utf8.decode s pos := by
  unfold Lib.decodeGo
  rw [if_neg (by rw [tailS_size]; omega)]
  unfold tailS
  rw [Lib.tail_decode, Nat.add_zero]
theorem tailS_tailS (s : ByteArray) (p k : Nat) : tailS (tailS s p) k = tailS s (p + k) := by
  unfold tailS
  rw [ByteArray.extract_extract]
  congr 1
  rw [ByteArray.size_extract]; omega
theorem runesF_S (s : ByteArray) : ∀ (f pos : Nat), runesF s f pos = runesS f (tailS s pos)
  | 0, _ => rfl
  | f + 1, pos => by
    unfold runesF runesS
    by_cases h : pos < s.size
    · rw [if_pos h, if_neg (by rw [tailS_size]; omega), decodeGo_at h, runesF_S s f, tailS_tailS]
    · rw [if_neg h, if_pos (by rw [tailS_size]; omega)]
theorem runesL_S (s : ByteArray) : runesL s = runesS s.size s := by
  unfold runesL
  rw [runesF_S]
  have e : tailS s 0 = s := by unfold tailS; simp
  rw [e]
theorem decode_fits {s : ByteArray} (h : s.size ≠ 0) : 1 ≤ (Lib.decodeGo s).2 ∧ (Lib.decodeGo s).2 ≤ s.size := by
  unfold Lib.decodeGo
  rw [if_neg h]
  exact ⟨Lib.width_pos s 0, Lib.width_le s (by omega)⟩
def cmpR : List Nat → List Nat → Int
  | [], [] => 0
  | [], _ :: _ => -1
  | _ :: _, [] => 1
  | x :: l, y :: r => if x = y then cmpR l r else cmpI x y
def strLen : Value → Nat
  | .string s => s.size
  | _ => 0
theorem rune_calls (x y : Int) (w : World) : Calls Tryd.prog 74 #[.int .i32 x, .int .i32 y] w fun e w' => e = .returned (.int .i64 (cmpI x y)) ∧ Below w.heap.size w w' := by
  refine (cmp_Compare_rune.calls x y (cmpI x y) w (by simp [cmp_Compare_rune.f, cmp_isNaN_rune.f, cmpI]; split <;> (try split) <;> rfl)).mono ?_
  exact fun e w' h => ⟨h.1, h.2.below⟩
theorem len_calls (x y : Int) (w : World) : Calls Tryd.prog 75 #[.int .i64 x, .int .i64 y] w fun e w' => e = .returned (.int .i64 (cmpI x y)) ∧ Below w.heap.size w w' := by
  refine (cmp_Compare_int.calls x y (cmpI x y) w (by simp [cmp_Compare_int.f, cmp_isNaN_int.f, cmpI]; split <;> (try split) <;> rfl)).mono ?_
  exact fun e w' h => ⟨h.1, h.2.below⟩
theorem empty_of {s : ByteArray} (h : s.size = 0) : s.toList = [] := by
  rw [ByteArray.toList_eq]
  exact List.eq_nil_of_length_eq_zero (by simpa using h)
theorem nonempty_of {s : ByteArray} (h : s.size ≠ 0) : s.toList ≠ [] := by
  rw [ByteArray.toList_eq]
  intro e
  apply h
  have := congrArg List.length e
  simpa using this
set_option maxHeartbeats 4000000 in
set_option maxRecDepth 100000 in
theorem texts_calls (a b : ByteArray) (w : World) (ha : a.size ≤ 9223372036854775807) (hb : b.size ≤ 9223372036854775807) (hT : Lib.Utf8Tabs 0 1 w) :
    Calls Tryd.prog 46 #[.string a, .string b] w fun e w' => e = .returned (.int .i64 (cmpR (runesL a) (runesL b))) ∧ Below w.heap.size w w' := by
  have HT := Lib.hid hT
  clear hT
  obtain ⟨R, hR⟩ : ∃ R, R = cmpR (runesL a) (runesL b) := ⟨_, rfl⟩
  have HR : Hid (R = cmpR (runesS a.size a) (runesS b.size b)) := Lib.hid (by rw [hR, runesL_S, runesL_S])
  rw [← hR]
  clear hR
  go_enter Tryd.func46, Tryd.ntmps46
  go_wp2
  go_loopw [0, 1] (fun v0 v1 wr => ∃ (A B : ByteArray) (f g : Nat), v0 = .string A ∧ v1 = .string B ∧ A.size ≤ f ∧ B.size ≤ g ∧ A.size ≤ 9223372036854775807 ∧ B.size ≤ 9223372036854775807 ∧ Hid (R = cmpR (runesS f A) (runesS g B)) ∧ Hid (Below w.heap.size w wr)) (fun v0 _ _ => strLen v0)
  case atStart => exact ⟨a, b, _, _, rfl, rfl, Nat.le_refl _, Nat.le_refl _, ha, hb, HR, Lib.hid (Below.refl _ _)⟩
  case round =>
    clear HR ha hb
    obtain ⟨A, B, f, g, rfl, rfl, hf, hg, ha, hb, HR, HB⟩ := hrel
    by_cases h0 : A.size = 0
    · have hA := empty_of h0
      have hAe : A.toList.isEmpty = true := by rw [hA]; rfl
      have hX : R = cmpI (A.size : Int) (B.size : Int) := by
        rw [HR.out, h0]
        have e1 : runesS f A = [] := by
          cases f with
          | zero => rfl
          | succ f => rw [runesS, if_pos h0]
        rw [e1]
        by_cases h1 : B.size = 0
        · have e2 : runesS g B = [] := by
            cases g with
            | zero => rfl
            | succ g => rw [runesS, if_pos h1]
          rw [e2, h1]; rfl
        · obtain ⟨g', rfl⟩ : ∃ g', g = g' + 1 := ⟨g - 1, by omega⟩
          rw [runesS, if_neg h1]
          simp only [cmpR, cmpI]
          rw [if_pos (by omega)]
      have HX := Lib.hid hX
      clear HR hX h0 hA
      go_wp2_with (first
        | (go_at_call 75; refine (len_calls A.size B.size _).mono ?_; rintro e w6 ⟨rfl, hb'⟩; rw [← HX.out]; have nB := Lib.hid (below_step HB.out hb'); clear HB hb'; have HB := nB; clear nB))
      all_goals
        go_ret
        exact ⟨rfl, HB.out⟩
    · have hA := nonempty_of h0
      have hAe : A.toList.isEmpty = false := by simpa using hA
      obtain ⟨f', rfl⟩ : ∃ f', f = f' + 1 := ⟨f - 1, by omega⟩
      obtain ⟨kA1, kA2⟩ := decode_fits h0
      by_cases h1 : B.size = 0
      · have hB := empty_of h1
        have hBe : B.toList.isEmpty = true := by rw [hB]; rfl
        have hX : R = cmpI (A.size : Int) (B.size : Int) := by
          have e2 : runesS g B = [] := by
            cases g with
            | zero => rfl
            | succ g => rw [runesS, if_pos h1]
          rw [HR.out, e2, h1, runesS, if_neg h0]
          simp only [cmpR, cmpI]
          rw [if_neg (by omega), if_pos (by omega)]
        have HX := Lib.hid hX
        clear HR hX h0 hA h1 hB kA1 kA2
        go_wp2_with (first
          | (go_at_call 75; refine (len_calls A.size B.size _).mono ?_; rintro e w6 ⟨rfl, hb'⟩; rw [← HX.out]; have nB := Lib.hid (below_step HB.out hb'); clear HB hb'; have HB := nB; clear nB))
        all_goals
          go_ret
          exact ⟨rfl, HB.out⟩
      · have hB := nonempty_of h1
        have hBe : B.toList.isEmpty = false := by simpa using hB
        obtain ⟨g', rfl⟩ : ∃ g', g = g' + 1 := ⟨g - 1, by omega⟩
        obtain ⟨kB1, kB2⟩ := decode_fits h1
        have hr := HR.out
        rw [runesS, if_neg h0, runesS, if_neg h1] at hr
        obtain ⟨X, K, hDA⟩ : ∃ X K, Lib.decodeGo A = (X, K) := ⟨_, _, rfl⟩
        obtain ⟨Y, M, hDB⟩ : ∃ Y M, Lib.decodeGo B = (Y, M) := ⟨_, _, rfl⟩
        rw [hDA] at hr kA1 kA2
        rw [hDB] at hr kB1 kB2
        simp only at hr kA1 kA2 kB1 kB2
        have HDA := Lib.hid hDA
        have HDB := Lib.hid hDB
        have MM1 := Lib.hid trivial
        have sA := tailS_size A K
        have sB := tailS_size B M
        clear hDA hDB HR hA hB h0 h1
        by_cases hXY : X = Y
        · have HR : Hid (R = cmpR (runesS f' (tailS A K)) (runesS g' (tailS B M))) := Lib.hid (by rw [hr, hXY]; simp only [cmpR]; rw [if_pos trivial])
          have h2 : ¬ ((X : Int) ≠ (Y : Int)) := by omega
          have h3 : ((X : Int) != (Y : Int)) = false := by simp [hXY]
          clear hr
          have HS := Lib.hid (And.intro sA sB)
          clear sA sB
          go_wp2_with (first
            | (go_at_call 73; have M := MM1; refine (Tryd.utf8_DecodeRuneInString A _ (Utf8Tabs_below HT.out HB.out)).mono ?_; rw [HDA.out]; rintro e w6 ⟨rfl, hb'⟩; have nB := Lib.hid (below_step HB.out hb'); clear HB hb' MM1 M; have HB := nB; clear nB)
            | (go_at_call 73; refine (Tryd.utf8_DecodeRuneInString B _ (Utf8Tabs_below HT.out HB.out)).mono ?_; rw [HDB.out]; rintro e w6 ⟨rfl, hb'⟩; have nB := Lib.hid (below_step HB.out hb'); clear HB hb'; have HB := nB; clear nB))
          go_quiet (fail)
          go_wp2
          have s1 : (tailS A K).size = A.size - K := HS.out.1
          have s2 : (tailS B M).size = B.size - M := HS.out.2
          refine ⟨⟨tailS A K, tailS B M, f', g', rfl, rfl, by omega, by omega, by omega, by omega, HR, Lib.hid (pw_below_drewN HB.out _)⟩, ?_⟩
          show (tailS A K).size < A.size
          omega
        · have HX : Hid (R = cmpI (X : Int) (Y : Int)) := Lib.hid (by
            rw [hr]; simp only [cmpR]; rw [if_neg hXY])
          have h3 : ((X : Int) != (Y : Int)) = true := by rw [bne_iff_ne]; omega
          clear hr sA sB
          go_wp2_with (first
            | (go_at_call 73; have M := MM1; refine (Tryd.utf8_DecodeRuneInString A _ (Utf8Tabs_below HT.out HB.out)).mono ?_; rw [HDA.out]; rintro e w6 ⟨rfl, hb'⟩; have nB := Lib.hid (below_step HB.out hb'); clear HB hb' MM1 M; have HB := nB; clear nB)
            | (go_at_call 73; refine (Tryd.utf8_DecodeRuneInString B _ (Utf8Tabs_below HT.out HB.out)).mono ?_; rw [HDB.out]; rintro e w6 ⟨rfl, hb'⟩; have nB := Lib.hid (below_step HB.out hb'); clear HB hb'; have HB := nB; clear nB)
            | (go_at_call 74; refine (rune_calls X Y _).mono ?_; rintro e w6 ⟨rfl, hb'⟩; rw [← HX.out]; have nB := Lib.hid (below_step HB.out hb'); clear HB hb'; have HB := nB; clear nB))
          go_ret
          exact ⟨rfl, HB.out⟩
end Go.Proofs.YtepgjdmdogblmaaDoor.Val
