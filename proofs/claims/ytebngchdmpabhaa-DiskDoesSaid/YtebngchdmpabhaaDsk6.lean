/- Package disk: Check. No condition but the bound on a slice's length. -/
import Derived.Test.YtebngchdmpabhaaDsk5
namespace Go.Proofs.Ytebngchdmpabhaa.Disk
open Go.RowKit Go.Proofs.Ytebngchdmpabhaa.G Go.Proofs.YtebngchdmpabhaaW.PrintWords Go.Proofs.YtebngchdmpabhaaW.PrintLast Go.Proofs.YtebngchdmpabhaaW.PrintMore Go.Proofs.YtebngchdmpabhaaW.Raw
set_option linter.unusedVariables false
set_option linter.unusedSimpArgs false
def okFile (last : ByteArray) (room : Int) (f : S41) : Bool := ltS last f.f0 && decide (0 ≤ f.f2) && decide (f.f2 ≤ (f.f1.size : Int)) && decide ((f.f1.size : Int) ≤ room)
def okFiles : ByteArray → Int → List S41 → Bool
  | _, _, [] => true
  | last, room, f :: l => okFile last room f && okFiles f.f0 (room - f.f1.size) l
def ok (l : List S41) : Bool := okFiles ⟨#[]⟩ 1048576 l
def okN (l : List S41) : Int := if ok l = true then 0 else 6
attribute [local go_sem high] str_leq
set_option maxHeartbeats 2000000 in
set_option maxRecDepth 100000 in
theorem check_calls (A : Option Addr) (c : Nat) (l : List S41) (down : Bool) (fuse : Int) (w : World) (hr : Kd.C k41 w A l.length l) :
    Calls Try.prog 18 #[.agg #[.slice A l.length c, .bool down, .int .i64 fuse]] w fun e w' => e = .returned (.int .i64 (okN l)) ∧ Below w.heap.size w w' := by
  have hm := hr.2.1
  have HR := Lib.hid hr
  clear hr
  obtain ⟨n, hN⟩ : ∃ n, n = l.length := ⟨_, rfl⟩
  rw [← hN] at HR hm ⊢
  have HN := Lib.hid hN
  clear hN
  go_enter Try.func18, Try.ntmps18
  go_wp2
  go_loopw [3, 4, 10] (fun v3 v4 vi wr => ∃ (k : Nat) (last : ByteArray) (room : Int), k ≤ n ∧ vi = .int .i64 k ∧ v3 = .string last ∧ v4 = .int .i64 room ∧ 0 ≤ room ∧ room ≤ 1048576 ∧ Hid (ok l = okFiles last room (l.drop k)) ∧ Hid (Below w.heap.size w wr)) (fun _ _ vi _ => n - (intOf vi).toNat)
  case atStart => exact ⟨0, ⟨#[]⟩, 1048576, Nat.zero_le _, rfl, rfl, rfl, by omega, by omega, Lib.hid rfl, Lib.hid ((Below.refl _ _).alloc (Nat.le_refl _) _)⟩
  case round =>
    obtain ⟨k, last, room, hk, rfl, rfl, rfl, hr0, hr1, HO, HB⟩ := hrel
    have hs2 := HB.out.size
    by_cases hlt : k < n
    · obtain ⟨ad, eA, x0, x1, x2⟩ := at_T41 (Kd.C_below HR.out HB.out) (k : Int) (by omega) (by omega)
      simp only [Int.toNat_natCast] at x0 x1 x2
      have hget : rd_T41 l (k : Int) = l.getD k z41 := by simp [rd_T41]
      rw [hget] at x0 x1 x2
      have hdr : l.drop k = l.getD k z41 :: l.drop (k + 1) := by
        have hkl : k < l.length := by rw [← HN.out]; exact hlt
        rw [List.getD_eq_getElem?_getD, List.getElem?_eq_getElem hkl]
        exact List.drop_eq_getElem_cons hkl
      have HO2 : Hid (ok l = (okFile last room (l.getD k z41) && okFiles (l.getD k z41).f0 (room - (l.getD k z41).f1.size) (l.drop (k + 1)))) := by
        show ok l = _
        rw [HO.out, hdr]; rfl
      obtain ⟨F, hF⟩ : ∃ F, F = l.getD k z41 := ⟨_, rfl⟩
      rw [← hF] at x0 x1 x2 HO2
      clear hF hdr hget
      subst eA
      have hkk : (k : Int) < (n : Int) := by omega
      rcases h1 : ltS last F.f0 with _ | _
      · have e1 : Op.bytesLess last.toList F.f0.toList = false := h1
        have HE : Hid (okN l = 6) := by show okN l = 6; unfold okN; rw [HO2.out]; simp [okFile, h1]
        clear h1
        go_wp2
        go_ret
        rw [HE.out]
        exact ⟨rfl, HB.out.alloc hs2 _⟩
      · have e1 : Op.bytesLess last.toList F.f0.toList = true := h1
        by_cases h2 : F.f2 < 0
        · have HE : Hid (okN l = 6) := by show okN l = 6; unfold okN; rw [HO2.out]; simp [okFile, h1]; omega
          clear h1
          go_wp2
          go_ret
          rw [HE.out]
          exact ⟨rfl, HB.out.alloc hs2 _⟩
        · by_cases h3 : (F.f1.size : Int) < F.f2
          · have HE : Hid (okN l = 6) := by show okN l = 6; unfold okN; rw [HO2.out]; simp [okFile, h1]; omega
            clear h1
            go_wp2
            go_ret
            rw [HE.out]
            exact ⟨rfl, HB.out.alloc hs2 _⟩
          · by_cases h4 : room < (F.f1.size : Int)
            · have HE : Hid (okN l = 6) := by show okN l = 6; unfold okN; rw [HO2.out]; simp [okFile, h1]; omega
              clear h1
              go_wp2
              go_ret
              rw [HE.out]
              exact ⟨rfl, HB.out.alloc hs2 _⟩
            · have HE : Hid (ok l = okFiles F.f0 (room - F.f1.size) (l.drop (k + 1))) := by
                show ok l = _
                rw [HO2.out]
                have : okFile last room F = true := by simp [okFile, h1]; omega
                rw [this, Bool.true_and]
              clear h1
              go_wp2
              go_quiet (fail)
              go_wp2
              exact ⟨⟨k + 1, F.f0, room - F.f1.size, hlt, by simp, rfl, rfl, by omega, by omega, HE, Lib.hid (pw_below_drewN (HB.out.alloc hs2 _) _)⟩, by simp [intOf]; omega⟩
    · obtain rfl : k = n := by omega
      have HE : Hid (okN l = 0) := by
        show okN l = 0
        unfold okN
        rw [HO.out, HN.out, List.drop_length]
        rfl
      go_wp2
      go_ret
      rw [HE.out]
      exact ⟨rfl, HB.out⟩
end Go.Proofs.Ytebngchdmpabhaa.Disk
