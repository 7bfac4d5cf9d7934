/- Package disk: the search by halves, the place of a file. No condition but that the files' names rise. -/
import Derived.Test.YtebngchdmpabhaaDsk1
namespace Go.Proofs.Ytebngchdmpabhaa.Disk
open Go.RowKit Go.Proofs.Ytebngchdmpabhaa.G Go.Proofs.YtebngchdmpabhaaW.PrintWords Go.Proofs.YtebngchdmpabhaaW.PrintLast Go.Proofs.YtebngchdmpabhaaW.PrintMore Go.Proofs.YtebngchdmpabhaaW.Raw
set_option linter.unusedVariables false
set_option linter.unusedSimpArgs false
def nameAt (l : List S41) (k : Nat) : ByteArray := (l.getD k z41).f0
def lb (l : List S41) (name : ByteArray) : Nat := (l.takeWhile (fun f => ltS f.f0 name)).length
theorem lb_eq (name : ByteArray) : ∀ (l : List S41) (i : Nat), i ≤ l.length → (∀ k, k < i → ltS (nameAt l k) name = true) → (i < l.length → ltS (nameAt l i) name = false) → lb l name = i
  | [], i, hi, _, _ => by simp at hi; simp [lb, hi]
  | f :: l, 0, _, _, h => by
    have h0 := h (by simp)
    simp [nameAt] at h0
    simp [lb, h0]
  | f :: l, i + 1, hi, h1, h2 => by
    have h0 := h1 0 (by omega)
    simp [nameAt] at h0
    have ih := lb_eq name l i (by simpa using hi) (fun k hk => by have := h1 (k + 1) (by omega); simpa [nameAt] using this) (fun hk => by have := h2 (by simpa using hk); simpa [nameAt] using this)
    simp only [lb] at ih ⊢
    simp [h0, ih]
def Rises (l : List S41) : Prop := ∀ i j, i < j → j < l.length → ltS (nameAt l i) (nameAt l j) = true
theorem ltS_trans {a b c : ByteArray} (h1 : ltS a b = true) (h2 : ltS b c = true) : ltS a c = true := by
  simp only [ltS, bytesLess_eq, decide_eq_true_eq] at *
  exact List.lt_trans h1 h2
theorem cmpS_neg (a b : ByteArray) : cmpS a b < 0 ↔ ltS a b = true := by
  unfold cmpS
  rcases ltS a b with _ | _ <;> rcases eqS a b with _ | _ <;> simp
theorem cmpS_zero (a b : ByteArray) (h : ltS a b = false) : (cmpS a b == 0) = eqS a b := by
  unfold cmpS
  rw [h]
  rcases eqS a b with _ | _ <;> simp
def foundAt (l : List S41) (name : ByteArray) : Bool := decide (lb l name < l.length) && eqS (nameAt l (lb l name)) name
def cellsOf (f : S41) : List Value := [.string f.f0, .string f.f1, .int .i64 f.f2]
set_option maxHeartbeats 1000000 in
set_option maxRecDepth 100000 in
theorem search_calls (A : Option Addr) (c : Nat) (l : List S41) (name : ByteArray) (w : World) (hr : Kd.C k41 w A l.length l) (hn : l.length ≤ 4611686018427387904) (hs : Rises l) :
    Calls Try.prog 37 #[.slice A l.length c, .string name, .func (.func 38) #[] #[]] w fun e w' => e = .returned (.tuple #[.int .i64 (lb l name), .bool (foundAt l name)]) ∧ Below w.heap.size w w' := by
  obtain ⟨n, hN⟩ : ∃ n, n = l.length := ⟨_, rfl⟩
  have HR := Lib.hid hr
  have HS := Lib.hid hs
  clear hr hs
  rw [← hN] at HR hn ⊢
  have HN := Lib.hid hN
  clear hN
  go_enter Try.func37, Try.ntmps37
  go_wp2
  go_loopw [9, 10] (fun vi vj wr => ∃ i j : Nat, vi = .int .i64 i ∧ vj = .int .i64 j ∧ i ≤ j ∧ j ≤ n ∧ Hid (∀ k, k < i → ltS (nameAt l k) name = true) ∧ Hid (j < n → ltS (nameAt l j) name = false) ∧ Hid (Below w.heap.size w wr)) (fun vi vj _ => (intOf vj - intOf vi).toNat)
  case atStart => exact ⟨0, n, rfl, rfl, by omega, by omega, Lib.hid (fun k hk => by omega), Lib.hid (fun h => by omega), Lib.hid (Below.refl _ _)⟩
  case round =>
    obtain ⟨i, j, rfl, rfl, hij, hjn, H1, H2, HB⟩ := hrel
    by_cases hlt : i < j
    · obtain ⟨h, hh⟩ : ∃ h, h = (i + j) / 2 := ⟨_, rfl⟩
      have hh1 : i ≤ h := by omega
      have hh2 : h < j := by omega
      have hh3 : h < n := by omega
      have eh : ((i : Int) + (j : Int)) / 2 = (h : Int) := by omega
      clear hh
      obtain ⟨ad, eA, x0, x1, x2⟩ := at_T41 (Kd.C_below HR.out HB.out) (h : Int) (by omega) (by omega)
      simp only [Int.toNat_natCast] at x0 x1 x2
      have hget : Hid ((rd_T41 l (h : Int)).f0 = nameAt l h) := by show _ = _; simp [rd_T41, nameAt]
      generalize rd_T41 l (h : Int) = F at *
      subst eA
      have hz : (h : Int) < (n : Int) := by omega
      rcases hc : ltS F.f0 name with _ | _
      · have HC := Lib.hid hc
        have hv : decide (cmpS F.f0 name < 0) = false := decide_eq_false (fun h_ => by rw [cmpS_neg] at h_; rw [hc] at h_; cases h_)
        clear hc
        go_wp2_with (go_at_call 38; refine (closure_calls F _ _).mono ?_; rintro e w2 ⟨rfl, hb2⟩; have HB2 := Lib.hid hb2; clear hb2)
        exact ⟨⟨i, h, rfl, rfl, hh1, by omega, H1, Lib.hid (fun _ => by rw [← hget.out]; exact HC.out), Lib.hid (below_step HB.out HB2.out)⟩, by simp [intOf]; omega⟩
      · have HC := Lib.hid hc
        have hv : decide (cmpS F.f0 name < 0) = true := decide_eq_true (by rw [cmpS_neg]; exact hc)
        clear hc
        go_wp2_with (go_at_call 38; refine (closure_calls F _ _).mono ?_; rintro e w2 ⟨rfl, hb2⟩; have HB2 := Lib.hid hb2; clear hb2)
        refine ⟨⟨h + 1, j, by simp, rfl, by omega, hjn, Lib.hid (fun k hk => ?_), H2, Lib.hid (below_step HB.out HB2.out)⟩, by simp [intOf]; omega⟩
        have e0 : ltS (nameAt l h) name = true := by rw [← hget.out]; exact HC.out
        by_cases hkh : k = h
        · rw [hkh]; exact e0
        · exact ltS_trans (HS.out k h (by omega) (by rw [← HN.out]; exact hh3)) e0
    · obtain rfl : i = j := by omega
      have HLB : Hid (lb l name = i) := lb_eq name l i (by rw [← HN.out]; exact hjn) H1.out (by rw [← HN.out]; exact H2.out)
      by_cases hin : i < n
      · obtain ⟨ad, eA, x0, x1, x2⟩ := at_T41 (Kd.C_below HR.out HB.out) (i : Int) (by omega) (by omega)
        simp only [Int.toNat_natCast] at x0 x1 x2
        have hget : Hid ((rd_T41 l (i : Int)).f0 = nameAt l i) := by show _ = _; simp [rd_T41, nameAt]
        generalize rd_T41 l (i : Int) = F at *
        subst eA
        have hz : (i : Int) < (n : Int) := by omega
        have HF : Hid (foundAt l name = (cmpS F.f0 name == 0)) := by
          show foundAt l name = _
          have e1 : ltS F.f0 name = false := by rw [hget.out]; exact H2.out hin
          unfold foundAt
          rw [HLB.out, ← HN.out, decide_eq_true hin, Bool.true_and, ← hget.out, cmpS_zero _ _ e1]
        have hzi : decide (i < n) = true := decide_eq_true hin
        go_wp2_with (go_at_call 38; refine (closure_calls F _ _).mono ?_; rintro e w2 ⟨rfl, hb2⟩; have HB2 := Lib.hid hb2; clear hb2)
        go_ret2
        exact ⟨by rw [HLB.out, HF.out]; rfl, below_step HB.out HB2.out⟩
      · have HF : Hid (foundAt l name = false) := by
          show foundAt l name = _
          unfold foundAt
          rw [HLB.out, ← HN.out, decide_eq_false hin, Bool.false_and]
        have hzi : decide (i < n) = false := decide_eq_false hin
        go_wp2
        go_ret2
        exact ⟨by rw [HLB.out, HF.out]; rfl, HB.out⟩
end Go.Proofs.Ytebngchdmpabhaa.Disk
