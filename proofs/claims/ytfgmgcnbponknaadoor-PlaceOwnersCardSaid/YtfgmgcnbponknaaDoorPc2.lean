/- PlaceClaims, PlaceDown: what the program and what the document answer of claims and picks. Conditions: lists and texts are shorter than 2^42. -/
import Derived.Test.YtfgmgcnbponknaaDoorLp5
namespace Go.Proofs.YtfgmgcnbponknaaDoor.Lx
open Go.RowKit Go.Proofs.YtfgmgcnbponknaaDoor.G Go.Proofs.YtfgmgcnbponknaaDoor.Opn Go.Proofs.YtfgmgcnbponknaaDoorW.PrintWords Go.Proofs.YtfgmgcnbponknaaDoorW.PrintLast Go.Proofs.YtfgmgcnbponknaaDoorW.PrintMore
set_option linter.unusedVariables false
set_option linter.unusedSimpArgs false
theorem rdI (l : List Int) (i : Nat) (h : i < l.length) : rd l (i : Int) = l[i] := by simp [rd, List.getD_eq_getElem?_getD, h]
theorem rdLI (l : List (List Int)) (i : Nat) : rd_L7 l (i : Int) = l.getD i [] := by simp [rd_L7]
theorem rlay_f (n0 n1 n2 : Int) (h : n0 ≤ 9223372036854775807) (h' : -9223372036854775808 ≤ n0) : potsherdref06_Check.f n0 n1 n2 = some (Val.layV n0 n1 n2) := by
  unfold potsherdref06_Check.f Val.layV wrap64
  repeat' split
  all_goals first | rfl | omega
/-! claims -/
theorem rcl_l1 (n0 n1 n2 : Int) (x : List Int) (ms : List (List Int)) (i len : Int) (hl : x.length < 4611686018427387904) : ∀ (d j k : Nat) (last : Int), x.length = j + d → (j = 0 → last = 0) → (0 < j → 0 < last) →
    potsherdref06_CheckClaim.l1 (d + 1 + k) x last ms len i x (x.length : Int) (j : Int) n0 n1 n2 = if Val.ownG n0 last (x.drop j) = true then potsherdref06_CheckClaim.l0 k ms len (wrap64 (i + 1)) n0 n1 n2 else some 6 := by
  intro d
  induction d with
  | zero =>
    intro j k last hd h0 h1
    rw [show 0 + 1 + k = k + 1 by omega, potsherdref06_CheckClaim.l1, if_neg (by omega), List.drop_of_length_le (by omega), Val.ownG]
    by_cases hj : j = 0
    · rw [if_pos (by omega), h0 hj]; rfl
    · have := h1 (by omega)
      rw [if_neg (by omega), decide_eq_true (by omega), if_pos rfl]
  | succ d ih =>
    intro j k last hd h0 h1
    have hj : j < x.length := by omega
    rw [show d + 1 + 1 + k = (d + 1 + k) + 1 by omega, potsherdref06_CheckClaim.l1, if_pos (by omega), if_pos (by omega), if_pos (by omega), rdI x j hj, v64 (by omega), List.drop_eq_getElem_cons hj, Val.ownG]
    have hlast : 0 ≤ last := by
      rcases Nat.eq_zero_or_pos j with h | h
      · have := h0 h; omega
      · have := h1 h; omega
    by_cases a : x[j] ≤ last
    · rw [if_pos a, if_pos (Or.inl a), if_neg (by decide)]
    · by_cases b : x[j] ≥ n0
      · rw [if_neg a, if_pos b, if_pos (Or.inr b), if_neg (by decide)]
      · rw [if_neg a, if_neg b, if_neg (show ¬ (x[j] ≤ last ∨ x[j] ≥ n0) by omega), ih (j + 1) k _ (by omega) (by omega) (by omega)]
theorem rcl_l0 (n0 n1 n2 : Int) (ms : List (List Int)) (B : Nat) (hB : ∀ x ∈ ms, x.length ≤ B) (hB2 : B < 4611686018427387904) (hl : ms.length < 4611686018427387904) : ∀ (d i k : Nat), ms.length = i + d → d * (B + 2) + 1 ≤ k →
    potsherdref06_CheckClaim.l0 k ms (ms.length : Int) (i : Int) n0 n1 n2 = some (if ((ms.drop i).all fun x => Val.ownB n0 x) = true then 0 else 6) := by
  intro d
  induction d with
  | zero =>
    intro i k hd hk
    obtain ⟨k, rfl⟩ : ∃ m, k = m + 1 := ⟨k - 1, by omega⟩
    rw [potsherdref06_CheckClaim.l0, if_neg (by omega), List.drop_of_length_le (by omega)]; rfl
  | succ d ih =>
    intro i k hd hk
    have hi : i < ms.length := by omega
    have hx := hB _ (mem_getD [] hi)
    obtain ⟨x, hx0⟩ : ∃ x, x = ms.getD i [] := ⟨_, rfl⟩
    rw [Nat.succ_mul] at hk
    rw [← hx0] at hx
    obtain ⟨k, rfl⟩ : ∃ m, k = (x.length + 1 + m) + 1 := ⟨k - x.length - 2, by omega⟩
    have h1 := rcl_l1 n0 n1 n2 x ms (i : Int) (ms.length : Int) (by omega) x.length 0 k 0 (by omega) (fun _ => rfl) (fun h => absurd h (by omega))
    rw [potsherdref06_CheckClaim.l0, if_pos (by omega), if_pos (by omega), if_pos (by omega), rdLI, ← hx0]
    refine Eq.trans h1 ?_
    rw [List.drop_zero, v64 (by omega), ih (i + 1) k (by omega) (by omega), drop_getD [] hi, List.all_cons, ← hx0]
    show (if Val.ownB n0 x = true then _ else _) = _
    rcases h : Val.ownB n0 x with _ | _
    · simp
    · simp
theorem badB_all (n : Int) (m : List (List Int)) : Val.badB n m = !(m.all fun x => Val.ownB n x) := Val.badF_all n m 0
theorem bound_of : ∀ (m : List (List Int)), ∃ B, ∀ x ∈ m, x.length ≤ B
  | [] => ⟨0, by simp⟩
  | x :: m => by
    obtain ⟨B, h⟩ := bound_of m
    refine ⟨B + x.length, fun y hy => ?_⟩
    rcases List.mem_cons.1 hy with rfl | hy
    · omega
    · have := h y hy; omega
def FitR (nm : ByteArray) (l : List S97) (m : List (List Int)) (B : Nat) : Prop := nm.size ≤ 9223372036854775804 ∧ FitCols l ∧ (∀ x ∈ l, x.f0.size ≤ 9223372036854775804) ∧ m.length < 17592186044416 ∧ (∀ x ∈ m, x.length ≤ B) ∧ B < 17592186044416
theorem rclaim_f (k : Nat) (n0 n1 n2 b0 b1 : Int) (nm : ByteArray) (l : List S97) (m : List (List Int)) (B : Nat) (h : n0 ≤ 9223372036854775807) (h' : -9223372036854775808 ≤ n0) (hf : FitR nm l m B) (hk : m.length * (B + 2) + 2 * l.length + 200 ≤ k) :
    potsherdref06_CheckClaim.f k n0 n1 n2 nm l b0 b1 m = some (Val.claimV n0 n1 n2 nm l m) := by
  obtain ⟨f1, f2, f3, f4, f5, f6⟩ := hf
  obtain ⟨k, rfl⟩ : ∃ j, k = j + 1 := ⟨k - 1, by omega⟩
  unfold potsherdref06_CheckClaim.f Val.claimV
  rw [rlay_f n0 n1 n2 h h', Option.bind_some]
  rcases (show Val.layV n0 n1 n2 = 0 ∨ Val.layV n0 n1 n2 = 2 by unfold Val.layV; split <;> simp) with hv | hv
  · rw [hv, if_pos rfl, if_neg (show ¬ ((0 : Int) ≠ 0) by simp), rtab_f (k + 1) nm l [] f1 f2 f3 ⟨by simp, by simp⟩ (by simp; omega), Option.bind_some, potsherdref06_CheckClaim.j0, potsherdref06_CheckClaim.j0]
    have h0 := rcl_l0 n0 n1 n2 m B f5 (by omega) (by omega) m.length 0 k (by omega) (by omega)
    by_cases ht : tabV nm l [] = 0
    · rw [if_pos ht]
      by_cases hm : (m.length : Int) = n1
      · rw [show ((m.length : Int) != n1) = false by simpa using hm, if_neg (by decide)]
        refine Eq.trans h0 ?_
        rw [List.drop_zero, badB_all]
        rcases h2 : (m.all fun x => Val.ownB n0 x) with _ | _
        · simp [ht, hm]
        · simp [ht, hm]
      · rw [show ((m.length : Int) != n1) = true by simpa using hm, if_pos rfl, if_pos (Or.inr (Or.inl hm))]
    · rw [if_neg ht, if_pos rfl, if_pos (Or.inl ht)]
  · rw [hv, if_neg (by decide), if_pos (show (2 : Int) ≠ 0 by decide)]
/-! picks -/
theorem own_pos (n : Int) : ∀ (l : List Int) (last : Int), 0 ≤ last → Val.ownG n last l = true → (∀ x ∈ l, 1 ≤ x) ∧ (l = [] → 0 < last)
  | [], last, h, ho => ⟨by simp, fun _ => by simpa [Val.ownG] using ho⟩
  | w :: l, last, h, ho => by
    rw [Val.ownG] at ho
    split at ho
    · cases ho
    · rename_i hn
      obtain ⟨h1, _⟩ := own_pos n l w (by omega) ho
      refine ⟨fun x hx => ?_, fun e => by cases e⟩
      rcases List.mem_cons.1 hx with rfl | hx
      · omega
      · exact h1 x hx
theorem own_good {n : Int} {l : List Int} (h : Val.ownB n l = true) : l ≠ [] ∧ ∀ x ∈ l, 1 ≤ x := by
  obtain ⟨h1, h2⟩ := own_pos n l 0 (by omega) h
  exact ⟨fun e => absurd (h2 e) (by omega), h1⟩
theorem claim_good {n0 n1 n2 : Int} {nm : ByteArray} {l : List S97} {m : List (List Int)} (h : Val.claimV n0 n1 n2 nm l m = 0) : (∀ x ∈ m, x ≠ [] ∧ ∀ y ∈ x, 1 ≤ y) ∧ m ≠ [] := by
  unfold Val.claimV at h
  split at h
  · rename_i h1; exact absurd h h1
  · rename_i h1
    split at h
    · cases h
    · rename_i h2
      have hb : Val.badB n0 m = false := by
        rcases hb : Val.badB n0 m with _ | _
        · rfl
        · exact absurd (Or.inr (Or.inr hb)) h2
      rw [badB_all] at hb
      have ha : (m.all fun x => Val.ownB n0 x) = true := by simpa using hb
      refine ⟨fun x hx => own_good (List.all_eq_true.1 ha x hx), fun e => ?_⟩
      have hl : Val.layV n0 n1 n2 = 0 := Classical.byContradiction h1
      unfold Val.layV at hl
      split at hl
      · cases hl
      · rename_i h3
        have hm : (m.length : Int) = n1 := Classical.byContradiction fun h4 => h2 (Or.inr (Or.inl h4))
        rw [e] at hm
        simp at hm
        omega
theorem keep_cons (b : List Bool) (y : Int) (t : List Int) : Val.keepL b (y :: t) = if Val.deadB b y = true then Val.keepL b t else y :: Val.keepL b t := by
  rcases h : Val.deadB b y with _ | _ <;> simp [Val.keepL, h]
theorem live_l0 (b : List Bool) (o : List Int) (hl : o.length < 17592186044416) (h1 : ∀ x ∈ o, 0 ≤ x) : ∀ (d i k : Nat) (acc : List Int), o.length = i + d → acc.length ≤ i → d + 1 ≤ k → potsherdref06_Live.l0 k b acc o (o.length : Int) (i : Int) = some (acc ++ Val.keepL b (o.drop i)) := by
  intro d
  induction d with
  | zero =>
    intro i k acc hd ha hk
    obtain ⟨k, rfl⟩ : ∃ m, k = m + 1 := ⟨k - 1, by omega⟩
    rw [potsherdref06_Live.l0, if_neg (by omega), List.drop_of_length_le (by omega)]
    simp [Val.keepL]
  | succ d ih =>
    intro i k acc hd ha hk
    obtain ⟨k, rfl⟩ : ∃ m, k = m + 1 := ⟨k - 1, by omega⟩
    have hi : i < o.length := by omega
    have h0 := h1 _ (List.getElem_mem hi)
    rw [potsherdref06_Live.l0, if_pos (by omega), if_pos (by omega), if_pos (by omega), rdI o i hi, v64 (by omega), List.drop_eq_getElem_cons hi]
    by_cases hx : o[i] < (b.length : Int)
    · rw [if_pos hx, if_pos h0]
      have hd2 : Val.deadB b o[i] = !b.getD (o[i]).toNat false := by unfold Val.deadB; rw [if_neg (by omega)]
      rcases hv : b.getD (o[i]).toNat false with _ | _
      · rw [if_neg (by show ¬ (b.getD (o[i]).toNat false = true); rw [hv]; decide), ih (i + 1) k acc (by omega) (by omega) (by omega)]
        rw [keep_cons, if_pos (by rw [hd2, hv]; rfl)]
      · rw [if_pos (by show b.getD (o[i]).toNat false = true; exact hv), if_pos (by omega), ih (i + 1) k _ (by omega) (by simp; omega) (by omega)]
        rw [keep_cons, if_neg (by rw [hd2, hv]; decide), List.append_assoc]; rfl
    · rw [if_neg hx, ih (i + 1) k acc (by omega) (by omega) (by omega)]
      have hd2 : Val.deadB b o[i] = true := by unfold Val.deadB; rw [if_pos (by omega)]
      rw [keep_cons, if_pos hd2]
theorem live_f (k : Nat) (b : List Bool) (o : List Int) (hl : o.length < 17592186044416) (h1 : ∀ x ∈ o, 0 ≤ x) (hk : o.length + 1 ≤ k) : potsherdref06_Live.f k o b = some (Val.keepL b o) := by
  have := live_l0 b o hl h1 o.length 0 k [] (by omega) (by simp) hk
  unfold potsherdref06_Live.f
  simpa using this
theorem rpick_l0 (b : List Bool) (m : List (List Int)) (B : Nat) (hB : ∀ x ∈ m, x.length ≤ B) (hB2 : B < 17592186044416) (hm : m.length < 17592186044416) (hg : ∀ x ∈ m, ∀ y ∈ x, 1 ≤ y) : ∀ (d i k : Nat) (out : List Int), m.length = i + d → out.length ≤ i → d + B + 2 ≤ k →
    potsherdref06_Pick.l0 k b out m (m.length : Int) (i : Int) = some (Val.pickG b (m.drop i) i out) := by
  intro d
  induction d with
  | zero =>
    intro i k out hd ho hk
    obtain ⟨k, rfl⟩ : ∃ j, k = j + 1 := ⟨k - 1, by omega⟩
    rw [potsherdref06_Pick.l0, if_neg (by omega), List.drop_of_length_le (by omega)]; rfl
  | succ d ih =>
    intro i k out hd ho hk
    obtain ⟨k, rfl⟩ : ∃ j, k = j + 1 := ⟨k - 1, by omega⟩
    have hi : i < m.length := by omega
    have hx := hB _ (mem_getD [] hi)
    have hy := hg _ (mem_getD [] hi)
    rw [potsherdref06_Pick.l0, if_pos (by omega), if_pos (by omega), if_pos (by omega), rdLI, drop_getD [] hi, Val.pickG]
    obtain ⟨x, hx0⟩ : ∃ x, x = m.getD i [] := ⟨_, rfl⟩
    rw [← hx0] at hx hy ⊢
    rw [live_f k b x (by omega) (fun y h => by have := hy y h; omega) (by omega), Option.bind_some]
    obtain ⟨L, hL⟩ : ∃ L, L = Val.keepL b x := ⟨_, rfl⟩
    rw [← hL]
    by_cases hz : L.length = 0
    · rw [if_pos (by omega), if_pos hz]
    · have ht : Int.tmod (i : Int) (L.length : Int) = ((i % L.length : Nat) : Int) := rfl
      have hlt := Nat.mod_lt i (show 0 < L.length by omega)
      rw [if_neg (by omega), if_neg hz, ht, if_pos (by omega), if_pos (by omega), if_pos (by omega), v64 (by omega), ih (i + 1) k _ (by omega) (by simp; omega) (by omega)]
      congr 3
theorem rpick_f (k : Nat) (n0 n1 n2 b0 b1 : Int) (nm : ByteArray) (l : List S97) (m : List (List Int)) (b : List Bool) (B : Nat) (h : n0 ≤ 9223372036854775807) (h' : -9223372036854775808 ≤ n0) (hf : FitR nm l m B) (hk : m.length * (B + 2) + 2 * l.length + 200 + B + m.length ≤ k) :
    potsherdref06_Pick.f k n0 n1 n2 nm l b0 b1 m b = some (Val.pickV n0 n1 n2 nm l m b) := by
  unfold potsherdref06_Pick.f Val.pickV
  rw [rclaim_f k n0 n1 n2 b0 b1 nm l m B h h' hf (by omega), Option.bind_some]
  by_cases hv : Val.claimV n0 n1 n2 nm l m = 0
  · rw [if_pos hv, if_neg (fun h => h hv)]
    have := rpick_l0 b m B hf.2.2.2.2.1 hf.2.2.2.2.2 hf.2.2.2.1 (fun x hx => ((claim_good hv).1 x hx).2) m.length 0 k [] (by omega) (by simp) (by omega)
    simpa using this
  · rw [if_neg hv, if_pos hv]
theorem ints_l0 (a : List Int) (hl : a.length < 4611686018427387904) : ∀ (d i k : Nat), a.length = i + d → d + 1 ≤ k → potsherdref06_Ints.l0 k a a (a.length : Int) (i : Int) = some true := by
  intro d
  induction d with
  | zero =>
    intro i k hd hk
    obtain ⟨k, rfl⟩ : ∃ j, k = j + 1 := ⟨k - 1, by omega⟩
    rw [potsherdref06_Ints.l0, if_neg (by omega)]
  | succ d ih =>
    intro i k hd hk
    obtain ⟨k, rfl⟩ : ∃ j, k = j + 1 := ⟨k - 1, by omega⟩
    rw [potsherdref06_Ints.l0, if_pos (by omega), if_pos (by omega), if_pos (by omega), if_pos (by omega), if_pos rfl, v64 (by omega), ih (i + 1) k (by omega) (by omega)]
theorem ints_f (k : Nat) (a : List Int) (hl : a.length < 4611686018427387904) (hk : a.length + 1 ≤ k) : potsherdref06_Ints.f k a a = some true := by
  unfold potsherdref06_Ints.f
  rw [if_pos rfl]
  exact ints_l0 a hl a.length 0 k (by omega) hk
theorem lives_100 : potsherdlaw06_lives.f 100 = some true := by kernel_rfl
theorem lives_k : ∀ j, potsherdlaw06_lives.f (100 + j) = some true
  | 0 => lives_100
  | j + 1 => potsherdlaw06_lives.mono (100 + j) _ (lives_k j)
theorem pickG_len (b : List Bool) : ∀ (m : List (List Int)) (s : Nat) (out : List Int), (Val.pickG b m s out).1.length ≤ out.length + m.length
  | [], _, out => by simp [Val.pickG]
  | o :: r, s, out => by
    rw [Val.pickG]
    split
    · simp
    · have := pickG_len b r (s + 1) (out ++ [(Val.keepL b o).getD (s % (Val.keepL b o).length) 0])
      simp only [List.length_append, List.length_cons, List.length_nil] at this ⊢
      omega
theorem pickV_len (n0 n1 n2 : Int) (nm : ByteArray) (l : List S97) (m : List (List Int)) (b : List Bool) : (Val.pickV n0 n1 n2 nm l m b).1.length ≤ m.length := by
  unfold Val.pickV
  split
  · simp
  · have := pickG_len b m 0 []
    simpa using this
theorem pick_f (n0 n1 n2 b0 b1 : Int) (nm : ByteArray) (l : List S97) (m : List (List Int)) (b : List Bool) (B : Nat) (hf : FitR nm l m B) (hl : l.length < 4611686018427387904) : place_Pick.f n0 n1 n2 nm l b0 b1 m b = some (Val.pickV n0 n1 n2 nm l m b) ∧ place_CheckClaim.f n0 n1 n2 nm l b0 b1 m = some (Val.claimV n0 n1 n2 nm l m) := by
  obtain ⟨f1, f2, f3, f4, f5, f6⟩ := hf
  have hc : FitsC nm l m := ⟨⟨hl, by omega, fun x hx => by have := f3 x hx; omega⟩, f4, fun x hx => by have := f5 x hx; omega⟩
  refine ⟨?_, ?_⟩
  · unfold place_Pick.f
    rw [if_pos ⟨hc, fun h x hx => ⟨((claim_good h).1 x hx).1, by have := f5 x hx; omega, fun y hy => by have := ((claim_good h).1 x hx).2 y hy; omega⟩⟩]
  · unfold place_CheckClaim.f
    rw [if_pos hc]
end Go.Proofs.YtfgmgcnbponknaaDoor.Lx
