/- Package place: owners that are no owners looked for in a claim. No condition but that the owners are read. -/
import Derived.Test.YtfgmgcnbponknaaDoorAc1
namespace Go.Proofs.YtfgmgcnbponknaaDoor.Val
open Go.RowKit Go.Proofs.YtfgmgcnbponknaaDoor.G Go.Proofs.YtfgmgcnbponknaaDoor.Lx Go.Proofs.YtfgmgcnbponknaaDoorW.PrintWords Go.Proofs.YtfgmgcnbponknaaDoorW.PrintLast Go.Proofs.YtfgmgcnbponknaaDoorW.PrintMore
set_option linter.unusedVariables false
set_option linter.unusedSimpArgs false
/-- owners are owners: workers, in order, some -/
def ownG (n : Int) : Int → List Int → Bool
  | last, [] => decide (last > 0)
  | last, w :: l => if w ≤ last ∨ w ≥ n then false else ownG n w l
def ownB (n : Int) (l : List Int) : Bool := ownG n 0 l
theorem own_l0 (n0 n1 n2 : Int) (l : List Int) (hl : l.length < 4611686018427387904) : ∀ (d i k : Nat) (last : Int), l.length = i + d → d + 1 ≤ k → place_owners.l0 k last l (l.length : Int) (i : Int) n0 n1 n2 = some (ownG n0 last (l.drop i)) := by
  intro d
  induction d with
  | zero =>
    intro i k last hd hk
    obtain ⟨k, rfl⟩ : ∃ m, k = m + 1 := ⟨k - 1, by omega⟩
    rw [place_owners.l0, if_neg (by omega), List.drop_of_length_le (by omega)]; rfl
  | succ d ih =>
    intro i k last hd hk
    obtain ⟨k, rfl⟩ : ∃ m, k = m + 1 := ⟨k - 1, by omega⟩
    have hi : i < l.length := by omega
    have e : rd l (i : Int) = l[i] := by simp [rd, List.getD_eq_getElem?_getD, hi]
    have w64 : wrap64 ((i : Int) + 1) = ((i + 1 : Nat) : Int) := by unfold wrap64; omega
    rw [place_owners.l0, if_pos (by omega), if_pos (by omega), if_pos (by omega), e, w64, ih (i + 1) k _ (by omega) (by omega), List.drop_eq_getElem_cons hi, ownG]
    by_cases h1 : l[i] ≤ last
    · rw [if_pos h1, if_pos (Or.inl h1)]
    · by_cases h2 : l[i] ≥ n0
      · rw [if_neg h1, if_pos h2, if_pos (Or.inr h2)]
      · rw [if_neg h1, if_neg h2, if_neg (by omega)]
theorem own_f (k : Nat) (n0 n1 n2 : Int) (l : List Int) (hl : l.length < 4611686018427387904) (hk : l.length + 1 ≤ k) : place_owners.f k n0 n1 n2 l = some (ownB n0 l) := by
  have := own_l0 n0 n1 n2 l hl l.length 0 k 0 (by omega) hk
  unfold place_owners.f ownB
  simpa using this
theorem owners_calls (A : Option Addr) (c : Nat) (l : List Int) (n0 n1 n2 : Int) (w : World) (ha : Kd.C (Kd.int .i64) w A l.length l) (hc : l.length ≤ c) (hl : l.length < 4611686018427387904) :
    Calls Tryd.prog 40 #[.agg #[.int .i64 n0, .int .i64 n1, .int .i64 n2], .slice A l.length c] w fun e w' => e = .returned (.bool (ownB n0 l)) ∧ Below w.heap.size w w' :=
  place_owners.calls (l.length + 1) n0 n1 n2 A c l _ w ha hc (own_f _ n0 n1 n2 l hl (Nat.le_refl _))
set_option maxHeartbeats 4000000 in
set_option maxRecDepth 100000 in
theorem bad_calls (A : Option Addr) (c : Nat) (l : List Int) (g : Nat) (n0 n1 n2 : Int) (w : World) (ha : Kd.C (Kd.int .i64) w A l.length l) (hc : l.length ≤ c) (hl : l.length < 4611686018427387904) (hg : w.heap[g]? = some (.cells #[.int .i64 n0, .int .i64 n1, .int .i64 n2] 23 (0, 0))) :
    Calls Tryd.prog 39 #[.slice A l.length c, .pointer (some ⟨g, 0, none⟩)] w fun e w' => e = .returned (.bool (!ownB n0 l)) ∧ Below w.heap.size w w' := by
  have HC := Lib.hid hg
  have HA := Lib.hid ha
  clear hg ha
  have lg := blk_lt HC.out
  have p0 := (blk_cell HC.out 0).trans rfl
  have p1 := (blk_cell HC.out 1).trans rfl
  have p2 := (blk_cell HC.out 2).trans rfl
  obtain ⟨b, hb⟩ : ∃ b, b = ownB n0 l := ⟨_, rfl⟩
  rw [← hb]
  have HB := Lib.hid hb
  clear hb
  go_enter Tryd.func39, Tryd.ntmps39
  go_wp2_with (go_at_call 40; refine (owners_calls A c l n0 n1 n2 _ HA.out hc hl).mono ?_; rw [← HB.out]; rintro e w6 ⟨rfl, hbb⟩)
  go_ret
  exact ⟨rfl, hbb⟩
/-- the first that are none -/
def badF (n : Int) : List (List Int) → Nat → Int
  | [], _ => -1
  | x :: r, k => if ownB n x = true then badF n r (k + 1) else (k : Int)
def Reach (l : List (List Int)) : Prop := ∀ x ∈ l, x.length < 4611686018427387904
theorem Reach.at {l : List (List Int)} (h : Reach l) {k : Nat} (hk : k < l.length) : (l.getD k []).length < 4611686018427387904 := by
  rw [List.getD_eq_getElem?_getD, List.getElem?_eq_getElem hk]
  exact h _ (List.getElem_mem hk)
theorem dropL {l : List (List Int)} {k : Nat} (h : k < l.length) : l.drop k = l.getD k [] :: l.drop (k + 1) := by
  rw [List.getD_eq_getElem?_getD, List.getElem?_eq_getElem h]
  exact List.drop_eq_getElem_cons h
set_option maxHeartbeats 4000000 in
set_option maxRecDepth 100000 in
theorem indexO_calls (A : Option Addr) (c : Nat) (l : List (List Int)) (g : Nat) (n0 n1 n2 : Int) (w : World) (ha : Kd.C (Kd.slice 3 (Kd.int .i64)) w A l.length l) (hl : l.length < 4611686018427387904) (hr : Reach l) (hg : w.heap[g]? = some (.cells #[.int .i64 n0, .int .i64 n1, .int .i64 n2] 23 (0, 0))) :
    Calls Tryd.prog 61 #[.slice A l.length c, .func (.func 39) #[] #[.pointer (some ⟨g, 0, none⟩)]] w fun e w' => e = .returned (.int .i64 (badF n0 l 0)) ∧ Below w.heap.size w w' := by
  have HA := Lib.hid ha
  have HC := Lib.hid hg
  have HR := Lib.hid hr
  clear ha hg hr
  obtain ⟨n, hn⟩ : ∃ n, n = l.length := ⟨_, rfl⟩
  rw [← hn] at HA hl ⊢
  have HN := Lib.hid hn
  clear hn
  go_enter Tryd.func61, Tryd.ntmps61
  go_wp2
  go_loopw [8] (fun vi wr => ∃ k : Nat, vi = .int .i64 k ∧ k ≤ n ∧ Hid (badF n0 l 0 = badF n0 (l.drop k) k) ∧ Hid (Below w.heap.size w wr)) (fun vi _ => n - (intOf vi).toNat)
  case atStart => exact ⟨0, rfl, Nat.zero_le _, Lib.hid rfl, Lib.hid (Below.refl _ _)⟩
  case round =>
    obtain ⟨k, rfl, hk, HE, HB⟩ := hrel
    by_cases h1 : k < n
    · have hkl : k < l.length := by rw [← HN.out]; exact h1
      obtain ⟨ad, A0, c0, eA, x0, hc0, hC0⟩ := at_L7 (Kd.C_below HA.out HB.out) (k : Int) (by omega) (by omega)
      simp only [Int.toNat_natCast] at x0
      have hx : rd_L7 l (k : Int) = l.getD k [] := by simp [rd_L7]
      rw [hx] at x0 hc0 hC0
      subst eA
      have hE := HE.out
      rw [dropL hkl] at hE
      have hF0 := HR.out.at hkl
      obtain ⟨F, hF⟩ : ∃ F, F = l.getD k [] := ⟨_, rfl⟩
      rw [← hF] at x0 hE hc0 hC0 hF0
      have HC0 := Lib.hid hC0
      have hkk : (k : Int) < (n : Int) := by omega
      clear HE hF hx hC0
      rcases hs : ownB n0 F with _ | _
      · have HX := Lib.hid (show badF n0 l 0 = k by rw [hE, badF, hs]; rfl)
        have HS := Lib.hid hs
        clear hE hs
        go_wp2_with (go_at_call 39; refine (bad_calls A0 c0 F g n0 n1 n2 _ HC0.out hc0 hF0 (blk_below HC.out HB.out)).mono ?_; rw [HS.out]; rintro e w6 ⟨rfl, hb⟩; have nB := Lib.hid (below_step HB.out hb); clear HB hb x0; have HB := nB; clear nB)
        go_ret
        rw [HX.out]
        exact ⟨rfl, HB.out⟩
      · have HX := Lib.hid (show badF n0 l 0 = badF n0 (l.drop (k + 1)) (k + 1) by rw [hE, badF, hs]; rfl)
        have HS := Lib.hid hs
        clear hE hs
        go_wp2_with (go_at_call 39; refine (bad_calls A0 c0 F g n0 n1 n2 _ HC0.out hc0 hF0 (blk_below HC.out HB.out)).mono ?_; rw [HS.out]; rintro e w6 ⟨rfl, hb⟩; have nB := Lib.hid (below_step HB.out hb); clear HB hb x0; have HB := nB; clear nB)
        go_roundw
        case rel => exact ⟨k + 1, by simp, h1, HX, HB⟩
        case measure => simp [intOf]; omega
    · obtain rfl : k = n := by omega
      have HX := Lib.hid (show badF n0 l 0 = -1 by rw [HE.out, show l.drop k = [] from List.drop_of_length_le (by rw [← HN.out]; exact Nat.le_refl _)]; rfl)
      go_wp2
      go_ret
      rw [HX.out]
      exact ⟨rfl, HB.out⟩
def badB (n : Int) (l : List (List Int)) : Bool := decide (badF n l 0 ≥ 0)
theorem badF_all (n : Int) : ∀ (l : List (List Int)) (k : Nat), decide (badF n l k ≥ 0) = !(l.all fun x => ownB n x)
  | [], _ => rfl
  | x :: r, k => by
    unfold badF
    rcases h : ownB n x with _ | _
    · simp [h]
    · simp [h, badF_all n r (k + 1)]
set_option maxHeartbeats 4000000 in
set_option maxRecDepth 100000 in
theorem containsO_calls (A : Option Addr) (c : Nat) (l : List (List Int)) (g : Nat) (n0 n1 n2 : Int) (w : World) (ha : Kd.C (Kd.slice 3 (Kd.int .i64)) w A l.length l) (hl : l.length < 4611686018427387904) (hr : Reach l) (hg : w.heap[g]? = some (.cells #[.int .i64 n0, .int .i64 n1, .int .i64 n2] 23 (0, 0))) :
    Calls Tryd.prog 38 #[.slice A l.length c, .func (.func 39) #[] #[.pointer (some ⟨g, 0, none⟩)]] w fun e w' => e = .returned (.bool (badB n0 l)) ∧ Below w.heap.size w w' := by
  have HA := Lib.hid ha
  have HC := Lib.hid hg
  clear ha hg
  obtain ⟨n, hn⟩ : ∃ n, n = badF n0 l 0 := ⟨_, rfl⟩
  obtain ⟨b, hb⟩ : ∃ b, b = badB n0 l := ⟨_, rfl⟩
  have hd : decide (n ≥ 0) = b := by rw [hb, hn]; rfl
  rw [← hb]
  have HN := Lib.hid hn
  clear hn hb
  go_enter Tryd.func38, Tryd.ntmps38
  go_wp2_with (go_at_call 61; refine (indexO_calls A c l g n0 n1 n2 _ HA.out hl hr HC.out).mono ?_; rw [← HN.out]; rintro e w6 ⟨rfl, hb⟩)
  go_ret
  exact ⟨rfl, hb⟩
end Go.Proofs.YtfgmgcnbponknaaDoor.Val
