/- The reference's hash (taken from chapter 01's Pv1), its Check of a layout. No condition but the sizes. -/
import Derived.Test.YtfgmgcnbponknaaDoorVc9
namespace Go.Proofs.YtfgmgcnbponknaaDoor.Lx
open Go.RowKit Go.Proofs.YtfgmgcnbponknaaDoor.G Go.Proofs.YtfgmgcnbponknaaDoorW.PrintWords Go.Proofs.YtfgmgcnbponknaaDoorW.PrintLast Go.Proofs.YtfgmgcnbponknaaDoorW.PrintMore
set_option linter.unusedVariables false
set_option linter.unusedSimpArgs false
theorem w64 {i : Nat} (h : i < 4611686018427387904) : wrap64 ((i : Int) + 1) = ((i + 1 : Nat) : Int) := by unfold wrap64; omega
/-! the hash -/
theorem rh_l1 (l : List Int) (hl : l.length < 4611686018427387904) : ∀ (d i k : Nat) (h : Int), l.length - i ≤ d → i ≤ l.length → d + 1 ≤ k → potsherdref01_Hash.l1 k h l (l.length : Int) (i : Int) = some (Val.fnv h (l.drop i)) := by
  intro d
  induction d with
  | zero =>
    intro i k h hd hi hk
    obtain ⟨k, rfl⟩ : ∃ m, k = m + 1 := ⟨k - 1, by omega⟩
    obtain rfl : i = l.length := by omega
    rw [potsherdref01_Hash.l1, if_neg (by omega), List.drop_of_length_le (Nat.le_refl _)]; rfl
  | succ d ih =>
    intro i k h hd hi hk
    obtain ⟨k, rfl⟩ : ∃ m, k = m + 1 := ⟨k - 1, by omega⟩
    by_cases hlt : i < l.length
    · rw [potsherdref01_Hash.l1, if_pos (by omega), if_pos (by omega), if_pos (by omega), w64 (by omega), ih (i + 1) k _ (by omega) (by omega) (by omega), List.drop_eq_getElem_cons hlt, Val.fnv_cons]
      have e : rd l (i : Int) = l[i] := by simp [rd, List.getD_eq_getElem?_getD, hlt]
      rw [e]; rfl
    · exact ih i (k + 1) h (by omega) hi (by omega)
theorem rh_j1 (l : List Int) (hl : l.length < 4611686018427387904) (k : Nat) (hk : l.length + 2 ≤ k) : potsherdref01_Hash.j1 k l = some (Val.fnv 14695981039346656037 l) := by
  obtain ⟨k, rfl⟩ : ∃ m, k = m + 1 := ⟨k - 1, by omega⟩
  have := rh_l1 l hl l.length 0 k 14695981039346656037 (by omega) (by omega) (by omega)
  rw [potsherdref01_Hash.j1]
  simpa using this
theorem rh_step (k : Nat) (s : List Int) (u i : Int) (hs : s.length < 140737488355328) (hi : i < 8) (h0 : 0 ≤ i) (hu : 0 ≤ u) (hu2 : u < 18446744073709551616) :
    potsherdref01_Hash.l0 (k + 1) s u i = potsherdref01_Hash.l0 k (s ++ [u % 256]) (u / 256) (i + 1) := by
  rw [potsherdref01_Hash.l0, if_pos hi, if_pos hs]
  have e1 : Int.tmod u 256 % 256 = u % 256 := by rw [Int.tmod_eq_emod_of_nonneg hu]; omega
  have e2 : IntKind.u64.wrap (Int.tdiv u 256) = u / 256 := by rw [Int.tdiv_eq_ediv_of_nonneg hu, IntKind.wrap_u64]; omega
  have e3 : wrap64 (i + 1) = i + 1 := by unfold wrap64; omega
  rw [e1, e2, e3]
theorem rh_num (n : Int) (k : Nat) (hk : 30 ≤ k) : potsherdref01_Hash.l0 k [2] (IntKind.u64.wrap n) 0 = some (Val.fnv 14695981039346656037 (2 :: (List.range 8).map (Val.byteAt n))) := by
  obtain ⟨k, rfl⟩ : ∃ m, k = m + 9 := ⟨k - 9, by omega⟩
  rw [IntKind.wrap_u64]
  obtain ⟨u, hu⟩ : ∃ u, u = n % 18446744073709551616 := ⟨_, rfl⟩
  rw [← hu]
  rw [rh_step _ _ _ _ (by simp) (by omega) (by omega) (by omega) (by omega), rh_step _ _ _ _ (by simp) (by omega) (by omega) (by omega) (by omega), rh_step _ _ _ _ (by simp) (by omega) (by omega) (by omega) (by omega), rh_step _ _ _ _ (by simp) (by omega) (by omega) (by omega) (by omega),
    rh_step _ _ _ _ (by simp) (by omega) (by omega) (by omega) (by omega), rh_step _ _ _ _ (by simp) (by omega) (by omega) (by omega) (by omega), rh_step _ _ _ _ (by simp) (by omega) (by omega) (by omega) (by omega), rh_step _ _ _ _ (by simp) (by omega) (by omega) (by omega) (by omega)]
  rw [potsherdref01_Hash.l0, if_neg (by omega), rh_j1 _ (by simp) _ (by simp; omega)]
  congr 2
  simp only [List.cons_append, List.nil_append, List.range_succ, List.range_zero, List.map_append, List.map_cons, List.map_nil, Val.byteAt, Nat.reduceAdd]
  have m0 : n / 256 ^ 0 = n := by rw [show (256 : Int) ^ 0 = 1 from rfl]; omega
  have m1 : n / 256 ^ 1 = n / 256 ^ 0 / 256 := by rw [show (256 : Int) ^ 1 = 256 from rfl, show (256 : Int) ^ 0 = 1 from rfl]; omega
  have m2 : n / 256 ^ 2 = n / 256 ^ 1 / 256 := by rw [show (256 : Int) ^ 2 = 65536 from rfl, show (256 : Int) ^ 1 = 256 from rfl]; omega
  have m3 : n / 256 ^ 3 = n / 256 ^ 2 / 256 := by rw [show (256 : Int) ^ 3 = 16777216 from rfl, show (256 : Int) ^ 2 = 65536 from rfl]; omega
  have m4 : n / 256 ^ 4 = n / 256 ^ 3 / 256 := by rw [show (256 : Int) ^ 4 = 4294967296 from rfl, show (256 : Int) ^ 3 = 16777216 from rfl]; omega
  have m5 : n / 256 ^ 5 = n / 256 ^ 4 / 256 := by rw [show (256 : Int) ^ 5 = 1099511627776 from rfl, show (256 : Int) ^ 4 = 4294967296 from rfl]; omega
  have m6 : n / 256 ^ 6 = n / 256 ^ 5 / 256 := by rw [show (256 : Int) ^ 6 = 281474976710656 from rfl, show (256 : Int) ^ 5 = 1099511627776 from rfl]; omega
  have m7 : n / 256 ^ 7 = n / 256 ^ 6 / 256 := by rw [show (256 : Int) ^ 7 = 72057594037927936 from rfl, show (256 : Int) ^ 6 = 281474976710656 from rfl]; omega
  rw [m0] at m1 ⊢
  obtain ⟨n0, g0⟩ : ∃ z, z = n := ⟨_, rfl⟩
  have d0 : u = n % 18446744073709551616 := hu
  obtain ⟨p1, g1⟩ : ∃ z, z = n / 256 ^ 1 := ⟨_, rfl⟩
  rw [← g1] at m1 ⊢
  rw [← g1] at m2
  obtain ⟨p2, g2⟩ : ∃ z, z = n / 256 ^ 2 := ⟨_, rfl⟩
  rw [← g2] at m2 ⊢
  rw [← g2] at m3
  obtain ⟨p3, g3⟩ : ∃ z, z = n / 256 ^ 3 := ⟨_, rfl⟩
  rw [← g3] at m3 ⊢
  rw [← g3] at m4
  obtain ⟨p4, g4⟩ : ∃ z, z = n / 256 ^ 4 := ⟨_, rfl⟩
  rw [← g4] at m4 ⊢
  rw [← g4] at m5
  obtain ⟨p5, g5⟩ : ∃ z, z = n / 256 ^ 5 := ⟨_, rfl⟩
  rw [← g5] at m5 ⊢
  rw [← g5] at m6
  obtain ⟨p6, g6⟩ : ∃ z, z = n / 256 ^ 6 := ⟨_, rfl⟩
  rw [← g6] at m6 ⊢
  rw [← g6] at m7
  obtain ⟨p7, g7⟩ : ∃ z, z = n / 256 ^ 7 := ⟨_, rfl⟩
  rw [← g7] at m7 ⊢
  obtain ⟨u1, r1⟩ : ∃ z, z = u / 256 := ⟨_, rfl⟩
  rw [← r1]
  have d1 : u1 = p1 % 72057594037927936 := by rw [r1, m1, d0]; omega
  obtain ⟨u2, r2⟩ : ∃ z, z = u1 / 256 := ⟨_, rfl⟩
  rw [← r2]
  have d2 : u2 = p2 % 281474976710656 := by rw [r2, m2, d1]; omega
  obtain ⟨u3, r3⟩ : ∃ z, z = u2 / 256 := ⟨_, rfl⟩
  rw [← r3]
  have d3 : u3 = p3 % 1099511627776 := by rw [r3, m3, d2]; omega
  obtain ⟨u4, r4⟩ : ∃ z, z = u3 / 256 := ⟨_, rfl⟩
  rw [← r4]
  have d4 : u4 = p4 % 4294967296 := by rw [r4, m4, d3]; omega
  obtain ⟨u5, r5⟩ : ∃ z, z = u4 / 256 := ⟨_, rfl⟩
  rw [← r5]
  have d5 : u5 = p5 % 16777216 := by rw [r5, m5, d4]; omega
  obtain ⟨u6, r6⟩ : ∃ z, z = u5 / 256 := ⟨_, rfl⟩
  rw [← r6]
  have d6 : u6 = p6 % 65536 := by rw [r6, m6, d5]; omega
  obtain ⟨u7, r7⟩ : ∃ z, z = u6 / 256 := ⟨_, rfl⟩
  rw [← r7]
  have d7 : u7 = p7 % 256 := by rw [r7, m7, d6]; omega
  have e0 : u % 256 = n % 256 := by rw [d0]; omega
  have e1 : u1 % 256 = p1 % 256 := by rw [d1]; omega
  have e2 : u2 % 256 = p2 % 256 := by rw [d2]; omega
  have e3 : u3 % 256 = p3 % 256 := by rw [d3]; omega
  have e4 : u4 % 256 = p4 % 256 := by rw [d4]; omega
  have e5 : u5 % 256 = p5 % 256 := by rw [d5]; omega
  have e6 : u6 % 256 = p6 % 256 := by rw [d6]; omega
  have e7 : u7 % 256 = p7 % 256 := by rw [d7]; omega
  rw [e0, e1, e2, e3, e4, e5, e6, e7]
theorem rhash_f (k : Nat) (a : Int) (b : Bool) (n : Int) (s : ByteArray) (hs : s.size ≤ 140737488351232) (hk : s.size + 30 ≤ k) : potsherdref01_Hash.f k a b n s = some (Val.hashV a b n s) := by
  unfold potsherdref01_Hash.f Val.hashV Val.bytesV
  simp only [Option.bind_some]
  by_cases h1 : a = 1
  · rw [if_pos h1, if_pos h1]
    cases b
    · rw [if_neg (by decide), if_pos (by simp), rh_j1 _ (by simp) _ (by simp; omega)]; rfl
    · rw [if_pos rfl, if_pos (by simp), rh_j1 _ (by simp) _ (by simp; omega)]; rfl
  · rw [if_neg h1, if_neg h1]
    by_cases h2 : a = 2
    · subst h2
      rw [if_pos rfl, if_pos rfl, rh_num n k (by omega)]
    · rw [if_neg h2, if_neg h2]
      by_cases h3 : a = 3
      · have hb := bytesOf_length s
        rw [if_pos h3, if_pos h3, if_pos (by simp; omega), rh_j1 _ (by simp; omega) _ (by simp; omega)]; rfl
      · rw [if_neg h3, if_neg h3, rh_j1 _ (by simp) _ (by simp; omega)]
theorem rlay2_f (n0 n1 n2 : Int) (h : n0 ≤ 9223372036854775807) (h' : -9223372036854775808 ≤ n0) : potsherdref06_Check.f n0 n1 n2 = some (Val.layV n0 n1 n2) := by
  unfold potsherdref06_Check.f Val.layV wrap64
  repeat' split
  all_goals first | rfl | omega
end Go.Proofs.YtfgmgcnbponknaaDoor.Lx
