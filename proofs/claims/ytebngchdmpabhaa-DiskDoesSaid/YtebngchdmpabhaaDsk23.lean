/- Package disk: plain laws: what the document's disk (package potsherdref10, as it is printed) answers is what mine answers. No condition but the bound on a slice's length. -/
import Derived.Test.YtebngchdmpabhaaDsk18
import Derived.Test.YtebngchdmpabhaaGx9
import Derived.Test.YtebngchdmpabhaaGx10
import Derived.Test.YtebngchdmpabhaaGx11
namespace Go.Proofs.Ytebngchdmpabhaa.Disk
open Go.RowKit Go.Proofs.Ytebngchdmpabhaa.G Go.Proofs.YtebngchdmpabhaaW.PrintWords Go.Proofs.YtebngchdmpabhaaW.PrintLast Go.Proofs.YtebngchdmpabhaaW.PrintMore Go.Proofs.YtebngchdmpabhaaW.Raw
set_option linter.unusedVariables false
set_option linter.unusedSimpArgs false
theorem wrap_id {n : Int} (h1 : -9223372036854775808 ≤ n) (h2 : n ≤ 9223372036854775807) : wrap64 n = n := by unfold wrap64; omega
theorem rd_at {l r : List S41} {f : S41} {i : Nat} (h : l.drop i = f :: r) : rd_T41 l (i : Int) = f ∧ i < l.length ∧ l.drop (i + 1) = r := by
  have hl : i < l.length := by
    rcases Nat.lt_or_ge i l.length with h' | h'
    · exact h'
    · rw [List.drop_of_length_le h'] at h; cases h
  have h2 := List.drop_eq_getElem_cons hl
  rw [h] at h2
  injection h2 with e1 e2
  refine ⟨?_, hl, e2.symm⟩
  unfold rd_T41
  rw [Int.toNat_natCast, List.getD_eq_getElem?_getD, List.getElem?_eq_getElem hl, e1]
  rfl
theorem at_end {l : List S41} {i : Nat} (h : l.drop i = []) (hi : i ≤ l.length) : i = l.length := by
  have := congrArg List.length h
  rw [List.length_drop] at this
  simp at this
  omega
def codeN (b : Bool) : Int := if b = true then 0 else 6
theorem check_l (l : List S41) (hn : l.length < 3518437208883) : ∀ (r : List S41) (k i : Nat) (last : ByteArray) (n : Int), l.drop i = r → i ≤ l.length → r.length < k → 0 ≤ n → n ≤ 1048576 →
    potsherdref10_Check.l0 k last n l (l.length : Int) (i : Int) = some (codeN (okFiles last (1048576 - n) r))
  | [], k + 1, i, last, n, h, hi, hk, h0, h1 => by
    have := at_end h hi
    rw [potsherdref10_Check.l0, if_neg (by omega)]
    rfl
  | f :: r, k + 1, i, last, n, h, hi, hk, h0, h1 => by
    obtain ⟨e1, e2, e3⟩ := rd_at h
    rw [potsherdref10_Check.l0, if_pos (by omega), if_pos (by omega), if_pos (by omega), e1, wrap_id (n := 1048576 - n) (by omega) (by omega)]
    show _ = some (codeN (okFile last (1048576 - n) f && okFiles f.f0 (1048576 - n - f.f1.size) r))
    unfold okFile
    by_cases h2 : ltS last f.f0 = true
    · rw [if_pos (show Op.bytesLess last.toList f.f0.toList = true from h2), h2]
      by_cases h3 : f.f2 < 0
      · rw [if_pos h3]; simp [show ¬ (0 ≤ f.f2) by omega, codeN]
      · rw [if_neg h3]
        by_cases h4 : f.f2 > (f.f1.size : Int)
        · rw [if_pos h4]; simp [show ¬ (f.f2 ≤ (f.f1.size : Int)) by omega, codeN]
        · rw [if_neg h4]
          by_cases h5 : (f.f1.size : Int) > 1048576 - n
          · rw [if_pos h5]; simp [show ¬ ((f.f1.size : Int) ≤ 1048576 - n) by omega, codeN]
          · rw [if_neg h5, wrap_id (n := n + (f.f1.size : Int)) (by omega) (by omega), wrap_id (n := (i : Int) + 1) (by omega) (by omega)]
            have ih := check_l l hn r k (i + 1) f.f0 (n + (f.f1.size : Int)) e3 (by omega) (by simpa using hk) (by omega) (by omega)
            rw [show ((i + 1 : Nat) : Int) = (i : Int) + 1 from rfl] at ih
            rw [ih]
            simp only [show (0 ≤ f.f2) by omega, show (f.f2 ≤ (f.f1.size : Int)) by omega, show ((f.f1.size : Int) ≤ 1048576 - n) by omega, decide_true, Bool.and_true, Bool.true_and]
            rw [show 1048576 - (n + (f.f1.size : Int)) = 1048576 - n - (f.f1.size : Int) by omega]
    · rw [if_neg (show ¬ Op.bytesLess last.toList f.f0.toList = true from h2)]
      simp [Bool.eq_false_iff.2 h2, codeN]
theorem check_f {l : List S41} (down : Bool) (fuse : Int) {k : Nat} (hn : l.length < 3518437208883) (hk : l.length < k) : potsherdref10_Check.f k l down fuse = some (okN l) := by
  have := check_l l hn l k 0 ⟨#[]⟩ 0 rfl (Nat.zero_le _) hk (by omega) (by omega)
  exact this
/-- where the document finds a file -/
def refAt (n : ByteArray) : List S41 → Nat → Int
  | [], _ => -1
  | f :: l, i => if eqS f.f0 n = true then (i : Int) else refAt n l (i + 1)
theorem find_l (n : ByteArray) (l : List S41) (hn : l.length < 3518437208883) : ∀ (r : List S41) (k i : Nat), l.drop i = r → i ≤ l.length → r.length < k →
    potsherdref10_find.l0 k n l (l.length : Int) (i : Int) = some (refAt n r i)
  | [], k + 1, i, h, hi, hk => by
    have := at_end h hi
    rw [potsherdref10_find.l0, if_neg (by omega)]
    rfl
  | f :: r, k + 1, i, h, hi, hk => by
    obtain ⟨e1, e2, e3⟩ := rd_at h
    rw [potsherdref10_find.l0, if_pos (by omega), if_pos (by omega), if_pos (by omega), e1]
    unfold refAt
    by_cases h2 : eqS f.f0 n = true
    · rw [if_pos h2, if_pos (by simpa [eqS] using h2)]
    · rw [if_neg h2, if_neg (by simpa [eqS] using h2), wrap_id (n := (i : Int) + 1) (by omega) (by omega)]
      have ih := find_l n l hn r k (i + 1) e3 (by omega) (by simpa using hk)
      rw [show ((i + 1 : Nat) : Int) = (i : Int) + 1 from rfl] at ih
      exact ih
theorem refAt_none {n : ByteArray} : ∀ (l : List S41) (i : Nat), (∀ f ∈ l, eqS f.f0 n = false) → refAt n l i = -1
  | [], _, _ => rfl
  | f :: l, i, h => by
    unfold refAt
    rw [if_neg (by rw [h f (by simp)]; simp)]
    exact refAt_none l (i + 1) (fun g hg => h g (by simp [hg]))
theorem found_cons (f : S41) (l : List S41) (n : ByteArray) : foundAt (f :: l) n = if ltS f.f0 n = true then foundAt l n else eqS f.f0 n := by
  unfold foundAt
  rw [lb_cons]
  by_cases h : ltS f.f0 n = true
  · rw [if_pos h, if_pos h]
    simp [nameAt]
  · rw [if_neg h, if_neg h]
    simp [nameAt]
theorem refAt_eq {n : ByteArray} : ∀ (l : List S41) (i : Nat), Srt l → refAt n l i = if foundAt l n = true then ((i + lb l n : Nat) : Int) else -1
  | [], i, _ => by rfl
  | f :: l, i, hs => by
    obtain ⟨h1, h2⟩ := List.pairwise_cons.1 hs
    unfold refAt
    rw [found_cons, lb_cons]
    by_cases h : ltS f.f0 n = true
    · rw [if_pos h, if_pos h, if_neg (by rw [ltS_ne h]; simp), refAt_eq l (i + 1) h2]
      split
      · congr 1; omega
      · rfl
    · rw [if_neg h, if_neg h]
      by_cases h3 : eqS f.f0 n = true
      · rw [if_pos h3, if_pos h3]; rfl
      · rw [if_neg h3, if_neg h3]
        have h4 : ltS n f.f0 = true := ltS_of (Bool.eq_false_iff.2 h) (Bool.eq_false_iff.2 h3)
        refine refAt_none l (i + 1) (fun g hg => ?_)
        rw [eqS_comm]
        exact ltS_ne (ltS_trans h4 (h1 g hg))
theorem find_f {l : List S41} (n : ByteArray) (down : Bool) (fuse : Int) {k : Nat} (hn : l.length < 3518437208883) (hk : l.length < k) (hs : Srt l) : potsherdref10_find.f k l down fuse n = some (if foundAt l n = true then (lb l n : Int) else -1) := by
  have := find_l n l hn l k 0 rfl (Nat.zero_le _) hk
  rw [refAt_eq l 0 hs, Nat.zero_add] at this
  exact this
theorem size_l (l : List S41) (hn : l.length < 3518437208883) : ∀ (r : List S41) (k i : Nat) (n : Int), l.drop i = r → i ≤ l.length → r.length < k → 0 ≤ n → n + total r ≤ 9223372036854775807 →
    potsherdref10_Size.l0 k n l (l.length : Int) (i : Int) = some (n + total r)
  | [], k + 1, i, n, h, hi, hk, h0, h1 => by
    have := at_end h hi
    rw [potsherdref10_Size.l0, if_neg (by omega)]
    simp [total]
  | f :: r, k + 1, i, n, h, hi, hk, h0, h1 => by
    obtain ⟨e1, e2, e3⟩ := rd_at h
    have ht : total (f :: r) = f.f1.size + total r := rfl
    rw [ht] at h1 ⊢
    push_cast at h1
    rw [potsherdref10_Size.l0, if_pos (by omega), if_pos (by omega), if_pos (by omega), e1, wrap_id (n := n + (f.f1.size : Int)) (by omega) (by omega), wrap_id (n := (i : Int) + 1) (by omega) (by omega)]
    have ih := size_l l hn r k (i + 1) (n + (f.f1.size : Int)) e3 (by omega) (by simpa using hk) (by omega) (by omega)
    rw [show ((i + 1 : Nat) : Int) = (i : Int) + 1 from rfl] at ih
    rw [ih]
    push_cast
    congr 1; omega
theorem size_f {l : List S41} (down : Bool) (fuse : Int) {k : Nat} (hn : l.length < 3518437208883) (hk : l.length < k) (ht : total l ≤ 1048576) : potsherdref10_Size.f k l down fuse = some (total l : Int) := by
  have := size_l l hn l k 0 0 rfl (Nat.zero_le _) hk (by omega) (by omega)
  rw [Int.zero_add] at this
  exact this
/-- a disk's files without one -/
def bare (n : ByteArray) (l : List S41) : List S41 := l.filter (fun f => !eqS f.f0 n)
theorem without_l (n : ByteArray) (l : List S41) (hn : l.length < 3518437208883) (l' : List S41) (down : Bool) (fuse : Int) : ∀ (r : List S41) (k i : Nat) (a : List S41), l.drop i = r → i ≤ l.length → r.length < k → a.length ≤ i →
    potsherdref10_without.l0 k n a l (l.length : Int) (i : Int) l' down fuse = some (a ++ bare n r, down, fuse)
  | [], k + 1, i, a, h, hi, hk, ha => by
    have := at_end h hi
    rw [potsherdref10_without.l0, if_neg (by omega)]
    simp [bare]
  | f :: r, k + 1, i, a, h, hi, hk, ha => by
    obtain ⟨e1, e2, e3⟩ := rd_at h
    rw [potsherdref10_without.l0, if_pos (by omega), if_pos (by omega), if_pos (by omega), e1, wrap_id (n := (i : Int) + 1) (by omega) (by omega)]
    by_cases h2 : eqS f.f0 n = true
    · rw [if_pos (by simpa [eqS] using h2)]
      have ih := without_l n l hn l' down fuse r k (i + 1) a e3 (by omega) (by simpa using hk) (by omega)
      rw [show ((i + 1 : Nat) : Int) = (i : Int) + 1 from rfl] at ih
      rw [ih]
      simp [bare, h2]
    · rw [if_neg (by simpa [eqS] using h2), if_pos (by omega)]
      have ih := without_l n l hn l' down fuse r k (i + 1) (a ++ [f]) e3 (by omega) (by simpa using hk) (by simp; omega)
      rw [show ((i + 1 : Nat) : Int) = (i : Int) + 1 from rfl] at ih
      rw [ih]
      simp [bare, h2]
theorem without_f {l : List S41} (n : ByteArray) (down : Bool) (fuse : Int) {k : Nat} (hn : l.length < 3518437208883) (hk : l.length < k) : potsherdref10_without.f k l down fuse n = some (bare n l, down, fuse) := by
  have := without_l n l hn l down fuse l k 0 [] rfl (Nat.zero_le _) hk (by simp)
  exact this
/-- a file laid before the first greater one -/
def slip (x : S41) : List S41 → List S41
  | [] => [x]
  | f :: l => if ltS x.f0 f.f0 = true then x :: f :: l else f :: slip x l
theorem with_on (x : S41) (l : List S41) (hn : l.length < 3518437208883) (l' : List S41) (down : Bool) (fuse : Int) : ∀ (r : List S41) (k i : Nat) (a : List S41), l.drop i = r → i ≤ l.length → r.length < k → a.length ≤ i + 1 →
    potsherdref10_with.l0 k a true l (l.length : Int) (i : Int) l' down fuse x.f0 x.f1 x.f2 = some (a ++ r, down, fuse)
  | [], k + 1, i, a, h, hi, hk, ha => by
    have := at_end h hi
    rw [potsherdref10_with.l0, if_neg (by omega)]
    simp
  | f :: r, k + 1, i, a, h, hi, hk, ha => by
    obtain ⟨e1, e2, e3⟩ := rd_at h
    rw [potsherdref10_with.l0, if_pos (by omega), if_pos (by omega), if_pos (by omega), if_pos rfl, if_pos (by omega), e1, wrap_id (n := (i : Int) + 1) (by omega) (by omega)]
    have ih := with_on x l hn l' down fuse r k (i + 1) (a ++ [f]) e3 (by omega) (by simpa using hk) (by simp; omega)
    rw [show ((i + 1 : Nat) : Int) = (i : Int) + 1 from rfl] at ih
    rw [ih]
    simp
theorem with_l (x : S41) (l : List S41) (hn : l.length < 3518437208883) (l' : List S41) (down : Bool) (fuse : Int) : ∀ (r : List S41) (k i : Nat) (a : List S41), l.drop i = r → i ≤ l.length → r.length < k → a.length ≤ i →
    potsherdref10_with.l0 k a false l (l.length : Int) (i : Int) l' down fuse x.f0 x.f1 x.f2 = some (a ++ slip x r, down, fuse)
  | [], k + 1, i, a, h, hi, hk, ha => by
    have := at_end h hi
    rw [potsherdref10_with.l0, if_neg (by omega), if_neg (by simp), if_pos (by omega)]
    rfl
  | f :: r, k + 1, i, a, h, hi, hk, ha => by
    obtain ⟨e1, e2, e3⟩ := rd_at h
    rw [potsherdref10_with.l0, if_pos (by omega), if_pos (by omega), if_pos (by omega), if_neg (by simp), e1, wrap_id (n := (i : Int) + 1) (by omega) (by omega)]
    unfold slip
    by_cases h2 : ltS x.f0 f.f0 = true
    · rw [if_pos h2, if_pos (show Op.bytesLess x.f0.toList f.f0.toList = true from h2), if_pos (by omega), Option.bind_some, if_pos (by simp; omega)]
      have ih := with_on x l hn l' down fuse r k (i + 1) (a ++ [x] ++ [f]) e3 (by omega) (by simpa using hk) (by simp; omega)
      rw [show ((i + 1 : Nat) : Int) = (i : Int) + 1 from rfl] at ih
      refine Eq.trans ih ?_
      simp
    · rw [if_neg h2, if_neg (show ¬ Op.bytesLess x.f0.toList f.f0.toList = true from h2), if_pos (by omega)]
      have ih := with_l x l hn l' down fuse r k (i + 1) (a ++ [f]) e3 (by omega) (by simpa using hk) (by simp; omega)
      rw [show ((i + 1 : Nat) : Int) = (i : Int) + 1 from rfl] at ih
      refine Eq.trans ih ?_
      simp
theorem bare_len (n : ByteArray) (l : List S41) : (bare n l).length ≤ l.length := List.length_filter_le ..
theorem with_f {l : List S41} (x : S41) (down : Bool) (fuse : Int) {k : Nat} (hn : l.length < 3518437208883) (hk : l.length < k) : potsherdref10_with.f k l down fuse x.f0 x.f1 x.f2 = some (slip x (bare x.f0 l), down, fuse) := by
  have hb := bare_len x.f0 l
  unfold potsherdref10_with.f
  rw [without_f x.f0 down fuse hn hk, Option.bind_some]
  have := with_l x (bare x.f0 l) (by omega) (bare x.f0 l) down fuse (bare x.f0 l) k 0 [] rfl (Nat.zero_le _) (by omega) (by simp)
  exact this
theorem bare_none {n : ByteArray} {l : List S41} (h : ∀ f ∈ l, eqS f.f0 n = false) : bare n l = l := by
  unfold bare
  rw [List.filter_eq_self]
  intro f hf
  rw [h f hf]; rfl
theorem above {n : ByteArray} {l : List S41} (h : ∀ f ∈ l, ltS n f.f0 = true) : bare n l = l := bare_none (fun f hf => by rw [eqS_comm]; exact ltS_ne (h f hf))
theorem slip_above {x : S41} {l : List S41} (h : ∀ f ∈ l, ltS x.f0 f.f0 = true) : slip x l = x :: l := by
  cases l with
  | nil => rfl
  | cons f l => unfold slip; rw [if_pos (h f (by simp))]
theorem lay_cons (f x : S41) (l : List S41) (h : ltS f.f0 x.f0 = true) : layF (f :: l) x = f :: layF l x := by
  unfold layF
  rw [found_cons, lb_cons, if_pos h, if_pos h]
  split
  · rfl
  · rfl
theorem lay_slip (x : S41) : ∀ (l : List S41), Srt l → slip x (bare x.f0 l) = layF l x
  | [], _ => rfl
  | f :: l, hs => by
    obtain ⟨h1, h2⟩ := List.pairwise_cons.1 hs
    by_cases h : ltS f.f0 x.f0 = true
    · have hb : bare x.f0 (f :: l) = f :: bare x.f0 l := by unfold bare; rw [List.filter_cons, if_pos (by rw [ltS_ne h]; rfl)]
      have hg : ¬ ltS x.f0 f.f0 = true := by
        intro hg
        have := ltS_trans h hg
        rw [ltS_irrefl] at this
        cases this
      rw [hb, lay_cons f x l h, ← lay_slip x l h2]
      show slip x (f :: bare x.f0 l) = _
      rw [slip, if_neg hg]
    · by_cases h3 : eqS f.f0 x.f0 = true
      · have he : f.f0 = x.f0 := (eqS_iff _ _).1 h3
        have ha : ∀ g ∈ l, ltS x.f0 g.f0 = true := fun g hg => he ▸ h1 g hg
        have hb : bare x.f0 (f :: l) = l := by
          have : bare x.f0 (f :: l) = bare x.f0 l := by unfold bare; rw [List.filter_cons, if_neg (by rw [h3]; simp)]
          rw [this, above ha]
        rw [hb, slip_above ha]
        unfold layF
        rw [found_cons, lb_cons, if_neg h, if_neg h, if_pos h3]
        rfl
      · have h4 : ltS x.f0 f.f0 = true := ltS_of (Bool.eq_false_iff.2 h) (Bool.eq_false_iff.2 h3)
        have ha : ∀ g ∈ f :: l, ltS x.f0 g.f0 = true := by
          intro g hg
          rcases List.mem_cons.1 hg with rfl | hg
          · exact h4
          · exact ltS_trans h4 (h1 g hg)
        rw [above ha, slip_above ha]
        unfold layF
        rw [found_cons, lb_cons, if_neg h, if_neg h, if_neg h3]
        rfl
theorem bare_drop {l : List S41} {n : ByteArray} (hs : Srt l) (hf : foundAt l n = true) : bare n l = dropF l n := by
  have hlt := found_lt hf
  have hp := parts_found hs hf
  have he : l = l.take (lb l n) ++ ([l.getD (lb l n) z41] ++ l.drop (lb l n + 1)) := by
    have h1 := List.drop_eq_getElem_cons hlt
    have h2 : l.getD (lb l n) z41 = l[lb l n] := by rw [List.getD_eq_getElem?_getD, List.getElem?_eq_getElem hlt]; rfl
    rw [h2, List.singleton_append, ← h1, List.take_append_drop]
  have hq : eqS (l.getD (lb l n) z41).f0 n = true := by
    unfold foundAt at hf
    exact (Bool.and_eq_true_iff.1 hf).2
  have h3 : bare n l = bare n (l.take (lb l n)) ++ (bare n [l.getD (lb l n) z41] ++ bare n (l.drop (lb l n + 1))) := by
    conv => lhs; rw [he]
    unfold bare
    rw [List.filter_append, List.filter_append]
  rw [h3, bare_none hp.na, bare_none hp.nb]
  have h4 : bare n [l.getD (lb l n) z41] = [] := by unfold bare; rw [List.filter_cons, if_neg (by rw [hq]; simp)]; rfl
  rw [h4]
  rfl
theorem copy_f {l : List S41} (down : Bool) (fuse : Int) (hn : l.length < 3518437208883) : potsherdref10_Copy.f l down fuse = some (l, down, fuse) := by
  unfold potsherdref10_Copy.f
  rw [Option.bind_some, if_pos (by simpa using hn)]
  rfl
theorem total_new {l : List S41} {n : ByteArray} (hs : Srt l) (hf : foundAt l n = false) : others n l = total l := by
  refine others_total (fun f hf' => ?_)
  have h := foundAt_fnd n hs
  rw [hf] at h
  have h2 : fnd l n = none := by
    rcases hq : fnd l n with _ | x
    · rfl
    · rw [hq] at h; simp at h
  have := List.find?_eq_none.1 h2 f hf'
  simpa using this
theorem empty_iff (n : ByteArray) : emptyS n = true ↔ n.toList = [] := by
  unfold emptyS
  exact List.isEmpty_iff
theorem refuses_f {l : List S41} (down : Bool) (fuse : Int) {kind : Int} (name dst data : ByteArray) {k : Nat} (hn : l.length < 3518437208883) (hk : l.length < k) (ho : ok l = true) (hd : data.size ≤ 9223372036854775807) :
    potsherdref10_refuses.f k l down fuse kind name dst data = some (whyF l kind name dst data) := by
  obtain ⟨o1, hs, o3, o4⟩ := (ok_iff l).1 ho
  unfold potsherdref10_refuses.f whyF
  rw [find_f name down fuse hn hk hs, Option.bind_some]
  by_cases h1 : kind = 1
  · rw [if_pos h1, if_pos h1]
    unfold putN
    by_cases he : emptyS name = true
    · rw [if_pos ((empty_iff _).1 he), if_pos he]
    · rw [if_neg (fun h => he ((empty_iff _).2 h)), if_neg he]
      rcases hf : foundAt l name with _ | _
      · rw [if_neg (show ¬ (false = true) by simp), if_neg (by omega), size_f down fuse hn hk o4, Option.bind_some, total_new hs hf, wrap_id (n := (total l : Int)) (by omega) (by omega), wrap_id (n := 1048576 - (total l : Int)) (by omega) (by omega)]
        split <;> rfl
      · have hlt := found_lt hf
        have ht := total_found hs hf
        have hr : rd_T41 l (lb l name : Int) = l.getD (lb l name) z41 := by simp [rd_T41]
        rw [if_pos rfl, if_pos (by omega), if_pos (by omega), if_pos (by omega), size_f down fuse hn hk o4, Option.bind_some, hr]
        have hw : wrap64 ((total l : Int) - ((l.getD (lb l name) z41).f1.size : Int)) = (others name l : Int) := by rw [wrap_id (by omega) (by omega)]; omega
        rw [hw, wrap_id (n := 1048576 - (others name l : Int)) (by omega) (by omega)]
        split <;> rfl
  · rw [if_neg h1, if_neg h1]
    rcases hf : foundAt l name with _ | _
    · rw [if_neg (show ¬ (false = true) by simp), if_pos (by omega)]
      split <;> rfl
    · rw [if_pos rfl, if_neg (by omega)]
      by_cases h3 : kind = 3
      · rw [if_pos h3, if_pos h3]
        rcases he : emptyS dst with _ | _
        · rw [if_neg (fun h => by rw [(empty_iff _).2 h] at he; cases he)]; rfl
        · rw [if_pos ((empty_iff _).1 he)]; rfl
      · rw [if_neg h3, if_neg h3]; rfl
theorem dropF_len {l : List S41} {n : ByteArray} (hf : foundAt l n = true) : (dropF l n).length + 1 = l.length := by
  have := found_lt hf
  unfold dropF
  rw [List.length_append, List.length_take, List.length_drop]; omega
theorem lay_len (l : List S41) (x : S41) : (layF l x).length ≤ l.length + 1 := by
  unfold layF
  split
  · rw [List.length_set]; omega
  · rw [List.length_append, List.length_append, List.length_take, List.length_drop]; simp only [List.length_cons, List.length_nil]; omega
theorem do_f2 {l : List S41} (down : Bool) (fuse : Int) {kind : Int} (name dst data : ByteArray) {k : Nat} (hn : l.length < 3518437208883) (hk : l.length < k) (hs : Srt l) (hw : kind ≠ 1 → whyF l kind name dst data = 0) (h1 : 1 ≤ kind) (h4 : kind ≤ 4) :
    potsherdref10_Do.j2 (k + 1) l down fuse kind name dst data = some (if kind = 1 then l else doneF l kind name dst data true, down, fuse, 0) := by
  rw [potsherdref10_Do.j2, find_f name down fuse hn hk hs, Option.bind_some]
  by_cases k1 : kind = 1
  · subst k1
    rw [if_neg (by decide), if_neg (by decide), if_neg (by decide), if_pos rfl]
  · have hw := hw k1
    have hf : foundAt l name = true := by
      unfold whyF at hw
      rw [if_neg k1] at hw
      split at hw
      · exact (Bool.and_eq_true_iff.1 (knownN_zero.1 hw)).1
      · exact knownN_zero.1 hw
    have hlt := found_lt hf
    have hr : rd_T41 l (lb l name : Int) = l.getD (lb l name) z41 := by simp [rd_T41]
    rw [if_pos hf, if_neg k1]
    by_cases k2 : kind = 2
    · subst k2
      rw [if_pos rfl, if_pos (by omega), if_pos (by omega), hr]
      show _ = some (if (foundAt l name && true) = true then syncF l name else l, down, fuse, 0)
      rw [hf, Int.toNat_natCast]
      rfl
    · rw [if_neg k2]
      by_cases k3 : kind = 3
      · subst k3
        rw [if_pos rfl, if_pos (by omega), if_pos (by omega), hr, without_f name down fuse hn hk, Option.bind_some, bare_drop hs hf]
        have hl := dropF_len hf
        have hsd : Srt (dropF l name) := (parts_found hs hf).srt
        have hwf := with_f ⟨dst, (l.getD (lb l name) z41).f1, (l.getD (lb l name) z41).f2⟩ down fuse (l := dropF l name) (k := k) (by omega) (by omega)
        rw [lay_slip _ _ hsd] at hwf
        have hd : (foundAt l name && true && !emptyS dst) = true := by
          have : (foundAt l name && !emptyS dst) = true := knownN_zero.1 hw
          simpa using this
        show (potsherdref10_with.f k (dropF l name) down fuse dst (l.getD (lb l name) z41).f1 (l.getD (lb l name) z41).f2).bind _ = some (if (foundAt l name && true && !emptyS dst) = true then moveF l name dst else l, down, fuse, 0)
        rw [if_pos hd]
        rw [hwf]
        rfl
      · have k4 : kind = 4 := by omega
        subst k4
        rw [if_neg k3, if_pos rfl, without_f name down fuse hn hk, Option.bind_some, bare_drop hs hf]
        show _ = some (if (foundAt l name && true) = true then dropF l name else l, down, fuse, 0)
        rw [hf]
        rfl
theorem do_f1 {l : List S41} (down : Bool) (fuse : Int) {kind : Int} (name dst data : ByteArray) {k : Nat} (hn : l.length < 3518437208883) (hk : l.length < k) (hs : Srt l) (hw : kind ≠ 1 → whyF l kind name dst data = 0) (h1 : 1 ≤ kind) (h4 : kind ≤ 4) (hf : fuse ≤ 9223372036854775807) :
    potsherdref10_Do.j1 (k + 2) l down fuse kind name dst data = some (if fuse = 0 then (l, true, fuse, 12) else (if kind = 1 then l else doneF l kind name dst data true, down, if 0 < fuse then fuse - 1 else fuse, 0)) := by
  rw [potsherdref10_Do.j1]
  by_cases h0 : fuse = 0
  · rw [if_pos h0, if_pos h0]
  · rw [if_neg h0, if_neg h0]
    by_cases hp : 0 < fuse
    · rw [if_pos hp, if_pos hp, wrap_id (by omega) (by omega), do_f2 down (fuse - 1) name dst data hn hk hs hw h1 h4]
    · rw [if_neg hp, if_neg hp, do_f2 down fuse name dst data hn hk hs hw h1 h4]
theorem do_f {l : List S41} (down : Bool) (fuse : Int) {kind : Int} (name dst data : ByteArray) {k : Nat} (hn : l.length + 1 < 3518437208883) (hk : l.length + 1 < k) (hd : data.size ≤ 9223372036854775807) (hf : fuse ≤ 9223372036854775807) :
    potsherdref10_Do.f (k + 3) l down fuse kind name dst data = some ((doA l down fuse kind name dst data).files, (doA l down fuse kind name dst data).down, (doA l down fuse kind name dst data).fuse, (doA l down fuse kind name dst data).why) := by
  unfold potsherdref10_Do.f
  rw [check_f down fuse (by omega) (by omega), Option.bind_some]
  rcases ho : ok l with _ | _
  · have hE : doA l down fuse kind name dst data = ⟨[], false, 0, 6⟩ := if_pos ho
    rw [if_neg (by simp [okN, ho]), hE]
  · obtain ⟨o1, hs, o3, o4⟩ := (ok_iff l).1 ho
    have ho' : ¬ ok l = false := by rw [ho]; simp
    rw [if_pos (by simp [okN, ho]), copy_f down fuse (by omega), Option.bind_some]
    have hj : (if kind < 1 then potsherdref10_Do.j0 (k + 3) true l down fuse kind name dst data else potsherdref10_Do.j0 (k + 3) (decide (kind ≥ 5)) l down fuse kind name dst data) = potsherdref10_Do.j0 (k + 3) (decide (kind < 1 ∨ 4 < kind)) l down fuse kind name dst data := by
      by_cases h : kind < 1
      · rw [if_pos h]; congr 1; simp [h]
      · rw [if_neg h]; congr 1; rw [decide_eq_decide]; omega
    refine Eq.trans hj ?_
    rw [potsherdref10_Do.j0]
    by_cases hk0 : kind < 1 ∨ 4 < kind
    · have hE : doA l down fuse kind name dst data = ⟨l, down, fuse, 5⟩ := (if_neg ho').trans (if_pos hk0)
      rw [if_pos (by simpa using hk0), hE]
    · rw [if_neg (by simpa using hk0)]
      rcases hdn : down with _ | _
      · rw [if_neg (by simp), refuses_f false fuse name dst data (by omega) (by omega) ho hd, Option.bind_some]
        rw [doA_live ho (by omega) (by omega)]
        by_cases hw : whyF l kind name dst data = 0
        · rw [if_pos hw, if_neg (show ¬ (whyF l kind name dst data ≠ 0) from fun h => h hw)]
          by_cases k1 : kind = 1
          · subst k1
            obtain ⟨a, b, hl, hp⟩ := lay_parts (⟨name, data, 0⟩ : S41) hs
            have hwf := with_f ⟨name, data, 0⟩ false fuse (l := l) (k := k + 2) (by omega) (by omega)
            rw [lay_slip _ _ hs] at hwf
            have hll := lay_len l ⟨name, data, 0⟩
            have hsl : Srt (layF l ⟨name, data, 0⟩) := by rw [hl]; exact hp.srtm
            have hD : ∀ p, doneF l 1 name dst data p = layF l ⟨name, data, 0⟩ := by
              intro p
              show putF l name data = _
              unfold putF
              rw [if_pos (show putN l name data = 0 from hw)]
            rw [if_pos rfl]
            rw [show potsherdref10_with.f (k + 2) l false fuse name data 0 = _ from hwf, Option.bind_some]
            simp only
            rw [do_f1 false fuse name dst data (by omega) (by omega) hsl (fun h => absurd rfl h) (by omega) (by omega) hf, if_pos rfl, hD]
            split <;> rfl
          · rw [if_neg k1, do_f1 false fuse name dst data (by omega) (by omega) hs (fun _ => hw) (by omega) (by omega) hf, if_neg k1]
            have hD : doneF l kind name dst data false = l := by
              by_cases k2 : kind = 2
              · subst k2; exact (done_sync (power := true) ho hw).2.1
              · by_cases k3 : kind = 3
                · subst k3; exact (done_move (power := true) ho hw).2.2.1
                · have k4 : kind = 4 := by omega
                  subst k4; exact (done_drop (power := true) ho hw).2.1
            by_cases h0 : fuse = 0
            · rw [if_pos h0, if_pos h0, h0]
              show _ = some (doneF l kind name dst data false, _, _, _)
              rw [hD]
            · have hz : (fuse != 0) = true := by simpa using h0
              rw [if_neg h0, if_neg h0, hz]
        · rw [if_neg hw, if_pos (show whyF l kind name dst data ≠ 0 from hw)]
          have hD : doneF l kind name dst data (fuse != 0) = l := done_refused _ (by omega) (by omega) hw
          rw [hD]
      · have hE : doA l true fuse kind name dst data = ⟨l, true, fuse, 12⟩ := (if_neg ho').trans ((if_neg hk0).trans (if_pos rfl))
        rw [if_pos rfl, hE]
theorem read_f {l : List S41} (down : Bool) (fuse : Int) (name : ByteArray) {k : Nat} (hn : l.length < 3518437208883) (hk : l.length < k) : potsherdref10_Read.f k l down fuse name = some (readS l down name, readN l down name) := by
  unfold potsherdref10_Read.f readS readN
  rw [check_f down fuse hn hk, Option.bind_some]
  rcases ho : ok l with _ | _
  · rw [if_neg (by simp [okN, ho])]; rfl
  · obtain ⟨o1, hs, o3, o4⟩ := (ok_iff l).1 ho
    rw [if_pos (by simp [okN, ho])]
    rcases down with _ | _
    · rw [if_neg (by simp), find_f name false fuse hn hk hs, Option.bind_some]
      rcases hf : foundAt l name with _ | _
      · rw [if_neg (show ¬ (false = true) by simp), if_pos (by omega)]; rfl
      · have hlt := found_lt hf
        have hr : rd_T41 l (lb l name : Int) = l.getD (lb l name) z41 := by simp [rd_T41]
        rw [if_pos rfl, if_neg (by omega), if_pos (by omega), if_pos (by omega), hr]; rfl
    · rfl
theorem crash_l (keep : Int) (l : List S41) (hn : l.length < 3518437208883) (hkp : -9223372036854775808 ≤ keep) (hkm : keep ≤ 9223372036854775807) (hv : ∀ f ∈ l, 0 ≤ f.f2 ∧ f.f2 ≤ (f.f1.size : Int) ∧ (f.f1.size : Int) ≤ 1048576) : ∀ (r : List S41) (k i : Nat) (a : List S41), l.drop i = r → i ≤ l.length → r.length < k → a.length ≤ i →
    potsherdref10_Crash.l0 k keep l (l.length : Int) (i : Int) a false (-1) = some (a ++ r.map (crashF keep), false, -1, 0)
  | [], k + 1, i, a, h, hi, hk, ha => by
    have := at_end h hi
    rw [potsherdref10_Crash.l0, if_neg (by omega)]
    simp
  | f :: r, k + 1, i, a, h, hi, hk, ha => by
    obtain ⟨e1, e2, e3⟩ := rd_at h
    have hm : f ∈ l := by
      have : f ∈ l.drop i := by rw [h]; simp
      exact List.mem_of_mem_drop this
    obtain ⟨v1, v2, v3⟩ := hv f hm
    rw [potsherdref10_Crash.l0, if_pos (by omega), if_pos (by omega), if_pos (by omega), e1, wrap_id (n := (i : Int) + 1) (by omega) (by omega), wrap_id (n := (f.f1.size : Int) - f.f2) (by omega) (by omega)]
    have hx : ∀ (q : Int) (s : ByteArray), q = keptN keep f → 0 ≤ q → q ≤ (f.f1.size : Int) → s = f.f1.extract 0 q.toNat → (⟨f.f0, s, q⟩ : S41) = crashF keep f := by
      intro q s hq q0 q1 hs
      have hz : (f.f1.extract 0 (keptN keep f).toNat).size = (keptN keep f).toNat := by rw [ByteArray.size_extract]; omega
      unfold crashF
      rw [hz, hs, hq]
      congr 1
      omega
    have ih := crash_l keep l hn hkp hkm hv r k (i + 1) (a ++ [crashF keep f]) e3 (by omega) (by simpa using hk) (by simp; omega)
    rw [show ((i + 1 : Nat) : Int) = (i : Int) + 1 from rfl] at ih
    have ih2 : potsherdref10_Crash.l0 k keep l (l.length : Int) ((i : Int) + 1) (a ++ [crashF keep f]) false (-1) = some (a ++ (f :: r).map (crashF keep), false, -1, 0) := by
      rw [ih]; simp
    by_cases h1 : keep > (f.f1.size : Int) - f.f2
    · rw [if_pos h1, if_pos (by omega), if_pos (by omega), if_pos (by omega), hx (f.f1.size : Int) f.f1 (by unfold keptN; omega) (by omega) (by omega) (by simp)]
      exact ih2
    · rw [if_neg h1]
      by_cases h2 : keep > 0
      · rw [if_pos h2, wrap_id (n := f.f2 + keep) (by omega) (by omega), if_pos (by omega), if_pos (by omega), if_pos (by omega), hx (f.f2 + keep) _ (by unfold keptN; omega) (by omega) (by omega) rfl]
        exact ih2
      · rw [if_neg h2, if_pos (by omega), if_pos (by omega), if_pos (by omega), hx f.f2 _ (by unfold keptN; omega) (by omega) (by omega) rfl]
        exact ih2
theorem crash_f {l : List S41} (down : Bool) (fuse keep : Int) {k : Nat} (hn : l.length < 3518437208883) (hk : l.length < k) (hkp : -9223372036854775808 ≤ keep) (hkm : keep ≤ 9223372036854775807) :
    potsherdref10_Crash.f k l down fuse keep = some ((crashA l keep).files, (crashA l keep).down, (crashA l keep).fuse, (crashA l keep).why) := by
  unfold potsherdref10_Crash.f crashA
  rw [check_f down fuse hn hk, Option.bind_some]
  rcases ho : ok l with _ | _
  · rw [if_neg (by simp [okN, ho])]; rfl
  · rw [if_pos (by simp [okN, ho]), if_pos rfl]
    exact crash_l keep l hn hkp hkm (fun f hf => by
      have := okFiles_file l _ _ ho f hf
      exact this) l k 0 [] rfl (Nat.zero_le _) hk (by simp)
end Go.Proofs.Ytebngchdmpabhaa.Disk
