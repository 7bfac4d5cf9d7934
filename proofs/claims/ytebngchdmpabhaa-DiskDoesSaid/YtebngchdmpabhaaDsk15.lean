/- Package disk: plain laws: which file is found behind a step, and that a disk that is right stays right. No condition. -/
import Derived.Test.YtebngchdmpabhaaDsk8
namespace Go.Proofs.Ytebngchdmpabhaa.Disk
open Go.RowKit Go.Proofs.Ytebngchdmpabhaa.G Go.Proofs.YtebngchdmpabhaaW.PrintWords Go.Proofs.YtebngchdmpabhaaW.PrintLast Go.Proofs.YtebngchdmpabhaaW.PrintMore Go.Proofs.YtebngchdmpabhaaW.Raw
set_option linter.unusedVariables false
set_option linter.unusedSimpArgs false
theorem eqS_iff (a b : ByteArray) : eqS a b = true ↔ a = b := by
  unfold eqS
  rw [ByteArray.toList_eq, ByteArray.toList_eq, beq_iff_eq]
  constructor
  · intro h
    exact Go.WideShapes.bytes_inj h
  · rintro rfl; rfl
theorem ltS_irrefl (a : ByteArray) : ltS a a = false := by
  unfold ltS
  rw [bytesLess_eq]
  simp
theorem ltS_ne {a b : ByteArray} (h : ltS a b = true) : eqS a b = false := by
  rw [Bool.eq_false_iff]
  intro he
  rw [(eqS_iff a b).1 he, ltS_irrefl] at h
  cases h
theorem ltS_of {a b : ByteArray} (h : ltS a b = false) (he : eqS a b = false) : ltS b a = true := by
  have := bytesLess_total a.toList b.toList
  unfold ltS at *; unfold eqS at he
  rw [h, he] at this
  simpa using this.symm
theorem eqS_comm (a b : ByteArray) : eqS a b = eqS b a := by
  rw [Bool.eq_iff_iff, eqS_iff, eqS_iff]
  exact eq_comm
/-- what stands under a name -/
def fnd (l : List S41) (n : ByteArray) : Option S41 := l.find? (fun f => eqS f.f0 n)
def Srt (l : List S41) : Prop := l.Pairwise (fun a b => ltS a.f0 b.f0 = true)
theorem okFiles_iff : ∀ (l : List S41) (last : ByteArray) (room : Int), okFiles last room l = true ↔ ((∀ f ∈ l, ltS last f.f0 = true) ∧ Srt l ∧ (∀ f ∈ l, 0 ≤ f.f2 ∧ f.f2 ≤ (f.f1.size : Int)) ∧ (l = [] ∨ (total l : Int) ≤ room))
  | [], last, room => by simp [okFiles, Srt]
  | f :: l, last, room => by
    have ih := okFiles_iff l f.f0 (room - f.f1.size)
    have ht : total (f :: l) = f.f1.size + total l := rfl
    simp only [okFiles, okFile, Bool.and_eq_true, decide_eq_true_eq, ih, Srt, List.pairwise_cons, List.forall_mem_cons, ht]
    constructor
    · rintro ⟨⟨⟨⟨h1, h2⟩, h3⟩, h4⟩, h5, h6, h7, h8⟩
      refine ⟨⟨h1, fun g hg => ltS_trans h1 (h5 g hg)⟩, ⟨h5, h6⟩, ⟨⟨h2, h3⟩, h7⟩, .inr ?_⟩
      rcases h8 with rfl | h8
      · simp [total]; omega
      · push_cast; omega
    · rintro ⟨⟨h1, h2⟩, ⟨h3, h4⟩, ⟨⟨h5, h6⟩, h7⟩, h8⟩
      have h8 : ((f.f1.size + total l : Nat) : Int) ≤ room := by
        rcases h8 with h8 | h8
        · cases h8
        · exact h8
      push_cast at h8
      exact ⟨⟨⟨⟨h1, h5⟩, h6⟩, by omega⟩, h3, h4, h7, .inr (by omega)⟩
theorem ok_iff (l : List S41) : ok l = true ↔ ((∀ f ∈ l, ltS ⟨#[]⟩ f.f0 = true) ∧ Srt l ∧ (∀ f ∈ l, 0 ≤ f.f2 ∧ f.f2 ≤ (f.f1.size : Int)) ∧ total l ≤ 1048576) := by
  unfold ok
  rw [okFiles_iff]
  constructor
  · rintro ⟨h1, h2, h3, h4⟩
    refine ⟨h1, h2, h3, ?_⟩
    rcases h4 with rfl | h4
    · exact Nat.zero_le _
    · omega
  · rintro ⟨h1, h2, h3, h4⟩
    exact ⟨h1, h2, h3, .inr (by omega)⟩
theorem lb_cons (f : S41) (l : List S41) (n : ByteArray) : lb (f :: l) n = if ltS f.f0 n = true then lb l n + 1 else 0 := by
  unfold lb
  rw [List.takeWhile_cons]
  split <;> simp
/-- the search's answer is what stands under the name -/
theorem look_fnd : ∀ (l : List S41) (n : ByteArray), Srt l → (if foundAt l n = true then some (l.getD (lb l n) z41) else none) = fnd l n
  | [], n, _ => by simp [foundAt, lb, fnd]
  | f :: l, n, h => by
    have hs := List.pairwise_cons.1 h
    have ih := look_fnd l n hs.2
    rcases hl : ltS f.f0 n with _ | _
    · have hlb : lb (f :: l) n = 0 := by rw [lb_cons, hl]; rfl
      have hfa : foundAt (f :: l) n = eqS f.f0 n := by simp [foundAt, hlb, nameAt]
      rw [hfa, hlb]
      rcases he : eqS f.f0 n with _ | _
      · simp only [Bool.false_eq_true, if_false, fnd, List.find?_cons, he]
        symm
        rw [List.find?_eq_none]
        intro g hg
        have h1 := ltS_of hl he
        have h2 := ltS_trans h1 (hs.1 g hg)
        rw [eqS_comm, ltS_ne h2]
        simp
      · simp [fnd, List.find?_cons, he]
    · have hlb : lb (f :: l) n = lb l n + 1 := by rw [lb_cons, hl]; rfl
      have hfa : foundAt (f :: l) n = foundAt l n := by simp [foundAt, hlb, nameAt]
      rw [hfa, hlb]
      have he := ltS_ne hl
      simp only [fnd, List.find?_cons, he]
      simpa [fnd] using ih
theorem foundAt_fnd {l : List S41} (n : ByteArray) (h : Srt l) : foundAt l n = (fnd l n).isSome := by
  rw [← look_fnd l n h]
  split <;> simp_all
theorem getD_fnd {l : List S41} {n : ByteArray} (h : Srt l) (hf : foundAt l n = true) : fnd l n = some (l.getD (lb l n) z41) := by
  rw [← look_fnd l n h, if_pos hf]
theorem take_lb (n : ByteArray) : ∀ (l : List S41), ∀ f ∈ l.take (lb l n), ltS f.f0 n = true
  | [], f, hf => by simp at hf
  | g :: l, f, hf => by
    rw [lb_cons] at hf
    split at hf
    · rename_i hg
      rw [List.take_succ_cons] at hf
      rcases List.mem_cons.1 hf with rfl | hf
      · exact hg
      · exact take_lb n l f hf
    · simp at hf
theorem drop_lb {l : List S41} (n : ByteArray) (h : Srt l) : ∀ f ∈ l.drop (lb l n), ltS f.f0 n = false := by
  induction l with
  | nil => intro f hf; simp at hf
  | cons g l ih =>
    have hs := List.pairwise_cons.1 h
    intro f hf
    rw [lb_cons] at hf
    split at hf
    · rw [List.drop_succ_cons] at hf
      exact ih hs.2 f hf
    · rename_i hg
      have hg' : ltS g.f0 n = false := by simpa using hg
      rw [List.drop_zero] at hf
      rcases List.mem_cons.1 hf with rfl | hf
      · exact hg'
      · rw [Bool.eq_false_iff]
        intro h2
        have := ltS_trans (hs.1 f hf) h2
        rw [hg'] at this
        cases this
/-- behind the place of a name that is found: greater ones alone -/
theorem drop_found {l : List S41} {n : ByteArray} (h : Srt l) (hf : foundAt l n = true) : ∀ f ∈ l.drop (lb l n + 1), ltS n f.f0 = true := by
  intro f hm
  have hlt := found_lt hf
  have he : eqS (nameAt l (lb l n)) n = true := by
    unfold foundAt at hf
    simpa [hlt] using hf
  have hn := (eqS_iff _ _).1 he
  have hd : l.drop (lb l n) = l.getD (lb l n) z41 :: l.drop (lb l n + 1) := by
    rw [List.getD_eq_getElem?_getD, List.getElem?_eq_getElem hlt]
    exact List.drop_eq_getElem_cons hlt
  have hp : Srt (l.drop (lb l n)) := List.Pairwise.sublist (List.drop_sublist _ _) h
  rw [hd] at hp
  have := (List.pairwise_cons.1 hp).1 f hm
  rw [← hn]
  exact this
/-- behind the place of a name that is not found: greater ones alone -/
theorem drop_new {l : List S41} {n : ByteArray} (h : Srt l) (hf : foundAt l n = false) : ∀ f ∈ l.drop (lb l n), ltS n f.f0 = true := by
  intro f hm
  have h1 := drop_lb n h f hm
  refine ltS_of h1 ?_
  rw [Bool.eq_false_iff]
  intro he
  have hm' := List.mem_of_mem_drop hm
  have : (fnd l n).isSome = true := by
    unfold fnd
    rw [List.find?_isSome]
    exact ⟨f, hm', he⟩
  rw [← foundAt_fnd n h, hf] at this
  cases this
theorem fnd_mid (a b : List S41) (f : S41) (n : ByteArray) : fnd (a ++ [f] ++ b) n = ((fnd a n).or (if eqS f.f0 n = true then some f else none)).or (fnd b n) := by
  unfold fnd
  rw [List.find?_append, List.find?_append]
  congr 2
  rw [List.find?_cons]
  split <;> simp_all
theorem fnd_none {l : List S41} {n : ByteArray} (h : ∀ f ∈ l, eqS f.f0 n = false) : fnd l n = none := by
  unfold fnd
  rw [List.find?_eq_none]
  intro f hf
  rw [h f hf]
  simp
theorem fnd_split (l : List S41) (i : Nat) (n : ByteArray) : fnd l n = (fnd (l.take i) n).or (fnd (l.drop i) n) := by
  have : l = l.take i ++ l.drop i := (List.take_append_drop i l).symm
  rw [this]
  unfold fnd
  rw [List.find?_append, List.take_append_drop]
end Go.Proofs.Ytebngchdmpabhaa.Disk
