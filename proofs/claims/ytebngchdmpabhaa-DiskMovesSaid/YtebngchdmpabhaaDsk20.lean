/- Package disk: plain laws: what is found behind a move, and behind a crash of it. No condition. -/
import Derived.Test.YtebngchdmpabhaaDsk18
namespace Go.Proofs.Ytebngchdmpabhaa.Disk
open Go.RowKit Go.Proofs.Ytebngchdmpabhaa.G Go.Proofs.YtebngchdmpabhaaW.PrintWords Go.Proofs.YtebngchdmpabhaaW.PrintLast Go.Proofs.YtebngchdmpabhaaW.PrintMore Go.Proofs.YtebngchdmpabhaaW.Raw
set_option linter.unusedVariables false
set_option linter.unusedSimpArgs false
theorem fnd_map (keep : Int) (l : List S41) (m : ByteArray) : fnd (l.map (crashF keep)) m = (fnd l m).map (crashF keep) := by
  unfold fnd
  rw [List.find?_map]
  rfl
theorem moves_kept {l : List S41} {down : Bool} {fuse n : Int} {src dst : ByteArray} (ho : ok l = true) (hn : n ≠ 0) (he : doA l down fuse 3 src dst ⟨#[]⟩ = ⟨l, down, fuse, n⟩) :
    readN l down src ≠ 0 ∨ emptyS dst = true ∨ down = true := by
  rcases down with _ | _
  · by_cases hw : whyF l 3 src dst ⟨#[]⟩ = 0
    · exfalso
      rw [doA_live ho (by decide) (by decide), if_neg (by simp [hw])] at he
      split at he
      · injection he with _ h2; cases h2
      · injection he with _ _ _ h4; exact hn h4.symm
    · rcases hd : emptyS dst with _ | _
      · left
        have hf : foundAt l src = false := by
          rw [Bool.eq_false_iff]
          intro hf
          apply hw
          show knownN (foundAt l src && !emptyS dst) = 0
          rw [hf, hd]; rfl
        unfold readN
        rw [if_neg (by simp [ho]), if_neg (by simp), hf]
        decide
      · exact .inr (.inl rfl)
  · exact .inr (.inr rfl)
theorem moves_done {l : List S41} {src dst : ByteArray} (keep : Int) (ho : ok l = true) (hw : whyF l 3 src dst ⟨#[]⟩ = 0) :
    readN l false src = 0 ∧ readN (doneF l 3 src dst ⟨#[]⟩ true) false dst = 0 ∧ readS (doneF l 3 src dst ⟨#[]⟩ true) false dst = readS l false src ∧
    (readN (doneF l 3 src dst ⟨#[]⟩ true) false src == 0) = eqS src dst ∧
    readN (l.map (crashF keep)) false src = 0 ∧ readN ((doneF l 3 src dst ⟨#[]⟩ true).map (crashF keep)) false dst = 0 ∧
    readS ((doneF l 3 src dst ⟨#[]⟩ true).map (crashF keep)) false dst = readS (l.map (crashF keep)) false src := by
  obtain ⟨hf, hde, _, m, a, b, he, hp, hq, hok⟩ := done_move (power := true) ho hw
  have hs := ((ok_iff l).1 ho).2.1
  have hx := getD_fnd hs hf
  obtain ⟨x, hx'⟩ : ∃ x, x = l.getD (lb l src) z41 := ⟨_, rfl⟩
  rw [← hx'] at hx he hok
  have hfd : ∀ k, fnd (doneF l 3 src dst ⟨#[]⟩ true) k = if eqS dst k = true then some ⟨dst, x.f1, x.f2⟩ else if eqS src k = true then none else fnd l k := by
    intro k
    rw [he, Parts.fnd_m (f := ⟨dst, x.f1, x.f2⟩) hp, hq]
  have hokF : ok (doneF l 3 src dst ⟨#[]⟩ true) = true := by rw [he]; exact hok
  have hdd : fnd (doneF l 3 src dst ⟨#[]⟩ true) dst = some ⟨dst, x.f1, x.f2⟩ := by rw [hfd, if_pos ((eqS_iff _ _).2 rfl)]
  obtain ⟨r1, r2⟩ := read_fnd src ho
  obtain ⟨r3, r4⟩ := read_fnd dst hokF
  obtain ⟨r5, r6⟩ := read_fnd src hokF
  obtain ⟨r7, r8⟩ := read_fnd src (crash_ok_all keep ho)
  obtain ⟨r9, r10⟩ := read_fnd dst (crash_ok_all keep hokF)
  rw [fnd_map] at r7 r8 r9 r10
  rw [hx] at r1 r2 r7 r8
  rw [hdd] at r3 r4 r9 r10
  refine ⟨r2, r4, by rw [r3, r1]; rfl, ?_, r8, r10, by rw [r9, r7]; rfl⟩
  rw [r6, hfd, eqS_comm src dst]
  rcases hq2 : eqS dst src with _ | _
  · simp only [Bool.false_eq_true, if_false]
    rw [if_pos ((eqS_iff _ _).2 rfl)]
    rfl
  · rfl
end Go.Proofs.Ytebngchdmpabhaa.Disk
