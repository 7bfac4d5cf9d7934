/- Package disk: DiskRefused answers true, whatever a disk, a step and another name are. No condition but the bounds on a slice's and a string's length. -/
import Derived.Test.YtebngchdmpabhaaDsk14
import Derived.Test.YtebngchdmpabhaaDsk16
namespace Go.Proofs.Ytebngchdmpabhaa.Disk
open Go.RowKit Go.Proofs.Ytebngchdmpabhaa.G Go.Proofs.YtebngchdmpabhaaW.PrintWords Go.Proofs.YtebngchdmpabhaaW.PrintLast Go.Proofs.YtebngchdmpabhaaW.PrintMore Go.Proofs.YtebngchdmpabhaaW.Raw
set_option linter.unusedVariables false
set_option linter.unusedSimpArgs false
theorem doA_cases {l : List S41} {down : Bool} {fuse kind : Int} {name dst data : ByteArray} (ho : ok l = true) :
    (∃ n, n ≠ 0 ∧ (n ≠ 12 ∨ down = true) ∧ doA l down fuse kind name dst data = ⟨l, down, fuse, n⟩) ∨
    (down = false ∧ 1 ≤ kind ∧ kind ≤ 4 ∧ whyF l kind name dst data = 0 ∧ fuse = 0 ∧ doA l down fuse kind name dst data = ⟨doneF l kind name dst data false, true, fuse, 12⟩) ∨
    (down = false ∧ 1 ≤ kind ∧ kind ≤ 4 ∧ whyF l kind name dst data = 0 ∧ fuse ≠ 0 ∧ doA l down fuse kind name dst data = ⟨doneF l kind name dst data true, false, if 0 < fuse then fuse - 1 else fuse, 0⟩) := by
  have ho' : ¬ ok l = false := by rw [ho]; simp
  by_cases hk : kind < 1 ∨ 4 < kind
  · exact .inl ⟨5, by decide, .inl (by decide), (if_neg ho').trans (if_pos hk)⟩
  · rcases down with _ | _
    · have h1 : 1 ≤ kind := by omega
      have h4 : kind ≤ 4 := by omega
      by_cases hw : whyF l kind name dst data = 0
      · by_cases hf : fuse = 0
        · refine .inr (.inl ⟨rfl, h1, h4, hw, hf, ?_⟩)
          rw [doA_live ho h1 h4, if_neg (by simp [hw]), if_pos hf, hf]; rfl
        · refine .inr (.inr ⟨rfl, h1, h4, hw, hf, ?_⟩)
          have hp : (fuse != 0) = true := by simpa using hf
          rw [doA_live ho h1 h4, if_neg (by simp [hw]), if_neg hf, hp]
      · refine .inl ⟨whyF l kind name dst data, hw, .inl ?_, ?_⟩
        · unfold whyF putN knownN
          split
          · split
            · decide
            · split <;> decide
          · split <;> (split <;> decide)
        · rw [doA_live ho h1 h4, if_pos hw, done_refused _ h1 h4 hw]
    · exact .inl ⟨12, by decide, .inr rfl, (if_neg ho').trans ((if_neg hk).trans (if_pos rfl))⟩
theorem doA_ok {l : List S41} (down : Bool) (fuse kind : Int) (name dst data : ByteArray) (ho : ok l = true) : ok (doA l down fuse kind name dst data).files = true := by
  rcases doA_cases (down := down) (fuse := fuse) (kind := kind) (name := name) (dst := dst) (data := data) ho with ⟨n, _, _, he⟩ | ⟨_, h1, h4, _, _, he⟩ | ⟨_, h1, h4, _, _, he⟩ <;> rw [he]
  · exact ho
  · exact ok_done false ho h1 h4
  · exact ok_done true ho h1 h4
theorem read_fnd {l : List S41} (m : ByteArray) (ho : ok l = true) : readS l false m = ((fnd l m).map (·.f1)).getD ⟨#[]⟩ ∧ readN l false m = knownN (fnd l m).isSome := by
  have hs := ((ok_iff l).1 ho).2.1
  have hf := foundAt_fnd m hs
  constructor
  · unfold readS
    rcases hq : foundAt l m with _ | _
    · rw [hq] at hf
      have : fnd l m = none := by simpa using hf.symm
      simp [ho, this]
    · rw [getD_fnd hs hq]
      simp [ho]
  · unfold readN
    rw [if_neg (by simp [ho]), if_neg (by simp), hf]
theorem refused_other {l : List S41} {down : Bool} {fuse kind : Int} {name dst data : ByteArray} (ho : ok l = true) (hd : down = false) (hn : (doA l down fuse kind name dst data).down = false) (m : ByteArray) (hm : eqS m name = false) (h3 : kind = 3 → eqS m dst = false) :
    readS (doA l down fuse kind name dst data).files false m = readS l false m ∧ readN (doA l down fuse kind name dst data).files false m = readN l false m := by
  have hk := doA_ok down fuse kind name dst data ho
  obtain ⟨e1, e2⟩ := read_fnd m hk
  obtain ⟨e3, e4⟩ := read_fnd m ho
  rw [e1, e2, e3, e4]
  have : fnd (doA l down fuse kind name dst data).files m = fnd l m := by
    rcases doA_cases (down := down) (fuse := fuse) (kind := kind) (name := name) (dst := dst) (data := data) ho with ⟨n, _, _, he⟩ | ⟨_, h1, h4, _, _, he⟩ | ⟨_, h1, h4, _, _, he⟩
    · rw [he]
    · rw [he] at hn; cases hn
    · rw [he]
      exact fnd_done true ho h1 h4 m (by rw [eqS_comm]; exact hm) (fun h => by rw [eqS_comm]; exact h3 h)
  rw [this]
  exact ⟨rfl, rfl⟩
theorem doneF_len {l : List S41} (kind : Int) (name dst data : ByteArray) (power : Bool) : (doneF l kind name dst data power).length ≤ l.length + 1 := by
  have lay : ∀ (l : List S41) (f : S41), (layF l f).length ≤ l.length + 1 := by
    intro l f
    unfold layF
    split
    · rw [List.length_set]; omega
    · simp only [List.length_append, List.length_take, List.length_drop, List.length_cons, List.length_nil]; omega
  have drp : ∀ (l : List S41) (n : ByteArray), (dropF l n).length ≤ l.length := by
    intro l n
    unfold dropF
    simp only [List.length_append, List.length_take, List.length_drop]; omega
  unfold doneF
  split
  · unfold putF; split
    · exact lay _ _
    · omega
  · split
    · split
      · unfold syncF; rw [List.length_set]; omega
      · omega
    · split
      · split
        · unfold moveF
          have h1 := lay (dropF l name) ⟨dst, (l.getD (lb l name) z41).f1, (l.getD (lb l name) z41).f2⟩
          have h2 := drp l name
          omega
        · omega
      · split
        · have := drp l name; omega
        · omega
theorem doA_len (l : List S41) (down : Bool) (fuse kind : Int) (name dst data : ByteArray) : (doA l down fuse kind name dst data).files.length ≤ l.length + 1 := by
  unfold doA
  split
  · simp
  · split
    · simp
    · split
      · simp
      · split
        · exact doneF_len ..
        · split
          · exact doneF_len ..
          · exact doneF_len ..
end Go.Proofs.Ytebngchdmpabhaa.Disk
