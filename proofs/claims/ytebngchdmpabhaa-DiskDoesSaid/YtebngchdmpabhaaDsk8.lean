/- Package disk: Do. No condition but the bound on a slice's length. -/
import Derived.Test.YtebngchdmpabhaaDsk7
import Derived.WideMake
import Derived.Carry
namespace Go.Proofs.Ytebngchdmpabhaa.Disk
open Go.RowKit Go.Proofs.Ytebngchdmpabhaa.G Go.Proofs.YtebngchdmpabhaaW.PrintWords Go.Proofs.YtebngchdmpabhaaW.PrintLast Go.Proofs.YtebngchdmpabhaaW.PrintMore Go.Proofs.YtebngchdmpabhaaW.Raw
set_option linter.unusedVariables false
set_option linter.unusedSimpArgs false
theorem put_step (w : World) (m clock : Nat) (es : Array MapEntry) (k : Int) (v : Value) (hb : w.heap[m]? = some (.map es clock)) (hf : Instr.findNow (.int .u8) (.int .u8 k) es.toList 0 = some none) :
    ∃ w1, (Instr.mapUpdate 53 (.map (some m)) (.int .u8 k) v).run Try.prog w = .ok () w1 ∧ w1.heap[m]? = some (.map (es.push { key := .int .u8 k, val := v, born := clock }) (clock + 1)) ∧ Below m w w1 := by
  have hk : Try.prog.underlying 25 = some (.int .u8) := Try.underlying25
  have hc : (Instr.checkKey false 10000 25 (.int .u8 k)).run Try.prog w = .ok () w := MapKept.run_checkKey (k := .int .u8 k) hk (by simp [MapKept.IsKey]) false 9999
  have hs := MapKept.heap_set (o' := .map (es.push { key := .int .u8 k, val := v, born := clock }) (clock + 1)) hb
  refine ⟨{ w with heap := w.heap.setIfInBounds m (.map (es.push { key := .int .u8 k, val := v, born := clock }) (clock + 1)) }, ?_, hs.1, rfl, rfl, rfl, by simp, fun j hj => hs.2 j (by omega)⟩
  simp [Instr.mapUpdate, run_underlying Try.underlying53, MapKept.run_getObj_map hb, hc, MapKept.run_findKey hk hf, MapKept.run_setObj_map _ hb, Result.andThen]
theorem run_get (w : World) (m clock : Nat) (es : Array MapEntry) (k : Int) (hb : w.heap[m]? = some (.map es clock)) (hne : es.isEmpty = false) (a : Option (Nat × Value)) (hf : Instr.findNow (.int .u8) (.int .u8 k) es.toList 0 = some a) :
    (Instr.lookup 53 (.map (some m)) (.int .u8 k) false).run Try.prog w = .ok ((a.map (·.2)).getD .nilFunc) w := by
  have hk : Try.prog.underlying 25 = some (.int .u8) := Try.underlying25
  have hc : (Instr.checkKey false 10000 25 (.int .u8 k)).run Try.prog w = .ok () w := MapKept.run_checkKey (k := .int .u8 k) hk (by simp [MapKept.IsKey]) false 9999
  have hz : (zeroValue 52).run Try.prog w = .ok .nilFunc w := by kernel_rfl
  rcases a with _ | ⟨i, x⟩ <;> simp [Instr.lookup, run_underlying Try.underlying53, MapKept.run_getObj_map hb, hne, hc, MapKept.run_findKey hk hf, hz, Result.andThen]
def callOf (p : Value) (k : Int) : Value := if k = 1 then .func (.func 23) #[p] #[] else if k = 2 then .func (.func 24) #[p] #[] else if k = 3 then .func (.func 25) #[p] #[] else if k = 4 then .func (.func 26) #[p] #[] else .nilFunc
theorem put4 (w : World) (p : Value) : ∃ w1 w2 w3 w4,
    (Instr.mapUpdate 53 (.map (some w.heap.size)) (.int .u8 1) (.func (.func 23) #[p] #[])).run Try.prog (w.alloc (.map #[] 0)) = .ok () w1 ∧
    (Instr.mapUpdate 53 (.map (some w.heap.size)) (.int .u8 2) (.func (.func 24) #[p] #[])).run Try.prog w1 = .ok () w2 ∧
    (Instr.mapUpdate 53 (.map (some w.heap.size)) (.int .u8 3) (.func (.func 25) #[p] #[])).run Try.prog w2 = .ok () w3 ∧
    (Instr.mapUpdate 53 (.map (some w.heap.size)) (.int .u8 4) (.func (.func 26) #[p] #[])).run Try.prog w3 = .ok () w4 ∧
    (∀ k, (Instr.lookup 53 (.map (some w.heap.size)) (.int .u8 k) false).run Try.prog w4 = .ok (callOf p k) w4) ∧ Below w.heap.size w w4 := by
  have h0 := (MapKept.heap_alloc w (.map #[] 0)).1
  have b0 : Below w.heap.size w (w.alloc (.map #[] 0)) := (Below.refl _ _).alloc (Nat.le_refl _) _
  obtain ⟨w1, e1, h1, b1⟩ := put_step _ _ 0 #[] 1 (.func (.func 23) #[p] #[]) h0 rfl
  obtain ⟨w2, e2, h2, b2⟩ := put_step _ _ 1 _ 2 (.func (.func 24) #[p] #[]) h1 rfl
  obtain ⟨w3, e3, h3, b3⟩ := put_step _ _ 2 _ 3 (.func (.func 25) #[p] #[]) h2 rfl
  obtain ⟨w4, e4, h4, b4⟩ := put_step _ _ 3 _ 4 (.func (.func 26) #[p] #[]) h3 rfl
  refine ⟨w1, w2, w3, w4, e1, e2, e3, e4, fun k => ?_, ((b0.trans b1).trans b2).trans (b3.trans b4)⟩
  have hm : ∀ a, Instr.findNow (.int .u8) (.int .u8 k) _ 0 = some a → _ = _ := fun a => run_get w4 _ 4 _ k h4 rfl a
  by_cases k1 : k = 1
  · subst k1; exact hm (some (0, .func (.func 23) #[p] #[])) rfl
  by_cases k2 : k = 2
  · subst k2; exact hm (some (1, .func (.func 24) #[p] #[])) rfl
  by_cases k3 : k = 3
  · subst k3; exact hm (some (2, .func (.func 25) #[p] #[])) rfl
  by_cases k4 : k = 4
  · subst k4; exact hm (some (3, .func (.func 26) #[p] #[])) rfl
  refine (hm none ?_).trans ?_
  · have q1 : (k == 1) = false := by simpa using k1
    have q2 : (k == 2) = false := by simpa using k2
    have q3 : (k == 3) = false := by simpa using k3
    have q4 : (k == 4) = false := by simpa using k4
    simp [Instr.findNow, Instr.sameNow, q1, q2, q3, q4]
  · simp [callOf, k1, k2, k3, k4]
/-- what a step asked of a file comes to -/
def whyF (files : List S41) (kind : Int) (name dst data : ByteArray) : Int :=
  if kind = 1 then putN files name data else if kind = 3 then knownN (foundAt files name && !emptyS dst) else knownN (foundAt files name)
/-- the files behind it, whether the power is there -/
def doneF (files : List S41) (kind : Int) (name dst data : ByteArray) (power : Bool) : List S41 :=
  if kind = 1 then putF files name data else if kind = 2 then (if (foundAt files name && power) = true then syncF files name else files)
  else if kind = 3 then (if (foundAt files name && power && !emptyS dst) = true then moveF files name dst else files)
  else (if (foundAt files name && power) = true then dropF files name else files)
/-- a disk and why: what Do answers -/
structure Ans where
  files : List S41
  down : Bool
  fuse : Int
  why : Int
def doA (files : List S41) (down : Bool) (fuse kind : Int) (name dst data : ByteArray) : Ans :=
  if ok files = false then ⟨[], false, 0, 6⟩
  else if kind < 1 ∨ 4 < kind then ⟨files, down, fuse, 5⟩
  else if down = true then ⟨files, true, fuse, 12⟩
  else if whyF files kind name dst data ≠ 0 then ⟨doneF files kind name dst data (fuse != 0), false, fuse, whyF files kind name dst data⟩
  else if fuse = 0 then ⟨doneF files kind name dst data (fuse != 0), true, fuse, 12⟩
  else ⟨doneF files kind name dst data (fuse != 0), false, if 0 < fuse then fuse - 1 else fuse, 0⟩
theorem doA_live {files : List S41} {fuse kind : Int} {name dst data : ByteArray} (h : ok files = true) (h1 : 1 ≤ kind) (h4 : kind ≤ 4) : doA files false fuse kind name dst data =
    (if whyF files kind name dst data ≠ 0 then ⟨doneF files kind name dst data (fuse != 0), false, fuse, whyF files kind name dst data⟩
      else if fuse = 0 then ⟨doneF files kind name dst data (fuse != 0), true, fuse, 12⟩
      else ⟨doneF files kind name dst data (fuse != 0), false, if 0 < fuse then fuse - 1 else fuse, 0⟩) := by
  unfold doA
  rw [if_neg (by rw [h]; simp), if_neg (by omega), if_neg (by simp)]
theorem okFiles_rises : ∀ (l : List S41) (last : ByteArray) (room : Int), okFiles last room l = true → (∀ j, j < l.length → ltS last (nameAt l j) = true) ∧ Rises l ∧ (total l : Int) ≤ max room 0
  | [], last, room, _ => ⟨fun j hj => by simp at hj, fun i j _ hj => by simp at hj, by simp [total]; omega⟩
  | f :: l, last, room, h => by
    simp only [okFiles, okFile, Bool.and_eq_true, decide_eq_true_eq] at h
    obtain ⟨⟨⟨⟨h1, h2⟩, h3⟩, h4⟩, h5⟩ := h
    obtain ⟨p, q, r⟩ := okFiles_rises l f.f0 (room - f.f1.size) h5
    refine ⟨fun j hj => ?_, fun i j hij hj => ?_, ?_⟩
    · cases j with
      | zero => exact h1
      | succ j => exact ltS_trans h1 (p j (by simpa using hj))
    · cases j with
      | zero => omega
      | succ j =>
        cases i with
        | zero => exact p j (by simpa using hj)
        | succ i => exact q i j (by omega) (by simpa using hj)
    · have : total (f :: l) = f.f1.size + total l := rfl
      rw [this]; omega
theorem ok_rises {l : List S41} (h : ok l = true) : Rises l := (okFiles_rises l _ _ h).2.1
theorem ok_total {l : List S41} (h : ok l = true) : total l ≤ 1048576 := by
  have := (okFiles_rises l _ _ h).2.2
  omega
end Go.Proofs.Ytebngchdmpabhaa.Disk
