/- Words of the hand walks of seat 13: a struct stored into its box; which blocks a row may lie in. No condition. -/
import Derived.Test.YtkbemagcoojmmaaPq1Q1
import Derived.Lib.Hide
namespace Go.Proofs.Ytkbemagcoojmmaa.Val
open Go.RowKit Go.Proofs.Ytkbemagcoojmmaa.G Go.Proofs.Ytkbemagcoojmmaa.Lx Go.Proofs.YtkbemagcoojmmaaW.PrintWords Go.Proofs.YtkbemagcoojmmaaW.PrintLast Go.Proofs.YtkbemagcoojmmaaW.PrintMore
set_option linter.unusedVariables false
def setAll (W : World) (g : Nat) : Nat → List Value → World
  | _, [] => W
  | i, v :: vs => setAll (W.setCell ⟨g, i, none⟩ v) g (i + 1) vs
theorem setAll_blk {g t : Nat} : ∀ (vs pre old : List Value) (i : Nat) (W : World), W.heap[g]? = some (.cells (pre ++ old).toArray t (0, 0)) → old.length = vs.length → pre.length = i → (setAll W g i vs).heap[g]? = some (.cells (pre ++ vs).toArray t (0, 0))
  | [], pre, old, i, W, h, ho, _ => by
    have : old = [] := List.length_eq_zero_iff.1 ho
    subst this
    exact h
  | v :: vs, pre, [], i, W, h, ho, _ => by simp at ho
  | v :: vs, pre, u :: old, i, W, h, ho, hp => by
    have h1 := blk_set h i v
    have e : (pre ++ u :: old).toArray.setIfInBounds i v = ((pre ++ [v]) ++ old).toArray := by
      subst hp
      apply Array.ext'
      simp [List.set_append]
    rw [e] at h1
    have h2 := setAll_blk vs (pre ++ [v]) old (i + 1) (W.setCell ⟨g, i, none⟩ v) h1 (by simpa using ho) (by simp [hp])
    rw [List.append_assoc] at h2
    exact h2
theorem setAll_box {g t : Nat} {W : World} {cs : List Value} (vs : List Value) (h : W.heap[g]? = some (.cells cs.toArray t (0, 0))) (hl : cs.length = vs.length) : (setAll W g 0 vs).heap[g]? = some (.cells vs.toArray t (0, 0)) := setAll_blk vs [] cs 0 W h hl rfl
theorem setAll_kept {g : Nat} : ∀ (vs : List Value) (i : Nat) (W : World), Kept W (setAll W g i vs) (fun k => k = g)
  | [], _, W => Kept.refl W _
  | v :: vs, i, W => ((Kept.refl W (fun k => k = g)).setCell (p := ⟨g, i, none⟩) (.inl rfl) v).then_ (setAll_kept vs (i + 1) (W.setCell ⟨g, i, none⟩ v)) (fun k hk => .inl hk)
theorem setAll_below {g : Nat} {w : World} (hg : w.heap.size ≤ g) : ∀ (vs : List Value) (i : Nat) (W : World), Below w.heap.size w W → Below w.heap.size w (setAll W g i vs)
  | [], _, W, h => h
  | v :: vs, i, W, h => setAll_below hg vs (i + 1) (W.setCell ⟨g, i, none⟩ v) (below_set h hg)
def Off (n : Nat) (gs : List Nat) (k : Nat) : Prop := n ≤ k ∧ k ∉ gs
theorem Off.ne {n k g : Nat} {gs : List Nat} (h : Off n gs k) (hg : g ∈ gs) : ¬ k = g := fun e => h.2 (e ▸ hg)
end Go.Proofs.Ytkbemagcoojmmaa.Val
