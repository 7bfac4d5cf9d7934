/- A world in which only the numbers of values (type 38) that stood in blocks of their own have been written: what leads there stands as it was. For PlaceOwn. No condition. -/
import Derived.Test.YtfgmgcnbponknaaDoorAc3
namespace Go.Proofs.YtfgmgcnbponknaaDoor.Val
open Go.RowKit Go.Proofs.YtfgmgcnbponknaaDoor.G Go.Proofs.YtfgmgcnbponknaaDoor.Lx Go.Proofs.YtfgmgcnbponknaaDoor.Opn Go.Proofs.YtfgmgcnbponknaaDoorW.PrintWords Go.Proofs.YtfgmgcnbponknaaDoorW.PrintLast Go.Proofs.YtfgmgcnbponknaaDoorW.PrintMore
set_option linter.unusedVariables false
set_option linter.unusedSimpArgs false
def Nud (W w : World) : Prop := (∀ (k : Nat) (cs : Array Value) (q : Nat), q ≠ 38 → W.heap[k]? = some (.cells cs q (0, 0)) → w.heap[k]? = some (.cells cs q (0, 0))) ∧ ∀ (k : Nat) (cs : Array Value), W.heap[k]? = some (.cells cs 38 (0, 0)) → ∃ cs' : Array Value, w.heap[k]? = some (.cells cs' 38 (0, 0)) ∧ ∀ (j : Nat) (n : Int), cs[j * 4 + 2]? = some (.int .i64 n) → ∃ n', cs'[j * 4 + 2]? = some (.int .i64 n')
theorem nud_refl (W : World) : Nud W W := ⟨fun _ _ _ _ h => h, fun k cs h => ⟨cs, h, fun j n h => ⟨n, h⟩⟩⟩
theorem nud_put {W w : World} {g : Nat} {cs0 : Array Value} (h : Nud W w) (hg : w.heap[g]? = some (.cells cs0 38 (0, 0))) (i : Nat) (x : Int) : Nud W (w.setCell ⟨g, i * 4 + 2, none⟩ (.int .i64 x)) := by
  refine ⟨fun k cs q hq hk => ?_, fun k cs hk => ?_⟩
  · have h1 := h.1 k cs q hq hk
    refine blk_far h1 (fun e => ?_) _
    have e : k = g := e
    subst e
    rw [hg] at h1
    cases h1
    exact hq rfl
  · obtain ⟨cs', h1, h2⟩ := h.2 k cs hk
    by_cases e : k = g
    · subst e
      refine ⟨_, blk_set h1 _ _, fun j n hj => ?_⟩
      obtain ⟨n', h3⟩ := h2 j n hj
      by_cases ej : i * 4 + 2 = j * 4 + 2
      · refine ⟨x, ?_⟩
        rw [ej, Array.getElem?_setIfInBounds_self_of_lt]
        exact (Array.getElem?_eq_some_iff.1 h3).1
      · exact ⟨n', by rw [Array.getElem?_setIfInBounds_ne ej]; exact h3⟩
    · exact ⟨cs', blk_far h1 e _, h2⟩
section
variable {W w : World} {base g n cap i e' : Nat} {ok : Nat → Prop}
theorem nud_elem {β : Type} {d' : Kd β} {e : Nat} {xs : List (List β)} (h : Kd.R (Kd.slice e' d') e W base ok (.slice (some ⟨g, 0, none⟩) n cap) xs) (he : e ≠ 38) (hN : Nud W w) (hi : i < n) :
    ∃ (v' : Value) (ok' : Nat → Prop), w.cell? ⟨g, i, none⟩ = some v' ∧ Kd.R d' e' W base ok' v' (xs.getD i []) := by
  obtain ⟨c, hcl, hM, hcc, hfr⟩ := Kd.R_elem h ([] : List β) (i : Int) (by omega) (by omega)
  obtain ⟨v', rfl, hR⟩ := hM
  have h0 := hcc 0 v' rfl
  rw [Int.toNat_natCast, show (Kd.slice e' d').sz = 1 from rfl, Nat.mul_one, Nat.add_zero] at h0
  rw [Int.toNat_natCast] at hR
  obtain ⟨cs, hk⟩ := Kd.R_typed h g rfl
  refine ⟨v', _, ?_, hR⟩
  rw [blk_cell (hN.1 g cs e he hk) i, ← blk_cell hk i]
  exact h0
theorem nud_val {xs : List S38} (h : Kd.R k38 38 W base ok (.slice (some ⟨g, 0, none⟩) n cap) xs) (hN : Nud W w) (hi : i < n) :
    ∃ (x : Int) (cs' : Array Value), w.heap[g]? = some (.cells cs' 38 (0, 0)) ∧ w.cell? ⟨g, i * 4 + 2, none⟩ = some (.int .i64 x) ∧ w.frozen? ⟨g, i * 4 + 2, none⟩ = false := by
  obtain ⟨c, hcl, hM, hcc, hfr⟩ := Kd.R_elem h z38 (i : Int) (by omega) (by omega)
  obtain rfl := k38_openM hM
  have h2 := hcc 2 _ rfl
  rw [Int.toNat_natCast, show k38.sz = 4 from rfl] at h2
  obtain ⟨cs, hk⟩ := Kd.R_typed h g rfl
  rw [blk_cell hk (i * 4 + 2)] at h2
  obtain ⟨cs', h3, h4⟩ := hN.2 g cs hk
  obtain ⟨x, h5⟩ := h4 i _ h2
  exact ⟨x, cs', h3, (blk_cell h3 _).trans h5, blk_frozen h3 _⟩
end
end Go.Proofs.YtfgmgcnbponknaaDoor.Val
