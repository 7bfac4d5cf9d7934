/- An element put into a row of one's own, whose elements lead to what is only read. No condition. -/
import Derived.Test.YtkbemagcoojmmaaTlQ1
namespace Go.Proofs.Ytkbemagcoojmmaa.Val
open Go.RowKit Go.Proofs.Ytkbemagcoojmmaa.G Go.Proofs.Ytkbemagcoojmmaa.Lx Go.Proofs.YtkbemagcoojmmaaW.PrintWords Go.Proofs.YtkbemagcoojmmaaW.PrintLast Go.Proofs.YtkbemagcoojmmaaW.PrintMore
set_option linter.unusedVariables false
def Uni (sz : Nat) (rows : List (List Value)) : Prop := ∀ r ∈ rows, r.length = sz ∧ ∀ u ∈ r, u.oneCell' = true
theorem reps_flat {sz : Nat} {M : List Value → List Value → Prop} (hM : ∀ x c, M x c → c = x ∧ c.length = sz ∧ ∀ u ∈ c, u.oneCell' = true) : ∀ (rows : List (List Value)) (inner : List Value), Reps M sz rows inner → inner = rows.flatten ∧ Uni sz rows
  | [], inner, h => by
    have h0 := h.1
    simp at h0
    exact ⟨by simp [h0], fun r hr => by cases hr⟩
  | r :: t, inner, h => by
    have h0 := hM _ _ (h.2 0 r rfl)
    rw [Nat.zero_mul, List.drop_zero] at h0
    have ht : Reps M sz t (inner.drop sz) := by
      refine ⟨?_, fun j p hj => ?_⟩
      · rw [List.length_drop, h.1, List.length_cons, Nat.add_mul, Nat.one_mul, Nat.add_sub_cancel]
      · have := h.2 (j + 1) p (by simpa using hj)
        rw [List.drop_drop]
        rwa [show (j + 1) * sz = sz + j * sz by rw [Nat.add_mul, Nat.one_mul, Nat.add_comm]] at this
    obtain ⟨e1, e2⟩ := reps_flat hM t (inner.drop sz) ht
    refine ⟨?_, fun x hx => ?_⟩
    · rw [List.flatten_cons, ← e1, ← h0.1, List.take_append_drop]
    · rcases List.mem_cons.1 hx with rfl | hx
      · rw [h0.1] at h0; exact h0.2
      · exact e2 x hx
theorem flat_reps {sz : Nat} {M : List Value → List Value → Prop} (hM : ∀ c, c.length = sz → (∀ u ∈ c, u.oneCell' = true) → M c c) : ∀ (rows : List (List Value)), Uni sz rows → Reps M sz rows rows.flatten
  | [], _ => Reps.none _ _
  | r :: t, h => by
    have hr := h r List.mem_cons_self
    have ih := flat_reps hM t (fun x hx => h x (List.mem_cons_of_mem _ hx))
    refine ⟨?_, fun j p hj => ?_⟩
    · rw [List.flatten_cons, List.length_append, ih.1, hr.1, List.length_cons, Nat.add_mul, Nat.one_mul, Nat.add_comm]
    · cases j with
      | zero =>
        obtain rfl : r = p := by simpa using hj
        rw [Nat.zero_mul, List.drop_zero, List.flatten_cons, ← hr.1, List.take_left]
        exact hM r hr.1 hr.2
      | succ j =>
        have := ih.2 j p (by simpa using hj)
        rw [List.flatten_cons, show (j + 1) * sz = r.length + j * sz by rw [Nat.add_mul, Nat.one_mul, Nat.add_comm, hr.1], ← List.drop_drop, List.drop_left]
        exact this
theorem flat_take {sz : Nat} : ∀ (i : Nat) (rows : List (List Value)), Uni sz rows → rows.flatten.take (i * sz) = (rows.take i).flatten ∧ rows.flatten.drop (i * sz) = (rows.drop i).flatten
  | 0, rows, _ => by simp
  | i + 1, [], _ => by simp
  | i + 1, r :: t, h => by
    have hr := h r List.mem_cons_self
    obtain ⟨h1, h2⟩ := flat_take i t (fun x hx => h x (List.mem_cons_of_mem _ hx))
    have e : (i + 1) * sz = r.length + i * sz := by rw [Nat.add_mul, Nat.one_mul, Nat.add_comm, hr.1]
    rw [List.flatten_cons, e, List.take_length_add_append, List.drop_length_add_append, h1, h2, List.take_succ_cons, List.flatten_cons, List.drop_succ_cons]
    exact ⟨rfl, rfl⟩
theorem get_ins {α β : Type} (xs : List α) (rows : List β) (hl : rows.length = xs.length) (i : Nat) (hi : i ≤ xs.length) (x : α) (c : β) (j : Nat) (y : α) (b : β) (hy : (xs.take i ++ [x] ++ xs.drop i)[j]? = some y) (hb : (rows.take i ++ [c] ++ rows.drop i)[j]? = some b) : (∃ k : Nat, xs[k]? = some y ∧ rows[k]? = some b) ∨ (y = x ∧ b = c) := by
  rw [List.append_assoc] at hy hb
  by_cases h1 : j < i
  · rw [List.getElem?_append_left (by rw [List.length_take]; omega), List.getElem?_take, if_pos h1] at hy
    rw [List.getElem?_append_left (by rw [List.length_take]; omega), List.getElem?_take, if_pos h1] at hb
    exact .inl ⟨j, hy, hb⟩
  · rw [List.getElem?_append_right (by rw [List.length_take]; omega), List.length_take, Nat.min_eq_left hi] at hy
    rw [List.getElem?_append_right (by rw [List.length_take]; omega), List.length_take, Nat.min_eq_left (by omega)] at hb
    obtain ⟨q, hq⟩ : ∃ q, q = j - i := ⟨_, rfl⟩
    rw [← hq] at hy hb
    cases q with
    | zero =>
      simp at hy hb
      exact .inr ⟨hy.symm, hb.symm⟩
    | succ q =>
      simp at hy hb
      exact .inl ⟨i + q, hy, hb⟩
section
variable {α : Type} {d : Kd α} {e base : Nat} {W w1 : World} {ok okp : Nat → Prop} {v v1 : Value} {xs : List α}
theorem N_inserted (hs : 0 < d.sz) (h : Kd.N d e W base ok v xs) (i : Nat) (hi : i ≤ xs.length) (x : α) (c : List Value) (hx : Kd.FK d W okp x c) (hokp : ∀ k, okp k → ok k ∧ some k ≠ v.ownBlock) (hfresh : ∀ k, W.heap.size ≤ k → ok k) :
    ∃ cells, W.ownsRow base e d.sz v xs.length cells ∧ (∀ u ∈ cells, u.oneCell' = true) ∧ ∀ (w1 : World) (v1 : Value), w1.ownsRow base e d.sz v1 (xs.length + 1) (cells.take (i * d.sz) ++ c ++ cells.drop (i * d.sz)) → W.grownBy w1 v.ownBlock → (v1.ownBlock = v.ownBlock ∨ ∃ b, v1.ownBlock = some b ∧ W.heap.size ≤ b) → Kd.N d e w1 base ok v1 (xs.take i ++ [x] ++ xs.drop i) := by
  obtain ⟨h0, rows, hl, ⟨hr0, inner, ho, hreps⟩, hf⟩ := h
  obtain ⟨e1, hu⟩ := reps_flat (fun x c hm => hm) rows inner hreps
  have hc : c.length = d.sz ∧ ∀ u ∈ c, u.oneCell' = true := ⟨d.K_len (Kd.FK_now hx), d.K_one (Kd.FK_now hx)⟩
  rw [hl] at ho
  refine ⟨inner, ho, fun u hu_ => ?_, fun w1 v1 ho1 hg hat => ?_⟩
  · rw [e1] at hu_
    obtain ⟨r, hr, hur⟩ := List.mem_flatten.1 hu_
    exact (hu r hr).2 u hur
  · obtain ⟨f1, f2⟩ := flat_take i rows hu
    have hn0 : ∀ k, v1.ownBlock = some k → ok k := fun k hk => by
      rcases hat with hat | ⟨b, hb, hle⟩
      · exact h0 k (hat ▸ hk)
      · rw [hb] at hk
        cases hk
        exact hfresh _ hle
    have after : ∀ {y : α} {b : List Value}, Kd.FK d W (fun k => ok k ∧ some k ≠ v.ownBlock) y b → Kd.FK d w1 (fun k => ok k ∧ some k ≠ v1.ownBlock) y b := fun {y b} hk => by
      refine Kd.FK_mono (Foot.step (Kd.FK_bound hk) (fun k hk' hlt => hg.block k hlt hk'.1.2)) (fun k hk' => ⟨hk'.1.1, fun he => ?_⟩)
      rcases hat with hat | ⟨b2, hb2, hle⟩
      · exact hk'.1.2 (hat ▸ he)
      · rw [hb2] at he
        cases he
        exact absurd hk'.2 (Nat.not_lt.2 hle)
    have hlr : (rows.take i ++ [c] ++ rows.drop i).length = (xs.take i ++ [x] ++ xs.drop i).length := by simp [hl]
    have hu2 : Uni d.sz (rows.take i ++ [c] ++ rows.drop i) := fun r hr => by
      simp only [List.mem_append, List.mem_singleton] at hr
      rcases hr with (hr | rfl) | hr
      · exact hu r (List.mem_of_mem_take hr)
      · exact hc
      · exact hu r (List.mem_of_mem_drop hr)
    refine ⟨hn0, rows.take i ++ [c] ++ rows.drop i, hlr, ⟨fun k hk => hk.symm, (rows.take i ++ [c] ++ rows.drop i).flatten, ?_, flat_reps (fun c h1 h2 => ⟨rfl, h1, h2⟩) _ hu2⟩, fun j y b hy hb => ?_⟩
    · have ef : (rows.take i ++ [c] ++ rows.drop i).flatten = inner.take (i * d.sz) ++ c ++ inner.drop (i * d.sz) := by
        rw [e1, f1, f2]; simp [List.flatten_append]
      rw [ef, show (rows.take i ++ [c] ++ rows.drop i).length = xs.length + 1 by simp [hl]; omega]
      exact ho1
    · rcases get_ins xs rows hl i hi x c j y b hy hb with ⟨k, h1, h2⟩ | ⟨rfl, rfl⟩
      · exact after (hf k y b h1 h2)
      · exact after (Kd.FK_mono hx hokp)
end
end Go.Proofs.Ytkbemagcoojmmaa.Val
