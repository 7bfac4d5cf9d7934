/- Plain laws for StreamOnce: what a stream that is received comes to, however its batches are delivered. Conditions: rows, values of a row are not too many. -/
import Derived.Test.YtkbemagcoojmmaaEnQ1
import Derived.Test.YtkbemagcoojmmaaTnQ1
import Derived.Test.YtkbemagcoojmmaaTbQ1
import Derived.Test.YtkbemagcoojmmaaCs6Q1
namespace Go.Proofs.Ytkbemagcoojmmaa.Val
open Go.RowKit Go.Proofs.Ytkbemagcoojmmaa.G Go.Proofs.Ytkbemagcoojmmaa.Lx Go.Proofs.YtkbemagcoojmmaaW.PrintWords Go.Proofs.YtkbemagcoojmmaaW.PrintLast Go.Proofs.YtkbemagcoojmmaaW.PrintMore
set_option linter.unusedVariables false
set_option linter.unusedSimpArgs false
def bt (bs : List (List (List S112))) (i : Nat) : S83 := ⟨(i : Int), decide (i + 1 = bs.length), bs.getD i []⟩
def Up (t u : Nat) : List Nat → Prop
  | [] => True
  | i :: r => t ≤ i ∧ i < u ∧ Up (i + 1) u r
theorem Up.mono {t t' u u' : Nat} (h1 : t' ≤ t) (h2 : u ≤ u') : ∀ {l : List Nat}, Up t u l → Up t' u' l
  | [], _ => trivial
  | i :: r, h => ⟨by have := h.1; omega, by have := h.2.1; omega, Up.mono (Nat.le_refl _) h2 h.2.2⟩
theorem Up.mem {t u : Nat} : ∀ {l : List Nat}, Up t u l → ∀ i ∈ l, t ≤ i ∧ i < u
  | [], _, i, hi => by cases hi
  | j :: r, h, i, hi => by
    rcases List.mem_cons.1 hi with rfl | hi
    · exact ⟨h.1, h.2.1⟩
    · have := Up.mem h.2.2 i hi
      have := h.1
      omega
theorem Up.len {t u : Nat} : ∀ {l : List Nat}, Up t u l → l.length ≤ u - t
  | [], _ => by simp
  | i :: r, h => by
    have := Up.len h.2.2
    have := h.1
    have := h.2.1
    simp only [List.length_cons]
    omega
theorem bads_up (bs : List (List (List S112))) (h8 : ∀ b ∈ bs, b.length ≤ 8) (hn : bs.length ≤ 512) (t : Nat) : ∀ (l : List Nat) (a : Nat), t ≤ a → Up (a + 1) (min bs.length (t + 4)) l → bads (t : Int) (a : Int) (l.map (bt bs)) = false
  | [], _, _, _ => rfl
  | i :: r, a, ha, h => by
    have h1 := h.1
    have h2 := h.2.1
    rw [List.map_cons, bads, Bool.or_eq_false_iff]
    refine ⟨?_, bads_up bs h8 hn t r i (by omega) h.2.2⟩
    have hw : IntKind.u64.wrap ((i : Int) - t) = ((i - t : Nat) : Int) := by rw [show (i : Int) - t = ((i - t : Nat) : Int) by omega]; exact u64_len _ (by omega)
    have hb : (bs.getD i []).length ≤ 8 := by
      have hi : i < bs.length := by omega
      rw [show bs.getD i [] = bs[i] by simp [List.getD_eq_getElem?_getD, hi]]
      exact h8 _ (List.getElem_mem hi)
    unfold badB
    show (decide ((i : Int) ≤ (a : Int)) || _ || _ || _ || _) = false
    simp only [Bool.or_eq_false_iff, decide_eq_false_iff_not]
    refine ⟨⟨⟨⟨by omega, ?_⟩, ?_⟩, ?_⟩, ?_⟩
    · show ¬ 4 ≤ IntKind.u64.wrap ((i : Int) - t)
      rw [hw]; omega
    · show ¬ (512 : Int) ≤ (i : Int)
      omega
    · show ¬ 8 < (bs.getD i []).length
      omega
    · show (decide (i + 1 = bs.length) && !(r.map (bt bs)).isEmpty) = false
      cases r with
      | nil => simp
      | cons j r =>
        have := h.2.2.1
        have := h.2.2.2.1
        rw [decide_eq_false (by omega)]
        rfl
def GoodIn (bs : List (List (List S112))) (t : Nat) (held : List S83) (dn : Bool) : Prop := t ≤ bs.length ∧ dn = decide (t = bs.length) ∧ ∃ l, held = l.map (bt bs) ∧ Up (t + 1) (min bs.length (t + 4)) l
theorem good_inV (bs : List (List (List S112))) (h8 : ∀ b ∈ bs, b.length ≤ 8) (hn : bs.length ≤ 512) (h1 : 1 ≤ bs.length) (t : Nat) (held : List S83) (dn : Bool) (h : GoodIn bs t held dn) : inV (t : Int) held (came bs t).length dn = 0 := by
  obtain ⟨ht, hd, l, rfl, hu⟩ := h
  have hle := came_le h8 t
  unfold inV inBad
  rw [bads_up bs h8 hn t l t (Nat.le_refl _) hu, decide_eq_false (show ¬ (512 : Int) < t by omega), decide_eq_false (show ¬ 8 * (t : Int) < ((came bs t).length : Int) by omega)]
  have e : (dn && (decide (0 < (l.map (bt bs)).length) || (t : Int) == 0)) = false := by
    cases dn with
    | false => rfl
    | true =>
      have hx : t = bs.length := of_decide_eq_true hd.symm
      have hlen := Up.len hu
      have hl0 : l = [] := List.eq_nil_of_length_eq_zero (by omega)
      subst hl0
      rw [show ((t : Int) == 0) = false by rw [beq_eq_false_iff_ne]; omega]
      rfl
  rw [e]
  rfl
theorem drain_up (bs : List (List (List S112))) (hn : bs.length ≤ 512) : ∀ (l : List Nat) (t u : Nat), t ≤ bs.length → u ≤ bs.length → Up t u l → ∃ (t' : Nat) (l' : List Nat), drain (t : Int) (l.map (bt bs)) (came bs t) (decide (t = bs.length)) = ((t' : Int), l'.map (bt bs), came bs t', decide (t' = bs.length)) ∧ t ≤ t' ∧ t' ≤ bs.length ∧ Up (t' + 1) u l'
  | [], t, u, ht, hu, h => ⟨t, [], rfl, Nat.le_refl _, ht, trivial⟩
  | i :: r, t, u, ht, hu, h => by
    have h1 := h.1
    have h2 := h.2.1
    by_cases e : i = t
    · subst e
      have hi : i < bs.length := by omega
      have ew : IntKind.u64.wrap ((i : Int) + 1) = ((i + 1 : Nat) : Int) := by rw [show (i : Int) + 1 = ((i + 1 : Nat) : Int) by omega]; exact u64_len _ (by omega)
      obtain ⟨t', l', h3, h4, h5, h6⟩ := drain_up bs hn r (i + 1) u (by omega) hu h.2.2
      refine ⟨t', l', ?_, by omega, h5, h6⟩
      rw [List.map_cons, drain, show (bt bs i).f0 = (i : Int) from rfl, if_pos rfl, ew, show (bt bs i).f1 = decide (i + 1 = bs.length) from rfl, show came bs i ++ (bt bs i).f2 = came bs (i + 1) by rw [came_next hi, show (bt bs i).f2 = bs.getD i [] from rfl, show bs.getD i [] = bs[i] by simp [List.getD_eq_getElem?_getD, hi]]]
      exact h3
    · refine ⟨t, i :: r, ?_, Nat.le_refl _, ht, ⟨by omega, h2, h.2.2⟩⟩
      rw [List.map_cons, drain, show (bt bs i).f0 = (i : Int) from rfl, if_neg (by omega)]
theorem lb_up (bs : List (List (List S112))) : ∀ (l : List Nat) (t u i : Nat), Up t u l → t ≤ i → i < u → foundAt (l.map (bt bs)) (i : Int) = false → ∃ l', insS (l.map (bt bs)) (lb (l.map (bt bs)) (i : Int)) (bt bs i) = l'.map (bt bs) ∧ Up t u l'
  | [], t, u, i, h, h1, h2, hf => ⟨[i], rfl, ⟨h1, h2, trivial⟩⟩
  | j :: r, t, u, i, h, h1, h2, hf => by
    by_cases e : j < i
    · have el : lb ((j :: r).map (bt bs)) (i : Int) = lb (r.map (bt bs)) (i : Int) + 1 := by
        unfold lb
        rw [List.map_cons, List.takeWhile_cons, if_pos (by show decide ((j : Int) < (i : Int)) = true; exact decide_eq_true (by omega)), List.length_cons]
      have hf2 : foundAt (r.map (bt bs)) (i : Int) = false := by
        unfold foundAt at hf ⊢
        rw [el] at hf
        rw [List.map_cons, List.length_cons] at hf
        have e1 : seqAt (bt bs j :: r.map (bt bs)) (lb (r.map (bt bs)) (i : Int) + 1) = seqAt (r.map (bt bs)) (lb (r.map (bt bs)) (i : Int)) := by simp [seqAt]
        rw [e1] at hf
        simpa using hf
      obtain ⟨l', h3, h4⟩ := lb_up bs r (j + 1) u i h.2.2 (by omega) h2 hf2
      refine ⟨j :: l', ?_, ⟨h.1, h.2.1, h4⟩⟩
      rw [el]
      show insS (bt bs j :: r.map (bt bs)) (lb (r.map (bt bs)) (i : Int) + 1) (bt bs i) = bt bs j :: l'.map (bt bs)
      unfold insS at h3 ⊢
      rw [List.take_succ_cons, List.drop_succ_cons, List.cons_append, List.cons_append, h3]
    · have el : lb ((j :: r).map (bt bs)) (i : Int) = 0 := by
        unfold lb
        rw [List.map_cons, List.takeWhile_cons, if_neg (by show ¬ decide ((j : Int) < (i : Int)) = true; rw [decide_eq_true_eq]; omega)]
        rfl
      have hne : j ≠ i := by
        intro hji
        subst hji
        unfold foundAt at hf
        rw [el] at hf
        simp [seqAt, bt] at hf
      refine ⟨i :: j :: r, ?_, ⟨h1, h2, ⟨by omega, h.2.1, h.2.2⟩⟩⟩
      rw [el]
      rfl
theorem lb_lt (y : Int) : ∀ (l : List S83), 0 < lb l y → (l.getD (lb l y - 1) z83).f0 < y ∧ l.getD (lb l y - 1) z83 ∈ l
  | [], h => by simp [lb] at h
  | b :: r, h => by
    by_cases hb : b.f0 < y
    · have e : lb (b :: r) y = lb r y + 1 := by simp [lb, List.takeWhile_cons, hb]
      rw [e]
      rcases Nat.eq_zero_or_pos (lb r y) with h0 | h0
      · rw [h0]; exact ⟨hb, List.mem_cons_self ..⟩
      · obtain ⟨h1, h2⟩ := lb_lt y r h0
        rw [show lb r y + 1 - 1 = (lb r y - 1) + 1 by omega, List.getD_cons_succ]
        exact ⟨h1, List.mem_cons_of_mem _ h2⟩
    · simp [lb, List.takeWhile_cons, hb] at h
theorem lb_ge (y : Int) : ∀ (l : List S83), lb l y < l.length → ¬ (l.getD (lb l y) z83).f0 < y ∧ l.getD (lb l y) z83 ∈ l
  | [], h => by simp at h
  | b :: r, h => by
    by_cases hb : b.f0 < y
    · have e : lb (b :: r) y = lb r y + 1 := by simp [lb, List.takeWhile_cons, hb]
      rw [e] at h ⊢
      obtain ⟨h1, h2⟩ := lb_ge y r (by simpa using h)
      rw [List.getD_cons_succ]
      exact ⟨h1, List.mem_cons_of_mem _ h2⟩
    · have e : lb (b :: r) y = 0 := by simp [lb, List.takeWhile_cons, hb]
      rw [e]
      exact ⟨hb, List.mem_cons_self ..⟩
theorem not_stale (bs : List (List (List S112))) (l : List Nat) (t u i : Nat) (hu : Up t u l) (hun : u ≤ bs.length) (hin : i < bs.length) (hf : foundAt (l.map (bt bs)) (i : Int) = false) :
    ¬ ((0 < lb (l.map (bt bs)) (i : Int) ∧ ((l.map (bt bs)).getD (lb (l.map (bt bs)) (i : Int) - 1) z83).f1 = true) ∨ (decide (i + 1 = bs.length) = true ∧ lb (l.map (bt bs)) (i : Int) < (l.map (bt bs)).length)) := by
  rintro (⟨h1, h2⟩ | ⟨h1, h2⟩)
  · obtain ⟨h3, h4⟩ := lb_lt _ _ h1
    obtain ⟨j, hj, ej⟩ := List.mem_map.1 h4
    rw [← ej] at h2 h3
    have h5 : (j : Int) < (i : Int) := h3
    have h6 : decide (j + 1 = bs.length) = true := h2
    have := of_decide_eq_true h6
    omega
  · obtain ⟨h3, h4⟩ := lb_ge _ _ h2
    obtain ⟨j, hj, ej⟩ := List.mem_map.1 h4
    have h7 : seqAt (l.map (bt bs)) (lb (l.map (bt bs)) (i : Int)) = (j : Int) := by unfold seqAt; rw [← ej]; rfl
    rw [← ej] at h3
    have h5 : ¬ (j : Int) < (i : Int) := h3
    have h6 := of_decide_eq_true h1
    have h8 := (Up.mem hu j hj).2
    have h9 : (j : Int) = (i : Int) := by omega
    rw [foundAt, h7, h9, decide_eq_true h2] at hf
    simp at hf
theorem take_any (bs : List (List (List S112))) (hf : FitO bs) (h8 : ∀ b ∈ bs, b.length ≤ 8) (hn : bs.length ≤ 512) (h1 : 1 ≤ bs.length) (s0 s1 s2 s3 s4 : Int) (t : Nat) (held : List S83) (dn : Bool) (h : GoodIn bs t held dn) (i : Nat) (hi : i < bs.length) :
    TakeFit (t : Int) held (came bs t) (bs.getD i []) ∧ ∃ (t' : Nat) (held' : List S83) (dn' : Bool) (e : Int), takeV ((!(s0 == s0) || (!(s1 == s1))) || (!(s2 == s2) || (!(s3 == s3) || (!(s4 == s4))))) s0 s1 s2 s3 s4 (t : Int) held (came bs t) dn 4 (i : Int) (decide (i + 1 = bs.length)) (bs.getD i []) = (s0, s1, s2, s3, s4, (t' : Int), held', came bs t', dn', e) ∧ (e = 0 ∨ e = 15 ∨ e = 2) ∧ t ≤ t' ∧ GoodIn bs t' held' dn' := by
  have hiv := good_inV bs h8 hn h1 t held dn h
  have hg := h
  obtain ⟨ht, hd, l, hl, hu⟩ := h
  have hlen := Up.len hu
  have hle := came_le h8 t
  have hb : bs.getD i [] = bs[i] := by simp [List.getD_eq_getElem?_getD, hi]
  have hbi : bs.getD i [] ∈ bs := by rw [hb]; exact List.getElem_mem hi
  have hll : held.length = l.length := by rw [hl, List.length_map]
  have hmem : ∀ b ∈ held, b.f2 ∈ bs := by
    intro b hb
    rw [hl] at hb
    obtain ⟨j, hj, rfl⟩ := List.mem_map.1 hb
    have hj2 := (Up.mem hu j hj).2
    have hj3 : j < bs.length := by omega
    show bs.getD j [] ∈ bs
    rw [show bs.getD j [] = bs[j] by simp [List.getD_eq_getElem?_getD, hj3]]
    exact List.getElem_mem hj3
  have htot : ∀ (x : List S83), (∀ b ∈ x, b.f2 ∈ bs) → tot x ≤ 8 * x.length := by
    intro x
    induction x with
    | nil => intro _; simp [tot]
    | cons b x ih =>
      intro hx
      have h2 := ih (fun c hc => hx c (List.mem_cons_of_mem _ hc))
      have h3 := h8 _ (hx b (List.mem_cons_self ..))
      unfold tot at h2 ⊢
      simp only [List.map_cons, List.sum_cons, List.length_cons]
      omega
  have ht2 := htot held hmem
  have hb8 := h8 _ hbi
  refine ⟨⟨by omega, ⟨by omega, fun b hb => hf.2 _ (hmem b hb)⟩, came_fit hf h8 t (by omega), hf.2 _ hbi, by omega, by omega⟩, ?_⟩
  have e0 : ((!(s0 == s0) || (!(s1 == s1))) || (!(s2 == s2) || (!(s3 == s3) || (!(s4 == s4))))) = false := by simp
  unfold takeV
  rw [e0, hiv, if_neg (by decide), if_neg (fun h => h ⟨rfl, rfl, hb8⟩)]
  by_cases c3 : foundAt held (i : Int) = true ∨ dn = true ∨ (i : Int) < (t : Int)
  · rw [if_pos c3]
    exact ⟨t, held, dn, _, rfl, .inr (.inl rfl), Nat.le_refl _, hg⟩
  rw [if_neg c3]
  by_cases c4 : 4 ≤ IntKind.u64.wrap ((i : Int) - (t : Int)) ∨ 512 ≤ (i : Int)
  · rw [if_pos c4]
    exact ⟨t, held, dn, _, rfl, .inr (.inr rfl), Nat.le_refl _, hg⟩
  rw [if_neg c4]
  split
  · rename_i hst
    have hff : foundAt held (i : Int) = false := Bool.eq_false_iff.2 (fun h => c3 (.inl h))
    rw [hl] at hff hst
    exact absurd hst (not_stale bs l _ _ i hu (Nat.min_le_left _ _) hi hff)
  · have hti : t ≤ i := by
      rcases Nat.lt_or_ge i t with h | h
      · exact absurd (.inr (.inr (by omega))) c3
      · exact h
    have hw : IntKind.u64.wrap ((i : Int) - t) = ((i - t : Nat) : Int) := by rw [show (i : Int) - t = ((i - t : Nat) : Int) by omega]; exact u64_len _ (by omega)
    have hi4 : i < t + 4 := by
      rcases Nat.lt_or_ge i (t + 4) with h | h
      · exact h
      · exact absurd (.inl (by rw [hw]; omega)) c4
    have hdf : dn = false := by cases dn with
      | false => rfl
      | true => exact absurd (.inr (.inl rfl)) c3
    have htn : t ≠ bs.length := by
      intro h2
      rw [hdf, decide_eq_true h2] at hd
      cases hd
    have hff : foundAt held (i : Int) = false := Bool.eq_false_iff.2 (fun h => c3 (.inl h))
    rw [hl] at hff
    obtain ⟨l', e1, e2⟩ := lb_up bs l t (min bs.length (t + 4)) i (Up.mono (by omega) (Nat.le_refl _) hu) hti (by omega) hff
    obtain ⟨t', l2, e3, e4, e5, e6⟩ := drain_up bs hn l' t (min bs.length (t + 4)) ht (by omega) e2
    have hins : insS held (lb held (i : Int)) ⟨(i : Int), decide (i + 1 = bs.length), bs.getD i []⟩ = l'.map (bt bs) := by rw [hl]; exact e1
    rw [decide_eq_false htn] at e3
    rw [hins, e3]
    exact ⟨t', l2.map (bt bs), decide (t' = bs.length), 0, rfl, .inl rfl, e4, e5, rfl, l2, rfl, Up.mono (Nat.le_refl _) (by omega) e6⟩
theorem good_len {bs : List (List (List S112))} {t : Nat} {held : List S83} {dn : Bool} (h : GoodIn bs t held dn) : held.length < 4 := by
  obtain ⟨_, _, l, rfl, hu⟩ := h
  have := Up.len hu
  rw [List.length_map]
  omega
theorem came_prefix (bs : List (List (List S112))) (t : Nat) : came bs t = bs.flatten.take (came bs t).length := by
  have h : came bs t ++ (bs.drop t).flatten = bs.flatten := by unfold came; rw [← List.flatten_append, List.take_append_drop]
  rw [← h, List.take_left']
  rfl
end Go.Proofs.Ytkbemagcoojmmaa.Val
