/- Package disk: plain laws: a disk that is right stays right behind each step, and other files stay. No condition. -/
import Derived.Test.YtebngchdmpabhaaDsk15
namespace Go.Proofs.Ytebngchdmpabhaa.Disk
open Go.RowKit Go.Proofs.Ytebngchdmpabhaa.G Go.Proofs.YtebngchdmpabhaaW.PrintWords Go.Proofs.YtebngchdmpabhaaW.PrintLast Go.Proofs.YtebngchdmpabhaaW.PrintMore Go.Proofs.YtebngchdmpabhaaW.Raw
set_option linter.unusedVariables false
set_option linter.unusedSimpArgs false
theorem total_append (a b : List S41) : total (a ++ b) = total a + total b := by
  induction a with
  | nil => simp [total]
  | cons f a ih => simp only [List.cons_append, total, ih]; omega
theorem others_total {n : ByteArray} {l : List S41} (h : ∀ f ∈ l, eqS f.f0 n = false) : others n l = total l := by
  induction l with
  | nil => rfl
  | cons f l ih =>
    have h1 := h f (List.mem_cons_self ..)
    have := ih (fun g hg => h g (List.mem_cons_of_mem _ hg))
    simp only [others, h1, total, this, Bool.false_eq_true, if_false]
/-- two parts of a row, with a place for a name between them -/
structure Parts (l a b : List S41) (n : ByteArray) : Prop where
  lo : ∀ x ∈ a, ltS x.f0 n = true
  hi : ∀ x ∈ b, ltS n x.f0 = true
  sa : Srt a
  sb : Srt b
  ma : ∀ x ∈ a, x ∈ l
  mb : ∀ x ∈ b, x ∈ l
  fn : ∀ m, eqS n m = false → fnd l m = (fnd a m).or (fnd b m)
  sz : others n l = total a + total b
theorem Parts.na {l a b : List S41} {n : ByteArray} (h : Parts l a b n) : ∀ x ∈ a, eqS x.f0 n = false := fun x hx => ltS_ne (h.lo x hx)
theorem Parts.nb {l a b : List S41} {n : ByteArray} (h : Parts l a b n) : ∀ x ∈ b, eqS x.f0 n = false := fun x hx => by rw [eqS_comm]; exact ltS_ne (h.hi x hx)
theorem Parts.srt {l a b : List S41} {n : ByteArray} (h : Parts l a b n) : Srt (a ++ b) :=
  List.pairwise_append.2 ⟨h.sa, h.sb, fun x hx y hy => ltS_trans (h.lo x hx) (h.hi y hy)⟩
theorem Parts.srtm {l a b : List S41} {f : S41} (h : Parts l a b f.f0) : Srt (a ++ [f] ++ b) := by
  refine List.pairwise_append.2 ⟨List.pairwise_append.2 ⟨h.sa, List.pairwise_singleton _ _, ?_⟩, h.sb, ?_⟩
  · intro x hx y hy
    rw [List.mem_singleton.1 hy]
    exact h.lo x hx
  · intro x hx y hy
    rcases List.mem_append.1 hx with hx | hx
    · exact ltS_trans (h.lo x hx) (h.hi y hy)
    · rw [List.mem_singleton.1 hx]; exact h.hi y hy
theorem Parts.fnd_m {l a b : List S41} {f : S41} (h : Parts l a b f.f0) (m : ByteArray) : fnd (a ++ [f] ++ b) m = if eqS f.f0 m = true then some f else fnd l m := by
  rw [fnd_mid]
  split
  · rename_i he
    have hm := (eqS_iff _ _).1 he
    have : fnd a m = none := fnd_none (fun x hx => by rw [← hm]; exact h.na x hx)
    rw [this]; rfl
  · rename_i he
    rw [h.fn m (by simpa using he)]
    simp
theorem Parts.fnd_d {l a b : List S41} {n : ByteArray} (h : Parts l a b n) (m : ByteArray) : fnd (a ++ b) m = if eqS n m = true then none else fnd l m := by
  have : fnd (a ++ b) m = (fnd a m).or (fnd b m) := by unfold fnd; rw [List.find?_append]
  rw [this]
  split
  · rename_i he
    have hm := (eqS_iff _ _).1 he
    rw [fnd_none (fun x hx => by rw [← hm]; exact h.na x hx), fnd_none (fun x hx => by rw [← hm]; exact h.nb x hx)]
    rfl
  · rename_i he
    rw [h.fn m (by simpa using he)]
theorem split_found {l : List S41} {n : ByteArray} (h : Srt l) (hf : foundAt l n = true) :
    l = l.take (lb l n) ++ [l.getD (lb l n) z41] ++ l.drop (lb l n + 1) ∧ (l.getD (lb l n) z41).f0 = n := by
  have hlt := found_lt hf
  have he : eqS (nameAt l (lb l n)) n = true := by
    unfold foundAt at hf
    simpa [hlt] using hf
  refine ⟨?_, (eqS_iff _ _).1 he⟩
  have hd : l.drop (lb l n) = l.getD (lb l n) z41 :: l.drop (lb l n + 1) := by
    rw [List.getD_eq_getElem?_getD, List.getElem?_eq_getElem hlt]
    exact List.drop_eq_getElem_cons hlt
  rw [List.append_assoc, List.singleton_append, ← hd, List.take_append_drop]
theorem parts_found {l : List S41} {n : ByteArray} (h : Srt l) (hf : foundAt l n = true) : Parts l (l.take (lb l n)) (l.drop (lb l n + 1)) n := by
  obtain ⟨hs, hn⟩ := split_found h hf
  have lo := take_lb n l
  have hi := drop_found h hf
  refine ⟨lo, hi, List.Pairwise.sublist (List.take_sublist _ _) h, List.Pairwise.sublist (List.drop_sublist _ _) h, fun x hx => List.mem_of_mem_take hx, fun x hx => List.mem_of_mem_drop hx, ?_, ?_⟩
  · intro m hm
    conv => lhs; rw [hs]
    rw [fnd_mid, hn, hm]
    simp
  · conv => lhs; rw [hs]
    rw [others_append, others_snoc, hn, (eqS_iff n n).2 rfl, if_pos rfl, others_total (fun x hx => ltS_ne (lo x hx)), others_total (fun x hx => by rw [eqS_comm]; exact ltS_ne (hi x hx))]
    omega
theorem parts_new {l : List S41} {n : ByteArray} (h : Srt l) (hf : foundAt l n = false) : Parts l (l.take (lb l n)) (l.drop (lb l n)) n := by
  have lo := take_lb n l
  have hi := drop_new h hf
  refine ⟨lo, hi, List.Pairwise.sublist (List.take_sublist _ _) h, List.Pairwise.sublist (List.drop_sublist _ _) h, fun x hx => List.mem_of_mem_take hx, fun x hx => List.mem_of_mem_drop hx, fun m _ => fnd_split l _ m, ?_⟩
  conv => lhs; rw [← List.take_append_drop (lb l n) l]
  rw [others_append, others_total (fun x hx => ltS_ne (lo x hx)), others_total (fun x hx => by rw [eqS_comm]; exact ltS_ne (hi x hx))]
theorem set_mid {l : List S41} {i : Nat} (h : i < l.length) (f : S41) : l.set i f = l.take i ++ [f] ++ l.drop (i + 1) := by
  rw [List.set_eq_take_append_cons_drop, if_pos h, List.append_assoc, List.singleton_append]
theorem lay_parts {l : List S41} (f : S41) (h : Srt l) : ∃ a b, layF l f = a ++ [f] ++ b ∧ Parts l a b f.f0 := by
  rcases hf : foundAt l f.f0 with _ | _
  · exact ⟨_, _, if_neg (by simp [hf]), parts_new h hf⟩
  · exact ⟨_, _, (if_pos hf).trans (set_mid (found_lt hf) f), parts_found h hf⟩
theorem drop_parts {l : List S41} {n : ByteArray} (h : Srt l) (hf : foundAt l n = true) : ∃ a b, dropF l n = a ++ b ∧ Parts l a b n := ⟨_, _, rfl, parts_found h hf⟩
theorem sync_parts {l : List S41} {n : ByteArray} (h : Srt l) (hf : foundAt l n = true) :
    ∃ a b, syncF l n = a ++ [⟨n, (l.getD (lb l n) z41).f1, ((l.getD (lb l n) z41).f1.size : Int)⟩] ++ b ∧ Parts l a b n := by
  refine ⟨_, _, ?_, parts_found h hf⟩
  unfold syncF
  rw [set_mid (found_lt hf), (split_found h hf).2]
theorem total_found {l : List S41} {n : ByteArray} (h : Srt l) (hf : foundAt l n = true) : total l = others n l + (l.getD (lb l n) z41).f1.size := by
  have hp := (parts_found h hf).sz
  obtain ⟨hs, hn⟩ := split_found h hf
  conv => lhs; rw [hs]
  rw [total_append, total_append, hp]
  simp only [total]
  omega
theorem ltS_empty {n : ByteArray} (h : emptyS n = false) : ltS ⟨#[]⟩ n = true := by
  refine ltS_of ?_ ?_
  · unfold ltS
    rw [bytesLess_eq, ByteArray.toList_eq, ByteArray.toList_eq]
    simp
  · rw [Bool.eq_false_iff]
    intro he
    rw [(eqS_iff _ _).1 he] at h
    revert h
    unfold emptyS
    rw [ByteArray.toList_eq]
    simp
theorem ok_mid {l a b : List S41} {f : S41} (h : ok l = true) (hp : Parts l a b f.f0) (he : ltS ⟨#[]⟩ f.f0 = true) (hv : 0 ≤ f.f2 ∧ f.f2 ≤ (f.f1.size : Int)) (ht : others f.f0 l + f.f1.size ≤ 1048576) : ok (a ++ [f] ++ b) = true := by
  obtain ⟨h1, h2, h3, h4⟩ := (ok_iff l).1 h
  refine (ok_iff _).2 ⟨?_, hp.srtm, ?_, ?_⟩
  · intro x hx
    rcases List.mem_append.1 hx with hx | hx
    · rcases List.mem_append.1 hx with hx | hx
      · exact h1 x (hp.ma x hx)
      · rw [List.mem_singleton.1 hx]; exact he
    · exact h1 x (hp.mb x hx)
  · intro x hx
    rcases List.mem_append.1 hx with hx | hx
    · rcases List.mem_append.1 hx with hx | hx
      · exact h3 x (hp.ma x hx)
      · rw [List.mem_singleton.1 hx]; exact hv
    · exact h3 x (hp.mb x hx)
  · rw [total_append, total_append]
    have := hp.sz
    simp only [total]
    omega
theorem ok_drop {l a b : List S41} {n : ByteArray} (h : ok l = true) (hp : Parts l a b n) : ok (a ++ b) = true := by
  obtain ⟨h1, h2, h3, h4⟩ := (ok_iff l).1 h
  refine (ok_iff _).2 ⟨?_, hp.srt, ?_, ?_⟩
  · intro x hx
    rcases List.mem_append.1 hx with hx | hx
    · exact h1 x (hp.ma x hx)
    · exact h1 x (hp.mb x hx)
  · intro x hx
    rcases List.mem_append.1 hx with hx | hx
    · exact h3 x (hp.ma x hx)
    · exact h3 x (hp.mb x hx)
  · rw [total_append]
    have := hp.sz
    have := others_le n l
    omega
theorem knownN_zero {b : Bool} : knownN b = 0 ↔ b = true := by cases b <;> simp [knownN]
/-- the answer's parts where a step is not refused -/
theorem done_put {l : List S41} {name dst data : ByteArray} {power : Bool} (h : ok l = true) (hw : whyF l 1 name dst data = 0) :
    ∃ a b, doneF l 1 name dst data power = a ++ [⟨name, data, 0⟩] ++ b ∧ Parts l a b name ∧ ok (a ++ [⟨name, data, 0⟩] ++ b) = true := by
  obtain ⟨h1, h2, h3, h4⟩ := (ok_iff l).1 h
  have hp : putN l name data = 0 := hw
  have hd : doneF l 1 name dst data power = layF l ⟨name, data, 0⟩ := by
    show putF l name data = _
    unfold putF
    rw [hp]; rfl
  obtain ⟨a, b, he, hpt⟩ := lay_parts (⟨name, data, 0⟩ : S41) h2
  have hn : emptyS name = false := by
    rcases hq : emptyS name with _ | _
    · rfl
    · simp [putN, hq] at hp
  have hr : ¬ (data.size : Int) > 1048576 - (others name l : Int) := by
    intro hq
    simp [putN, hn, hq] at hp
  exact ⟨a, b, hd.trans he, hpt, ok_mid h hpt (ltS_empty hn) ⟨Int.le_refl _, Int.natCast_nonneg _⟩ (by show others name l + data.size ≤ _; omega)⟩
theorem done_sync {l : List S41} {name dst data : ByteArray} {power : Bool} (h : ok l = true) (hw : whyF l 2 name dst data = 0) :
    foundAt l name = true ∧ doneF l 2 name dst data false = l ∧ ∃ a b, doneF l 2 name dst data true = a ++ [⟨name, (l.getD (lb l name) z41).f1, ((l.getD (lb l name) z41).f1.size : Int)⟩] ++ b ∧ Parts l a b name ∧ ok (a ++ [⟨name, (l.getD (lb l name) z41).f1, ((l.getD (lb l name) z41).f1.size : Int)⟩] ++ b) = true := by
  obtain ⟨h1, h2, h3, h4⟩ := (ok_iff l).1 h
  have hf : foundAt l name = true := knownN_zero.1 hw
  obtain ⟨a, b, he, hpt⟩ := sync_parts h2 hf
  refine ⟨hf, by show (if (foundAt l name && false) = true then _ else _) = _; simp, a, b, ?_, hpt, ?_⟩
  · show (if (foundAt l name && true) = true then _ else _) = _
    rw [hf]; exact he
  · have hm : l.getD (lb l name) z41 ∈ l := by
      rw [List.getD_eq_getElem?_getD, List.getElem?_eq_getElem (found_lt hf)]
      exact List.getElem_mem _
    refine ok_mid h hpt ?_ ⟨Int.natCast_nonneg _, Int.le_refl _⟩ ?_
    · have := h1 _ hm
      rw [(split_found h2 hf).2] at this
      exact this
    · have := total_found h2 hf
      show others name l + (l.getD (lb l name) z41).f1.size ≤ _
      omega
theorem done_drop {l : List S41} {name dst data : ByteArray} {power : Bool} (h : ok l = true) (hw : whyF l 4 name dst data = 0) :
    foundAt l name = true ∧ doneF l 4 name dst data false = l ∧ ∃ a b, doneF l 4 name dst data true = a ++ b ∧ Parts l a b name ∧ ok (a ++ b) = true := by
  obtain ⟨h1, h2, h3, h4⟩ := (ok_iff l).1 h
  have hf : foundAt l name = true := knownN_zero.1 hw
  obtain ⟨a, b, he, hpt⟩ := drop_parts h2 hf
  refine ⟨hf, by show (if (foundAt l name && false) = true then _ else _) = _; simp, a, b, ?_, hpt, ok_drop h hpt⟩
  show (if (foundAt l name && true) = true then _ else _) = _
  rw [hf]; exact he
theorem done_move {l : List S41} {name dst data : ByteArray} {power : Bool} (h : ok l = true) (hw : whyF l 3 name dst data = 0) :
    foundAt l name = true ∧ emptyS dst = false ∧ doneF l 3 name dst data false = l ∧ ∃ m a b, doneF l 3 name dst data true = a ++ [⟨dst, (l.getD (lb l name) z41).f1, (l.getD (lb l name) z41).f2⟩] ++ b ∧ Parts m a b dst ∧ (∀ q, fnd m q = if eqS name q = true then none else fnd l q) ∧ ok (a ++ [⟨dst, (l.getD (lb l name) z41).f1, (l.getD (lb l name) z41).f2⟩] ++ b) = true := by
  obtain ⟨h1, h2, h3, h4⟩ := (ok_iff l).1 h
  have hfe : (foundAt l name && !emptyS dst) = true := knownN_zero.1 hw
  obtain ⟨hf, hd⟩ := Bool.and_eq_true_iff.1 hfe
  have hd' : emptyS dst = false := by simpa using hd
  obtain ⟨a, b, he, hpt⟩ := drop_parts h2 hf
  have hok := ok_drop h hpt
  obtain ⟨g1, g2, g3, g4⟩ := (ok_iff (a ++ b)).1 hok
  obtain ⟨a', b', he', hpt'⟩ := lay_parts (⟨dst, (l.getD (lb l name) z41).f1, (l.getD (lb l name) z41).f2⟩ : S41) g2
  refine ⟨hf, hd', by show (if (foundAt l name && false && !emptyS dst) = true then _ else _) = _; simp, a ++ b, a', b', ?_, hpt', hpt.fnd_d, ?_⟩
  · show (if (foundAt l name && true && !emptyS dst) = true then moveF l name dst else l) = _
    rw [hf, hd']
    show moveF l name dst = _
    unfold moveF
    rw [he]; exact he'
  · have hm : l.getD (lb l name) z41 ∈ l := by
      rw [List.getD_eq_getElem?_getD, List.getElem?_eq_getElem (found_lt hf)]
      exact List.getElem_mem _
    refine ok_mid hok hpt' (ltS_empty hd') (h3 (l.getD (lb l name) z41) hm) ?_
    have e1 := total_found h2 hf
    have e2 := others_le dst (a ++ b)
    have e3 := hpt.sz
    rw [total_append] at e2
    show others dst (a ++ b) + (l.getD (lb l name) z41).f1.size ≤ _
    omega
theorem done_refused {l : List S41} {kind : Int} {name dst data : ByteArray} (power : Bool) (h1 : 1 ≤ kind) (h4 : kind ≤ 4) (hw : whyF l kind name dst data ≠ 0) : doneF l kind name dst data power = l := by
  have hk : kind = 1 ∨ kind = 2 ∨ kind = 3 ∨ kind = 4 := by omega
  rcases hk with rfl | rfl | rfl | rfl
  · show putF l name data = l
    unfold putF
    exact if_neg hw
  · have hf : foundAt l name = false := by simpa using fun h => hw (knownN_zero.2 h)
    show (if (foundAt l name && power) = true then _ else _) = _
    rw [hf]; rfl
  · have hf : (foundAt l name && !emptyS dst) = false := by
      rw [Bool.eq_false_iff]; exact fun h => hw (knownN_zero.2 h)
    show (if (foundAt l name && power && !emptyS dst) = true then moveF l name dst else l) = l
    refine if_neg ?_
    intro h
    rw [Bool.and_eq_true_iff, Bool.and_eq_true_iff] at h
    rw [h.1.1, h.2] at hf
    cases hf
  · have hf : foundAt l name = false := by simpa using fun h => hw (knownN_zero.2 h)
    show (if (foundAt l name && power) = true then _ else _) = _
    rw [hf]; rfl
theorem ok_done {l : List S41} {kind : Int} {name dst data : ByteArray} (power : Bool) (h : ok l = true) (h1 : 1 ≤ kind) (h4 : kind ≤ 4) : ok (doneF l kind name dst data power) = true := by
  by_cases hw : whyF l kind name dst data = 0
  · have hk : kind = 1 ∨ kind = 2 ∨ kind = 3 ∨ kind = 4 := by omega
    rcases hk with rfl | rfl | rfl | rfl
    · obtain ⟨a, b, he, _, ho⟩ := done_put (power := power) h hw
      rw [he]; exact ho
    · obtain ⟨_, e0, a, b, he, _, ho⟩ := done_sync (power := power) h hw
      cases power
      · rw [e0]; exact h
      · rw [he]; exact ho
    · obtain ⟨_, _, e0, m, a, b, he, _, _, ho⟩ := done_move (power := power) h hw
      cases power
      · rw [e0]; exact h
      · rw [he]; exact ho
    · obtain ⟨_, e0, a, b, he, _, ho⟩ := done_drop (power := power) h hw
      cases power
      · rw [e0]; exact h
      · rw [he]; exact ho
  · rw [done_refused power h1 h4 hw]; exact h
/-- other files stay -/
theorem fnd_done {l : List S41} {kind : Int} {name dst data : ByteArray} (power : Bool) (h : ok l = true) (h1 : 1 ≤ kind) (h4 : kind ≤ 4) (m : ByteArray) (hm : eqS name m = false) (hd : kind = 3 → eqS dst m = false) :
    fnd (doneF l kind name dst data power) m = fnd l m := by
  by_cases hw : whyF l kind name dst data = 0
  · have hk : kind = 1 ∨ kind = 2 ∨ kind = 3 ∨ kind = 4 := by omega
    rcases hk with rfl | rfl | rfl | rfl
    · obtain ⟨a, b, he, hp, _⟩ := done_put (power := power) h hw
      rw [he, Parts.fnd_m (f := ⟨name, data, 0⟩) hp]
      exact if_neg (by simp [hm])
    · obtain ⟨_, e0, a, b, he, hp, _⟩ := done_sync (power := power) h hw
      cases power
      · rw [e0]
      · rw [he, Parts.fnd_m (f := ⟨name, _, _⟩) hp]
        exact if_neg (by simp [hm])
    · obtain ⟨_, _, e0, k, a, b, he, hp, hq, _⟩ := done_move (power := power) h hw
      cases power
      · rw [e0]
      · rw [he, Parts.fnd_m (f := ⟨dst, _, _⟩) hp, if_neg (by simp [hd rfl]), hq, if_neg (by simp [hm])]
    · obtain ⟨_, e0, a, b, he, hp, _⟩ := done_drop (power := power) h hw
      cases power
      · rw [e0]
      · rw [he, hp.fnd_d, if_neg (by simp [hm])]
  · rw [done_refused power h1 h4 hw]
end Go.Proofs.Ytebngchdmpabhaa.Disk
