/- Arguments that came in, opened by their kinds: how they are read, and how large they are. No condition. -/
import Derived.Test.YtkbemagcoojmmaaRows
import Derived.Test.YtkbemagcoojmmaaXQ1
import Derived.Lib.SmallJoins
import Derived.Deep.SlicePairs
import Derived.SizedLaws
import Derived.ChangeMaps5
import Derived.Carry
import Derived.OpenShut
import Derived.ChangeArms
namespace Go.Proofs.Ytkbemagcoojmmaa.Opn
open Go.RowKit Go.Proofs.YtkbemagcoojmmaaW.PrintWords Go.Proofs.YtkbemagcoojmmaaW.PrintLast Go.Proofs.YtkbemagcoojmmaaW.PrintMore
open Go.ChangeShapes Go.WideShapes Go.Deep Go.Joins
set_option linter.unusedVariables false
set_option linter.unusedSimpArgs false
def Small {H : Type} (P : Program) (t : TypeId) (d : DataW H) : Prop := ∀ n ∈ d.weights P t, n ≤ reachBytes
def SmallEach {H : Type} (P : Program) (ts : List TypeId) (ds : List (DataW H)) : Prop := ∀ n ∈ DataW.weightsEach P ts ds, n ≤ reachBytes
variable {P : Program} {H : Type} {enc : TypeId × Value → H} {w : World} {spare : Nat → Bool} {held : Bool}
def Opens (P : Program) {H : Type} (enc : TypeId × Value → H) (w : World) (spare : Nat → Bool) (held : Bool) (t : TypeId) {α : Type} (k : Kd α) (fit lim : α → Prop) (blk : α → Nat) : Prop :=
  ∀ (n : Nat) (cs : List Value) (x : DataW H × List MemPlace), DataW.trod enc P w 0 spare held n t cs = some x →
    ∃ a, k.K w a cs ∧ fit a ∧ (Small P t x.1 → lim a) ∧ blk a ≤ Rows.uptoBulk x.1
theorem Opens.imp {t : TypeId} {α : Type} {k : Kd α} {fit fit' lim lim' : α → Prop} {blk blk' : α → Nat} (ho : Opens P enc w spare held t k fit lim blk) (hf : ∀ a, fit a → fit' a) (hl : ∀ a, lim a → lim' a) (hb : ∀ a, blk' a ≤ blk a) : Opens P enc w spare held t k fit' lim' blk' := by
  intro n cs x h
  obtain ⟨a, h1, h2, h3, h4⟩ := ho n cs x h
  exact ⟨a, h1, hf a h2, fun hs => hl a (h3 hs), Nat.le_trans (hb a) h4⟩
theorem opens_int {t : TypeId} {kd : IntKind} (ht : P.underlying t = some (.int kd)) : Opens P enc w spare held t (Kd.int kd) (fun a => kd.min ≤ a ∧ a ≤ kd.max) (fun _ => True) (fun _ => 1) := by
  intro n cs x h
  obtain ⟨a, rfl, hx, hw⟩ := DataW.trod_int ht h
  have hx1 : x = (.lit (.int kd a), []) := hx
  subst hx1
  exact ⟨a, rfl, by simpa [Lit.wf] using hw, fun _ => trivial, by simp [Rows.uptoBulk]⟩
theorem opens_bool {t : TypeId} (ht : P.underlying t = some .bool) : Opens P enc w spare held t Kd.bool (fun _ => True) (fun _ => True) (fun _ => 1) := by
  intro n cs x h
  obtain ⟨a, rfl, hx⟩ := DataW.trod_bool ht h
  have hx1 : x = (.lit (.bool a), []) := hx
  subst hx1
  exact ⟨a, rfl, trivial, fun _ => trivial, by simp [Rows.uptoBulk]⟩
theorem opens_string {t : TypeId} (ht : P.underlying t = some .string) : Opens P enc w spare held t Kd.string (fun s => s.size ≤ 9223372036854775807) (fun s => s.size ≤ 140737488351232) (fun s => s.size + 1) := by
  intro n cs x h
  obtain ⟨a, rfl, hx, hw⟩ := DataW.trod_string ht h
  have hx1 : x = (.lit (.string a.data.toList), []) := hx
  subst hx1
  have hl : a.data.toList.length = a.size := by rw [Array.length_toList]; rfl
  refine ⟨a, rfl, hw, fun hs => ?_, by simp [Rows.uptoBulk, hl]⟩
  have := hs a.data.toList.length (by simp [DataW.weights])
  rw [hl] at this
  exact this
theorem weights_all {t : TypeId} {l : List (DataW H)} {d : DataW H} (hd : d ∈ l) {n : Nat} (hn : n ∈ d.weights P t) : n ∈ DataW.weightsAll P t l := by
  induction l with
  | nil => cases hd
  | cons y l ih =>
    simp only [DataW.weightsAll, List.mem_append]
    rcases List.mem_cons.1 hd with rfl | h
    · exact .inl hn
    · exact .inr (ih h)
theorem bulk_append (l r : List (DataW H)) : Rows.uptoBulkAll (l ++ r) = Rows.uptoBulkAll l + Rows.uptoBulkAll r := by
  induction l with
  | nil => simp [Rows.uptoBulkAll]
  | cons x l ih => simp only [List.cons_append, Rows.uptoBulkAll, ih]; omega
def sumOf {α : Type} (f : α → Nat) (l : List α) : Nat := (l.map f).sum
theorem sum_le {α : Type} {f : α → Nat} {len : Nat} {F : Nat → α} {D : Nat → DataW H} (h : ∀ i, i < len → f (F i) ≤ Rows.uptoBulk (D i)) : sumOf f ((List.range len).map F) ≤ Rows.uptoBulkAll ((List.range len).map D) := by
  induction len with
  | zero => simp [sumOf, Rows.uptoBulkAll]
  | succ n ih =>
    have h1 := ih (fun i hi => h i (by omega))
    have h2 := h n (by omega)
    simp only [List.range_succ, List.map_append, List.map_cons, List.map_nil, bulk_append, Rows.uptoBulkAll]
    have h3 : sumOf f ((List.range n).map F ++ [F n]) = sumOf f ((List.range n).map F) + f (F n) := by simp [sumOf]
    omega
theorem opens_slice {t e : TypeId} {α : Type} {k : Kd α} {fit lim : α → Prop} {blk : α → Nat} [Inhabited α] (ht : P.underlying t = some (.slice e)) (hc : P.cellsOf e = k.sz) (ho : Opens P enc w spare held e k fit lim blk) :
    Opens P enc w spare held t (Kd.slice e k) (fun l => ∀ a ∈ l, fit a) (fun l => l.length * P.bytesOf e ≤ 140737488351232 ∧ ∀ a ∈ l, lim a) (fun l => sumOf blk l + 1) := by
  intro n cs x h
  rcases open_slice ht h with ⟨rfl, rfl⟩ | ⟨a, len, cap, m, n, D, Pl, rfl, hb, hl, hm, hmm, rfl, hx⟩
  · exact ⟨[], ⟨none, 0, rfl, Nat.le_refl _, (Kd.R_reads' (Kd.R_nil k e w 0 (fun _ => True))).2.2⟩, by simp, fun _ => by simp, by simp [sumOf, Rows.uptoBulk]⟩
  · have hlm : len ≤ m := by rw [hmm]; split <;> omega
    have each : ∀ i, i < len → ∃ f : α, (∃ c, k.K w f c ∧ (∀ j u, c[j]? = some u → w.cell? (a.add (i * k.sz + j)) = some u)) ∧ fit f ∧ (Small P e (D i) → lim f) ∧ blk f ≤ Rows.uptoBulk (D i) := by
      intro i hi
      obtain ⟨cs', h1, h2⟩ := hx i (by omega)
      rw [hc] at h1
      obtain ⟨f, hK, hf, hlim, hblk⟩ := ho _ _ _ h2
      obtain ⟨_, _, hcell⟩ := World.cells?_some h1
      refine ⟨f, ⟨cs', hK, fun j u hj => ?_⟩, hf, hlim, hblk⟩
      have hj3 : j < k.sz := by
        have := (List.getElem?_eq_some_iff.1 hj).1
        rwa [k.K_len hK] at this
      have e1 := hcell j hj3
      rw [Go.Deep.add_add] at e1
      rw [e1]
      exact hj
    obtain ⟨F, hF⟩ := choose_lt each
    have hlen : ((List.range len).map F).length = len := by simp
    have hmem : ∀ y ∈ (List.range len).map F, ∃ i, i < len ∧ y = F i := by
      intro y hy
      obtain ⟨i, hi, rfl⟩ := List.mem_map.1 hy
      exact ⟨i, List.mem_range.1 hi, rfl⟩
    refine ⟨(List.range len).map F, ⟨some a, cap, by rw [hlen], by rw [hlen]; exact hl, ?_⟩, ?_, ?_, ?_⟩
    · rw [hlen]
      refine ⟨hlen, Nat.le_trans hl hm, fun _ => ⟨a, rfl, fun j p hj => ?_⟩⟩
      have hjl : j < len := by
        have := (List.getElem?_eq_some_iff.1 hj).1
        simpa using this
      have hp : p = F j := by
        rw [List.getElem?_map, List.getElem?_range hjl] at hj
        simpa using hj.symm
      subst hp
      obtain ⟨c, h1, h2⟩ := (hF j hjl).1
      exact ⟨c, k.K_len h1, h1, h2⟩
    · intro y hy
      obtain ⟨i, hi, rfl⟩ := hmem y hy
      exact (hF i hi).2.1
    · intro hs
      refine ⟨?_, fun y hy => ?_⟩
      · have := hs (((List.range len).map D).length * P.bytesOf e + ((List.range (m - len)).map fun j => D (len + j)).length * P.bytesOf e) (by simp [DataW.weights, ht, Nat.add_mul])
        rw [hlen]
        simp only [List.length_map, List.length_range] at this
        have hr : reachBytes = 140737488351232 := rfl
        rw [hr] at this
        exact Nat.le_trans (Nat.le_add_right _ _) this
      · obtain ⟨i, hi, rfl⟩ := hmem y hy
        refine (hF i hi).2.2.1 fun n hn => hs n ?_
        simp only [DataW.weights, ht, List.mem_cons, List.mem_append]
        exact .inr (.inl (weights_all (List.mem_map.2 ⟨i, List.mem_range.2 hi, rfl⟩) hn))
    · have := sum_le (f := blk) (F := F) (D := D) (fun i hi => (hF i hi).2.2.2)
      simp only [Rows.uptoBulk]
      omega
def OpensF (P : Program) {H : Type} (enc : TypeId × Value → H) (w : World) (spare : Nat → Bool) (held : Bool) (ts : List TypeId) {α : Type} (k : Kd α) (fit lim : α → Prop) (blk : α → Nat) : Prop :=
  ∀ (n : Nat) (css : List (List Value)) (xs : List (DataW H × List MemPlace)), css.length = ts.length → xs.length = ts.length → (∀ (i : Nat) t c, ts[i]? = some t → css[i]? = some c → DataW.trod enc P w 0 spare held n t c = xs[i]?) →
    ∃ a, k.K w a css.flatten ∧ fit a ∧ (SmallEach P ts (xs.map (·.1)) → lim a) ∧ blk a ≤ Rows.uptoBulkAll (xs.map (·.1))
theorem opensF_one {t : TypeId} {α : Type} {k : Kd α} {fit lim : α → Prop} {blk : α → Nat} (ho : Opens P enc w spare held t k fit lim blk) : OpensF P enc w spare held [t] k fit lim blk := by
  intro n css xs hc hx h
  match css, hc, xs, hx with
  | [c], _, [x], _ =>
    have h0 : DataW.trod enc P w 0 spare held n t c = some x := h 0 t c rfl rfl
    obtain ⟨a, h1, h2, h3, h4⟩ := ho _ _ _ h0
    refine ⟨a, by simpa using h1, h2, fun hs => h3 fun n hn => hs n ?_, by simpa [Rows.uptoBulkAll] using h4⟩
    simpa [DataW.weightsEach] using hn
theorem opensF_cons {t : TypeId} {ts : List TypeId} {α β : Type} {k : Kd α} {fit lim : α → Prop} {blk : α → Nat} {k' : Kd β} {fit' lim' : β → Prop} {blk' : β → Nat} (ho : Opens P enc w spare held t k fit lim blk) (hr : OpensF P enc w spare held ts k' fit' lim' blk') :
    OpensF P enc w spare held (t :: ts) (Kd.pair k k') (fun a => fit a.1 ∧ fit' a.2) (fun a => lim a.1 ∧ lim' a.2) (fun a => blk a.1 + blk' a.2) := by
  intro n css xs hc hx h
  match css, hc, xs, hx with
  | c :: css, hc, x :: xs, hx =>
    have h0 : DataW.trod enc P w 0 spare held n t c = some x := h 0 t c rfl rfl
    obtain ⟨a, h1, h2, h3, h4⟩ := ho _ _ _ h0
    obtain ⟨b, g1, g2, g3, g4⟩ := hr n css xs (by simpa using hc) (by simpa using hx) (fun i t c ht hc => h (i + 1) t c (by simpa using ht) (by simpa using hc))
    refine ⟨(a, b), ⟨c, css.flatten, by simp, h1, g1⟩, ⟨h2, g2⟩, fun hs => ⟨h3 fun n hn => hs n ?_, g3 fun n hn => hs n ?_⟩, ?_⟩
    · simp only [List.map_cons, DataW.weightsEach, List.mem_append]; exact .inl hn
    · simp only [List.map_cons, DataW.weightsEach, List.mem_append]; exact .inr hn
    · simp only [List.map_cons, Rows.uptoBulkAll]; omega
def cut {α : Type} : List Nat → List α → List (List α)
  | [], _ => []
  | n :: ns, l => l.take n :: cut ns (l.drop n)
theorem cut_length {α : Type} : ∀ (ns : List Nat) (l : List α), (cut ns l).length = ns.length
  | [], _ => rfl
  | n :: ns, l => by simp [cut, cut_length ns]
theorem cut_flatten {α : Type} : ∀ (ns : List Nat) (l : List α), l.length = ns.sum → (cut ns l).flatten = l
  | [], l, h => by simpa [cut] using (List.eq_nil_of_length_eq_zero h).symm
  | n :: ns, l, h => by
    simp only [cut, List.flatten_cons]
    rw [cut_flatten ns (l.drop n) (by simp at h ⊢; omega), List.take_append_drop]
theorem cut_get {α : Type} : ∀ (ns : List Nat) (l : List α) (i : Nat) (n : Nat), ns[i]? = some n → (cut ns l)[i]? = some ((l.drop (ns.take i).sum).take n)
  | [], _, i, _, h => by simp at h
  | n :: ns, l, 0, m, h => by
    obtain rfl : n = m := by simpa using h
    simp [cut]
  | n :: ns, l, i + 1, m, h => by
    simp only [cut, List.getElem?_cons_succ] at h ⊢
    rw [cut_get ns (l.drop n) i m h]
    simp
def inLine (P : Program) (t : TypeId) (fs : Array Field) : Bool :=
  decide (((fs.toList.map fun f => P.cellsOf f.type)).sum = P.cellsOf t) && (List.range fs.size).all fun i => match fs[i]? with | some f => decide (f.offset = ((fs.toList.map fun f => P.cellsOf f.type).take i).sum) | none => false
theorem opens_struct {t : TypeId} {fs : Array Field} {ts : List TypeId} {α β : Type} {k : Kd α} {fit lim : α → Prop} {blk : α → Nat} (f : β → α) (g : α → β) (hfg : ∀ a, f (g a) = a) (ht : P.underlying t = some (.struct fs)) (hts : fs.toList.map (·.type) = ts) (hl : inLine P t fs = true) (ho : OpensF P enc w spare held ts k fit lim blk) :
    Opens P enc w spare held t (Kd.iso k f) (fun b => fit (f b)) (fun b => lim (f b)) (fun b => blk (f b) + 1) := by
  intro n cs x h
  obtain ⟨xs, m, rfl, rfl, hlen, hxs, hf⟩ := DataW.trod_struct ht h
  simp only [inLine, Bool.and_eq_true, decide_eq_true_eq, List.all_eq_true, List.mem_range] at hl
  obtain ⟨hs, hof⟩ := hl
  obtain ⟨ns, hns⟩ : ∃ ns, ns = fs.toList.map fun f => P.cellsOf f.type := ⟨_, rfl⟩
  rw [← hns] at hs hof
  have hnl : ns.length = fs.size := by rw [hns]; simp
  have htl : ts.length = fs.size := by rw [← hts]; simp
  obtain ⟨a, h1, h2, h3, h4⟩ := ho m (cut ns cs) xs (by rw [cut_length, hnl, htl]) (by rw [hxs, htl]) (fun i t c hti hc => by
    rw [← hts, List.getElem?_map] at hti
    obtain ⟨fd, hfd, rfl⟩ := Option.map_eq_some_iff.1 hti
    have hfa : fs[i]? = some fd := by simpa using hfd
    have hi : i < fs.size := (Array.getElem?_eq_some_iff.1 hfa).1
    have ho1 := hof i hi
    rw [hfa] at ho1
    simp only [decide_eq_true_eq] at ho1
    have hni : ns[i]? = some (P.cellsOf fd.type) := by rw [hns, List.getElem?_map, hfd]; rfl
    rw [cut_get ns cs i _ hni] at hc
    obtain rfl := Option.some.inj hc
    rw [← ho1]
    exact hf i fd hfa)
  rw [cut_flatten ns cs (by rw [hlen, hs])] at h1
  refine ⟨g a, ?_, ?_, ?_, ?_⟩
  · show k.K w (f (g a)) cs
    rw [hfg]; exact h1
  · show fit (f (g a))
    rw [hfg]; exact h2
  · intro hsm
    show lim (f (g a))
    rw [hfg]
    refine h3 fun n hn => hsm n ?_
    simpa [DataW.weights, ht, hts] using hn
  · show blk (f (g a)) + 1 ≤ _
    rw [hfg]
    simp only [Rows.uptoBulk]
    omega
theorem arg_struct {t : TypeId} {fs : Array Field} {α : Type} {k : Kd α} {fit lim : α → Prop} {blk : α → Nat} {r : Reach} {b0 : Nat} {v : Value} {d : DataW H} {p : List MemPlace} (ht : P.underlying t = some (.struct fs)) (ho : Opens P enc w spare held t k fit lim blk)
    (hv : Value.okWide P w r b0 t v) (h : DataW.Trod enc P w 0 spare held t v d p) : ∃ a cs, v = .agg cs ∧ k.K w a cs.toList ∧ fit a ∧ (Small P t d → lim a) ∧ blk a ≤ Rows.uptoBulk d := by
  obtain ⟨cs, rfl, _⟩ := okWide_struct ht hv
  obtain ⟨n, hn⟩ := h
  obtain ⟨a, h1, h2⟩ := ho _ _ _ hn
  exact ⟨a, cs, rfl, h1, h2⟩
theorem arg_slice {t e : TypeId} {α : Type} {k : Kd α} {fit lim : List α → Prop} {blk : List α → Nat} {r : Reach} {b0 : Nat} {v : Value} {d : DataW H} {p : List MemPlace} (ht : P.underlying t = some (.slice e)) (ho : Opens P enc w spare held t (Kd.slice e k) fit lim blk)
    (hv : Value.okWide P w r b0 t v) (h : DataW.Trod enc P w 0 spare held t v d p) : ∃ (A : Option Addr) (c : Nat) (l : List α), v = .slice A l.length c ∧ l.length ≤ c ∧ k.C w A l.length l ∧ fit l ∧ (Small P t d → lim l) ∧ blk l ≤ Rows.uptoBulk d := by
  obtain ⟨a, len, cap, rfl⟩ := okWide_slice ht hv
  obtain ⟨n, hn⟩ := h
  obtain ⟨l, ⟨A, c, e1, h1, h2⟩, h3⟩ := ho _ _ _ hn
  have e2 : Value.slice a len cap = .slice A l.length c := by simpa [Value.cells] using e1
  exact ⟨A, c, l, e2, h1, h2, h3⟩
theorem small_of {ts : List TypeId} {ds : List (DataW H)} (h : (DataW.weightsEach P ts ds).all (· ≤ reachBytes) = true) {j : Nat} {t : TypeId} {d : DataW H} (ht : ts[j]? = some t) (hd : ds[j]? = some d) : Small P t d := fun n hn => by
  have := List.all_eq_true.1 h n (DataW.weights_mem_each ht hd n hn)
  simpa using this
end Go.Proofs.Ytkbemagcoojmmaa.Opn
