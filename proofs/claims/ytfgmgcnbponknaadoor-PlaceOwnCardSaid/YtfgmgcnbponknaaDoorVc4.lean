/- Package place: CheckClaim. Condition: utf8's two tables are laid; columns and owners are read; names have at most 2^63 - 4 bytes. -/
import Derived.Test.YtfgmgcnbponknaaDoorVc3
import Derived.Test.YtfgmgcnbponknaaDoorPc1
namespace Go.Proofs.YtfgmgcnbponknaaDoor.Val
open Go.RowKit Go.Proofs.YtfgmgcnbponknaaDoor.G Go.Proofs.YtfgmgcnbponknaaDoor.Lx Go.Proofs.YtfgmgcnbponknaaDoor.Opn Go.Proofs.YtfgmgcnbponknaaDoorW.PrintWords Go.Proofs.YtfgmgcnbponknaaDoorW.PrintLast Go.Proofs.YtfgmgcnbponknaaDoorW.PrintMore
set_option linter.unusedVariables false
set_option linter.unusedSimpArgs false
def layV (n0 n1 n2 : Int) : Int := if n0 < 2 ∨ n0 > 8 ∨ n1 < 1 ∨ n1 > 8 ∨ n2 < 1 ∨ n2 ≥ n0 then 2 else 0
theorem lay_f (n0 n1 n2 : Int) : place_Check.f n0 n1 n2 = some (layV n0 n1 n2) := by
  unfold place_Check.f layV
  repeat' split
  all_goals first | rfl | omega
theorem lay_calls (n0 n1 n2 : Int) (w : World) : Calls Tryd.prog 15 #[.agg #[.int .i64 n0, .int .i64 n1, .int .i64 n2]] w fun e w' => e = .returned (.int .i64 (layV n0 n1 n2)) ∧ Below w.heap.size w w' :=
  place_Check.calls n0 n1 n2 _ w (lay_f n0 n1 n2)
theorem table_calls (nm : ByteArray) (A : Option Addr) (c : Nat) (l : List S97) (w : World) (ha : Kd.C k97 w A l.length l) (hc : l.length ≤ c) (hl : l.length < 4611686018427387904) (hn : nm.size ≤ 9223372036854775807) (hs : ShortC l) (hT : Lib.Utf8Tabs 0 1 w) :
    Calls Tryd.prog 28 #[.agg #[.string nm, .slice A l.length c, .slice none 0 0]] w fun e w' => e = .returned (.int .i64 (tabV nm l [])) ∧ Below w.heap.size w w' :=
  value_CheckTable.calls (l.length + 20) nm A c l none 0 [] _ w ha hc (Kd.R_reads' (Kd.R_nil (Kd.slice 38 k38) 35 w 0 (fun _ => True))).2.2 (Nat.le_refl _) (vtab_f _ nm l [] hn hl hs ⟨by simp, by simp⟩ (by simp)) hT
def claimV (n0 n1 n2 : Int) (nm : ByteArray) (l : List S97) (m : List (List Int)) : Int :=
  if layV n0 n1 n2 ≠ 0 then layV n0 n1 n2 else if tabV nm l [] ≠ 0 ∨ (m.length : Int) ≠ n1 ∨ badB n0 m = true then 6 else 0
set_option maxHeartbeats 8000000 in
set_option maxRecDepth 100000 in
theorem claim_calls (n0 n1 n2 b0 b1 : Int) (nm : ByteArray) (A B : Option Addr) (c d : Nat) (l : List S97) (m : List (List Int)) (w : World) (ha : Kd.C k97 w A l.length l) (hc : l.length ≤ c) (hl : l.length < 4611686018427387904) (hn : nm.size ≤ 9223372036854775807) (hs : ShortC l)
    (hb : Kd.C (Kd.slice 3 (Kd.int .i64)) w B m.length m) (hd : m.length ≤ d) (hm : m.length < 4611686018427387904) (hr : Reach m) (hT : Lib.Utf8Tabs 0 1 w) :
    Calls Tryd.prog 24 #[.agg #[.int .i64 n0, .int .i64 n1, .int .i64 n2], .agg #[.string nm, .slice A l.length c, .int .u64 b0, .int .u64 b1, .slice B m.length d]] w fun e w' => e = .returned (.int .i64 (claimV n0 n1 n2 nm l m)) ∧ Below w.heap.size w w' := by
  have HB := Lib.hid (Below.refl w.heap.size w)
  have HTB := Lib.hid (fun (wx : World) (hx : Below w.heap.size w wx) => table_calls nm A c l wx (Kd.C_below ha hx) hc hl hn hs (Utf8Tabs_below hT hx))
  have HCO := Lib.hid (fun (wx : World) (g : Nat) (hx : Below w.heap.size w wx) (hg : wx.heap[g]? = some (.cells #[.int .i64 n0, .int .i64 n1, .int .i64 n2] 23 (0, 0))) => containsO_calls B d m g n0 n1 n2 wx (Kd.C_below hb hx) hm hr hg)
  clear ha hb hT hs hr
  obtain ⟨T, hT1⟩ : ∃ T, T = tabV nm l [] := ⟨_, rfl⟩
  obtain ⟨Q, hQ⟩ : ∃ Q, Q = badB n0 m := ⟨_, rfl⟩
  have HT1 := Lib.hid hT1.symm
  have HB1 := Lib.hid hQ.symm
  have hX : claimV n0 n1 n2 nm l m = if layV n0 n1 n2 ≠ 0 then layV n0 n1 n2 else if T ≠ 0 ∨ (m.length : Int) ≠ n1 ∨ Q = true then 6 else 0 := by rw [hT1, hQ]; rfl
  rw [hX]
  clear hX hT1 hQ
  obtain ⟨n, hn1⟩ : ∃ n, n = l.length := ⟨_, rfl⟩
  obtain ⟨o, ho1⟩ : ∃ o, o = m.length := ⟨_, rfl⟩
  rw [← hn1] at HTB hc hl ⊢
  rw [← ho1] at HCO hd hm ⊢
  clear hn1 ho1
  rcases (show layV n0 n1 n2 = 0 ∨ layV n0 n1 n2 = 2 by unfold layV; split <;> simp) with hv | hv
  · have HV := Lib.hid hv
    rw [hv, if_neg (show ¬ ((0 : Int) ≠ 0) by simp)]
    clear hv
    by_cases ht : T = 0
    · subst ht
      by_cases ho : (o : Int) = n1
      · have e1 : ((o : Int) != n1) = false := by simpa using ho
        cases Q
        · rw [if_neg (by simp [ho])]
          clear ho
          go_enter Tryd.func24, Tryd.ntmps24
          go_wp2_with (first
            | ((with_reducible refine gate_dst (N := 2) rfl ?_); refine box_event ?hg (N := 2) ?hd (cs := #[.int .i64 n0, .int .i64 n1, .int .i64 n2]) (t := 23) ?hr ?_; (case hd => rfl); (case hg => rfl); (case hr => first | (go_simp; done) | (go_simp; rfl)); intro g2 hg w3 hbx hb; have nHB := Lib.hid (below_step HB.out hb); clear HB; have HB := nHB; have B2 := Lib.hid hbx; clear nHB hg hbx hb)
            | ((with_reducible refine gate_dst (N := 3) rfl ?_); refine box_event ?hg (N := 3) ?hd (cs := #[.string nm, .slice A n c, .int .u64 b0, .int .u64 b1, .slice B o d]) (t := 54) ?hr ?_; (case hd => rfl); (case hg => rfl); (case hr => first | (go_simp; done) | (go_simp; rfl)); intro g3 hg w4 hbx hb; have nB2 := Lib.hid (blk_below B2.out hb); have nHB := Lib.hid (below_step HB.out hb); clear HB B2; have HB := nHB; have B2 := nB2; have B3 := Lib.hid hbx; clear nHB nB2 hg hbx hb; have l2 := blk_lt B2.out; have l3 := blk_lt B3.out; have p0 := (blk_cell B2.out 0).trans rfl; have p1 := (blk_cell B2.out 1).trans rfl; have p2 := (blk_cell B2.out 2).trans rfl; have q0 := (blk_cell B3.out 0).trans rfl; have q1 := (blk_cell B3.out 1).trans rfl; have q2 := (blk_cell B3.out 2).trans rfl; have q3 := (blk_cell B3.out 3).trans rfl; have q4 := (blk_cell B3.out 4).trans rfl)
            | (go_at_call 15; refine (lay_calls n0 n1 n2 _).mono ?_; rw [HV.out]; rintro e w5 ⟨rfl, hb⟩; have nB2 := Lib.hid (blk_below B2.out hb); have nB3 := Lib.hid (blk_below B3.out hb); have nHB := Lib.hid (below_step HB.out hb); clear HB B2 B3 hb p0 p1 p2 q0 q1 q2 q3 q4; have HB := nHB; have B2 := nB2; have B3 := nB3; clear nHB nB2 nB3; have p0 := (blk_cell B2.out 0).trans rfl; have p1 := (blk_cell B2.out 1).trans rfl; have p2 := (blk_cell B2.out 2).trans rfl; have q0 := (blk_cell B3.out 0).trans rfl; have q1 := (blk_cell B3.out 1).trans rfl; have q2 := (blk_cell B3.out 2).trans rfl; have q3 := (blk_cell B3.out 3).trans rfl; have q4 := (blk_cell B3.out 4).trans rfl)
            | (go_at_call 28; refine (HTB.out _ HB.out).mono ?_; rw [HT1.out]; rintro e w6 ⟨rfl, hb⟩; have nB2 := Lib.hid (blk_below B2.out hb); have nB3 := Lib.hid (blk_below B3.out hb); have nHB := Lib.hid (below_step HB.out hb); clear HB B2 B3 hb p0 p1 p2 q0 q1 q2 q3 q4; have HB := nHB; have B2 := nB2; have B3 := nB3; clear nHB nB2 nB3; have p0 := (blk_cell B2.out 0).trans rfl; have p1 := (blk_cell B2.out 1).trans rfl; have p2 := (blk_cell B2.out 2).trans rfl; have q0 := (blk_cell B3.out 0).trans rfl; have q1 := (blk_cell B3.out 1).trans rfl; have q2 := (blk_cell B3.out 2).trans rfl; have q3 := (blk_cell B3.out 3).trans rfl; have q4 := (blk_cell B3.out 4).trans rfl)
            | (go_at_call 38; refine (HCO.out _ _ HB.out B2.out).mono ?_; rw [HB1.out]; rintro e w7 ⟨rfl, hb⟩; have nB2 := Lib.hid (blk_below B2.out hb); have nB3 := Lib.hid (blk_below B3.out hb); have nHB := Lib.hid (below_step HB.out hb); clear HB B2 B3 hb p0 p1 p2 q0 q1 q2 q3 q4; have HB := nHB; have B2 := nB2; have B3 := nB3; clear nHB nB2 nB3; have p0 := (blk_cell B2.out 0).trans rfl; have p1 := (blk_cell B2.out 1).trans rfl; have p2 := (blk_cell B2.out 2).trans rfl; have q0 := (blk_cell B3.out 0).trans rfl; have q1 := (blk_cell B3.out 1).trans rfl; have q2 := (blk_cell B3.out 2).trans rfl; have q3 := (blk_cell B3.out 3).trans rfl; have q4 := (blk_cell B3.out 4).trans rfl))
          go_ret
          exact ⟨rfl, HB.out⟩
        · rw [if_pos (Or.inr (Or.inr rfl))]
          clear ho
          go_enter Tryd.func24, Tryd.ntmps24
          go_wp2_with (first
            | ((with_reducible refine gate_dst (N := 2) rfl ?_); refine box_event ?hg (N := 2) ?hd (cs := #[.int .i64 n0, .int .i64 n1, .int .i64 n2]) (t := 23) ?hr ?_; (case hd => rfl); (case hg => rfl); (case hr => first | (go_simp; done) | (go_simp; rfl)); intro g2 hg w3 hbx hb; have nHB := Lib.hid (below_step HB.out hb); clear HB; have HB := nHB; have B2 := Lib.hid hbx; clear nHB hg hbx hb)
            | ((with_reducible refine gate_dst (N := 3) rfl ?_); refine box_event ?hg (N := 3) ?hd (cs := #[.string nm, .slice A n c, .int .u64 b0, .int .u64 b1, .slice B o d]) (t := 54) ?hr ?_; (case hd => rfl); (case hg => rfl); (case hr => first | (go_simp; done) | (go_simp; rfl)); intro g3 hg w4 hbx hb; have nB2 := Lib.hid (blk_below B2.out hb); have nHB := Lib.hid (below_step HB.out hb); clear HB B2; have HB := nHB; have B2 := nB2; have B3 := Lib.hid hbx; clear nHB nB2 hg hbx hb; have l2 := blk_lt B2.out; have l3 := blk_lt B3.out; have p0 := (blk_cell B2.out 0).trans rfl; have p1 := (blk_cell B2.out 1).trans rfl; have p2 := (blk_cell B2.out 2).trans rfl; have q0 := (blk_cell B3.out 0).trans rfl; have q1 := (blk_cell B3.out 1).trans rfl; have q2 := (blk_cell B3.out 2).trans rfl; have q3 := (blk_cell B3.out 3).trans rfl; have q4 := (blk_cell B3.out 4).trans rfl)
            | (go_at_call 15; refine (lay_calls n0 n1 n2 _).mono ?_; rw [HV.out]; rintro e w5 ⟨rfl, hb⟩; have nB2 := Lib.hid (blk_below B2.out hb); have nB3 := Lib.hid (blk_below B3.out hb); have nHB := Lib.hid (below_step HB.out hb); clear HB B2 B3 hb p0 p1 p2 q0 q1 q2 q3 q4; have HB := nHB; have B2 := nB2; have B3 := nB3; clear nHB nB2 nB3; have p0 := (blk_cell B2.out 0).trans rfl; have p1 := (blk_cell B2.out 1).trans rfl; have p2 := (blk_cell B2.out 2).trans rfl; have q0 := (blk_cell B3.out 0).trans rfl; have q1 := (blk_cell B3.out 1).trans rfl; have q2 := (blk_cell B3.out 2).trans rfl; have q3 := (blk_cell B3.out 3).trans rfl; have q4 := (blk_cell B3.out 4).trans rfl)
            | (go_at_call 28; refine (HTB.out _ HB.out).mono ?_; rw [HT1.out]; rintro e w6 ⟨rfl, hb⟩; have nB2 := Lib.hid (blk_below B2.out hb); have nB3 := Lib.hid (blk_below B3.out hb); have nHB := Lib.hid (below_step HB.out hb); clear HB B2 B3 hb p0 p1 p2 q0 q1 q2 q3 q4; have HB := nHB; have B2 := nB2; have B3 := nB3; clear nHB nB2 nB3; have p0 := (blk_cell B2.out 0).trans rfl; have p1 := (blk_cell B2.out 1).trans rfl; have p2 := (blk_cell B2.out 2).trans rfl; have q0 := (blk_cell B3.out 0).trans rfl; have q1 := (blk_cell B3.out 1).trans rfl; have q2 := (blk_cell B3.out 2).trans rfl; have q3 := (blk_cell B3.out 3).trans rfl; have q4 := (blk_cell B3.out 4).trans rfl)
            | (go_at_call 38; refine (HCO.out _ _ HB.out B2.out).mono ?_; rw [HB1.out]; rintro e w7 ⟨rfl, hb⟩; have nB2 := Lib.hid (blk_below B2.out hb); have nB3 := Lib.hid (blk_below B3.out hb); have nHB := Lib.hid (below_step HB.out hb); clear HB B2 B3 hb p0 p1 p2 q0 q1 q2 q3 q4; have HB := nHB; have B2 := nB2; have B3 := nB3; clear nHB nB2 nB3; have p0 := (blk_cell B2.out 0).trans rfl; have p1 := (blk_cell B2.out 1).trans rfl; have p2 := (blk_cell B2.out 2).trans rfl; have q0 := (blk_cell B3.out 0).trans rfl; have q1 := (blk_cell B3.out 1).trans rfl; have q2 := (blk_cell B3.out 2).trans rfl; have q3 := (blk_cell B3.out 3).trans rfl; have q4 := (blk_cell B3.out 4).trans rfl))
          go_ret
          exact ⟨rfl, HB.out⟩
      · have e1 : ((o : Int) != n1) = true := by simpa using ho
        rw [if_pos (Or.inr (Or.inl ho))]
        clear ho
        go_enter Tryd.func24, Tryd.ntmps24
        go_wp2_with (first
          | ((with_reducible refine gate_dst (N := 2) rfl ?_); refine box_event ?hg (N := 2) ?hd (cs := #[.int .i64 n0, .int .i64 n1, .int .i64 n2]) (t := 23) ?hr ?_; (case hd => rfl); (case hg => rfl); (case hr => first | (go_simp; done) | (go_simp; rfl)); intro g2 hg w3 hbx hb; have nHB := Lib.hid (below_step HB.out hb); clear HB; have HB := nHB; have B2 := Lib.hid hbx; clear nHB hg hbx hb)
          | ((with_reducible refine gate_dst (N := 3) rfl ?_); refine box_event ?hg (N := 3) ?hd (cs := #[.string nm, .slice A n c, .int .u64 b0, .int .u64 b1, .slice B o d]) (t := 54) ?hr ?_; (case hd => rfl); (case hg => rfl); (case hr => first | (go_simp; done) | (go_simp; rfl)); intro g3 hg w4 hbx hb; have nB2 := Lib.hid (blk_below B2.out hb); have nHB := Lib.hid (below_step HB.out hb); clear HB B2; have HB := nHB; have B2 := nB2; have B3 := Lib.hid hbx; clear nHB nB2 hg hbx hb; have l2 := blk_lt B2.out; have l3 := blk_lt B3.out; have p0 := (blk_cell B2.out 0).trans rfl; have p1 := (blk_cell B2.out 1).trans rfl; have p2 := (blk_cell B2.out 2).trans rfl; have q0 := (blk_cell B3.out 0).trans rfl; have q1 := (blk_cell B3.out 1).trans rfl; have q2 := (blk_cell B3.out 2).trans rfl; have q3 := (blk_cell B3.out 3).trans rfl; have q4 := (blk_cell B3.out 4).trans rfl)
          | (go_at_call 15; refine (lay_calls n0 n1 n2 _).mono ?_; rw [HV.out]; rintro e w5 ⟨rfl, hb⟩; have nB2 := Lib.hid (blk_below B2.out hb); have nB3 := Lib.hid (blk_below B3.out hb); have nHB := Lib.hid (below_step HB.out hb); clear HB B2 B3 hb p0 p1 p2 q0 q1 q2 q3 q4; have HB := nHB; have B2 := nB2; have B3 := nB3; clear nHB nB2 nB3; have p0 := (blk_cell B2.out 0).trans rfl; have p1 := (blk_cell B2.out 1).trans rfl; have p2 := (blk_cell B2.out 2).trans rfl; have q0 := (blk_cell B3.out 0).trans rfl; have q1 := (blk_cell B3.out 1).trans rfl; have q2 := (blk_cell B3.out 2).trans rfl; have q3 := (blk_cell B3.out 3).trans rfl; have q4 := (blk_cell B3.out 4).trans rfl)
          | (go_at_call 28; refine (HTB.out _ HB.out).mono ?_; rw [HT1.out]; rintro e w6 ⟨rfl, hb⟩; have nB2 := Lib.hid (blk_below B2.out hb); have nB3 := Lib.hid (blk_below B3.out hb); have nHB := Lib.hid (below_step HB.out hb); clear HB B2 B3 hb p0 p1 p2 q0 q1 q2 q3 q4; have HB := nHB; have B2 := nB2; have B3 := nB3; clear nHB nB2 nB3; have p0 := (blk_cell B2.out 0).trans rfl; have p1 := (blk_cell B2.out 1).trans rfl; have p2 := (blk_cell B2.out 2).trans rfl; have q0 := (blk_cell B3.out 0).trans rfl; have q1 := (blk_cell B3.out 1).trans rfl; have q2 := (blk_cell B3.out 2).trans rfl; have q3 := (blk_cell B3.out 3).trans rfl; have q4 := (blk_cell B3.out 4).trans rfl))
        go_ret
        exact ⟨rfl, HB.out⟩
    · have e0 : (T != 0) = true := by simpa using ht
      rw [if_pos (Or.inl ht)]
      clear ht
      go_enter Tryd.func24, Tryd.ntmps24
      go_wp2_with (first
        | ((with_reducible refine gate_dst (N := 2) rfl ?_); refine box_event ?hg (N := 2) ?hd (cs := #[.int .i64 n0, .int .i64 n1, .int .i64 n2]) (t := 23) ?hr ?_; (case hd => rfl); (case hg => rfl); (case hr => first | (go_simp; done) | (go_simp; rfl)); intro g2 hg w3 hbx hb; have nHB := Lib.hid (below_step HB.out hb); clear HB; have HB := nHB; have B2 := Lib.hid hbx; clear nHB hg hbx hb)
        | ((with_reducible refine gate_dst (N := 3) rfl ?_); refine box_event ?hg (N := 3) ?hd (cs := #[.string nm, .slice A n c, .int .u64 b0, .int .u64 b1, .slice B o d]) (t := 54) ?hr ?_; (case hd => rfl); (case hg => rfl); (case hr => first | (go_simp; done) | (go_simp; rfl)); intro g3 hg w4 hbx hb; have nB2 := Lib.hid (blk_below B2.out hb); have nHB := Lib.hid (below_step HB.out hb); clear HB B2; have HB := nHB; have B2 := nB2; have B3 := Lib.hid hbx; clear nHB nB2 hg hbx hb; have l2 := blk_lt B2.out; have l3 := blk_lt B3.out; have p0 := (blk_cell B2.out 0).trans rfl; have p1 := (blk_cell B2.out 1).trans rfl; have p2 := (blk_cell B2.out 2).trans rfl; have q0 := (blk_cell B3.out 0).trans rfl; have q1 := (blk_cell B3.out 1).trans rfl; have q2 := (blk_cell B3.out 2).trans rfl; have q3 := (blk_cell B3.out 3).trans rfl; have q4 := (blk_cell B3.out 4).trans rfl)
        | (go_at_call 15; refine (lay_calls n0 n1 n2 _).mono ?_; rw [HV.out]; rintro e w5 ⟨rfl, hb⟩; have nB2 := Lib.hid (blk_below B2.out hb); have nB3 := Lib.hid (blk_below B3.out hb); have nHB := Lib.hid (below_step HB.out hb); clear HB B2 B3 hb p0 p1 p2 q0 q1 q2 q3 q4; have HB := nHB; have B2 := nB2; have B3 := nB3; clear nHB nB2 nB3; have p0 := (blk_cell B2.out 0).trans rfl; have p1 := (blk_cell B2.out 1).trans rfl; have p2 := (blk_cell B2.out 2).trans rfl; have q0 := (blk_cell B3.out 0).trans rfl; have q1 := (blk_cell B3.out 1).trans rfl; have q2 := (blk_cell B3.out 2).trans rfl; have q3 := (blk_cell B3.out 3).trans rfl; have q4 := (blk_cell B3.out 4).trans rfl)
        | (go_at_call 28; refine (HTB.out _ HB.out).mono ?_; rw [HT1.out]; rintro e w6 ⟨rfl, hb⟩; have nB2 := Lib.hid (blk_below B2.out hb); have nB3 := Lib.hid (blk_below B3.out hb); have nHB := Lib.hid (below_step HB.out hb); clear HB B2 B3 hb p0 p1 p2 q0 q1 q2 q3 q4; have HB := nHB; have B2 := nB2; have B3 := nB3; clear nHB nB2 nB3; have p0 := (blk_cell B2.out 0).trans rfl; have p1 := (blk_cell B2.out 1).trans rfl; have p2 := (blk_cell B2.out 2).trans rfl; have q0 := (blk_cell B3.out 0).trans rfl; have q1 := (blk_cell B3.out 1).trans rfl; have q2 := (blk_cell B3.out 2).trans rfl; have q3 := (blk_cell B3.out 3).trans rfl; have q4 := (blk_cell B3.out 4).trans rfl))
      go_ret
      exact ⟨rfl, HB.out⟩
  · have HV := Lib.hid hv
    rw [hv, if_pos (show (2 : Int) ≠ 0 by decide)]
    clear hv
    go_enter Tryd.func24, Tryd.ntmps24
    go_wp2_with (first
      | ((with_reducible refine gate_dst (N := 2) rfl ?_); refine box_event ?hg (N := 2) ?hd (cs := #[.int .i64 n0, .int .i64 n1, .int .i64 n2]) (t := 23) ?hr ?_; (case hd => rfl); (case hg => rfl); (case hr => first | (go_simp; done) | (go_simp; rfl)); intro g2 hg w3 hbx hb; have nHB := Lib.hid (below_step HB.out hb); clear HB; have HB := nHB; have B2 := Lib.hid hbx; clear nHB hg hbx hb)
      | ((with_reducible refine gate_dst (N := 3) rfl ?_); refine box_event ?hg (N := 3) ?hd (cs := #[.string nm, .slice A n c, .int .u64 b0, .int .u64 b1, .slice B o d]) (t := 54) ?hr ?_; (case hd => rfl); (case hg => rfl); (case hr => first | (go_simp; done) | (go_simp; rfl)); intro g3 hg w4 hbx hb; have nB2 := Lib.hid (blk_below B2.out hb); have nHB := Lib.hid (below_step HB.out hb); clear HB B2; have HB := nHB; have B2 := nB2; have B3 := Lib.hid hbx; clear nHB nB2 hg hbx hb; have l2 := blk_lt B2.out; have l3 := blk_lt B3.out; have p0 := (blk_cell B2.out 0).trans rfl; have p1 := (blk_cell B2.out 1).trans rfl; have p2 := (blk_cell B2.out 2).trans rfl; have q0 := (blk_cell B3.out 0).trans rfl; have q1 := (blk_cell B3.out 1).trans rfl; have q2 := (blk_cell B3.out 2).trans rfl; have q3 := (blk_cell B3.out 3).trans rfl; have q4 := (blk_cell B3.out 4).trans rfl)
      | (go_at_call 15; refine (lay_calls n0 n1 n2 _).mono ?_; rw [HV.out]; rintro e w5 ⟨rfl, hb⟩; have nB2 := Lib.hid (blk_below B2.out hb); have nB3 := Lib.hid (blk_below B3.out hb); have nHB := Lib.hid (below_step HB.out hb); clear HB B2 B3 hb p0 p1 p2 q0 q1 q2 q3 q4; have HB := nHB; have B2 := nB2; have B3 := nB3; clear nHB nB2 nB3; have p0 := (blk_cell B2.out 0).trans rfl; have p1 := (blk_cell B2.out 1).trans rfl; have p2 := (blk_cell B2.out 2).trans rfl; have q0 := (blk_cell B3.out 0).trans rfl; have q1 := (blk_cell B3.out 1).trans rfl; have q2 := (blk_cell B3.out 2).trans rfl; have q3 := (blk_cell B3.out 3).trans rfl; have q4 := (blk_cell B3.out 4).trans rfl))
    go_ret
    exact ⟨rfl, HB.out⟩
end Go.Proofs.YtfgmgcnbponknaaDoor.Val
