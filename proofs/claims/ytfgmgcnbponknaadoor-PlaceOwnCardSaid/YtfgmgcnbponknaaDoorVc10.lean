/- PlaceOwn: the law's walk. What it writes are the numbers of values that Split made: the table and its copy stand as they were. Conditions: what its callees ask. Printed by gvc10.py. -/
import Derived.Test.YtfgmgcnbponknaaDoorNd
import Derived.Test.YtfgmgcnbponknaaDoorLp11
import Derived.Test.YtfgmgcnbponknaaDoorLp5
namespace Go.Proofs.YtfgmgcnbponknaaDoor.Val
open Go.RowKit Go.Proofs.YtfgmgcnbponknaaDoor.G Go.Proofs.YtfgmgcnbponknaaDoor.Lx Go.Proofs.YtfgmgcnbponknaaDoor.Opn Go.Proofs.YtfgmgcnbponknaaDoorW.PrintWords Go.Proofs.YtfgmgcnbponknaaDoorW.PrintLast Go.Proofs.YtfgmgcnbponknaaDoorW.PrintMore
set_option linter.unusedVariables false
set_option linter.unusedSimpArgs false
theorem sliceR {α : Type} {d : Kd α} {e : Nat} {w : World} {base : Nat} {ok : Nat → Prop} {A' : Option Addr} {n' c' : Nat} {xs : List α} (h : Kd.R d e w base ok (.slice A' n' c') xs) (h0 : 0 < xs.length) : ∃ g, A' = some ⟨g, 0, none⟩ ∧ base ≤ g := by
  obtain ⟨g, cap, e1, hb, _⟩ := Kd.R_form h h0
  injection e1 with e1 e2 e3
  exact ⟨g, e1, hb⟩
set_option maxHeartbeats 16000000 in
set_option maxRecDepth 100000 in
theorem own_calls (kl : Nat) (n0 n1 n2 : Int) (nm : ByteArray) (A D : Option Addr) (c d : Nat) (l : List S97) (m : List (List S38)) (w : World) (X : List (List (List S38))) (r2 v : Int) (ha : Kd.C k97 w A l.length l) (hc : l.length ≤ c)
    (hb : Kd.C (Kd.slice 38 k38) w D m.length m) (hd : m.length ≤ d) (hT : Lib.Utf8Tabs 0 1 w) (hlv : potsherdlaw06_lives.f kl = some true) (hcp : potsherdref01_CopyRows.f kl m = some m) (hsp : place_Split.f n0 n1 n2 nm l m = some (X, r2))
    (hsm : potsherdref01_Same.f kl m m = some true) (hrc : potsherdref06_Check.f n0 n1 n2 = some v) (hpc : place_Check.f n0 n1 n2 = some v) (hXl : X.length < 4611686018427387904) (hYl : ∀ y ∈ X, y.length < 4611686018427387904 ∧ ∀ z ∈ y, z.length < 4611686018427387904) :
    Calls Tryd.prog 3 #[.agg #[.int .i64 n0, .int .i64 n1, .int .i64 n2], .agg #[.string nm, .slice A l.length c, .slice D m.length d]] w fun e w' => e = .returned (.bool true) ∧ Below w.heap.size w w' := by
  have HB := Lib.hid (Below.refl w.heap.size w)
  have HA := Lib.hid ha
  have HM := Lib.hid hb
  have HTT := Lib.hid hT
  have HLV := Lib.hid hlv
  have HCP := Lib.hid hcp
  have HSP := Lib.hid hsp
  have HSM := Lib.hid hsm
  have HRC := Lib.hid hrc
  have HPC := Lib.hid hpc
  have HXL := Lib.hid hXl
  have HYL := Lib.hid hYl
  clear ha hb hT hlv hcp hsp hsm hrc hpc hXl hYl
  go_enter Tryd.func3, Tryd.ntmps3
  go_wp2_with (first
    | ((with_reducible refine gate_dst (N := 2) rfl ?_); refine box_event ?hg (N := 2) ?hd (cs := #[.int .i64 n0, .int .i64 n1, .int .i64 n2]) (t := 23) ?hr ?_; (case hd => rfl); (case hg => rfl); (case hr => first | (go_simp; done) | (go_simp; rfl)); intro g2 hg wb2 hbx hb; have nHB := Lib.hid (below_step HB.out hb); clear HB; have HB := nHB; clear nHB; have B2 := Lib.hid hbx; clear hg hbx hb)
    | ((with_reducible refine gate_dst (N := 3) rfl ?_); refine box_event ?hg (N := 3) ?hd (cs := #[.string nm, .slice A l.length c, .slice D m.length d]) (t := 27) ?hr ?_; (case hd => rfl); (case hg => rfl); (case hr => first | (go_simp; done) | (go_simp; rfl)); intro g3 hg wb3 hbx hb; have nB := Lib.hid (blk_below B2.out hb); clear B2; have B2 := nB; clear nB; have nHB := Lib.hid (below_step HB.out hb); clear HB; have HB := nHB; clear nHB; have B3 := Lib.hid hbx; clear hg hbx hb; have l2 := blk_lt B2.out; have l3 := blk_lt B3.out; have p0 := (blk_cell B2.out 0).trans rfl; have p1 := (blk_cell B2.out 1).trans rfl; have p2 := (blk_cell B2.out 2).trans rfl; have q0 := (blk_cell B3.out 0).trans rfl; have q1 := (blk_cell B3.out 1).trans rfl; have q2 := (blk_cell B3.out 2).trans rfl)
    | (go_at_call 10; refine (potsherdlaw06_lives.calls kl true _ HLV.out).mono ?_; rintro e w5 ⟨rfl, hb⟩; clear p0 p1 p2 q0 q1 q2; have nB := Lib.hid (blk_below B2.out hb); clear B2; have B2 := nB; clear nB; have nB := Lib.hid (blk_below B3.out hb); clear B3; have B3 := nB; clear nB; have nHB := Lib.hid (below_step HB.out hb); clear HB; have HB := nHB; clear nHB; clear hb; have p0 := (blk_cell B2.out 0).trans rfl; have p1 := (blk_cell B2.out 1).trans rfl; have p2 := (blk_cell B2.out 2).trans rfl; have q0 := (blk_cell B3.out 0).trans rfl; have q1 := (blk_cell B3.out 1).trans rfl; have q2 := (blk_cell B3.out 2).trans rfl)
    | (go_at_call 11; refine (potsherdref01_CopyRows.calls kl D d m m _ (Kd.C_below HM.out HB.out) hd HCP.out).mono ?_; rintro e w6 ⟨vk, rfl, ho, hb⟩; clear p0 p1 p2 q0 q1 q2; have nB := Lib.hid (blk_below B2.out hb); clear B2; have B2 := nB; clear nB; have nB := Lib.hid (blk_below B3.out hb); clear B3; have B3 := nB; clear nB; have nHB := Lib.hid (below_step HB.out hb); clear HB; have HB := nHB; clear nHB; clear hb; have HK := Lib.hid ho; clear ho; have p0 := (blk_cell B2.out 0).trans rfl; have p1 := (blk_cell B2.out 1).trans rfl; have p2 := (blk_cell B2.out 2).trans rfl; have q0 := (blk_cell B3.out 0).trans rfl; have q1 := (blk_cell B3.out 1).trans rfl; have q2 := (blk_cell B3.out 2).trans rfl)
    | (go_at_call 12; refine (place_Split.calls n0 n1 n2 nm A c l D d m X r2 _ (Kd.C_below HA.out HB.out) hc (Kd.C_below HM.out HB.out) hd HSP.out (Utf8Tabs_below HTT.out HB.out)).mono ?_; rintro e w7 ⟨va, rfl, ho, hb⟩; have HX := Lib.hid ho; have HB1 := Lib.hid hb; clear p0 p1 p2 q0 q1 q2; clear ho hb))
  obtain ⟨Ak, ck, ek⟩ := Kd.S_slice HK.out
  subst ek
  obtain ⟨_, hck, hck0⟩ := Kd.S_reads' HK.out
  obtain ⟨Aa, ca, ea⟩ := Kd.R_slice HX.out
  subst ea
  have HCK1 := Lib.hid hck0
  have HN := Lib.hid (nud_refl w7)
  have hxl := HXL.out
  clear hck0 HK
  go_wp2
  go_loopw [26] (fun v26 wr => ∃ i : Nat, v26 = .int .i64 i ∧ i ≤ X.length ∧ Hid (Nud w7 wr) ∧ Hid (Below w6.heap.size w6 wr)) (fun v26 _ => X.length - (intOf v26).toNat)
  case atStart => exact ⟨0, rfl, Nat.zero_le _, HN, HB1⟩
  case round =>
    clear HN HB1
    obtain ⟨i, rfl, hi, HN, HB1⟩ := hrel
    by_cases h1 : i < X.length
    · obtain ⟨g, rfl, hgb⟩ := sliceR HX.out (by omega)
      obtain ⟨v1, ok1, hc1, hR1⟩ := nud_elem HX.out (by decide) HN.out h1
      have hmem : X.getD i [] ∈ X := mem_getD [] h1
      obtain ⟨Y, hY⟩ : ∃ Y, Y = X.getD i [] := ⟨_, rfl⟩
      rw [← hY] at hR1 hmem
      obtain ⟨hyl, hzl⟩ := HYL.out _ hmem
      have HZL := Lib.hid hzl
      obtain ⟨A1, c1, e1⟩ := Kd.R_slice hR1
      subst e1
      have HY := Lib.hid hR1
      have hii : (i : Int) < (X.length : Int) := by omega
      clear hY hmem hR1 hzl
      go_wp2
      clear hc1
      go_loopw [32] (fun v32 wr => ∃ j : Nat, v32 = .int .i64 j ∧ j ≤ Y.length ∧ Hid (Nud w7 wr) ∧ Hid (Below w6.heap.size w6 wr)) (fun v32 _ => Y.length - (intOf v32).toNat)
      case atStart => exact ⟨0, rfl, Nat.zero_le _, HN, HB1⟩
      case round =>
        clear HN HB1
        obtain ⟨j, rfl, hj, HN, HB1⟩ := hrel
        by_cases h2 : j < Y.length
        · obtain ⟨gy, rfl, hgy⟩ := sliceR HY.out (by omega)
          obtain ⟨v2, ok2, hc2, hR2⟩ := nud_elem HY.out (by decide) HN.out h2
          have hmem : Y.getD j [] ∈ Y := mem_getD [] h2
          obtain ⟨Z, hZ⟩ : ∃ Z, Z = Y.getD j [] := ⟨_, rfl⟩
          rw [← hZ] at hR2 hmem
          have hzl := HZL.out _ hmem
          obtain ⟨A2, c2, e2⟩ := Kd.R_slice hR2
          subst e2
          have HZ := Lib.hid hR2
          have hjj : (j : Int) < (Y.length : Int) := by omega
          clear hZ hmem hR2
          go_wp2
          clear hc2
          go_loopw [38] (fun v38 wr => ∃ t : Nat, v38 = .int .i64 t ∧ t ≤ Z.length ∧ Hid (Nud w7 wr) ∧ Hid (Below w6.heap.size w6 wr)) (fun v38 _ => Z.length - (intOf v38).toNat)
          case atStart => exact ⟨0, rfl, Nat.zero_le _, HN, HB1⟩
          case round =>
            clear HN HB1
            obtain ⟨t, rfl, ht, HN, HB1⟩ := hrel
            by_cases h3 : t < Z.length
            · obtain ⟨gz, rfl, hgz⟩ := sliceR HZ.out (by omega)
              obtain ⟨x, cs', hgz1, hc3, hf3⟩ := nud_val HZ.out HN.out h3
              have HP := Lib.hid (fun x => nud_put HN.out hgz1 t x)
              have htt : (t : Int) < (Z.length : Int) := by omega
              clear hgz1
              go_wp2
              go_roundw
              case rel => exact ⟨t + 1, by simp, h3, Lib.hid (HP.out _), Lib.hid (below_set HB1.out hgz)⟩
              case measure => simp [intOf]; omega
            · obtain rfl : t = Z.length := by omega
              go_wp2
              go_roundw
              case rel => exact ⟨j + 1, by simp, h2, HN, HB1⟩
              case measure => simp [intOf]; omega
        · obtain rfl : j = Y.length := by omega
          go_wp2
          go_roundw
          case rel => exact ⟨i + 1, by simp, h1, HN, HB1⟩
          case measure => simp [intOf]; omega
    · obtain rfl : i = X.length := by omega
      have HBw := Lib.hid (below_step HB.out HB1.out)
      have HB2 := Lib.hid (blk_below B2.out HB1.out)
      have HB3 := Lib.hid (blk_below B3.out HB1.out)
      have HCK0 := Lib.hid (Kd.C_below HCK1.out HB1.out)
      clear B2 B3 HB HB1 HN HX HCK1
      go_wp2
      refine start_ (n := 12) (S := fun w' => w'.cell? ⟨g3, 2, none⟩ = some (.slice D m.length d) ∧ w'.cell? ⟨g2, 0, none⟩ = some (.int .i64 n0) ∧ w'.cell? ⟨g2, 1, none⟩ = some (.int .i64 n1) ∧ w'.cell? ⟨g2, 2, none⟩ = some (.int .i64 n2)) (ds := []) #[false, false, false, false, false, false, false, false, false, false, false, false] (by kernel_rfl) rfl rfl ⟨(blk_cell HB3.out 2).trans rfl, (blk_cell HB2.out 0).trans rfl, (blk_cell HB2.out 1).trans rfl, (blk_cell HB2.out 2).trans rfl⟩ (fun hHeld => ?_)
      generalize hw8 : World.drew _ = w8 at hHeld ⊢
      have HB9 := Lib.hid (by rw [← hw8]; exact below_drew1 HBw.out : Below w.heap.size w w8)
      have HCK := Lib.hid (by rw [← hw8]; exact Kd.C_drew HCK0.out : Kd.C (Kd.slice 38 k38) w8 Ak m.length m)
      clear hw8 HCK0 HBw
      refine pure_ (i := 0) (N := some 52) (v := ?_) (a' := ?_) #[true, false, false, false, false, false, false, false, false, false, false, false] rfl rfl (by kernel_rfl) (fun _ _ _ h => h) (Or.inl ⟨by rfl, ?_⟩) ?_ ?_
      rotate_left
      · intro w'
        go_simp
        with_reducible rfl
      rotate_left
      · simp only [Act.put, List.setIfInBounds_toArray, List.set_cons_zero, List.set_cons_succ, i64_w, i32_w]
        rfl
      refine take_ (i := 1) (N := some 53) (v := ?_) (a' := ?_) #[true, true, false, false, false, false, false, false, false, false, false, false] rfl rfl (by kernel_rfl) (fun _ _ _ h => h) (Or.inl ⟨by rfl, ?_⟩) hHeld ?_ ?_
      rotate_left
      · rintro w' ⟨s0, s1, s2, s3⟩
        go_simp
        with_reducible rfl
      rotate_left
      · simp only [Act.put, List.setIfInBounds_toArray, List.set_cons_zero, List.set_cons_succ, i64_w, i32_w]
        rfl
      refine pure_ (i := 2) (N := some 54) (v := ?_) (a' := ?_) #[true, true, true, false, false, false, false, false, false, false, false, false] rfl rfl (by kernel_rfl) (fun _ _ _ h => h) (Or.inl ⟨by rfl, ?_⟩) ?_ ?_
      rotate_left
      · intro w'
        go_simp
        with_reducible rfl
      rotate_left
      · simp only [Act.put, List.setIfInBounds_toArray, List.set_cons_zero, List.set_cons_succ, i64_w, i32_w]
        rfl
      refine one_ (i := 3) (N := some 55) #[true, true, true, true, false, false, false, false, false, false, false, false] rfl rfl (by kernel_rfl) (by decide) (fun K hK => ?_)
      refine goes_ Tryd.func13 (by kernel_rfl) rfl #[.slice D m.length d, .slice Ak m.length ck] (by rfl) rfl rfl (by (try simp only [List.map_toArray, List.map_cons, List.map_nil]); first | done | rfl) ?_
      refine (potsherdref01_Same.calls kl D d m Ak ck m true _ (Kd.C_below HM.out HB9.out) hd HCK.out hck HSM.out).mono ?_
      rintro e w9 ⟨rfl, ⟨m1, rfl⟩⟩
      refine ⟨_, rfl, ?_⟩
      have hb := pw_below_drewN (Below.refl w8.heap.size w8) m1
      have y0 := (hb.cell (World.block_lt_of_cell? _ _ hHeld.1)).trans hHeld.1
      have y1 := (hb.cell (World.block_lt_of_cell? _ _ hHeld.2.1)).trans hHeld.2.1
      have y2 := (hb.cell (World.block_lt_of_cell? _ _ hHeld.2.2.1)).trans hHeld.2.2.1
      have y3 := (hb.cell (World.block_lt_of_cell? _ _ hHeld.2.2.2)).trans hHeld.2.2.2
      have nHB := Lib.hid (below_step HB9.out hb)
      clear HB9 hb hHeld
      have HB9 := nHB
      clear nHB
      refine hK.out _ _ ⟨y0, y1, y2, y3⟩ (fun hHeld => ?_)
      clear hK K y0 y1 y2 y3
      refine norm_ (a' := ?_) ?_ ?_
      rotate_left
      · show Act.put _ (some 55) _ = _
        simp only [Act.put, List.setIfInBounds_toArray, List.set_cons_zero, List.set_cons_succ, i64_w, i32_w]
        rfl
      refine pure_ (i := 4) (N := some 56) (v := ?_) (a' := ?_) #[true, true, true, true, true, false, false, false, false, false, false, false] rfl rfl (by kernel_rfl) (fun _ _ _ h => h) (Or.inl ⟨by rfl, ?_⟩) ?_ ?_
      rotate_left
      · intro w'
        go_simp
        with_reducible rfl
      rotate_left
      · simp only [Act.put, List.setIfInBounds_toArray, List.set_cons_zero, List.set_cons_succ, i64_w, i32_w]
        rfl
      refine take_ (i := 5) (N := some 57) (v := ?_) (a' := ?_) #[true, true, true, true, true, true, false, false, false, false, false, false] rfl rfl (by kernel_rfl) (fun _ _ _ h => h) (Or.inl ⟨by rfl, ?_⟩) hHeld ?_ ?_
      rotate_left
      · rintro w' ⟨s0, s1, s2, s3⟩
        go_simp
        with_reducible rfl
      rotate_left
      · simp only [Act.put, List.setIfInBounds_toArray, List.set_cons_zero, List.set_cons_succ, i64_w, i32_w]
        rfl
      refine take_ (i := 7) (N := some 59) (v := ?_) (a' := ?_) #[true, true, true, true, true, true, false, true, false, false, false, false] rfl rfl (by kernel_rfl) (fun _ _ _ h => h) (Or.inl ⟨by rfl, ?_⟩) hHeld ?_ ?_
      rotate_left
      · rintro w' ⟨s0, s1, s2, s3⟩
        go_simp
        with_reducible rfl
      rotate_left
      · simp only [Act.put, List.setIfInBounds_toArray, List.set_cons_zero, List.set_cons_succ, i64_w, i32_w]
        rfl
      refine one_ (i := 6) (N := some 58) #[true, true, true, true, true, true, true, true, false, false, false, false] rfl rfl (by kernel_rfl) (by decide) (fun K hK => ?_)
      refine goes_ Tryd.func14 (by kernel_rfl) rfl #[.agg #[.int .i64 n0, .int .i64 n1, .int .i64 n2]] (by rfl) rfl rfl (by (try simp only [List.map_toArray, List.map_cons, List.map_nil]); first | done | rfl) ?_
      refine (potsherdref06_Check.calls n0 n1 n2 _ _ HRC.out).mono ?_
      rintro e w16 ⟨rfl, hb⟩
      refine ⟨_, rfl, ?_⟩
      have y0 := (hb.cell (World.block_lt_of_cell? _ _ hHeld.1)).trans hHeld.1
      have y1 := (hb.cell (World.block_lt_of_cell? _ _ hHeld.2.1)).trans hHeld.2.1
      have y2 := (hb.cell (World.block_lt_of_cell? _ _ hHeld.2.2.1)).trans hHeld.2.2.1
      have y3 := (hb.cell (World.block_lt_of_cell? _ _ hHeld.2.2.2)).trans hHeld.2.2.2
      have nHB := Lib.hid (below_step HB9.out hb)
      clear HB9 hb hHeld
      have HB9 := nHB
      clear nHB
      refine hK.out _ _ ⟨y0, y1, y2, y3⟩ (fun hHeld => ?_)
      clear hK K y0 y1 y2 y3
      refine norm_ (a' := ?_) ?_ ?_
      rotate_left
      · show Act.put _ (some 58) _ = _
        simp only [Act.put, List.setIfInBounds_toArray, List.set_cons_zero, List.set_cons_succ, i64_w, i32_w]
        rfl
      refine one_ (i := 8) (N := some 60) #[true, true, true, true, true, true, true, true, true, false, false, false] rfl rfl (by kernel_rfl) (by decide) (fun K hK => ?_)
      refine goes_ Tryd.func15 (by kernel_rfl) rfl #[.agg #[.int .i64 n0, .int .i64 n1, .int .i64 n2]] (by rfl) rfl rfl (by (try simp only [List.map_toArray, List.map_cons, List.map_nil]); first | done | rfl) ?_
      refine (place_Check.calls n0 n1 n2 _ _ HPC.out).mono ?_
      rintro e w18 ⟨rfl, hb⟩
      refine ⟨_, rfl, ?_⟩
      have y0 := (hb.cell (World.block_lt_of_cell? _ _ hHeld.1)).trans hHeld.1
      have y1 := (hb.cell (World.block_lt_of_cell? _ _ hHeld.2.1)).trans hHeld.2.1
      have y2 := (hb.cell (World.block_lt_of_cell? _ _ hHeld.2.2.1)).trans hHeld.2.2.1
      have y3 := (hb.cell (World.block_lt_of_cell? _ _ hHeld.2.2.2)).trans hHeld.2.2.2
      have nHB := Lib.hid (below_step HB9.out hb)
      clear HB9 hb hHeld
      have HB9 := nHB
      clear nHB
      refine hK.out _ _ ⟨y0, y1, y2, y3⟩ (fun hHeld => ?_)
      clear hK K y0 y1 y2 y3
      refine norm_ (a' := ?_) ?_ ?_
      rotate_left
      · show Act.put _ (some 60) _ = _
        simp only [Act.put, List.setIfInBounds_toArray, List.set_cons_zero, List.set_cons_succ, i64_w, i32_w]
        rfl
      refine pure_ (i := 9) (N := some 61) (v := ?_) (a' := ?_) #[true, true, true, true, true, true, true, true, true, true, false, false] rfl rfl (by kernel_rfl) (fun _ _ _ h => h) (Or.inl ⟨by rfl, ?_⟩) ?_ ?_
      rotate_left
      · intro w'
        go_simp
        with_reducible rfl
      rotate_left
      · simp only [Act.put, List.setIfInBounds_toArray, List.set_cons_zero, List.set_cons_succ, i64_w, i32_w]
        rfl
      refine pure_ (i := 10) (N := some 62) (v := ?_) (a' := ?_) #[true, true, true, true, true, true, true, true, true, true, true, false] rfl rfl (by kernel_rfl) (fun _ _ _ h => h) (Or.inl ⟨by rfl, ?_⟩) ?_ ?_
      rotate_left
      · intro w'
        go_simp
        with_reducible rfl
      rotate_left
      · simp only [Act.put, List.setIfInBounds_toArray, List.set_cons_zero, List.set_cons_succ, i64_w, i32_w]
        rfl
      refine pure_ (i := 11) (N := some 4) (v := ?_) (a' := ?_) #[true, true, true, true, true, true, true, true, true, true, true, true] rfl rfl (by kernel_rfl) (fun _ _ _ h => h) (Or.inl ⟨by rfl, ?_⟩) ?_ ?_
      rotate_left
      · intro w'
        go_simp
        with_reducible rfl
      rotate_left
      · simp only [Act.put, List.setIfInBounds_toArray, List.set_cons_zero, List.set_cons_succ, i64_w, i32_w]
        rfl
      refine done_ (by kernel_rfl) ?_
      try go_wp2
      go_ret
      exact ⟨rfl, HB9.out⟩
end Go.Proofs.YtfgmgcnbponknaaDoor.Val
