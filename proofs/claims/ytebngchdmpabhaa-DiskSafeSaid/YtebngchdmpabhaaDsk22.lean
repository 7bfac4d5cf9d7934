/- Package disk: DiskSafe answers true, whatever the fuse, the steps and what a crash keeps are. No condition but the bounds on a slice's and a fuse's size. -/
import Derived.Test.YtebngchdmpabhaaDsk18
namespace Go.Proofs.Ytebngchdmpabhaa.Disk
open Go.RowKit Go.Proofs.Ytebngchdmpabhaa.G Go.Proofs.YtebngchdmpabhaaW.PrintWords Go.Proofs.YtebngchdmpabhaaW.PrintLast Go.Proofs.YtebngchdmpabhaaW.PrintMore Go.Proofs.YtebngchdmpabhaaW.Raw
set_option linter.unusedVariables false
set_option linter.unusedSimpArgs false
theorem doA_fuse {l : List S41} {down : Bool} {fuse kind : Int} {name dst data : ByteArray} (h : fuse ≤ 9223372036854775807) : (doA l down fuse kind name dst data).fuse ≤ 9223372036854775807 := by
  unfold doA
  split
  · simp
  · split
    · exact h
    · split
      · exact h
      · split
        · exact h
        · split
          · exact h
          · show (if 0 < fuse then fuse - 1 else fuse) ≤ _
            split <;> omega
theorem doA_why {l : List S41} {down : Bool} {fuse kind : Int} {name dst data : ByteArray} (ho : ok l = true) :
    ((doA l down fuse kind name dst data).why = 0 ∧ down = false) ∨ ((doA l down fuse kind name dst data).why = 12 ∧ (doA l down fuse kind name dst data).down = true) ∨ ((doA l down fuse kind name dst data).why ≠ 0 ∧ (doA l down fuse kind name dst data).why ≠ 12) := by
  rcases doA_cases (down := down) (fuse := fuse) (kind := kind) (name := name) (dst := dst) (data := data) ho with ⟨n, hn0, h12, he⟩ | ⟨hdn, h1, h4, hw, hz, he⟩ | ⟨hdn, h1, h4, hw, hz, he⟩ <;> rw [he]
  · by_cases h : n = 12
    · exact .inr (.inl ⟨h, h12.resolve_left (fun x => x h)⟩)
    · exact .inr (.inr ⟨hn0, h⟩)
  · exact .inr (.inl ⟨rfl, rfl⟩)
  · exact .inl ⟨rfl, hdn⟩
theorem safe_file {l : List S41} (keep : Int) (ho : ok l = true) {k : Nat} (hk : k < l.length) :
    ∃ D : ByteArray, (l.map (crashF keep)).getD k z41 = ⟨(l.getD k z41).f0, D, (D.size : Int)⟩ ∧ (l.getD k z41).f2 ≤ (D.size : Int) ∧ D.size ≤ (l.getD k z41).f1.size ∧ (l.getD k z41).f1.extract 0 D.size = D ∧ (D.size : Int) ≤ 1048576 := by
  obtain ⟨o1, o2, o3⟩ := ok_file ho hk
  obtain ⟨F, hF⟩ : ∃ F, F = l.getD k z41 := ⟨_, rfl⟩
  have hm : (l.map (crashF keep)).getD k z41 = crashF keep F := by
    rw [hF, List.getD_eq_getElem?_getD, List.getD_eq_getElem?_getD, List.getElem?_map, List.getElem?_eq_getElem hk]; rfl
  rw [← hF] at o1 o2 o3 ⊢
  have h0 : 0 ≤ keptN keep F := by unfold keptN; omega
  have h1 : F.f2 ≤ keptN keep F := by unfold keptN; omega
  have h2 : keptN keep F ≤ (F.f1.size : Int) := by unfold keptN; omega
  have hs : (F.f1.extract 0 (keptN keep F).toNat).size = (keptN keep F).toNat := by rw [ByteArray.size_extract]; omega
  refine ⟨F.f1.extract 0 (keptN keep F).toNat, hm, by rw [hs]; omega, by rw [hs]; omega, by rw [hs], by rw [hs]; omega⟩
set_option maxHeartbeats 8000000 in
set_option maxRecDepth 100000 in
theorem safe_calls (As : Option Addr) (cs : Nat) (st : List S27) (fuse0 keep : Int) (w : World) (hr : Kd.C k27 w As st.length st) (hn : st.length < 3518437208883) (hd : ∀ f ∈ st, f.f3.size ≤ 9223372036854775807) (hf0 : fuse0 ≤ 9223372036854775807) :
    Calls Try.prog 4 #[.int .i64 fuse0, .slice As st.length cs, .int .i64 keep] w fun e w' => e = .returned (.bool true) ∧ Below w.heap.size w w' := by
  have HS := Lib.hid hr
  have HD := Lib.hid hd
  have HB := Lib.hid (Below.refl w.heap.size w)
  clear hr hd
  obtain ⟨n, hN⟩ : ∃ n, n = st.length := ⟨_, rfl⟩
  rw [← hN] at HS hn ⊢
  have HN := Lib.hid hN
  clear hN
  go_enter Try.func4, Try.ntmps4
  go_wp2_with (first
    | (go_at_call 16; refine (lives_calls _).mono ?_; rintro e w2 ⟨rfl, hb⟩; have nHB := Lib.hid (below_step HB.out hb); clear HB hb; have HB := nHB; clear nHB))
  have Bd := Lib.hid (blk_new w2 (.cells #[.slice none 0 0, .bool false, .int .i64 fuse0] 24 (0, 0)))
  obtain ⟨gd, hgd⟩ : ∃ g, g = w2.heap.size := ⟨_, rfl⟩
  have Eg : w.heap.size ≤ gd := by rw [hgd]; exact HB.out.size
  rw [← hgd] at Bd ⊢
  have HB1 := Lib.hid (HB.out.alloc HB.out.size (.cells #[.slice none 0 0, .bool false, .int .i64 fuse0] 24 (0, 0)))
  clear HB hgd
  go_loopw [23] (fun vi wr => ∃ (k : Nat) (l : List S41) (down : Bool) (fuse : Int), vi = .int .i64 k ∧ k ≤ n ∧ fuse ≤ 9223372036854775807 ∧ Hid (l.length ≤ k) ∧ Hid (ok l = true) ∧ Hid (∃ v, wr.heap[gd]? = some (.cells #[v, .bool down, .int .i64 fuse] 24 (0, 0)) ∧ Kd.R k41 41 wr w.heap.size (fun _ => True) v l) ∧ Hid (Below w.heap.size w wr)) (fun vi _ => n - (intOf vi).toNat)
  case atStart => exact ⟨0, [], false, fuse0, rfl, by omega, hf0, Lib.hid (by simp), Lib.hid rfl, Lib.hid ⟨_, Bd.out, Kd.R_nil _ _ _ _ _⟩, HB1⟩
  case round =>
    clear Bd HB1
    obtain ⟨k, l, down, fuse, rfl, hk, hf, HL, HO, HX, HB⟩ := hrel
    obtain ⟨v, hg1, hr⟩ := HX.out
    obtain ⟨A1, c1, rfl, hlc, hC1⟩ := Kd.R_reads hr
    have Bd := Lib.hid hg1
    have HC1 := Lib.hid hC1
    clear HX hg1 hr hC1
    have hs2 := HB.out.size
    by_cases hlt : k < n
    · obtain ⟨ad, eA, x0, x1, x2, x3⟩ := at_T27 (Kd.C_below HS.out HB.out) (k : Int) (by omega) (by omega)
      simp only [Int.toNat_natCast] at x0 x1 x2 x3
      have hds : (rd_T27 st (k : Int)).f3.size ≤ 9223372036854775807 := by
        have hkl : k < st.length := by rw [← HN.out]; exact hlt
        have : rd_T27 st (k : Int) = st[k] := by simp [rd_T27, hkl]
        rw [this]
        exact HD.out _ (List.getElem_mem hkl)
      obtain ⟨s, hs⟩ : ∃ s, s = rd_T27 st (k : Int) := ⟨_, rfl⟩
      rw [← hs] at x0 x1 x2 x3 hds
      clear hs
      subst eA
      obtain ⟨F, dn, fu, N, hA⟩ : ∃ F dn fu N, doA l down fuse s.f0 s.f1 s.f2 s.f3 = ⟨F, dn, fu, N⟩ := ⟨_, _, _, _, rfl⟩
      have hw := doA_why (down := down) (fuse := fuse) (kind := s.f0) (name := s.f1) (dst := s.f2) (data := s.f3) HO.out
      have hok := doA_ok (down := down) (fuse := fuse) (kind := s.f0) (name := s.f1) (dst := s.f2) (data := s.f3) HO.out
      have hln := doA_len l down fuse s.f0 s.f1 s.f2 s.f3
      have hfu := doA_fuse (l := l) (down := down) (kind := s.f0) (name := s.f1) (dst := s.f2) (data := s.f3) hf
      rw [hA] at hw hok hln hfu
      have HA := Lib.hid hA
      have HOK := Lib.hid hok
      have HLN := Lib.hid hln
      have HK : Hid (okN F = 0) := Lib.hid (by rw [okN, hok]; rfl)
      clear hA hok hln
      have hkk : (k : Int) < (n : Int) := by omega
      have ld := blk_lt Bd.out
      have q0 := (blk_cell Bd.out 0).trans rfl
      have q1 := (blk_cell Bd.out 1).trans rfl
      have q2 := (blk_cell Bd.out 2).trans rfl
      simp only at hw hfu
      rcases hw with ⟨rfl, rfl⟩ | ⟨rfl, rfl⟩ | ⟨h0, h12⟩
      · go_wp2_with (first
          | (go_at_call 10; have M0 := HA; refine (do_calls A1 c1 l false fuse s.f0 s.f1 s.f2 s.f3 _ (Kd.C_alloc (HC1.out) _) (by have := HL.out; omega) hds hf).mono ?_; rw [HA.out]; rintro e w5 ⟨v5, rfl, hr5, hb⟩; have HR5 := Lib.hid (Kd.R_lower hr5 (HB.out.alloc HB.out.size _).size); clear q0 q1 q2 M0 hr5 ld; have nBd := Lib.hid (blk_below (blk_alloc Bd.out _) hb); have nHB := Lib.hid (below_step (HB.out.alloc HB.out.size _) hb); clear Bd HB hb; have Bd := nBd; have HB := nHB; clear nBd nHB; obtain ⟨A5, c5, e5, hlc5, hC5⟩ := Kd.R_reads HR5.out; subst e5; have HC5 := Lib.hid hC5; clear hC5; have ld := blk_lt Bd.out; have q0 := (blk_cell Bd.out 0).trans rfl; have q1 := (blk_cell Bd.out 1).trans rfl; have q2 := (blk_cell Bd.out 2).trans rfl)
          | (go_at_call 18; refine (check_calls A5 c5 F dn fu _ (Kd.C_alloc HC5.out _)).mono ?_; rintro e w6 ⟨rfl, hb⟩; rw [HK.out]; have B5 := Lib.hid (blk_below (blk_new w5 _) hb); have nHR := Lib.hid (Kd.R_below (Kd.R_alloc HR5.out _) hb); have nBd := Lib.hid (blk_below (blk_alloc Bd.out _) hb); have nHB := Lib.hid (below_step (HB.out.alloc HB.out.size _) hb); have N5d : gd ≠ w5.heap.size := Nat.ne_of_lt ld; have Nd5 := N5d.symm; clear q0 q1 q2 ld Bd HB HR5 HC5 hb; have Bd := nBd; have HB := nHB; have HR5 := nHR; clear nBd nHB nHR; have r0 := (blk_cell B5.out 0).trans rfl; have r1 := (blk_cell B5.out 1).trans rfl; have r2 := (blk_cell B5.out 2).trans rfl; have q0 := (blk_cell Bd.out 0).trans rfl; have q1 := (blk_cell Bd.out 1).trans rfl; have q2 := (blk_cell Bd.out 2).trans rfl; have z0 := blk_frozen Bd.out 0; have z1 := blk_frozen Bd.out 1; have z2 := blk_frozen Bd.out 2))
        go_roundw
        case rel => exact ⟨k + 1, F, dn, fu, by simp, by omega, hfu, by have := HLN.out; have := HL.out; exact Lib.hid (by omega), HOK, Lib.hid ⟨_, blk_put (blk_put (blk_put Bd.out 0 _ rfl) 1 _ rfl) 2 _ rfl, Kd.R_mono (Kd.R_far (p := ⟨gd, 2, none⟩) (Kd.R_far (p := ⟨gd, 1, none⟩) (Kd.R_far (p := ⟨gd, 0, none⟩) (Kd.R_types HR5.out Bd.out (by decide)) (fun _ hk => hk.2) _) (fun _ hk => hk.2) _) (fun _ hk => hk.2) _) (fun _ _ => trivial)⟩, Lib.hid (below_set (below_set (below_set HB.out Eg) Eg) Eg)⟩
        case measure => simp [intOf]; omega
      · go_wp2_with (first
          | (go_at_call 10; have M0 := HA; refine (do_calls A1 c1 l down fuse s.f0 s.f1 s.f2 s.f3 _ (Kd.C_alloc (HC1.out) _) (by have := HL.out; omega) hds hf).mono ?_; rw [HA.out]; rintro e w5 ⟨v5, rfl, hr5, hb⟩; have HR5 := Lib.hid (Kd.R_lower hr5 (HB.out.alloc HB.out.size _).size); clear q0 q1 q2 M0 hr5 ld; have nBd := Lib.hid (blk_below (blk_alloc Bd.out _) hb); have nHB := Lib.hid (below_step (HB.out.alloc HB.out.size _) hb); clear Bd HB hb; have Bd := nBd; have HB := nHB; clear nBd nHB; obtain ⟨A5, c5, e5, hlc5, hC5⟩ := Kd.R_reads HR5.out; subst e5; have HC5 := Lib.hid hC5; clear hC5; have ld := blk_lt Bd.out; have q0 := (blk_cell Bd.out 0).trans rfl; have q1 := (blk_cell Bd.out 1).trans rfl; have q2 := (blk_cell Bd.out 2).trans rfl)
          | (go_at_call 18; refine (check_calls A5 c5 F true fu _ (Kd.C_alloc HC5.out _)).mono ?_; rintro e w6 ⟨rfl, hb⟩; rw [HK.out]; have B5 := Lib.hid (blk_below (blk_new w5 _) hb); have nHR := Lib.hid (Kd.R_below (Kd.R_alloc HR5.out _) hb); have nBd := Lib.hid (blk_below (blk_alloc Bd.out _) hb); have nHB := Lib.hid (below_step (HB.out.alloc HB.out.size _) hb); have N5d : gd ≠ w5.heap.size := Nat.ne_of_lt ld; have Nd5 := N5d.symm; clear q0 q1 q2 ld Bd HB HR5 HC5 hb; have Bd := nBd; have HB := nHB; have HR5 := nHR; clear nBd nHB nHR; have r0 := (blk_cell B5.out 0).trans rfl; have r1 := (blk_cell B5.out 1).trans rfl; have r2 := (blk_cell B5.out 2).trans rfl; have q0 := (blk_cell Bd.out 0).trans rfl; have q1 := (blk_cell Bd.out 1).trans rfl; have q2 := (blk_cell Bd.out 2).trans rfl; have z0 := blk_frozen Bd.out 0; have z1 := blk_frozen Bd.out 1; have z2 := blk_frozen Bd.out 2))
        go_roundw
        case rel => exact ⟨k + 1, F, true, fu, by simp, by omega, hfu, by have := HLN.out; have := HL.out; exact Lib.hid (by omega), HOK, Lib.hid ⟨_, blk_put (blk_put (blk_put Bd.out 0 _ rfl) 1 _ rfl) 2 _ rfl, Kd.R_mono (Kd.R_far (p := ⟨gd, 2, none⟩) (Kd.R_far (p := ⟨gd, 1, none⟩) (Kd.R_far (p := ⟨gd, 0, none⟩) (Kd.R_types HR5.out Bd.out (by decide)) (fun _ hk => hk.2) _) (fun _ hk => hk.2) _) (fun _ hk => hk.2) _) (fun _ _ => trivial)⟩, Lib.hid (below_set (below_set (below_set HB.out Eg) Eg) Eg)⟩
        case measure => simp [intOf]; omega
      · have d0 : (N == 0) = false := by simpa using h0
        have d12 : (N == 12) = false := by simpa using h12
        go_wp2_with (first
          | (go_at_call 10; have M0 := HA; refine (do_calls A1 c1 l down fuse s.f0 s.f1 s.f2 s.f3 _ (Kd.C_alloc (HC1.out) _) (by have := HL.out; omega) hds hf).mono ?_; rw [HA.out]; rintro e w5 ⟨v5, rfl, hr5, hb⟩; have HR5 := Lib.hid (Kd.R_lower hr5 (HB.out.alloc HB.out.size _).size); clear q0 q1 q2 M0 hr5 ld; have nBd := Lib.hid (blk_below (blk_alloc Bd.out _) hb); have nHB := Lib.hid (below_step (HB.out.alloc HB.out.size _) hb); clear Bd HB hb; have Bd := nBd; have HB := nHB; clear nBd nHB; obtain ⟨A5, c5, e5, hlc5, hC5⟩ := Kd.R_reads HR5.out; subst e5; have HC5 := Lib.hid hC5; clear hC5; have ld := blk_lt Bd.out; have q0 := (blk_cell Bd.out 0).trans rfl; have q1 := (blk_cell Bd.out 1).trans rfl; have q2 := (blk_cell Bd.out 2).trans rfl)
          | (go_at_call 18; refine (check_calls A5 c5 F dn fu _ (Kd.C_alloc HC5.out _)).mono ?_; rintro e w6 ⟨rfl, hb⟩; rw [HK.out]; have B5 := Lib.hid (blk_below (blk_new w5 _) hb); have nHR := Lib.hid (Kd.R_below (Kd.R_alloc HR5.out _) hb); have nBd := Lib.hid (blk_below (blk_alloc Bd.out _) hb); have nHB := Lib.hid (below_step (HB.out.alloc HB.out.size _) hb); have N5d : gd ≠ w5.heap.size := Nat.ne_of_lt ld; have Nd5 := N5d.symm; clear q0 q1 q2 ld Bd HB HR5 HC5 hb; have Bd := nBd; have HB := nHB; have HR5 := nHR; clear nBd nHB nHR; have r0 := (blk_cell B5.out 0).trans rfl; have r1 := (blk_cell B5.out 1).trans rfl; have r2 := (blk_cell B5.out 2).trans rfl; have q0 := (blk_cell Bd.out 0).trans rfl; have q1 := (blk_cell Bd.out 1).trans rfl; have q2 := (blk_cell Bd.out 2).trans rfl; have z0 := blk_frozen Bd.out 0; have z1 := blk_frozen Bd.out 1; have z2 := blk_frozen Bd.out 2))
        go_roundw
        case rel => exact ⟨k + 1, F, dn, fu, by simp, by omega, hfu, by have := HLN.out; have := HL.out; exact Lib.hid (by omega), HOK, Lib.hid ⟨_, blk_put (blk_put (blk_put Bd.out 0 _ rfl) 1 _ rfl) 2 _ rfl, Kd.R_mono (Kd.R_far (p := ⟨gd, 2, none⟩) (Kd.R_far (p := ⟨gd, 1, none⟩) (Kd.R_far (p := ⟨gd, 0, none⟩) (Kd.R_types HR5.out Bd.out (by decide)) (fun _ hk => hk.2) _) (fun _ hk => hk.2) _) (fun _ hk => hk.2) _) (fun _ _ => trivial)⟩, Lib.hid (below_set (below_set (below_set HB.out Eg) Eg) Eg)⟩
        case measure => simp [intOf]; omega
    · obtain rfl : k = n := by omega
      obtain ⟨L, hL⟩ : ∃ L, L = l.map (crashF keep) := ⟨_, rfl⟩
      have HKR : Hid (crashA l keep = ⟨L, false, -1, 0⟩) := Lib.hid (by rw [hL]; exact if_pos HO.out)
      have HK : Hid (okN L = 0) := Lib.hid (by rw [okN, hL, crash_ok_all keep HO.out]; rfl)
      have hll : L.length = l.length := by rw [hL, List.length_map]
      have HLL := Lib.hid hL
      have hl2 : ((L.length : Int) != (l.length : Int)) = false := by rw [hll]; simp
      have HLE := Lib.hid hll
      clear hL hll
      have ld := blk_lt Bd.out
      have q0 := (blk_cell Bd.out 0).trans rfl
      have q1 := (blk_cell Bd.out 1).trans rfl
      have q2 := (blk_cell Bd.out 2).trans rfl
      go_wp2_with (first
        | (go_at_call 14; refine (crash_calls A1 c1 l down fuse keep _ HC1.out (by have := HL.out; omega)).mono ?_; rw [HKR.out]; rintro e w5 ⟨v5, rfl, hr5, hb⟩; clear q0 q1 q2 ld; have nBd := Lib.hid (blk_below Bd.out hb); have nHC := Lib.hid (Kd.C_below HC1.out hb); have nHB := Lib.hid (below_step HB.out hb); clear Bd HC1 HB hb; have Bd := nBd; have HC1 := nHC; have HB := nHB; clear nBd nHC nHB; obtain ⟨A5, c5, e5, hlc5, hC5⟩ := Kd.R_reads hr5; subst e5; have HC5 := Lib.hid hC5; clear hC5 hr5; have ld := blk_lt Bd.out; have q0 := (blk_cell Bd.out 0).trans rfl; have q1 := (blk_cell Bd.out 1).trans rfl; have q2 := (blk_cell Bd.out 2).trans rfl)
        | (go_at_call 18; refine (check_calls A5 c5 L false (-1) _ (Kd.C_alloc HC5.out _)).mono ?_; rintro e w6 ⟨rfl, hb⟩; rw [HK.out]; have B5 := Lib.hid (blk_below (blk_new w5 _) hb); have nBd := Lib.hid (blk_below (blk_alloc Bd.out _) hb); have nHC := Lib.hid (Kd.C_below (Kd.C_alloc HC1.out _) hb); have nHC5 := Lib.hid (Kd.C_below (Kd.C_alloc HC5.out _) hb); have nHB := Lib.hid (below_step (HB.out.alloc HB.out.size _) hb); clear q0 q1 q2 ld Bd HB HC1 HC5 hb; have Bd := nBd; have HB := nHB; have HC1 := nHC; have HC5 := nHC5; clear nBd nHB nHC nHC5; have r0 := (blk_cell B5.out 0).trans rfl; have r1 := (blk_cell B5.out 1).trans rfl; have r2 := (blk_cell B5.out 2).trans rfl; have q0 := (blk_cell Bd.out 0).trans rfl; have q1 := (blk_cell Bd.out 1).trans rfl; have q2 := (blk_cell Bd.out 2).trans rfl))
      obtain ⟨m, hm⟩ : ∃ m, m = l.length := ⟨_, rfl⟩
      have HM := Lib.hid hm
      rw [← hm] at HC1 ⊢
      have hmm : m < 9223372036854775807 := by have := HL.out; omega
      clear q0 q1 q2 r0 r1 r2 Bd hm hl2
      go_loopw [84] (fun vi wr => ∃ k : Nat, vi = .int .i64 k ∧ k ≤ m ∧ Hid (Below w6.heap.size w6 wr)) (fun vi _ => m - (intOf vi).toNat)
      case atStart => exact ⟨0, rfl, Nat.zero_le _, Lib.hid (Below.refl _ _)⟩
      case round =>
        obtain ⟨k, rfl, hk, HBk⟩ := hrel
        have B5k := Lib.hid (blk_below B5.out HBk.out)
        by_cases hlt : k < m
        · have hkl : k < l.length := by rw [← HM.out]; exact hlt
          have hkL : (k : Int) < (L.length : Int) := by rw [HLE.out]; omega
          obtain ⟨D, e1, e2, e3, e4, e5⟩ := safe_file keep HO.out hkl
          rw [← HLL.out] at e1
          obtain ⟨a1, eA, x0, x1, x2⟩ := at_T41 (Kd.C_below HC1.out HBk.out) (k : Int) (by omega) (by omega)
          simp only [Int.toNat_natCast] at x0 x1 x2
          have hget : rd_T41 l (k : Int) = l.getD k z41 := by simp [rd_T41]
          have hget5 : rd_T41 L (k : Int) = L.getD k z41 := by simp [rd_T41]
          rw [hget] at x0 x1 x2
          obtain ⟨F, hF⟩ : ∃ F, F = l.getD k z41 := ⟨_, rfl⟩
          rw [← hF] at x0 x1 x2 e1 e2 e3 e4
          clear hF hget
          subst eA
          have hkk : (k : Int) < (m : Int) := by omega
          go_upto_region 18 with (fail)
          obtain ⟨W1, hW1⟩ : ∃ W1, W1 = wr.alloc (.cells #[.string F.f0, .string F.f1, .int .i64 F.f2] 41 (0, 0)) := ⟨_, rfl⟩
          obtain ⟨g15, hg15⟩ : ∃ g, g = wr.heap.size := ⟨_, rfl⟩
          have B15 : Hid (W1.heap[g15]? = some (.cells #[.string F.f0, .string F.f1, .int .i64 F.f2] 41 (0, 0))) := Lib.hid (by rw [hW1, hg15]; exact blk_new wr _)
          have HW1 : Hid (Below w6.heap.size w6 W1) := Lib.hid (by rw [hW1]; exact HBk.out.alloc HBk.out.size _)
          rw [← hg15, ← hW1]
          clear hW1 hg15 x0 x1 x2 B5k HBk
          have B5k := Lib.hid (blk_below B5.out HW1.out)
          obtain ⟨a5, eB, y0, y1, y2⟩ := at_T41 (Kd.C_below HC5.out HW1.out) (k : Int) (by omega) (by omega)
          simp only [Int.toNat_natCast] at y0 y1 y2
          rw [hget5, e1] at y0 y1 y2
          subst eB
          clear e1 hget5
          have q0 := (blk_cell B5k.out 0).trans rfl
          have x0 := (blk_cell B15.out 0).trans rfl
          have x1 := (blk_cell B15.out 1).trans rfl
          have x2 := (blk_cell B15.out 2).trans rfl
          have l15 := blk_lt B15.out
          go_upto_region 19 with (fail)
          obtain ⟨W2, hW2⟩ : ∃ W2, W2 = W1.alloc (.cells #[.string F.f0, .string D, .int .i64 (D.size : Int)] 41 (0, 0)) := ⟨_, rfl⟩
          obtain ⟨g16, hg16⟩ : ∃ g, g = W1.heap.size := ⟨_, rfl⟩
          have B16 : Hid (W2.heap[g16]? = some (.cells #[.string F.f0, .string D, .int .i64 (D.size : Int)] 41 (0, 0))) := Lib.hid (by rw [hW2, hg16]; exact blk_new W1 _)
          have B15' : Hid (W2.heap[g15]? = some (.cells #[.string F.f0, .string F.f1, .int .i64 F.f2] 41 (0, 0))) := Lib.hid (by rw [hW2]; exact blk_alloc B15.out _)
          have HW2 : Hid (Below w6.heap.size w6 W2) := Lib.hid (by rw [hW2]; exact HW1.out.alloc HW1.out.size _)
          rw [← hg16, ← hW2]
          clear hW2 hg16 x0 x1 x2 y0 y1 y2 q0 l15 B15 HW1 B5k
          have x0 := (blk_cell B15'.out 0).trans rfl
          have x1 := (blk_cell B15'.out 1).trans rfl
          have x2 := (blk_cell B15'.out 2).trans rfl
          have y0 := (blk_cell B16.out 0).trans rfl
          have y1 := (blk_cell B16.out 1).trans rfl
          have y2 := (blk_cell B16.out 2).trans rfl
          have n1 : ¬ ((D.size : Int) < F.f2) := by omega
          have n2 : ¬ ((F.f1.size : Int) < (D.size : Int)) := by omega
          have n3 : (D.size : Int) ≤ (F.f1.size : Int) := by omega
          have n4 : (0 : Int) ≤ (D.size : Int) := by omega
          go_quiet (fail)
          go_wp2
          exact ⟨⟨k + 1, by simp, hlt, Lib.hid (pw_below_drewN HW2.out _)⟩, by simp [intOf]; omega⟩
        · obtain rfl : k = m := by omega
          clear B5k
          go_wp2
          go_ret
          exact ⟨rfl, below_step HB.out HBk.out⟩
end Go.Proofs.Ytebngchdmpabhaa.Disk
