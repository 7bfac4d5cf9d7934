/- Package value: Hash. Condition: the text has at most 2^63 - 1 bytes. -/
import Derived.Test.YtepgjdmdogblmaaDoorVl4
import Derived.Test.YtepgjdmdogblmaaDoorLs0
import Derived.Lib.UnsafeStr
namespace Go.Proofs.YtepgjdmdogblmaaDoor.Val
open Go.RowKit Go.Proofs.YtepgjdmdogblmaaDoor.G Go.Proofs.YtepgjdmdogblmaaDoor.Lx Go.Proofs.YtepgjdmdogblmaaDoorW.PrintWords Go.Proofs.YtepgjdmdogblmaaDoorW.PrintLast Go.Proofs.YtepgjdmdogblmaaDoorW.PrintMore
set_option linter.unusedVariables false
set_option linter.unusedSimpArgs false
def put1 (h b : Int) : Int := IntKind.u64.wrap ((Go.bits .xor .u64 h (IntKind.u64.wrap b)) * 1099511628211)
def fnv (h : Int) (l : List Int) : Int := l.foldl put1 h
def byteAt (n : Int) (i : Nat) : Int := (n / 256 ^ i) % 256
def bytesV (k : Int) (b : Bool) (n : Int) (s : ByteArray) : List Int :=
  k :: (if k = 1 then [bitN b] else if k = 2 then (List.range 8).map (byteAt n) else if k = 3 then bytesOf s else [])
def hashV (k : Int) (b : Bool) (n : Int) (s : ByteArray) : Int := fnv 14695981039346656037 (bytesV k b n s)
theorem fnv_snoc (h : Int) (l : List Int) (b : Int) : fnv h (l ++ [b]) = put1 (fnv h l) b := by unfold fnv; rw [List.foldl_append]; rfl
theorem bw_below (w : World) (e : TypeId) (s : ByteArray) : Below w.heap.size w (Lib.bytesWorld w e s) :=
  Lib.below_freeze ((Below.drew (Below.refl _ w)).alloc (Nat.le_refl _) _) (p := ⟨w.heap.size, _, none⟩) (Nat.le_refl _) 1
theorem fnv_cons (h b : Int) (l : List Int) : fnv h (b :: l) = fnv (put1 h b) l := rfl
theorem put_calls (h b : Int) (w : World) : Calls Tryd.prog 50 #[.int .u64 h, .int .u8 b] w fun e w' => e = .returned (.int .u64 (put1 h b)) ∧ Below w.heap.size w w' :=
  (value_sum_put.calls h b (put1 h b) w rfl).mono fun e w' x => ⟨x.1, x.2.below⟩
def intOf : Value → Nat
  | .int _ i => i.toNat
  | _ => 0
set_option maxHeartbeats 4000000 in
set_option maxRecDepth 100000 in
theorem hash_calls (k : Int) (b : Bool) (n : Int) (s : ByteArray) (w : World) (hs : s.size ≤ 9223372036854775807) :
    Calls Tryd.prog 21 #[.agg #[.int .u8 k, .bool b, .int .i64 n, .string s]] w fun e w' => e = .returned (.int .u64 (hashV k b n s)) ∧ Below w.heap.size w w' := by
  have HB := Lib.hid (Below.refl w.heap.size w)
  have MA := Lib.hid trivial
  obtain ⟨h1, hh1⟩ : ∃ h1, h1 = put1 14695981039346656037 k := ⟨_, rfl⟩
  have H1 := Lib.hid hh1
  clear hh1
  by_cases k1 : k = 1
  · subst k1
    have hX : hashV 1 b n s = put1 h1 (bitN b) := by rw [H1.out]; rfl
    rw [hX]
    cases b
    · go_enter Tryd.func21, Tryd.ntmps21
      go_wp2_with (first
        | ((with_reducible refine gate_dst (N := 1) rfl ?_); refine box_event ?hg (N := 1) ?hd (cs := #[.int .u8 1, .bool false, .int .i64 n, .string s]) (t := 27) ?hr ?_; (case hd => rfl); (case hg => rfl); (case hr => first | (go_simp; done) | (go_simp; rfl)); intro g1 hg w1 hbx hb; have Eg1 : w.heap.size ≤ g1 := (by rw [hg]; exact HB.out.size); have nHB := Lib.hid (below_step HB.out hb); clear HB; have HB := nHB; have Bg1 := Lib.hid hbx; clear nHB hg hbx hb; have q0 := (blk_cell Bg1.out 0).trans rfl; have q1 := (blk_cell Bg1.out 1).trans rfl; have q2 := (blk_cell Bg1.out 2).trans rfl; have q3 := (blk_cell Bg1.out 3).trans rfl; have l1 := blk_lt Bg1.out)
        | (go_at_call 50; have M := MA; (with_reducible refine (put_calls _ _ _).mono ?_); rw [← H1.out]; rintro e w2 ⟨rfl, hb⟩; have nR := Lib.hid (blk_below Bg1.out hb); have nB := Lib.hid (below_step HB.out hb); clear HB Bg1 hb q0 q1 q2 q3; have HB := nB; have Bg1 := nR; clear nB nR MA M; have q0 := (blk_cell Bg1.out 0).trans rfl; have q1 := (blk_cell Bg1.out 1).trans rfl; have q2 := (blk_cell Bg1.out 2).trans rfl; have q3 := (blk_cell Bg1.out 3).trans rfl)
        | (go_at_call 50; (with_reducible refine (put_calls h1 _ _).mono ?_); rintro e w6 ⟨rfl, hb'⟩; have nB := Lib.hid (below_step HB.out hb'); clear HB hb'; have HB := nB; clear nB))
      go_ret
      exact ⟨rfl, HB.out⟩
    · go_enter Tryd.func21, Tryd.ntmps21
      go_wp2_with (first
        | ((with_reducible refine gate_dst (N := 1) rfl ?_); refine box_event ?hg (N := 1) ?hd (cs := #[.int .u8 1, .bool true, .int .i64 n, .string s]) (t := 27) ?hr ?_; (case hd => rfl); (case hg => rfl); (case hr => first | (go_simp; done) | (go_simp; rfl)); intro g1 hg w1 hbx hb; have Eg1 : w.heap.size ≤ g1 := (by rw [hg]; exact HB.out.size); have nHB := Lib.hid (below_step HB.out hb); clear HB; have HB := nHB; have Bg1 := Lib.hid hbx; clear nHB hg hbx hb; have q0 := (blk_cell Bg1.out 0).trans rfl; have q1 := (blk_cell Bg1.out 1).trans rfl; have q2 := (blk_cell Bg1.out 2).trans rfl; have q3 := (blk_cell Bg1.out 3).trans rfl; have l1 := blk_lt Bg1.out)
        | (go_at_call 50; have M := MA; (with_reducible refine (put_calls _ _ _).mono ?_); rw [← H1.out]; rintro e w2 ⟨rfl, hb⟩; have nR := Lib.hid (blk_below Bg1.out hb); have nB := Lib.hid (below_step HB.out hb); clear HB Bg1 hb q0 q1 q2 q3; have HB := nB; have Bg1 := nR; clear nB nR MA M; have q0 := (blk_cell Bg1.out 0).trans rfl; have q1 := (blk_cell Bg1.out 1).trans rfl; have q2 := (blk_cell Bg1.out 2).trans rfl; have q3 := (blk_cell Bg1.out 3).trans rfl)
        | (go_at_call 50; (with_reducible refine (put_calls h1 _ _).mono ?_); rintro e w6 ⟨rfl, hb'⟩; have nB := Lib.hid (below_step HB.out hb'); clear HB hb'; have HB := nB; clear nB))
      go_ret
      exact ⟨rfl, HB.out⟩
  by_cases k2 : k = 2
  · subst k2
    have hX : hashV 2 b n s = fnv h1 ((List.range 8).map (byteAt n)) := by rw [H1.out, hashV, bytesV, if_neg (by decide), if_pos rfl, fnv_cons]
    rw [hX]
    go_enter Tryd.func21, Tryd.ntmps21
    go_wp2_with (first
      | ((with_reducible refine gate_dst (N := 1) rfl ?_); refine box_event ?hg (N := 1) ?hd (cs := #[.int .u8 2, .bool b, .int .i64 n, .string s]) (t := 27) ?hr ?_; (case hd => rfl); (case hg => rfl); (case hr => first | (go_simp; done) | (go_simp; rfl)); intro g1 hg w1 hbx hb; have Eg1 : w.heap.size ≤ g1 := (by rw [hg]; exact HB.out.size); have nHB := Lib.hid (below_step HB.out hb); clear HB; have HB := nHB; have Bg1 := Lib.hid hbx; clear nHB hg hbx hb; have q0 := (blk_cell Bg1.out 0).trans rfl; have q1 := (blk_cell Bg1.out 1).trans rfl; have q2 := (blk_cell Bg1.out 2).trans rfl; have q3 := (blk_cell Bg1.out 3).trans rfl; have l1 := blk_lt Bg1.out)
      | (go_at_call 50; have M := MA; (with_reducible refine (put_calls _ _ _).mono ?_); rw [← H1.out]; rintro e w2 ⟨rfl, hb⟩; have nR := Lib.hid (blk_below Bg1.out hb); have nB := Lib.hid (below_step HB.out hb); clear HB Bg1 hb q0 q1 q2 q3; have HB := nB; have Bg1 := nR; clear nB nR MA M; have q0 := (blk_cell Bg1.out 0).trans rfl; have q1 := (blk_cell Bg1.out 1).trans rfl; have q2 := (blk_cell Bg1.out 2).trans rfl; have q3 := (blk_cell Bg1.out 3).trans rfl))
    go_loopw [3, 22] (fun v3 v22 wr => ∃ j : Nat, j ≤ 8 ∧ v22 = .int .i64 j ∧ v3 = .int .u64 (fnv h1 ((List.range j).map (byteAt n))) ∧ Hid (wr.heap[g1]? = some (.cells #[.int .u8 2, .bool b, .int .i64 n, .string s] 27 (0, 0))) ∧ Hid (Below w.heap.size w wr)) (fun _ v22 _ => 8 - intOf v22)
    case atStart => exact ⟨0, by omega, rfl, rfl, Bg1, HB⟩
    case round =>
      obtain ⟨j, hj, rfl, rfl, HC, HW⟩ := hrel
      have q0 := (blk_cell HC.out 0).trans rfl
      have q1 := (blk_cell HC.out 1).trans rfl
      have q2 := (blk_cell HC.out 2).trans rfl
      have q3 := (blk_cell HC.out 3).trans rfl
      obtain ⟨x, hx⟩ : ∃ x, x = fnv h1 ((List.range j).map (byteAt n)) := ⟨_, rfl⟩
      rw [← hx]
      have HX := Lib.hid hx
      clear hx
      by_cases h8 : j = 8
      · subst h8
        go_wp2
        go_ret
        exact ⟨by rw [HX.out]; rfl, HW.out⟩
      · have hj8 : j < 8 := by omega
        clear h8 hj
        obtain rfl | rfl | rfl | rfl | rfl | rfl | rfl | rfl : j = 0 ∨ j = 1 ∨ j = 2 ∨ j = 3 ∨ j = 4 ∨ j = 5 ∨ j = 6 ∨ j = 7 := by omega
        · clear hj8
          go_wp2_with (go_at_call 50; (with_reducible refine (put_calls x _ _).mono ?_); rintro e w2 ⟨rfl, hb⟩; have nR := Lib.hid (blk_below HC.out hb); have nB := Lib.hid (below_step HW.out hb); clear hb q0 q1 q2 q3)
          go_roundw
          case rel =>
            refine ⟨1, by omega, rfl, ?_, nR, nB⟩
            rw [HX.out, show List.range 1 = List.range 0 ++ [0] from List.range_succ, List.map_append]
            refine Eq.trans (congrArg (fun z => Value.int .u64 (put1 (fnv h1 ((List.range 0).map (byteAt n))) z)) ?_) (congrArg (Value.int .u64) (fnv_snoc _ _ _)).symm
            simp [byteAt]
          case measure => simp [intOf]
        · clear hj8
          go_wp2_with (go_at_call 50; (with_reducible refine (put_calls x _ _).mono ?_); rintro e w2 ⟨rfl, hb⟩; have nR := Lib.hid (blk_below HC.out hb); have nB := Lib.hid (below_step HW.out hb); clear hb q0 q1 q2 q3)
          go_roundw
          case rel =>
            refine ⟨2, by omega, rfl, ?_, nR, nB⟩
            rw [HX.out, show List.range 2 = List.range 1 ++ [1] from List.range_succ, List.map_append]
            refine Eq.trans (congrArg (fun z => Value.int .u64 (put1 (fnv h1 ((List.range 1).map (byteAt n))) z)) ?_) (congrArg (Value.int .u64) (fnv_snoc _ _ _)).symm
            simp [byteAt]
          case measure => simp [intOf]
        · clear hj8
          go_wp2_with (go_at_call 50; (with_reducible refine (put_calls x _ _).mono ?_); rintro e w2 ⟨rfl, hb⟩; have nR := Lib.hid (blk_below HC.out hb); have nB := Lib.hid (below_step HW.out hb); clear hb q0 q1 q2 q3)
          go_roundw
          case rel =>
            refine ⟨3, by omega, rfl, ?_, nR, nB⟩
            rw [HX.out, show List.range 3 = List.range 2 ++ [2] from List.range_succ, List.map_append]
            refine Eq.trans (congrArg (fun z => Value.int .u64 (put1 (fnv h1 ((List.range 2).map (byteAt n))) z)) ?_) (congrArg (Value.int .u64) (fnv_snoc _ _ _)).symm
            simp [byteAt]
          case measure => simp [intOf]
        · clear hj8
          go_wp2_with (go_at_call 50; (with_reducible refine (put_calls x _ _).mono ?_); rintro e w2 ⟨rfl, hb⟩; have nR := Lib.hid (blk_below HC.out hb); have nB := Lib.hid (below_step HW.out hb); clear hb q0 q1 q2 q3)
          go_roundw
          case rel =>
            refine ⟨4, by omega, rfl, ?_, nR, nB⟩
            rw [HX.out, show List.range 4 = List.range 3 ++ [3] from List.range_succ, List.map_append]
            refine Eq.trans (congrArg (fun z => Value.int .u64 (put1 (fnv h1 ((List.range 3).map (byteAt n))) z)) ?_) (congrArg (Value.int .u64) (fnv_snoc _ _ _)).symm
            simp [byteAt]
          case measure => simp [intOf]
        · clear hj8
          go_wp2_with (go_at_call 50; (with_reducible refine (put_calls x _ _).mono ?_); rintro e w2 ⟨rfl, hb⟩; have nR := Lib.hid (blk_below HC.out hb); have nB := Lib.hid (below_step HW.out hb); clear hb q0 q1 q2 q3)
          go_roundw
          case rel =>
            refine ⟨5, by omega, rfl, ?_, nR, nB⟩
            rw [HX.out, show List.range 5 = List.range 4 ++ [4] from List.range_succ, List.map_append]
            refine Eq.trans (congrArg (fun z => Value.int .u64 (put1 (fnv h1 ((List.range 4).map (byteAt n))) z)) ?_) (congrArg (Value.int .u64) (fnv_snoc _ _ _)).symm
            simp [byteAt]
          case measure => simp [intOf]
        · clear hj8
          go_wp2_with (go_at_call 50; (with_reducible refine (put_calls x _ _).mono ?_); rintro e w2 ⟨rfl, hb⟩; have nR := Lib.hid (blk_below HC.out hb); have nB := Lib.hid (below_step HW.out hb); clear hb q0 q1 q2 q3)
          go_roundw
          case rel =>
            refine ⟨6, by omega, rfl, ?_, nR, nB⟩
            rw [HX.out, show List.range 6 = List.range 5 ++ [5] from List.range_succ, List.map_append]
            refine Eq.trans (congrArg (fun z => Value.int .u64 (put1 (fnv h1 ((List.range 5).map (byteAt n))) z)) ?_) (congrArg (Value.int .u64) (fnv_snoc _ _ _)).symm
            simp [byteAt]
          case measure => simp [intOf]
        · clear hj8
          go_wp2_with (go_at_call 50; (with_reducible refine (put_calls x _ _).mono ?_); rintro e w2 ⟨rfl, hb⟩; have nR := Lib.hid (blk_below HC.out hb); have nB := Lib.hid (below_step HW.out hb); clear hb q0 q1 q2 q3)
          go_roundw
          case rel =>
            refine ⟨7, by omega, rfl, ?_, nR, nB⟩
            rw [HX.out, show List.range 7 = List.range 6 ++ [6] from List.range_succ, List.map_append]
            refine Eq.trans (congrArg (fun z => Value.int .u64 (put1 (fnv h1 ((List.range 6).map (byteAt n))) z)) ?_) (congrArg (Value.int .u64) (fnv_snoc _ _ _)).symm
            simp [byteAt]
          case measure => simp [intOf]
        · clear hj8
          go_wp2_with (go_at_call 50; (with_reducible refine (put_calls x _ _).mono ?_); rintro e w2 ⟨rfl, hb⟩; have nR := Lib.hid (blk_below HC.out hb); have nB := Lib.hid (below_step HW.out hb); clear hb q0 q1 q2 q3)
          go_roundw
          case rel =>
            refine ⟨8, by omega, rfl, ?_, nR, nB⟩
            rw [HX.out, show List.range 8 = List.range 7 ++ [7] from List.range_succ, List.map_append]
            refine Eq.trans (congrArg (fun z => Value.int .u64 (put1 (fnv h1 ((List.range 7).map (byteAt n))) z)) ?_) (congrArg (Value.int .u64) (fnv_snoc _ _ _)).symm
            simp [byteAt]
          case measure => simp [intOf]
  by_cases k3 : k = 3
  · subst k3
    have hX : hashV 3 b n s = fnv h1 (bytesOf s) := by rw [H1.out, hashV, bytesV, if_neg (by decide), if_neg (by decide), if_pos rfl, fnv_cons]
    rw [hX]
    have hcv := fun (w : World) => Lib.run_convert_string_bytes (P := Tryd.prog) w 9 67 5 s Tryd.underlying9 Tryd.underlying67 Tryd.underlying5
    go_enter Tryd.func21, Tryd.ntmps21
    go_wp2_with (first
      | ((with_reducible refine gate_dst (N := 1) rfl ?_); refine box_event ?hg (N := 1) ?hd (cs := #[.int .u8 3, .bool b, .int .i64 n, .string s]) (t := 27) ?hr ?_; (case hd => rfl); (case hg => rfl); (case hr => first | (go_simp; done) | (go_simp; rfl)); intro g1 hg w1 hbx hb; have Eg1 : w.heap.size ≤ g1 := (by rw [hg]; exact HB.out.size); have nHB := Lib.hid (below_step HB.out hb); clear HB; have HB := nHB; have Bg1 := Lib.hid hbx; clear nHB hg hbx hb; have q0 := (blk_cell Bg1.out 0).trans rfl; have q1 := (blk_cell Bg1.out 1).trans rfl; have q2 := (blk_cell Bg1.out 2).trans rfl; have q3 := (blk_cell Bg1.out 3).trans rfl; have l1 := blk_lt Bg1.out)
      | (go_at_call 50; have M := MA; (with_reducible refine (put_calls _ _ _).mono ?_); rw [← H1.out]; rintro e w2 ⟨rfl, hb⟩; have nR := Lib.hid (blk_below Bg1.out hb); have nB := Lib.hid (below_step HB.out hb); clear HB Bg1 hb q0 q1 q2 q3; have HB := nB; have Bg1 := nR; clear nB nR MA M; have q0 := (blk_cell Bg1.out 0).trans rfl; have q1 := (blk_cell Bg1.out 1).trans rfl; have q2 := (blk_cell Bg1.out 2).trans rfl; have q3 := (blk_cell Bg1.out 3).trans rfl))
    have HR := Lib.hid (bytes_reads w2 5 s hs)
    have HB2 := Lib.hid (below_step HB.out (bw_below w2 5 s))
    obtain ⟨W2, hW2⟩ : ∃ W2, W2 = Lib.bytesWorld w2 5 s := ⟨_, rfl⟩
    obtain ⟨C, hC⟩ : ∃ C, C = grownCap w2 s.size 0 5 := ⟨_, rfl⟩
    rw [← hW2] at HR HB2
    rw [← hW2, ← hC]
    clear hW2 hC hcv q0 q1 q2 q3 hX
    obtain ⟨G, hG⟩ : ∃ G, G = w2.heap.size := ⟨_, rfl⟩
    rw [← hG] at HR
    rw [← hG]
    clear hG
    go_loopw [3, 40] (fun v3 v40 wr => ∃ j : Nat, j ≤ s.size ∧ v40 = .int .i64 j ∧ v3 = .int .u64 (fnv h1 ((bytesOf s).take j)) ∧ Hid (ReadsInt wr .u8 (some ⟨G, 0, none⟩) s.size (bytesOf s)) ∧ Hid (Below w.heap.size w wr)) (fun _ v40 _ => s.size - intOf v40)
    case atStart => exact ⟨0, by omega, rfl, rfl, HR, HB2⟩
    case round =>
      obtain ⟨j, hj, rfl, rfl, HC, HW⟩ := hrel
      obtain ⟨x, hx⟩ : ∃ x, x = fnv h1 ((bytesOf s).take j) := ⟨_, rfl⟩
      rw [← hx]
      have HX := Lib.hid hx
      clear hx
      by_cases hlt : j < s.size
      · have hc : wr.cell? ⟨G, j, none⟩ = some (.int .u8 ((bytesOf s).getD j 0)) := by
          obtain ⟨ad, e, hc⟩ := HC.out.2.2 (by omega)
          obtain rfl := Option.some.inj e
          have := hc j hlt
          rcases Nat.eq_zero_or_pos j with h0 | h0
          · subst h0; simpa [Addr.add] using this
          · simpa [Addr.add, Nat.ne_of_gt h0] using this
        have HT : Hid ((bytesOf s).take (j + 1) = (bytesOf s).take j ++ [(bytesOf s).getD j 0]) := Lib.hid (by
          have hl := bytesOf_length s
          rw [List.take_succ_eq_append_getElem (by omega), List.getD_eq_getElem?_getD, List.getElem?_eq_getElem (by omega)]; rfl)
        obtain ⟨y, hy⟩ : ∃ y, y = (bytesOf s).getD j 0 := ⟨_, rfl⟩
        rw [← hy] at hc HT
        clear hy
        go_wp2_with (go_at_call 50; (with_reducible refine (put_calls x y _).mono ?_); rintro e w3 ⟨rfl, hb⟩; have nR := Lib.hid (HC.out.below hb); have nB := Lib.hid (below_step HW.out hb); clear hb hc)
        go_roundw
        case rel =>
          refine ⟨j + 1, by omega, by go_num, ?_, nR, nB⟩
          rw [HX.out, HT.out, fnv_snoc]
        case measure => simp [intOf]; omega
      · obtain rfl : j = s.size := by omega
        have hl := Lib.hid (bytesOf_length s)
        go_wp2
        go_ret
        exact ⟨by rw [HX.out, List.take_of_length_le (by rw [hl.out]; exact Nat.le_refl _)]; rfl, HW.out⟩
  have d1 : (k == 1) = false := by simpa using k1
  have d2 : (k == 2) = false := by simpa using k2
  have d3 : (k == 3) = false := by simpa using k3
  have hX : hashV k b n s = h1 := by rw [H1.out, hashV, bytesV, if_neg k1, if_neg k2, if_neg k3, fnv_cons]; rfl
  rw [hX]
  clear hX k1 k2 k3
  go_enter Tryd.func21, Tryd.ntmps21
  go_wp2_with (first
    | ((with_reducible refine gate_dst (N := 1) rfl ?_); refine box_event ?hg (N := 1) ?hd (cs := #[.int .u8 k, .bool b, .int .i64 n, .string s]) (t := 27) ?hr ?_; (case hd => rfl); (case hg => rfl); (case hr => first | (go_simp; done) | (go_simp; rfl)); intro g1 hg w1 hbx hb; have Eg1 : w.heap.size ≤ g1 := (by rw [hg]; exact HB.out.size); have nHB := Lib.hid (below_step HB.out hb); clear HB; have HB := nHB; have Bg1 := Lib.hid hbx; clear nHB hg hbx hb; have q0 := (blk_cell Bg1.out 0).trans rfl; have q1 := (blk_cell Bg1.out 1).trans rfl; have q2 := (blk_cell Bg1.out 2).trans rfl; have q3 := (blk_cell Bg1.out 3).trans rfl; have l1 := blk_lt Bg1.out)
    | (go_at_call 50; have M := MA; (with_reducible refine (put_calls _ _ _).mono ?_); rw [← H1.out]; rintro e w2 ⟨rfl, hb⟩; have nR := Lib.hid (blk_below Bg1.out hb); have nB := Lib.hid (below_step HB.out hb); clear HB Bg1 hb q0 q1 q2 q3; have HB := nB; have Bg1 := nR; clear nB nR MA M; have q0 := (blk_cell Bg1.out 0).trans rfl; have q1 := (blk_cell Bg1.out 1).trans rfl; have q2 := (blk_cell Bg1.out 2).trans rfl; have q3 := (blk_cell Bg1.out 3).trans rfl))
  go_ret
  exact ⟨rfl, HB.out⟩
end Go.Proofs.YtepgjdmdogblmaaDoor.Val
