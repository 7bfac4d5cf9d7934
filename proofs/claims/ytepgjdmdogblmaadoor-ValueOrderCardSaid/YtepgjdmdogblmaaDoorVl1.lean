/- Package value: exact, the order in which none but the same are alike, and what it calls. No condition. -/
import Derived.Test.YtepgjdmdogblmaaDoorGx1
import Derived.Test.YtepgjdmdogblmaaDoorGx2
import Derived.Test.YtepgjdmdogblmaaDoorGx3
import Derived.Lib.Hide
import Derived.Deep.DeepMust
namespace Go.Proofs.YtepgjdmdogblmaaDoor.Val
open Go.RowKit Go.Proofs.YtepgjdmdogblmaaDoor.G Go.Proofs.YtepgjdmdogblmaaDoorW.PrintWords Go.Proofs.YtepgjdmdogblmaaDoorW.PrintLast Go.Proofs.YtepgjdmdogblmaaDoorW.PrintMore
set_option linter.unusedVariables false
set_option linter.unusedSimpArgs false
def cmpI (x y : Int) : Int := if x < y then -1 else if x > y then 1 else 0
def cmpT (x y : ByteArray) : Int := if Op.bytesLess x.toList y.toList = true then -1 else if Op.bytesLess y.toList x.toList = true then 1 else 0
def bitN (b : Bool) : Int := if b = true then 1 else 0
def orN : List Int → Int
  | [] => 0
  | x :: l => if x = 0 then orN l else x
def exactN (a b : S27) : Int := orN [cmpI a.f0 b.f0, wrap64 (bitN a.f1 - bitN b.f1), cmpI a.f2 b.f2, cmpT a.f3 b.f3]
theorem kind_calls (x y : Int) (w : World) : Calls Tryd.prog 44 #[.int .u8 x, .int .u8 y] w fun e w' => e = .returned (.int .i64 (cmpI x y)) ∧ Below w.heap.size w w' := by
  refine (api_Kind_44.calls x y (cmpI x y) w (by simp [api_Kind_44.f, api_Kind_71.f, cmpI]; split <;> (try split) <;> rfl)).mono ?_
  exact fun e w' h => ⟨h.1, h.2.below⟩
theorem num_calls (x y : Int) (w : World) : Calls Tryd.prog 45 #[.int .i64 x, .int .i64 y] w fun e w' => e = .returned (.int .i64 (cmpI x y)) ∧ Below w.heap.size w w' := by
  refine (cmp_Compare_int64.calls x y (cmpI x y) w (by simp [cmp_Compare_int64.f, cmp_isNaN_int64.f, cmpI]; split <;> (try split) <;> rfl)).mono ?_
  exact fun e w' h => ⟨h.1, h.2.below⟩
theorem str_calls (x y : ByteArray) (w : World) : Calls Tryd.prog 82 #[.string x, .string y] w fun e w' => e = .returned (.int .i64 (cmpT x y)) ∧ Below w.heap.size w w' := by
  refine (cmp_Compare_string.calls x y (cmpT x y) w (by simp [cmp_Compare_string.f, cmp_isNaN_string.f, cmpT]; split <;> (try split) <;> rfl)).mono ?_
  exact fun e w' h => ⟨h.1, h.2.below⟩
theorem bit_calls (b : Bool) (w : World) : Calls Tryd.prog 80 #[.bool b] w fun e w' => e = .returned (.int .i64 (bitN b)) ∧ Below w.heap.size w w' := by
  cases b
  all_goals
    go_enter Tryd.func80, Tryd.ntmps80
    go_wp2
    go_ret
    exact ⟨rfl, Below.refl _ _⟩
theorem or_calls (A : Option Addr) (c : Nat) (x0 x1 x2 x3 : Int) (w : World) (hr : Kd.C (Kd.int .i64) w A 4 [x0, x1, x2, x3]) (hc : 4 ≤ c) : Calls Tryd.prog 81 #[.slice A 4 c] w fun e w' => e = .returned (.int .i64 (orN [x0, x1, x2, x3])) ∧ Below w.heap.size w w' := by
  refine (cmp_Or_int.calls 5 A c [x0, x1, x2, x3] (orN [x0, x1, x2, x3]) w hr hc ?_).mono ?_
  · simp only [cmp_Or_int.f, cmp_Or_int.l0, orN, rd, wrap64, List.length_cons, List.length_nil]
    by_cases h0 : x0 = 0 <;> by_cases h1 : x1 = 0 <;> by_cases h2 : x2 = 0 <;> by_cases h3 : x3 = 0 <;> simp [h0, h1, h2, h3]
  · exact fun e w' h => ⟨h.1, h.2.below⟩
section
variable {P : Program} {ops : Array Oper} {Q : Exit → Act → World → Prop}
theorem goesv_ {oi : Oper} {N : Option Tmp} {a : Act} {w : World} {K : Act → World → Prop} {f : FuncId} {fn : Func} {c : Operand} {bs : Array Operand} {ts : Array TypeId} (hf : P.funcs[f]? = some fn) (hname : (fn.name == "runtime.NumGoroutine") = false) (hb : fn.body.isSome = true) (args : Array Value)
    (hw : Region.wanted oi (yielded ops a.tmps) = true) (hN : oi.dst = N) (hop : oi.op = .call { callee := .value c, args := bs, argTypes := ts }) (hc : a.eval c = .func (.func f) #[] #[]) (hargs : bs.map a.eval = args)
    (h : Calls P f args w fun e w' => ∃ v, e = .returned v ∧ K (a.put N v) w') : if Region.wanted oi (yielded ops a.tmps) = true then Oper.wp P oi a w K Q else K (a.put N undef) w := by
  refine call_ f args hw hN ?_ h
  have he := enters_ hf hname hb args w
  unfold execOp
  simp [hop, resolve, hc, Deferred.ofValue, invoke, hargs, he]
end
theorem grown_blk {w w1 : World} {g : Nat} {o : Obj} (h : w.heap[g]? = some o) (hg : w.grownBy w1 none) : w1.heap[g]? = some o := by
  rw [hg.block g (blk_lt h) (by simp)]; exact h
def exact_T : Bool × List (List Nat × List Nat) := (true, [([], []), ([0], [0]), ([], []), ([2], [2]), ([1, 3], [1, 3]), ([], []), ([], []), ([6], [6]), ([5, 7, 4], [5, 7]), ([], []), ([], []), ([10], [10]), ([9, 11, 8], [9, 11]), ([8, 12], [8, 12]), ([], []), ([14], [14]), ([], []), ([16], [16]), ([15, 17, 12], [15, 17]), ([], []), ([19], [19]), ([], []), ([21], [21]), ([20, 22, 18], [20, 22]), ([4, 13, 18, 23], [4, 13, 18, 23]), ([24, 23], [24]), ([25, 25, 0, 1, 2, 3, 4, 5, 6, 7, 8, 9, 10, 11, 12, 13, 14, 15, 16, 17, 18, 19, 20, 21, 22, 23, 24, 25], [25])])
def exact_B : List Nat := [0, 1, 0, 4, 15, 0, 0, 64, 255, 0, 0, 1024, 4095, 8191, 0, 16384, 0, 65536, 253951, 0, 524288, 0, 2097152, 8380415, 16777215, 33554431, 67108863]
theorem exact_tab : rtab .any (opsOf Tryd.f64 2) = exact_T := by kernel_rfl
theorem exact_bits : waitsOk exact_T.2 exact_B = true := by kernel_rfl
set_option maxHeartbeats 4000000 in
set_option maxRecDepth 100000 in
theorem exact_calls (a b : S27) (w : World) : Calls Tryd.prog 64 #[.agg #[.int .u8 a.f0, .bool a.f1, .int .i64 a.f2, .string a.f3], .agg #[.int .u8 b.f0, .bool b.f1, .int .i64 b.f2, .string b.f3]] w fun e w' => e = .returned (.int .i64 (exactN a b)) ∧ Below w.heap.size w w' := by
  have HB := Lib.hid (Below.refl w.heap.size w)
  go_enter Tryd.func64, Tryd.ntmps64
  go_upto_region 2 with (first
    | ((with_reducible refine gate_dst (N := 2) rfl ?_); refine box_event ?hg (N := 2) ?hd (cs := #[.int .u8 a.f0, .bool a.f1, .int .i64 a.f2, .string a.f3]) (t := 27) ?hr ?_; (case hd => rfl); (case hg => rfl); (case hr => first | (go_simp; done) | (go_simp; rfl)); intro g2 hg w3 hbx hb; have Eg2 : w.heap.size ≤ g2 := (by rw [hg]; exact HB.out.size); have nHB := Lib.hid (below_step HB.out hb); clear HB; have HB := nHB; have Bg2 := Lib.hid hbx; clear nHB hg hbx hb)
    | ((with_reducible refine gate_dst (N := 3) rfl ?_); refine box_event ?hg (N := 3) ?hd (cs := #[.int .u8 b.f0, .bool b.f1, .int .i64 b.f2, .string b.f3]) (t := 27) ?hr ?_; (case hd => rfl); (case hg => rfl); (case hr => first | (go_simp; done) | (go_simp; rfl)); intro g3 hg w4 hbx hb; have Eg3 : w.heap.size ≤ g3 := (by rw [hg]; exact HB.out.size); have Ng2g3 : g2 ≠ g3 := (by rw [hg]; exact Nat.ne_of_lt (blk_lt Bg2.out)); have Ng3g2 : g3 ≠ g2 := Ng2g3.symm; have nBg2 := Lib.hid (blk_below Bg2.out hb); have nHB := Lib.hid (below_step HB.out hb); clear Bg2 HB; have Bg2 := nBg2; have HB := nHB; have Bg3 := Lib.hid hbx; clear nBg2 nHB hg hbx hb))
  have C2 := Lib.hid (blk_drew Bg2.out)
  have C3 := Lib.hid (blk_drew Bg3.out)
  have HBd := Lib.hid (below_drew1 HB.out)
  clear Bg2 Bg3 HB
  have HB := HBd
  clear HBd
  refine start_ (n := 27) (S := fun w' => w'.cell? ⟨g2,0,none⟩ = some (.int .u8 a.f0) ∧ w'.cell? ⟨g2,1,none⟩ = some (.bool a.f1) ∧ w'.cell? ⟨g2,2,none⟩ = some (.int .i64 a.f2) ∧ w'.cell? ⟨g2,3,none⟩ = some (.string a.f3) ∧ w'.cell? ⟨g3,0,none⟩ = some (.int .u8 b.f0) ∧ w'.cell? ⟨g3,1,none⟩ = some (.bool b.f1) ∧ w'.cell? ⟨g3,2,none⟩ = some (.int .i64 b.f2) ∧ w'.cell? ⟨g3,3,none⟩ = some (.string b.f3)) (ds := []) #[false, false, false, false, false, false, false, false, false, false, false, false, false, false, false, false, false, false, false, false, false, false, false, false, false, false, false] (by kernel_rfl) rfl rfl ⟨(blk_cell C2.out 0).trans rfl, (blk_cell C2.out 1).trans rfl, (blk_cell C2.out 2).trans rfl, (blk_cell C2.out 3).trans rfl, (blk_cell C3.out 0).trans rfl, (blk_cell C3.out 1).trans rfl, (blk_cell C3.out 2).trans rfl, (blk_cell C3.out 3).trans rfl⟩ (fun hHeld => ?_); refine with_tabW exact_tab exact_bits (fun HT_ HW_ => ?_)
  refine pure_ (i := 0) (N := some 6) (v := ?_) (a' := ?_) #[true, false, false, false, false, false, false, false, false, false, false, false, false, false, false, false, false, false, false, false, false, false, false, false, false, false, false] rfl rfl (any_of HT_.out (by kernel_rfl)) (fun _ _ _ h => h) (Or.inl ⟨by rfl, ?_⟩) ?_ ?_
  rotate_left
  · intro w'
    go_simp
    with_reducible rfl
  rotate_left
  · simp only [Act.put, List.setIfInBounds_toArray, List.set_cons_zero, List.set_cons_succ, i64_w, i32_w]
    rfl
  refine take_ (i := 1) (N := some 7) (v := ?_) (a' := ?_) #[true, true, false, false, false, false, false, false, false, false, false, false, false, false, false, false, false, false, false, false, false, false, false, false, false, false, false] rfl rfl (take_ofW HT_.out HW_.out (by kernel_rfl)) (fun _ _ _ h => h) (Or.inl ⟨by rfl, ?_⟩) hHeld ?_ ?_
  rotate_left
  · rintro w' ⟨s0, s1, s2, s3, s4, s5, s6, s7⟩
    go_simp
    with_reducible rfl
  rotate_left
  · simp only [Act.put, List.setIfInBounds_toArray, List.set_cons_zero, List.set_cons_succ, i64_w, i32_w]
    rfl
  refine pure_ (i := 2) (N := some 8) (v := ?_) (a' := ?_) #[true, true, true, false, false, false, false, false, false, false, false, false, false, false, false, false, false, false, false, false, false, false, false, false, false, false, false] rfl rfl (any_of HT_.out (by kernel_rfl)) (fun _ _ _ h => h) (Or.inl ⟨by rfl, ?_⟩) ?_ ?_
  rotate_left
  · intro w'
    go_simp
    with_reducible rfl
  rotate_left
  · simp only [Act.put, List.setIfInBounds_toArray, List.set_cons_zero, List.set_cons_succ, i64_w, i32_w]
    rfl
  refine take_ (i := 3) (N := some 9) (v := ?_) (a' := ?_) #[true, true, true, true, false, false, false, false, false, false, false, false, false, false, false, false, false, false, false, false, false, false, false, false, false, false, false] rfl rfl (take_ofW HT_.out HW_.out (by kernel_rfl)) (fun _ _ _ h => h) (Or.inl ⟨by rfl, ?_⟩) hHeld ?_ ?_
  rotate_left
  · rintro w' ⟨s0, s1, s2, s3, s4, s5, s6, s7⟩
    go_simp
    with_reducible rfl
  rotate_left
  · simp only [Act.put, List.setIfInBounds_toArray, List.set_cons_zero, List.set_cons_succ, i64_w, i32_w]
    rfl
  refine pure_ (i := 5) (N := some 11) (v := ?_) (a' := ?_) #[true, true, true, true, false, true, false, false, false, false, false, false, false, false, false, false, false, false, false, false, false, false, false, false, false, false, false] rfl rfl (any_of HT_.out (by kernel_rfl)) (fun _ _ _ h => h) (Or.inl ⟨by rfl, ?_⟩) ?_ ?_
  rotate_left
  · intro w'
    go_simp
    with_reducible rfl
  rotate_left
  · simp only [Act.put, List.setIfInBounds_toArray, List.set_cons_zero, List.set_cons_succ, i64_w, i32_w]
    rfl
  refine pure_ (i := 6) (N := some 12) (v := ?_) (a' := ?_) #[true, true, true, true, false, true, true, false, false, false, false, false, false, false, false, false, false, false, false, false, false, false, false, false, false, false, false] rfl rfl (any_of HT_.out (by kernel_rfl)) (fun _ _ _ h => h) (Or.inl ⟨by rfl, ?_⟩) ?_ ?_
  rotate_left
  · intro w'
    go_simp
    with_reducible rfl
  rotate_left
  · simp only [Act.put, List.setIfInBounds_toArray, List.set_cons_zero, List.set_cons_succ, i64_w, i32_w]
    rfl
  refine take_ (i := 7) (N := some 13) (v := ?_) (a' := ?_) #[true, true, true, true, false, true, true, true, false, false, false, false, false, false, false, false, false, false, false, false, false, false, false, false, false, false, false] rfl rfl (take_ofW HT_.out HW_.out (by kernel_rfl)) (fun _ _ _ h => h) (Or.inl ⟨by rfl, ?_⟩) hHeld ?_ ?_
  rotate_left
  · rintro w' ⟨s0, s1, s2, s3, s4, s5, s6, s7⟩
    go_simp
    with_reducible rfl
  rotate_left
  · simp only [Act.put, List.setIfInBounds_toArray, List.set_cons_zero, List.set_cons_succ, i64_w, i32_w]
    rfl
  refine pure_ (i := 9) (N := some 15) (v := ?_) (a' := ?_) #[true, true, true, true, false, true, true, true, false, true, false, false, false, false, false, false, false, false, false, false, false, false, false, false, false, false, false] rfl rfl (any_of HT_.out (by kernel_rfl)) (fun _ _ _ h => h) (Or.inl ⟨by rfl, ?_⟩) ?_ ?_
  rotate_left
  · intro w'
    go_simp
    with_reducible rfl
  rotate_left
  · simp only [Act.put, List.setIfInBounds_toArray, List.set_cons_zero, List.set_cons_succ, i64_w, i32_w]
    rfl
  refine pure_ (i := 10) (N := some 16) (v := ?_) (a' := ?_) #[true, true, true, true, false, true, true, true, false, true, true, false, false, false, false, false, false, false, false, false, false, false, false, false, false, false, false] rfl rfl (any_of HT_.out (by kernel_rfl)) (fun _ _ _ h => h) (Or.inl ⟨by rfl, ?_⟩) ?_ ?_
  rotate_left
  · intro w'
    go_simp
    with_reducible rfl
  rotate_left
  · simp only [Act.put, List.setIfInBounds_toArray, List.set_cons_zero, List.set_cons_succ, i64_w, i32_w]
    rfl
  refine take_ (i := 11) (N := some 17) (v := ?_) (a' := ?_) #[true, true, true, true, false, true, true, true, false, true, true, true, false, false, false, false, false, false, false, false, false, false, false, false, false, false, false] rfl rfl (take_ofW HT_.out HW_.out (by kernel_rfl)) (fun _ _ _ h => h) (Or.inl ⟨by rfl, ?_⟩) hHeld ?_ ?_
  rotate_left
  · rintro w' ⟨s0, s1, s2, s3, s4, s5, s6, s7⟩
    go_simp
    with_reducible rfl
  rotate_left
  · simp only [Act.put, List.setIfInBounds_toArray, List.set_cons_zero, List.set_cons_succ, i64_w, i32_w]
    rfl
  refine pure_ (i := 14) (N := some 20) (v := ?_) (a' := ?_) #[true, true, true, true, false, true, true, true, false, true, true, true, false, false, true, false, false, false, false, false, false, false, false, false, false, false, false] rfl rfl (any_of HT_.out (by kernel_rfl)) (fun _ _ _ h => h) (Or.inl ⟨by rfl, ?_⟩) ?_ ?_
  rotate_left
  · intro w'
    go_simp
    with_reducible rfl
  rotate_left
  · simp only [Act.put, List.setIfInBounds_toArray, List.set_cons_zero, List.set_cons_succ, i64_w, i32_w]
    rfl
  refine take_ (i := 15) (N := some 21) (v := ?_) (a' := ?_) #[true, true, true, true, false, true, true, true, false, true, true, true, false, false, true, true, false, false, false, false, false, false, false, false, false, false, false] rfl rfl (take_ofW HT_.out HW_.out (by kernel_rfl)) (fun _ _ _ h => h) (Or.inl ⟨by rfl, ?_⟩) hHeld ?_ ?_
  rotate_left
  · rintro w' ⟨s0, s1, s2, s3, s4, s5, s6, s7⟩
    go_simp
    with_reducible rfl
  rotate_left
  · simp only [Act.put, List.setIfInBounds_toArray, List.set_cons_zero, List.set_cons_succ, i64_w, i32_w]
    rfl
  refine pure_ (i := 16) (N := some 22) (v := ?_) (a' := ?_) #[true, true, true, true, false, true, true, true, false, true, true, true, false, false, true, true, true, false, false, false, false, false, false, false, false, false, false] rfl rfl (any_of HT_.out (by kernel_rfl)) (fun _ _ _ h => h) (Or.inl ⟨by rfl, ?_⟩) ?_ ?_
  rotate_left
  · intro w'
    go_simp
    with_reducible rfl
  rotate_left
  · simp only [Act.put, List.setIfInBounds_toArray, List.set_cons_zero, List.set_cons_succ, i64_w, i32_w]
    rfl
  refine take_ (i := 17) (N := some 23) (v := ?_) (a' := ?_) #[true, true, true, true, false, true, true, true, false, true, true, true, false, false, true, true, true, true, false, false, false, false, false, false, false, false, false] rfl rfl (take_ofW HT_.out HW_.out (by kernel_rfl)) (fun _ _ _ h => h) (Or.inl ⟨by rfl, ?_⟩) hHeld ?_ ?_
  rotate_left
  · rintro w' ⟨s0, s1, s2, s3, s4, s5, s6, s7⟩
    go_simp
    with_reducible rfl
  rotate_left
  · simp only [Act.put, List.setIfInBounds_toArray, List.set_cons_zero, List.set_cons_succ, i64_w, i32_w]
    rfl
  refine pure_ (i := 19) (N := some 25) (v := ?_) (a' := ?_) #[true, true, true, true, false, true, true, true, false, true, true, true, false, false, true, true, true, true, false, true, false, false, false, false, false, false, false] rfl rfl (any_of HT_.out (by kernel_rfl)) (fun _ _ _ h => h) (Or.inl ⟨by rfl, ?_⟩) ?_ ?_
  rotate_left
  · intro w'
    go_simp
    with_reducible rfl
  rotate_left
  · simp only [Act.put, List.setIfInBounds_toArray, List.set_cons_zero, List.set_cons_succ, i64_w, i32_w]
    rfl
  refine take_ (i := 20) (N := some 26) (v := ?_) (a' := ?_) #[true, true, true, true, false, true, true, true, false, true, true, true, false, false, true, true, true, true, false, true, true, false, false, false, false, false, false] rfl rfl (take_ofW HT_.out HW_.out (by kernel_rfl)) (fun _ _ _ h => h) (Or.inl ⟨by rfl, ?_⟩) hHeld ?_ ?_
  rotate_left
  · rintro w' ⟨s0, s1, s2, s3, s4, s5, s6, s7⟩
    go_simp
    with_reducible rfl
  rotate_left
  · simp only [Act.put, List.setIfInBounds_toArray, List.set_cons_zero, List.set_cons_succ, i64_w, i32_w]
    rfl
  refine pure_ (i := 21) (N := some 27) (v := ?_) (a' := ?_) #[true, true, true, true, false, true, true, true, false, true, true, true, false, false, true, true, true, true, false, true, true, true, false, false, false, false, false] rfl rfl (any_of HT_.out (by kernel_rfl)) (fun _ _ _ h => h) (Or.inl ⟨by rfl, ?_⟩) ?_ ?_
  rotate_left
  · intro w'
    go_simp
    with_reducible rfl
  rotate_left
  · simp only [Act.put, List.setIfInBounds_toArray, List.set_cons_zero, List.set_cons_succ, i64_w, i32_w]
    rfl
  refine take_ (i := 22) (N := some 28) (v := ?_) (a' := ?_) #[true, true, true, true, false, true, true, true, false, true, true, true, false, false, true, true, true, true, false, true, true, true, true, false, false, false, false] rfl rfl (take_ofW HT_.out HW_.out (by kernel_rfl)) (fun _ _ _ h => h) (Or.inl ⟨by rfl, ?_⟩) hHeld ?_ ?_
  rotate_left
  · rintro w' ⟨s0, s1, s2, s3, s4, s5, s6, s7⟩
    go_simp
    with_reducible rfl
  rotate_left
  · simp only [Act.put, List.setIfInBounds_toArray, List.set_cons_zero, List.set_cons_succ, i64_w, i32_w]
    rfl
  refine one_ (i := 4) (N := some 10) #[true, true, true, true, true, true, true, true, false, true, true, true, false, false, true, true, true, true, false, true, true, true, true, false, false, false, false] rfl rfl (one_of HT_.out (by kernel_rfl)) (by decide) (fun K hK => ?_)
  refine goes_ Tryd.func44 (by kernel_rfl) rfl #[.int .u8 a.f0, .int .u8 b.f0] (by rfl) rfl rfl (by (try simp only [List.map_toArray, List.map_cons, List.map_nil]); first | done | rfl) ?_
  refine (kind_calls a.f0 b.f0 _).mono ?_
  rintro e w6 ⟨rfl, hb⟩
  refine ⟨_, rfl, ?_⟩
  have n2 := Lib.hid (blk_below C2.out hb)
  have n3 := Lib.hid (blk_below C3.out hb)
  have nB := Lib.hid (below_step HB.out hb)
  clear C2 C3 HB hb
  have C2 := n2
  have C3 := n3
  have HB := nB
  clear n2 n3 nB
  refine hK.out _ _ ⟨(blk_cell C2.out 0).trans rfl, (blk_cell C2.out 1).trans rfl, (blk_cell C2.out 2).trans rfl, (blk_cell C2.out 3).trans rfl, (blk_cell C3.out 0).trans rfl, (blk_cell C3.out 1).trans rfl, (blk_cell C3.out 2).trans rfl, (blk_cell C3.out 3).trans rfl⟩ (fun hHeld => ?_)
  clear hK K
  refine norm_ (a' := ?_) ?_ ?_
  rotate_left
  · show Act.put _ (some 10) _ = _
    simp only [Act.put, List.setIfInBounds_toArray, List.set_cons_zero, List.set_cons_succ, i64_w, i32_w]
    rfl
  refine one_ (i := 8) (N := some 14) #[true, true, true, true, true, true, true, true, true, true, true, true, false, false, true, true, true, true, false, true, true, true, true, false, false, false, false] rfl rfl (one_of HT_.out (by kernel_rfl)) (by decide) (fun K hK => ?_)
  refine goesv_ Tryd.func80 (by kernel_rfl) rfl #[.bool a.f1] (by rfl) rfl rfl (by rfl) (by (try simp only [List.map_toArray, List.map_cons, List.map_nil]); first | done | rfl) ?_
  refine (bit_calls a.f1 _).mono ?_
  rintro e w6 ⟨rfl, hb⟩
  refine ⟨_, rfl, ?_⟩
  have n2 := Lib.hid (blk_below C2.out hb)
  have n3 := Lib.hid (blk_below C3.out hb)
  have nB := Lib.hid (below_step HB.out hb)
  clear C2 C3 HB hb
  have C2 := n2
  have C3 := n3
  have HB := nB
  clear n2 n3 nB
  refine hK.out _ _ ⟨(blk_cell C2.out 0).trans rfl, (blk_cell C2.out 1).trans rfl, (blk_cell C2.out 2).trans rfl, (blk_cell C2.out 3).trans rfl, (blk_cell C3.out 0).trans rfl, (blk_cell C3.out 1).trans rfl, (blk_cell C3.out 2).trans rfl, (blk_cell C3.out 3).trans rfl⟩ (fun hHeld => ?_)
  clear hK K
  refine norm_ (a' := ?_) ?_ ?_
  rotate_left
  · show Act.put _ (some 14) _ = _
    simp only [Act.put, List.setIfInBounds_toArray, List.set_cons_zero, List.set_cons_succ, i64_w, i32_w]
    rfl
  refine one_ (i := 12) (N := some 18) #[true, true, true, true, true, true, true, true, true, true, true, true, true, false, true, true, true, true, false, true, true, true, true, false, false, false, false] rfl rfl (one_of HT_.out (by kernel_rfl)) (by decide) (fun K hK => ?_)
  refine goesv_ Tryd.func80 (by kernel_rfl) rfl #[.bool b.f1] (by rfl) rfl rfl (by rfl) (by (try simp only [List.map_toArray, List.map_cons, List.map_nil]); first | done | rfl) ?_
  refine (bit_calls b.f1 _).mono ?_
  rintro e w6 ⟨rfl, hb⟩
  refine ⟨_, rfl, ?_⟩
  have n2 := Lib.hid (blk_below C2.out hb)
  have n3 := Lib.hid (blk_below C3.out hb)
  have nB := Lib.hid (below_step HB.out hb)
  clear C2 C3 HB hb
  have C2 := n2
  have C3 := n3
  have HB := nB
  clear n2 n3 nB
  refine hK.out _ _ ⟨(blk_cell C2.out 0).trans rfl, (blk_cell C2.out 1).trans rfl, (blk_cell C2.out 2).trans rfl, (blk_cell C2.out 3).trans rfl, (blk_cell C3.out 0).trans rfl, (blk_cell C3.out 1).trans rfl, (blk_cell C3.out 2).trans rfl, (blk_cell C3.out 3).trans rfl⟩ (fun hHeld => ?_)
  clear hK K
  refine norm_ (a' := ?_) ?_ ?_
  rotate_left
  · show Act.put _ (some 18) _ = _
    simp only [Act.put, List.setIfInBounds_toArray, List.set_cons_zero, List.set_cons_succ, i64_w, i32_w]
    rfl
  refine pure_ (i := 13) (N := some 19) (v := ?_) (a' := ?_) #[true, true, true, true, true, true, true, true, true, true, true, true, true, true, true, true, true, true, false, true, true, true, true, false, false, false, false] rfl rfl (any_of HT_.out (by kernel_rfl)) (fun _ _ _ h => h) (Or.inl ⟨by rfl, ?_⟩) ?_ ?_
  rotate_left
  · intro w'
    go_simp
    with_reducible rfl
  rotate_left
  · simp only [Act.put, List.setIfInBounds_toArray, List.set_cons_zero, List.set_cons_succ, i64_w, i32_w]
    rfl
  refine one_ (i := 18) (N := some 24) #[true, true, true, true, true, true, true, true, true, true, true, true, true, true, true, true, true, true, true, true, true, true, true, false, false, false, false] rfl rfl (one_of HT_.out (by kernel_rfl)) (by decide) (fun K hK => ?_)
  refine goes_ Tryd.func45 (by kernel_rfl) rfl #[.int .i64 a.f2, .int .i64 b.f2] (by rfl) rfl rfl (by (try simp only [List.map_toArray, List.map_cons, List.map_nil]); first | done | rfl) ?_
  refine (num_calls a.f2 b.f2 _).mono ?_
  rintro e w6 ⟨rfl, hb⟩
  refine ⟨_, rfl, ?_⟩
  have n2 := Lib.hid (blk_below C2.out hb)
  have n3 := Lib.hid (blk_below C3.out hb)
  have nB := Lib.hid (below_step HB.out hb)
  clear C2 C3 HB hb
  have C2 := n2
  have C3 := n3
  have HB := nB
  clear n2 n3 nB
  refine hK.out _ _ ⟨(blk_cell C2.out 0).trans rfl, (blk_cell C2.out 1).trans rfl, (blk_cell C2.out 2).trans rfl, (blk_cell C2.out 3).trans rfl, (blk_cell C3.out 0).trans rfl, (blk_cell C3.out 1).trans rfl, (blk_cell C3.out 2).trans rfl, (blk_cell C3.out 3).trans rfl⟩ (fun hHeld => ?_)
  clear hK K
  refine norm_ (a' := ?_) ?_ ?_
  rotate_left
  · show Act.put _ (some 24) _ = _
    simp only [Act.put, List.setIfInBounds_toArray, List.set_cons_zero, List.set_cons_succ, i64_w, i32_w]
    rfl
  refine one_ (i := 23) (N := some 29) #[true, true, true, true, true, true, true, true, true, true, true, true, true, true, true, true, true, true, true, true, true, true, true, true, false, false, false] rfl rfl (one_of HT_.out (by kernel_rfl)) (by decide) (fun K hK => ?_)
  refine goes_ Tryd.func82 (by kernel_rfl) rfl #[.string a.f3, .string b.f3] (by rfl) rfl rfl (by (try simp only [List.map_toArray, List.map_cons, List.map_nil]); first | done | rfl) ?_
  refine (str_calls a.f3 b.f3 _).mono ?_
  rintro e w6 ⟨rfl, hb⟩
  refine ⟨_, rfl, ?_⟩
  have n2 := Lib.hid (blk_below C2.out hb)
  have n3 := Lib.hid (blk_below C3.out hb)
  have nB := Lib.hid (below_step HB.out hb)
  clear C2 C3 HB hb
  have C2 := n2
  have C3 := n3
  have HB := nB
  clear n2 n3 nB
  refine hK.out _ _ ⟨(blk_cell C2.out 0).trans rfl, (blk_cell C2.out 1).trans rfl, (blk_cell C2.out 2).trans rfl, (blk_cell C2.out 3).trans rfl, (blk_cell C3.out 0).trans rfl, (blk_cell C3.out 1).trans rfl, (blk_cell C3.out 2).trans rfl, (blk_cell C3.out 3).trans rfl⟩ (fun hHeld => ?_)
  clear hK K
  refine norm_ (a' := ?_) ?_ ?_
  rotate_left
  · show Act.put _ (some 29) _ = _
    simp only [Act.put, List.setIfInBounds_toArray, List.set_cons_zero, List.set_cons_succ, i64_w, i32_w]
    rfl
  refine one_ (i := 24) (N := some 30) #[true, true, true, true, true, true, true, true, true, true, true, true, true, true, true, true, true, true, true, true, true, true, true, true, true, false, false] rfl rfl (one_of HT_.out (by kernel_rfl)) (by decide) (fun K hK => ?_)
  refine Kd.R_lit_step (Kd.int .i64) (w0 := w) w.heap.size 3 (by rfl) rfl (xs := [cmpI a.f0 b.f0, wrap64 (bitN a.f1 - bitN b.f1), cmpI a.f2 b.f2, cmpT a.f3 b.f3]) (inner := [.int .i64 (cmpI a.f0 b.f0), .int .i64 (wrap64 (bitN a.f1 - bitN b.f1)), .int .i64 (cmpI a.f2 b.f2), .int .i64 (cmpT a.f3 b.f3)]) (ok := fun _ => True) (okp := fun _ => True) ?hr ?hp (fun _ hk => hk) trivial HB.out HB.out.size (by simp) ?_
  (case hr => first | (go_simp; done) | (go_simp; rfl))
  (case hp => exact Reps.one rfl (Reps.one rfl (Reps.one rfl (Reps.one rfl (Reps.none _ _)))))
  intro v8 w8 ho8 hb hg_ hnew_
  have n2 := Lib.hid (grown_blk C2.out hg_)
  have n3 := Lib.hid (grown_blk C3.out hg_)
  have nB := Lib.hid hb
  clear C2 C3 HB hb hg_ hnew_
  have C2 := n2
  have C3 := n3
  have HB := nB
  clear n2 n3 nB
  obtain ⟨A8, c8, rfl, hlc8, hC8⟩ := Kd.R_reads ho8
  have HC8 := Lib.hid hC8
  clear ho8 hC8
  refine hK.out _ _ ⟨(blk_cell C2.out 0).trans rfl, (blk_cell C2.out 1).trans rfl, (blk_cell C2.out 2).trans rfl, (blk_cell C2.out 3).trans rfl, (blk_cell C3.out 0).trans rfl, (blk_cell C3.out 1).trans rfl, (blk_cell C3.out 2).trans rfl, (blk_cell C3.out 3).trans rfl⟩ (fun hHeld => ?_)
  clear hK K
  refine norm_ (a' := ?_) ?_ ?_
  rotate_left
  · show Act.put _ (some 30) _ = _
    simp only [Act.put, List.setIfInBounds_toArray, List.set_cons_zero, List.set_cons_succ, i64_w, i32_w]
    rfl
  refine one_ (i := 25) (N := some 31) #[true, true, true, true, true, true, true, true, true, true, true, true, true, true, true, true, true, true, true, true, true, true, true, true, true, true, false] rfl rfl (one_of HT_.out (by kernel_rfl)) (by decide) (fun K hK => ?_)
  refine goes_ Tryd.func81 (by kernel_rfl) rfl #[.slice A8 4 c8] (by rfl) rfl rfl (by (try simp only [List.map_toArray, List.map_cons, List.map_nil]); first | done | rfl) ?_
  refine (or_calls A8 c8 (cmpI a.f0 b.f0) (wrap64 (bitN a.f1 - bitN b.f1)) (cmpI a.f2 b.f2) (cmpT a.f3 b.f3) _ HC8.out hlc8).mono ?_
  rintro e w6 ⟨rfl, hb⟩
  refine ⟨_, rfl, ?_⟩
  have n2 := Lib.hid (blk_below C2.out hb)
  have n3 := Lib.hid (blk_below C3.out hb)
  have nB := Lib.hid (below_step HB.out hb)
  clear C2 C3 HB HC8 hb
  have C2 := n2
  have C3 := n3
  have HB := nB
  clear n2 n3 nB
  refine hK.out _ _ ⟨(blk_cell C2.out 0).trans rfl, (blk_cell C2.out 1).trans rfl, (blk_cell C2.out 2).trans rfl, (blk_cell C2.out 3).trans rfl, (blk_cell C3.out 0).trans rfl, (blk_cell C3.out 1).trans rfl, (blk_cell C3.out 2).trans rfl, (blk_cell C3.out 3).trans rfl⟩ (fun hHeld => ?_)
  clear hK K
  refine norm_ (a' := ?_) ?_ ?_
  rotate_left
  · show Act.put _ (some 31) _ = _
    simp only [Act.put, List.setIfInBounds_toArray, List.set_cons_zero, List.set_cons_succ, i64_w, i32_w]
    rfl
  refine pure_ (i := 26) (N := some 4) (v := ?_) (a' := ?_) #[true, true, true, true, true, true, true, true, true, true, true, true, true, true, true, true, true, true, true, true, true, true, true, true, true, true, true] rfl rfl (any_of HT_.out (by kernel_rfl)) (fun _ _ _ h => h) (Or.inl ⟨by rfl, ?_⟩) ?_ ?_
  rotate_left
  · intro w'
    go_simp
    with_reducible rfl
  rotate_left
  · simp only [Act.put, List.setIfInBounds_toArray, List.set_cons_zero, List.set_cons_succ, i64_w, i32_w]
    rfl
  refine done_ (done_of HT_.out (by kernel_rfl)) ?_
  go_wp2
  go_ret
  exact ⟨rfl, HB.out⟩
end Go.Proofs.YtepgjdmdogblmaaDoor.Val
