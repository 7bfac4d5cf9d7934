/- Package stream: Ack tells the next number. No condition. -/
import Derived.Test.YtkbemagcoojmmaaCv0Q1
import Derived.Laws.CopyOwn
namespace Go.Proofs.Ytkbemagcoojmmaa.Val
open Go.RowKit Go.Proofs.Ytkbemagcoojmmaa.G Go.Proofs.Ytkbemagcoojmmaa.Lx Go.Proofs.YtkbemagcoojmmaaW.PrintWords Go.Proofs.YtkbemagcoojmmaaW.PrintLast Go.Proofs.YtkbemagcoojmmaaW.PrintMore
set_option linter.unusedVariables false
def zero52 : Array Value := #[.int .u8 0, .int .u64 0, .int .u64 0, .int .u64 0, .int .i64 0, .int .i64 0, .int .i64 0, .string (⟨#[]⟩ : ByteArray), .string (⟨#[]⟩ : ByteArray), .int .i64 0, .int .i64 0, .int .i64 0, .slice none 0 0, .slice none 0 0, .slice none 0 0, .bool false, .slice none 0 0, .slice none 0 0, .slice none 0 0, .int .i64 0, .int .i64 0, .int .u8 0, .string (⟨#[]⟩ : ByteArray), .int .u64 0, .int .u64 0, .int .i64 0, .slice none 0 0, .int .u8 0, .string (⟨#[]⟩ : ByteArray), .int .u64 0, .int .u64 0, .int .i64 0, .slice none 0 0, .bool false, .int .i64 0, .slice none 0 0, .slice none 0 0, .int .u64 0, .bool false, .slice none 0 0, .string (⟨#[]⟩ : ByteArray), .int .u64 0, .int .u64 0, .int .i64 0, .slice none 0 0, .slice none 0 0, .slice none 0 0]
def ack52 (a0 a1 a2 a3 a4 next : Int) : Array Value := #[.int .u8 5, .int .u64 0, .int .u64 a0, .int .u64 a1, .int .i64 a2, .int .i64 a3, .int .i64 a4, .string (⟨#[]⟩ : ByteArray), .string (⟨#[]⟩ : ByteArray), .int .i64 0, .int .i64 0, .int .i64 0, .slice none 0 0, .slice none 0 0, .slice none 0 0, .bool false, .slice none 0 0, .slice none 0 0, .slice none 0 0, .int .i64 0, .int .i64 0, .int .u8 0, .string (⟨#[]⟩ : ByteArray), .int .u64 0, .int .u64 0, .int .i64 0, .slice none 0 0, .int .u8 0, .string (⟨#[]⟩ : ByteArray), .int .u64 0, .int .u64 0, .int .i64 0, .slice none 0 0, .bool false, .int .i64 0, .slice none 0 0, .slice none 0 0, .int .u64 next, .bool false, .slice none 0 0, .string (⟨#[]⟩ : ByteArray), .int .u64 0, .int .u64 0, .int .i64 0, .slice none 0 0, .slice none 0 0, .slice none 0 0]
set_option maxHeartbeats 4000000 in
set_option maxRecDepth 100000 in
theorem ack_calls (a0 a1 a2 a3 a4 next : Int) (v6 v7 : Value) (done : Bool) (w : World) :
    Calls Try.prog 17 #[.agg #[.int .u64 a0, .int .u64 a1, .int .i64 a2, .int .i64 a3, .int .i64 a4, .int .u64 next, v6, v7, .bool done]] w fun e w' => e = .returned (.agg (ack52 a0 a1 a2 a3 a4 next)) ∧ Below w.heap.size w w' := by
  have HB := Lib.hid (Below.refl w.heap.size w)
  have hu30 := Try.underlying30
  have hu52 := Try.underlying52
  have hu26 := Try.underlying26
  go_enter Try.func17, Try.ntmps17
  go_wp2_with (first
    | ((with_reducible refine gate_dst (N := 1) rfl ?_); refine box_event ?hg (N := 1) ?hd (cs := #[.int .u64 a0, .int .u64 a1, .int .i64 a2, .int .i64 a3, .int .i64 a4, .int .u64 next, v6, v7, .bool done]) (t := 30) ?hr ?_; (case hd => rfl); (case hg => rfl); (case hr => first | (go_simp; done) | (go_simp; rfl)); intro g1 hg wb1 hbx hb; have n_HB := Lib.hid (below_step HB.out hb); have B1 := Lib.hid hbx; clear HB hbx hb hg; have HB := n_HB; clear n_HB)
    | ((with_reducible refine gate_dst (N := 2) rfl ?_); refine box_event ?hg (N := 2) ?hd (cs := zero52) (t := 52) ?hr ?_; (case hd => rfl); (case hg => rfl); (case hr => first | (go_simp; done) | (go_simp; rfl)); intro g2 hg wb2 hbx hb; have Ne1_2 := Lib.hid (show ¬ g1 = g2 by rw [hg]; have := blk_lt B1.out; omega); have Eg2 := Lib.hid (show w.heap.size ≤ g2 by rw [hg]; exact HB.out.size); have n_HB := Lib.hid (below_step HB.out hb); have n_B1 := Lib.hid (blk_below B1.out hb); have B2 := Lib.hid hbx; clear HB B1 hbx hb hg; have HB := n_HB; have B1 := n_B1; clear n_HB n_B1; have p0 := (blk_cell B1.out 0).trans rfl; have p1 := (blk_cell B1.out 1).trans rfl; have p2 := (blk_cell B1.out 2).trans rfl; have p3 := (blk_cell B1.out 3).trans rfl; have p4 := (blk_cell B1.out 4).trans rfl; have p5 := (blk_cell B1.out 5).trans rfl)
    | ((with_reducible refine gate_store (t := 52) (p := 2) rfl ?_); refine wpList_store_row rfl 52 (.tmp 2) (.tmp 7) rfl g2 (ack52 a0 a1 a2 a3 a4 next) rfl rfl 52 zero52 B2.out (by kernel_rfl) rfl (by simp [ack52, Value.oneCell']) ?_))
  refine bodyPost_ret (results_cell_row rfl _ _ g2 52 (ack52 a0 a1 a2 a3 a4 next) (0, 0) _ rfl (setRow_heap _ _ zero52 _ _ _ B2.out) Try.underlying52 rfl (by kernel_rfl)) rfl ?_
  exact ⟨rfl, below_setRow HB.out Eg2.out _⟩
end Go.Proofs.Ytkbemagcoojmmaa.Val
namespace Go.Proofs.Ytkbemagcoojmmaa.Lx
open Go.RowKit Go.Proofs.Ytkbemagcoojmmaa.G Go.Proofs.YtkbemagcoojmmaaW.PrintWords Go.Proofs.YtkbemagcoojmmaaW.PrintLast Go.Proofs.YtkbemagcoojmmaaW.PrintMore
set_option linter.unusedVariables false
end Go.Proofs.Ytkbemagcoojmmaa.Lx
