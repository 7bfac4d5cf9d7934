/- A value, a row, rows, batches, a stream, an Out, an In that came in (chapter 13). No condition. -/
import Derived.Test.YtkbemagcoojmmaaOpnQ1
import Derived.Test.YtkbemagcoojmmaaPk1Q1
namespace Go.Proofs.Ytkbemagcoojmmaa.Opn
open Go.RowKit Go.Proofs.Ytkbemagcoojmmaa.G Go.Proofs.Ytkbemagcoojmmaa.Lx Go.Proofs.YtkbemagcoojmmaaW.PrintWords Go.Proofs.YtkbemagcoojmmaaW.PrintLast Go.Proofs.YtkbemagcoojmmaaW.PrintMore
open Go.ChangeShapes Go.WideShapes Go.Deep Go.Joins
set_option linter.unusedVariables false
instance : Inhabited S112 := ⟨z112⟩
instance : Inhabited S83 := ⟨z83⟩
variable {H : Type} {enc : TypeId × Value → H} {w : World} {spare : Nat → Bool} {held : Bool}
theorem opens112 : Opens Try.prog enc w spare held 112 k112 (fun _ => True) (fun _ => True) (fun _ => 1) :=
  Opens.imp (opens_struct (fun x : S112 => (x.f0, x.f1, x.f2, x.f3)) (fun a => ⟨a.1, a.2.1, a.2.2.1, a.2.2.2⟩) (fun _ => rfl) Try.underlying112 (ts := [110, 4, 2, 9]) (by kernel_rfl) (by kernel_rfl)
    (opensF_cons (opens_int Try.underlying110) (opensF_cons (opens_bool Try.underlying4) (opensF_cons (opens_int Try.underlying2) (opensF_one (opens_string Try.underlying9))))))
    (fun _ _ => trivial) (fun _ _ => trivial) (fun _ => by show 1 ≤ _ + 1; omega)
def LimRow (l : List S112) : Prop := l.length < 4398046511104
theorem opens101 : Opens Try.prog enc w spare held 101 (Kd.slice 112 k112) (fun _ => True) LimRow (fun _ => 1) :=
  Opens.imp (opens_slice Try.underlying101 (by kernel_rfl) opens112) (fun _ _ => trivial) (fun l h => by have := h.1; rw [show Try.prog.bytesOf 112 = 32 by kernel_rfl] at this; unfold LimRow; omega) (fun _ => by show 1 ≤ _ + 1; omega)
theorem opens28 : Opens Try.prog enc w spare held 28 (Kd.slice 101 (Kd.slice 112 k112)) (fun _ => True) (fun l => FitR l) (fun _ => 1) :=
  Opens.imp (opens_slice Try.underlying28 (by kernel_rfl) opens101) (fun _ _ => trivial) (fun l h => ⟨by have := h.1; rw [show Try.prog.bytesOf 101 = 24 by kernel_rfl] at this; omega, h.2⟩) (fun _ => by show 1 ≤ _ + 1; omega)
abbrev V24 := Int × Int
abbrev KV24 := Kd.iso (Kd.pair (Kd.int .u64) (Kd.int .u64)) (fun x : V24 => x)
theorem opens24 : Opens Try.prog enc w spare held 24 KV24 (fun _ => True) (fun _ => True) (fun _ => 1) :=
  Opens.imp (opens_struct (fun x : V24 => x) (fun a => a) (fun _ => rfl) Try.underlying24 (ts := [22, 22]) (by kernel_rfl) (by kernel_rfl) (opensF_cons (opens_int Try.underlying22) (opensF_one (opens_int Try.underlying22)))) (fun _ _ => trivial) (fun _ _ => trivial) (fun _ => by show 1 ≤ _ + 1; omega)
abbrev V26 := V24 × Int × Int × Int
abbrev KV26 := Kd.iso (Kd.pair KV24 (Kd.pair (Kd.int .i64) (Kd.pair (Kd.int .i64) (Kd.int .i64)))) (fun x : V26 => x)
theorem opens26 : Opens Try.prog enc w spare held 26 KV26 (fun _ => True) (fun _ => True) (fun _ => 1) :=
  Opens.imp (opens_struct (fun x : V26 => x) (fun a => a) (fun _ => rfl) Try.underlying26 (ts := [24, 3, 3, 3]) (by kernel_rfl) (by kernel_rfl) (opensF_cons opens24 (opensF_cons (opens_int Try.underlying3) (opensF_cons (opens_int Try.underlying3) (opensF_one (opens_int Try.underlying3)))))) (fun _ _ => trivial) (fun _ _ => trivial) (fun _ => by show 1 ≤ _ + 1; omega)
theorem V26_K {W : World} {x : V26} {cs : List Value} (h : KV26.K W x cs) : cs = [.int .u64 x.1.1, .int .u64 x.1.2, .int .i64 x.2.1, .int .i64 x.2.2.1, .int .i64 x.2.2.2] := by
  obtain ⟨_, _, rfl, ⟨_, _, rfl, rfl, rfl⟩, ⟨_, _, rfl, rfl, ⟨_, _, rfl, rfl, rfl⟩⟩⟩ := h
  rfl
set_option maxRecDepth 100000 in
theorem arg26 {r : Reach} {b0 : Nat} {v : Value} {d : DataW H} {p : List MemPlace} (hv : Value.okWide Try.prog w r b0 26 v) (h : DataW.Trod enc Try.prog w 0 spare held 26 v d p) : ∃ n0 n1 n2 n3 n4 : Int, v = .agg #[.int .u64 n0, .int .u64 n1, .int .i64 n2, .int .i64 n3, .int .i64 n4] := by
  obtain ⟨⟨⟨n0, n1⟩, n2, n3, n4⟩, cs, rfl, hK, _⟩ := arg_struct Try.underlying26 opens26 hv h
  have e := V26_K hK
  refine ⟨n0, n1, n2, n3, n4, ?_⟩
  rw [show cs = cs.toList.toArray by simp, e]
end Go.Proofs.Ytkbemagcoojmmaa.Opn
