/- A claim, a layout, owners, who is alive that came in. No condition. -/
import Derived.Test.YtfgmgcnbponknaaDoorOpV
namespace Go.Proofs.YtfgmgcnbponknaaDoor.Opn
open Go.RowKit Go.Proofs.YtfgmgcnbponknaaDoor.Lx Go.Proofs.YtfgmgcnbponknaaDoorW.PrintWords Go.Proofs.YtfgmgcnbponknaaDoorW.PrintLast Go.Proofs.YtfgmgcnbponknaaDoorW.PrintMore
open Go.ChangeShapes Go.WideShapes Go.Deep Go.Joins
set_option linter.unusedVariables false
variable {H : Type} {enc : TypeId × Value → H} {w : World} {spare : Nat → Bool} {held : Bool}
def I64o (n : Int) : Prop := -9223372036854775808 ≤ n ∧ n ≤ 9223372036854775807
def LimI (l : List Int) : Prop := l.length * 8 ≤ 140737488351232
theorem opens42 : Opens Tryd.prog enc w spare held 42 (Kd.slice 3 (Kd.int .i64)) (fun l => ∀ x ∈ l, I64o x) LimI (fun l => 1) :=
  Opens.imp (opens_slice Tryd.underlying42 (by kernel_rfl) (opens_int Tryd.underlying3)) (fun _ h => h) (fun l h => by have := h.1; rwa [show Tryd.prog.bytesOf 3 = 8 by kernel_rfl] at this) (fun _ => by show 1 ≤ _ + 1; omega)
def LimM (l : List (List Int)) : Prop := l.length * 24 ≤ 140737488351232 ∧ ∀ x ∈ l, LimI x
theorem opens52 : Opens Tryd.prog enc w spare held 52 (Kd.slice 42 (Kd.slice 3 (Kd.int .i64))) (fun _ => True) LimM (fun l => 1) :=
  Opens.imp (opens_slice Tryd.underlying52 (by kernel_rfl) opens42) (fun _ _ => trivial) (fun l h => ⟨by have := h.1; rwa [show Tryd.prog.bytesOf 42 = 24 by kernel_rfl] at this, h.2⟩) (fun _ => by show 1 ≤ _ + 1; omega)
theorem opens55 : Opens Tryd.prog enc w spare held 55 (Kd.slice 4 Kd.bool) (fun _ => True) (fun l => Fits l.length) (fun l => 1) :=
  Opens.imp (opens_slice Tryd.underlying55 (by kernel_rfl) (opens_bool Tryd.underlying4)) (fun _ _ => trivial) (fun l h => by have := h.1; rw [show Tryd.prog.bytesOf 4 = 1 by kernel_rfl] at this; unfold Fits; omega) (fun _ => by show 1 ≤ _ + 1; omega)
abbrev V51 := Int × Int
theorem opens51 : Opens Tryd.prog enc w spare held 51 (Kd.iso (Kd.pair (Kd.int .u64) (Kd.int .u64)) (fun x : V51 => x)) (fun _ => True) (fun _ => True) (fun _ => 1) :=
  Opens.imp (opens_struct (fun x : V51 => x) (fun a => a) (fun _ => rfl) Tryd.underlying51 (ts := [49, 49]) (by kernel_rfl) (by kernel_rfl) (opensF_cons (opens_int Tryd.underlying49) (opensF_one (opens_int Tryd.underlying49)))) (fun _ _ => trivial) (fun _ _ => trivial) (fun _ => by show 1 ≤ _ + 1; omega)
abbrev V54 := ByteArray × List S97 × V51 × List (List Int)
def Fit54 (x : V54) : Prop := FitCols x.2.1
def Lim54 (x : V54) : Prop := Fits x.1.size ∧ LimCols x.2.1 ∧ LimM x.2.2.2
theorem opens54 : Opens Tryd.prog enc w spare held 54 (Kd.iso (Kd.pair Kd.string (Kd.pair (Kd.slice 97 k97) (Kd.pair (Kd.iso (Kd.pair (Kd.int .u64) (Kd.int .u64)) (fun x : V51 => x)) (Kd.slice 42 (Kd.slice 3 (Kd.int .i64)))))) (fun x : V54 => x)) Fit54 Lim54 (fun _ => 1) :=
  Opens.imp (opens_struct (fun x : V54 => x) (fun a => a) (fun _ => rfl) Tryd.underlying54 (ts := [9, 24, 51, 52]) (by kernel_rfl) (by kernel_rfl) (opensF_cons (opens_string Tryd.underlying9) (opensF_cons opens24 (opensF_cons opens51 (opensF_one opens52)))))
    (fun a h => h.2.1) (fun a h => ⟨h.1, h.2.1, h.2.2.2⟩) (fun _ => by show 1 ≤ _ + 1; omega)
abbrev V23 := Int × Int × Int
theorem opens23 : Opens Tryd.prog enc w spare held 23 (Kd.iso (Kd.pair (Kd.int .i64) (Kd.pair (Kd.int .i64) (Kd.int .i64))) (fun x : V23 => x)) (fun x => I64o x.1 ∧ I64o x.2.1 ∧ I64o x.2.2) (fun _ => True) (fun _ => 1) :=
  Opens.imp (opens_struct (fun x : V23 => x) (fun a => a) (fun _ => rfl) Tryd.underlying23 (ts := [3, 3, 3]) (by kernel_rfl) (by kernel_rfl) (opensF_cons (opens_int Tryd.underlying3) (opensF_cons (opens_int Tryd.underlying3) (opensF_one (opens_int Tryd.underlying3))))) (fun _ h => h) (fun _ _ => trivial) (fun _ => by show 1 ≤ _ + 1; omega)
set_option maxRecDepth 100000 in
theorem arg23 {r : Reach} {b0 : Nat} {v : Value} {d : DataW H} {p : List MemPlace} (hv : Value.okWide Tryd.prog w r b0 23 v) (h : DataW.Trod enc Tryd.prog w 0 spare held 23 v d p) : ∃ n0 n1 n2 : Int, v = .agg #[.int .i64 n0, .int .i64 n1, .int .i64 n2] ∧ I64o n0 ∧ I64o n1 ∧ I64o n2 := by
  obtain ⟨⟨n0, n1, n2⟩, cs, rfl, hK, h1, _⟩ := arg_struct Tryd.underlying23 opens23 hv h
  obtain ⟨c0, c1, e0, k0, c2, c3, e1, k1, k2⟩ := hK
  have k0' : c0 = [.int .i64 n0] := k0
  have k1' : c2 = [.int .i64 n1] := k1
  have k2' : c3 = [.int .i64 n2] := k2
  subst k0' k1' k2' e1
  refine ⟨n0, n1, n2, ?_, h1⟩
  rw [show cs = cs.toList.toArray by simp, e0]; rfl
set_option maxRecDepth 100000 in
theorem arg54 {r : Reach} {b0 : Nat} {v : Value} {d : DataW H} {p : List MemPlace} (hv : Value.okWide Tryd.prog w r b0 54 v) (h : DataW.Trod enc Tryd.prog w 0 spare held 54 v d p) :
    ∃ (nm : ByteArray) (A : Option Addr) (c : Nat) (l : List S97) (b0 b1 : Int) (B : Option Addr) (e : Nat) (m : List (List Int)), v = .agg #[.string nm, .slice A l.length c, .int .u64 b0, .int .u64 b1, .slice B m.length e] ∧ (l.length ≤ c ∧ Kd.C k97 w A l.length l) ∧ (m.length ≤ e ∧ Kd.C (Kd.slice 3 (Kd.int .i64)) w B m.length m) ∧ FitCols l ∧
      (Small Tryd.prog 54 d → Fits nm.size ∧ LimCols l ∧ LimM m) := by
  obtain ⟨⟨nm, l, ⟨b0, b1⟩, m⟩, cs, rfl, hK, h1, h2, _⟩ := arg_struct Tryd.underlying54 opens54 hv h
  obtain ⟨c0, c1, e0, k0, c2, c3, e1, k1, c4, c5, e2, k2, k3⟩ := hK
  obtain ⟨c6, c7, e3, k4, k5⟩ := k2
  obtain ⟨A, c, rfl, hA, hC⟩ := k1
  obtain ⟨B, e, rfl, hB, hD⟩ := k3
  have k0' : c0 = [.string nm] := k0
  have k4' : c6 = [.int .u64 b0] := k4
  have k5' : c7 = [.int .u64 b1] := k5
  subst k0' k4' k5' e3 e2 e1
  refine ⟨nm, A, c, l, b0, b1, B, e, m, ?_, ⟨hA, hC⟩, ⟨hB, hD⟩, h1, h2⟩
  rw [show cs = cs.toList.toArray by simp, e0]; rfl
end Go.Proofs.YtfgmgcnbponknaaDoor.Opn
