/- A value, a row, columns, rows, a table that came in. No condition. -/
import Derived.Test.YtfgmgcnbponknaaDoorOpn
import Derived.Test.YtfgmgcnbponknaaDoorLw0
namespace Go.Proofs.YtfgmgcnbponknaaDoor.Opn
open Go.RowKit Go.Proofs.YtfgmgcnbponknaaDoor.G Go.Proofs.YtfgmgcnbponknaaDoor.Lx Go.Proofs.YtfgmgcnbponknaaDoorW.PrintWords Go.Proofs.YtfgmgcnbponknaaDoorW.PrintLast Go.Proofs.YtfgmgcnbponknaaDoorW.PrintMore
open Go.ChangeShapes Go.WideShapes Go.Deep Go.Joins
set_option linter.unusedVariables false
instance : Inhabited S38 := ⟨z38⟩
instance : Inhabited S97 := ⟨z97⟩
variable {H : Type} {enc : TypeId × Value → H} {w : World} {spare : Nat → Bool} {held : Bool}
def Fit38 (x : S38) : Prop := (0 ≤ x.f0 ∧ x.f0 ≤ 255) ∧ (-9223372036854775808 ≤ x.f2 ∧ x.f2 ≤ 9223372036854775807) ∧ x.f3.size ≤ 9223372036854775807
def Lim38 (x : S38) : Prop := x.f3.size ≤ 140737488351232
theorem opens38 : Opens Tryd.prog enc w spare held 38 k38 Fit38 Lim38 (fun x => x.f3.size + 5) :=
  Opens.imp (opens_struct (fun x : S38 => (x.f0, x.f1, x.f2, x.f3)) (fun a => ⟨a.1, a.2.1, a.2.2.1, a.2.2.2⟩) (fun _ => rfl) Tryd.underlying38 (ts := [36, 4, 2, 9]) (by kernel_rfl) (by kernel_rfl)
    (opensF_cons (opens_int Tryd.underlying36) (opensF_cons (opens_bool Tryd.underlying4) (opensF_cons (opens_int Tryd.underlying2) (opensF_one (opens_string Tryd.underlying9))))))
    (fun a h => ⟨h.1, h.2.2.1, h.2.2.2⟩) (fun a h => h.2.2.2) (fun a => by show a.f3.size + 5 ≤ 1 + (1 + (1 + (a.f3.size + 1))) + 1; omega)
def Fit97 (x : S97) : Prop := x.f0.size ≤ 9223372036854775807 ∧ (0 ≤ x.f1 ∧ x.f1 ≤ 255)
def Lim97 (x : S97) : Prop := x.f0.size ≤ 140737488351232
theorem opens97 : Opens Tryd.prog enc w spare held 97 k97 Fit97 Lim97 (fun x => x.f0.size + 3) :=
  Opens.imp (opens_struct (fun x : S97 => (x.f0, x.f1)) (fun a => ⟨a.1, a.2⟩) (fun _ => rfl) Tryd.underlying97 (ts := [9, 36]) (by kernel_rfl) (by kernel_rfl)
    (opensF_cons (opens_string Tryd.underlying9) (opensF_one (opens_int Tryd.underlying36))))
    (fun a h => ⟨h.1, h.2⟩) (fun a h => h.1) (fun a => by show a.f0.size + 3 ≤ (a.f0.size + 1) + 1 + 1; omega)
/-- a row, columns, rows -/
def FitRow (l : List S38) : Prop := ∀ a ∈ l, Fit38 a
def LimRow (l : List S38) : Prop := l.length * 32 ≤ 140737488351232 ∧ ∀ a ∈ l, Lim38 a
def FitCols (l : List S97) : Prop := ∀ a ∈ l, Fit97 a
def LimCols (l : List S97) : Prop := l.length * 24 ≤ 140737488351232 ∧ ∀ a ∈ l, Lim97 a
theorem opens35 : Opens Tryd.prog enc w spare held 35 (Kd.slice 38 k38) FitRow LimRow (fun l => sumOf (fun x => x.f3.size + 5) l + 1) :=
  Opens.imp (opens_slice Tryd.underlying35 (by kernel_rfl) opens38) (fun _ h => h) (fun l h => ⟨by have := h.1; rwa [show Tryd.prog.bytesOf 38 = 32 by kernel_rfl] at this, h.2⟩) (fun _ => Nat.le_refl _)
theorem opens24 : Opens Tryd.prog enc w spare held 24 (Kd.slice 97 k97) FitCols LimCols (fun l => sumOf (fun x => x.f0.size + 3) l + 1) :=
  Opens.imp (opens_slice Tryd.underlying24 (by kernel_rfl) opens97) (fun _ h => h) (fun l h => ⟨by have := h.1; rwa [show Tryd.prog.bytesOf 97 = 24 by kernel_rfl] at this, h.2⟩) (fun _ => Nat.le_refl _)
def FitRows (l : List (List S38)) : Prop := ∀ a ∈ l, FitRow a
def LimRows (l : List (List S38)) : Prop := l.length * 24 ≤ 140737488351232 ∧ ∀ a ∈ l, LimRow a
theorem opens25 : Opens Tryd.prog enc w spare held 25 (Kd.slice 35 (Kd.slice 38 k38)) FitRows LimRows (fun l => sumOf (fun l => sumOf (fun x => x.f3.size + 5) l + 1) l + 1) :=
  Opens.imp (opens_slice Tryd.underlying25 (by kernel_rfl) opens35) (fun _ h => h) (fun l h => ⟨by have := h.1; rwa [show Tryd.prog.bytesOf 35 = 24 by kernel_rfl] at this, h.2⟩) (fun _ => Nat.le_refl _)
def Big (n : Nat) : Prop := n ≤ 9223372036854775807
def Fits (n : Nat) : Prop := n ≤ 140737488351232
def Fit27 (x : ByteArray × List S97 × List (List S38)) : Prop := Big x.1.size ∧ FitCols x.2.1 ∧ FitRows x.2.2
def Lim27 (x : ByteArray × List S97 × List (List S38)) : Prop := Fits x.1.size ∧ LimCols x.2.1 ∧ LimRows x.2.2
theorem opens27 : Opens Tryd.prog enc w spare held 27 (Kd.iso (Kd.pair Kd.string (Kd.pair (Kd.slice 97 k97) (Kd.slice 35 (Kd.slice 38 k38)))) (fun x : ByteArray × List S97 × List (List S38) => x)) Fit27 Lim27 (fun _ => 1) :=
  Opens.imp (opens_struct (fun x : ByteArray × List S97 × List (List S38) => x) (fun a => a) (fun _ => rfl) Tryd.underlying27 (ts := [9, 24, 25]) (by kernel_rfl) (by kernel_rfl)
    (opensF_cons (opens_string Tryd.underlying9) (opensF_cons opens24 (opensF_one opens25))))
    (fun a h => h) (fun a h => h) (fun a => by show 1 ≤ _ + 1; omega)
set_option maxRecDepth 100000 in
/-- an argument that is a value, a table -/
theorem arg38 {r : Reach} {b0 : Nat} {v : Value} {d : DataW H} {p : List MemPlace} (hv : Value.okWide Tryd.prog w r b0 38 v) (h : DataW.Trod enc Tryd.prog w 0 spare held 38 v d p) :
    ∃ x : S38, v = .agg #[.int .u8 x.f0, .bool x.f1, .int .i64 x.f2, .string x.f3] ∧ Fit38 x ∧ (Small Tryd.prog 38 d → Lim38 x) ∧ x.f3.size + 5 ≤ Rows.uptoBulk d := by
  have q := arg_struct Tryd.underlying38 opens38 hv h
  obtain ⟨x, cs, rfl, hK, q⟩ := q
  have h1 := q.1
  have h2 := q.2.1
  have h3 := q.2.2
  have e := k38_open hK
  refine ⟨x, ?_, h1, h2, h3⟩
  rw [show cs = cs.toList.toArray by simp, e]
set_option maxRecDepth 100000 in
theorem arg27 {r : Reach} {b0 : Nat} {v : Value} {d : DataW H} {p : List MemPlace} (hv : Value.okWide Tryd.prog w r b0 27 v) (h : DataW.Trod enc Tryd.prog w 0 spare held 27 v d p) :
    ∃ (nm : ByteArray) (A : Option Addr) (c : Nat) (l : List S97) (B : Option Addr) (b : Nat) (m : List (List S38)), v = .agg #[.string nm, .slice A l.length c, .slice B m.length b] ∧ (l.length ≤ c ∧ Kd.C k97 w A l.length l) ∧ (m.length ≤ b ∧ Kd.C (Kd.slice 38 k38) w B m.length m) ∧
      Fit27 (nm, l, m) ∧ (Small Tryd.prog 27 d → Lim27 (nm, l, m)) := by
  obtain ⟨⟨nm, l, m⟩, cs, rfl, hK, h1, h2, h3⟩ := arg_struct Tryd.underlying27 opens27 hv h
  obtain ⟨c0, c1, e0, k0, c2, c3, e1, k1, k2⟩ := hK
  obtain ⟨A, c, rfl, hA, hC⟩ := k1
  obtain ⟨B, b, rfl, hB, hD⟩ := k2
  have k0' : c0 = [.string nm] := k0
  subst k0' e1
  refine ⟨nm, A, c, l, B, b, m, ?_, ⟨hA, hC⟩, ⟨hB, hD⟩, h1, h2⟩
  rw [show cs = cs.toList.toArray by simp, e0]
  rfl
end Go.Proofs.YtfgmgcnbponknaaDoor.Opn
