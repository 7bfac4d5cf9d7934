/- A value, a row, columns, rows, a table that came in. No condition. -/
import Derived.Test.YtepgjdmdogblmaaDoorOpn
import Derived.Test.YtepgjdmdogblmaaDoorLq0
namespace Go.Proofs.YtepgjdmdogblmaaDoor.Opn
open Go.RowKit Go.Proofs.YtepgjdmdogblmaaDoor.G Go.Proofs.YtepgjdmdogblmaaDoor.Lx Go.Proofs.YtepgjdmdogblmaaDoorW.PrintWords Go.Proofs.YtepgjdmdogblmaaDoorW.PrintLast Go.Proofs.YtepgjdmdogblmaaDoorW.PrintMore
open Go.ChangeShapes Go.WideShapes Go.Deep Go.Joins
set_option linter.unusedVariables false
instance : Inhabited S27 := ⟨z27⟩
instance : Inhabited S36 := ⟨z36⟩
variable {H : Type} {enc : TypeId × Value → H} {w : World} {spare : Nat → Bool} {held : Bool}
def Fit27 (x : S27) : Prop := (0 ≤ x.f0 ∧ x.f0 ≤ 255) ∧ (-9223372036854775808 ≤ x.f2 ∧ x.f2 ≤ 9223372036854775807) ∧ x.f3.size ≤ 9223372036854775807
def Lim27 (x : S27) : Prop := x.f3.size ≤ 140737488351232
theorem opens27 : Opens Tryd.prog enc w spare held 27 k27 Fit27 Lim27 (fun x => x.f3.size + 5) :=
  Opens.imp (opens_struct (fun x : S27 => (x.f0, x.f1, x.f2, x.f3)) (fun a => ⟨a.1, a.2.1, a.2.2.1, a.2.2.2⟩) (fun _ => rfl) Tryd.underlying27 (ts := [25, 4, 2, 9]) (by kernel_rfl) (by kernel_rfl)
    (opensF_cons (opens_int Tryd.underlying25) (opensF_cons (opens_bool Tryd.underlying4) (opensF_cons (opens_int Tryd.underlying2) (opensF_one (opens_string Tryd.underlying9))))))
    (fun a h => ⟨h.1, h.2.2.1, h.2.2.2⟩) (fun a h => h.2.2.2) (fun a => by show a.f3.size + 5 ≤ 1 + (1 + (1 + (a.f3.size + 1))) + 1; omega)
def Fit36 (x : S36) : Prop := x.f0.size ≤ 9223372036854775807 ∧ (0 ≤ x.f1 ∧ x.f1 ≤ 255)
def Lim36 (x : S36) : Prop := x.f0.size ≤ 140737488351232
theorem opens36 : Opens Tryd.prog enc w spare held 36 k36 Fit36 Lim36 (fun x => x.f0.size + 3) :=
  Opens.imp (opens_struct (fun x : S36 => (x.f0, x.f1)) (fun a => ⟨a.1, a.2⟩) (fun _ => rfl) Tryd.underlying36 (ts := [9, 25]) (by kernel_rfl) (by kernel_rfl)
    (opensF_cons (opens_string Tryd.underlying9) (opensF_one (opens_int Tryd.underlying25))))
    (fun a h => ⟨h.1, h.2⟩) (fun a h => h.1) (fun a => by show a.f0.size + 3 ≤ (a.f0.size + 1) + 1 + 1; omega)
/-- a row, columns, rows -/
def FitRow (l : List S27) : Prop := ∀ a ∈ l, Fit27 a
def LimRow (l : List S27) : Prop := l.length * 32 ≤ 140737488351232 ∧ ∀ a ∈ l, Lim27 a
def FitCols (l : List S36) : Prop := ∀ a ∈ l, Fit36 a
def LimCols (l : List S36) : Prop := l.length * 24 ≤ 140737488351232 ∧ ∀ a ∈ l, Lim36 a
theorem opens33 : Opens Tryd.prog enc w spare held 33 (Kd.slice 27 k27) FitRow LimRow (fun l => sumOf (fun x => x.f3.size + 5) l + 1) :=
  Opens.imp (opens_slice Tryd.underlying33 (by kernel_rfl) opens27) (fun _ h => h) (fun l h => ⟨by have := h.1; rwa [show Tryd.prog.bytesOf 27 = 32 by kernel_rfl] at this, h.2⟩) (fun _ => Nat.le_refl _)
theorem opens34 : Opens Tryd.prog enc w spare held 34 (Kd.slice 36 k36) FitCols LimCols (fun l => sumOf (fun x => x.f0.size + 3) l + 1) :=
  Opens.imp (opens_slice Tryd.underlying34 (by kernel_rfl) opens36) (fun _ h => h) (fun l h => ⟨by have := h.1; rwa [show Tryd.prog.bytesOf 36 = 24 by kernel_rfl] at this, h.2⟩) (fun _ => Nat.le_refl _)
def FitRows (l : List (List S27)) : Prop := ∀ a ∈ l, FitRow a
def LimRows (l : List (List S27)) : Prop := l.length * 24 ≤ 140737488351232 ∧ ∀ a ∈ l, LimRow a
theorem opens47 : Opens Tryd.prog enc w spare held 47 (Kd.slice 33 (Kd.slice 27 k27)) FitRows LimRows (fun l => sumOf (fun l => sumOf (fun x => x.f3.size + 5) l + 1) l + 1) :=
  Opens.imp (opens_slice Tryd.underlying47 (by kernel_rfl) opens33) (fun _ h => h) (fun l h => ⟨by have := h.1; rwa [show Tryd.prog.bytesOf 33 = 24 by kernel_rfl] at this, h.2⟩) (fun _ => Nat.le_refl _)
def Big (n : Nat) : Prop := n ≤ 9223372036854775807
def Fits (n : Nat) : Prop := n ≤ 140737488351232
def Fit49 (x : ByteArray × List S36 × List (List S27)) : Prop := Big x.1.size ∧ FitCols x.2.1 ∧ FitRows x.2.2
def Lim49 (x : ByteArray × List S36 × List (List S27)) : Prop := Fits x.1.size ∧ LimCols x.2.1 ∧ LimRows x.2.2
theorem opens49 : Opens Tryd.prog enc w spare held 49 (Kd.iso (Kd.pair Kd.string (Kd.pair (Kd.slice 36 k36) (Kd.slice 33 (Kd.slice 27 k27)))) (fun x : ByteArray × List S36 × List (List S27) => x)) Fit49 Lim49 (fun _ => 1) :=
  Opens.imp (opens_struct (fun x : ByteArray × List S36 × List (List S27) => x) (fun a => a) (fun _ => rfl) Tryd.underlying49 (ts := [9, 34, 47]) (by kernel_rfl) (by kernel_rfl)
    (opensF_cons (opens_string Tryd.underlying9) (opensF_cons opens34 (opensF_one opens47))))
    (fun a h => h) (fun a h => h) (fun a => by show 1 ≤ _ + 1; omega)
set_option maxRecDepth 100000 in
/-- an argument that is a value, a table -/
theorem arg27 {r : Reach} {b0 : Nat} {v : Value} {d : DataW H} {p : List MemPlace} (hv : Value.okWide Tryd.prog w r b0 27 v) (h : DataW.Trod enc Tryd.prog w 0 spare held 27 v d p) :
    ∃ x : S27, v = .agg #[.int .u8 x.f0, .bool x.f1, .int .i64 x.f2, .string x.f3] ∧ Fit27 x ∧ (Small Tryd.prog 27 d → Lim27 x) ∧ x.f3.size + 5 ≤ Rows.uptoBulk d := by
  have q := arg_struct Tryd.underlying27 opens27 hv h
  obtain ⟨x, cs, rfl, hK, q⟩ := q
  have h1 := q.1
  have h2 := q.2.1
  have h3 := q.2.2
  have e := k27_open hK
  refine ⟨x, ?_, h1, h2, h3⟩
  rw [show cs = cs.toList.toArray by simp, e]
set_option maxRecDepth 100000 in
theorem arg49 {r : Reach} {b0 : Nat} {v : Value} {d : DataW H} {p : List MemPlace} (hv : Value.okWide Tryd.prog w r b0 49 v) (h : DataW.Trod enc Tryd.prog w 0 spare held 49 v d p) :
    ∃ (nm : ByteArray) (A : Option Addr) (c : Nat) (l : List S36) (B : Option Addr) (b : Nat) (m : List (List S27)), v = .agg #[.string nm, .slice A l.length c, .slice B m.length b] ∧ (l.length ≤ c ∧ Kd.C k36 w A l.length l) ∧ (m.length ≤ b ∧ Kd.C (Kd.slice 27 k27) w B m.length m) ∧
      Fit49 (nm, l, m) ∧ (Small Tryd.prog 49 d → Lim49 (nm, l, m)) := by
  obtain ⟨⟨nm, l, m⟩, cs, rfl, hK, h1, h2, h3⟩ := arg_struct Tryd.underlying49 opens49 hv h
  obtain ⟨c0, c1, e0, k0, c2, c3, e1, k1, k2⟩ := hK
  obtain ⟨A, c, rfl, hA, hC⟩ := k1
  obtain ⟨B, b, rfl, hB, hD⟩ := k2
  have k0' : c0 = [.string nm] := k0
  subst k0' e1
  refine ⟨nm, A, c, l, B, b, m, ?_, ⟨hA, hC⟩, ⟨hB, hD⟩, h1, h2⟩
  rw [show cs = cs.toList.toArray by simp, e0]
  rfl
end Go.Proofs.YtepgjdmdogblmaaDoor.Opn
