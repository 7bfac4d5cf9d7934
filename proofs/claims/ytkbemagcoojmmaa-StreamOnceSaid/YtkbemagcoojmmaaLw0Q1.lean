/- Printed by the kit's printer (gp.sh with conf13b.py): the words of seat 13's texts. No condition. -/
import Derived.Test.YtkbemagcoojmmaaProg
import Derived.Below
import Derived.Deep.Draws
import Derived.Deep.AppendLies
import Derived.Maps.AppendAt
import Derived.OwnWalk
import Derived.Laws.BytesArg
import Derived.Laws.MakeOwn
import Derived.Laws.OwnMore
import Derived.Deep.OwnRows
import Derived.Tactics
import Derived.Lib.ConvBytes
import Derived.Laws.Slices
import Derived.WalkKit
import Derived.KernelRfl
import Derived.RowKit3
import Derived.Deep.LoopGhost
import Derived.Deep.QuietTactic
import Derived.BigQuiet
import Derived.WideLaws
import Derived.Deep.DeepCutAuto
import Derived.Deep.CutBlock
import Derived.Deep.RegionHeld3
import Derived.Laws.Rows
import Derived.Lib.AppendStr
import Derived.ArgAppend
import Derived.Laws.IdiomCopy
import Derived.OrdersHeld
import Derived.Laws.BitsLemmas
import Derived.RowKit
import Derived.Test.YtkbemagcoojmmaaXQ1
import Derived.Test.YtkbemagcoojmmaaWWordsQ1
import Derived.Test.YtkbemagcoojmmaaWLastQ1
import Derived.Test.YtkbemagcoojmmaaWTabQ1
import Derived.Test.YtkbemagcoojmmaaWApartQ1
import Derived.Test.YtkbemagcoojmmaaWFootQ1
import Derived.Test.YtkbemagcoojmmaaWKeptQ1
import Derived.Test.YtkbemagcoojmmaaWShareQ1
import Derived.Test.YtkbemagcoojmmaaWNQ1
import Derived.Test.YtkbemagcoojmmaaWEqStructQ1
import Derived.Test.YtkbemagcoojmmaaWRepsOneQ1
import Derived.Test.YtkbemagcoojmmaaWGuardQ1
import Derived.Test.YtkbemagcoojmmaaWNEvQ1
import Derived.Test.YtkbemagcoojmmaaWMoreQ1
namespace Go.Proofs.Ytkbemagcoojmmaa.G
open Go.RowKit Go.Proofs.YtkbemagcoojmmaaW.PrintWords Go.Proofs.YtkbemagcoojmmaaW.PrintLast Go.Proofs.YtkbemagcoojmmaaW.PrintMore
attribute [local go_sem] max2_int min2_int max_two min_two max_three min_three max_four min_four str_leq str_gtr str_geq
set_option linter.unusedVariables false
set_option linter.unusedSimpArgs false
def errW : Option Int → Value
  | none => .nilIface
  | some c => .iface 0 (.int .i64 c)
theorem errW_none : errW none = .nilIface := rfl
theorem errW_some (c : Int) : errW (some c) = .iface 0 (.int .i64 c) := rfl
theorem info28 : (Try.prog.info? 28).map (fun i => (i.zero, i.size, i.bytes)) = some (some (.slice none 0 0), 1, 24) := by kernel_rfl
theorem info52 : (Try.prog.info? 52).map (fun i => (i.zero, i.size, i.bytes)) = some (some (.agg #[(.int .u8 0), (.int .u64 0), (.int .u64 0), (.int .u64 0), (.int .i64 0), (.int .i64 0), (.int .i64 0), (.string ⟨#[]⟩), (.string ⟨#[]⟩), (.int .i64 0), (.int .i64 0), (.int .i64 0), (.slice none 0 0), (.slice none 0 0), (.slice none 0 0), (.bool false), (.slice none 0 0), (.slice none 0 0), (.slice none 0 0), (.int .i64 0), (.int .i64 0), (.int .u8 0), (.string ⟨#[]⟩), (.int .u64 0), (.int .u64 0), (.int .i64 0), (.slice none 0 0), (.int .u8 0), (.string ⟨#[]⟩), (.int .u64 0), (.int .u64 0), (.int .i64 0), (.slice none 0 0), (.bool false), (.int .i64 0), (.slice none 0 0), (.slice none 0 0), (.int .u64 0), (.bool false), (.slice none 0 0), (.string ⟨#[]⟩), (.int .u64 0), (.int .u64 0), (.int .i64 0), (.slice none 0 0), (.slice none 0 0), (.slice none 0 0)]), 47, 640) := by kernel_rfl
theorem info83 : (Try.prog.info? 83).map (fun i => (i.zero, i.size, i.bytes)) = some (some (.agg #[(.int .u64 0), (.bool false), (.slice none 0 0)]), 3, 40) := by kernel_rfl
theorem info101 : (Try.prog.info? 101).map (fun i => (i.zero, i.size, i.bytes)) = some (some (.slice none 0 0), 1, 24) := by kernel_rfl
theorem info112 : (Try.prog.info? 112).map (fun i => (i.zero, i.size, i.bytes)) = some (some (.agg #[(.int .u8 0), (.bool false), (.int .i64 0), (.string ⟨#[]⟩)]), 4, 32) := by kernel_rfl
structure S112 where
  f0 : Int
  f1 : Bool
  f2 : Int
  f3 : ByteArray
def z112 : S112 := ⟨(0 : Int), false, (0 : Int), (⟨#[]⟩ : ByteArray)⟩
def k112 : Kd S112 := Kd.iso (Kd.pair (Kd.int .u8) (Kd.pair Kd.bool (Kd.pair (Kd.int .i64) Kd.string))) (fun x : S112 => (x.f0, x.f1, x.f2, x.f3))
theorem k112_heap : Kd.Heap k112 := Kd.heap_iso _ (Kd.heap_pair (Kd.heap_int .u8) (Kd.heap_pair Kd.heap_bool (Kd.heap_pair (Kd.heap_int .i64) Kd.heap_string)))
theorem k112_open {w : World} {x : S112} {cs : List Value} (h : k112.K w x cs) : cs = [.int .u8 x.f0, .bool x.f1, .int .i64 x.f2, .string x.f3] := by
  obtain ⟨_, _, rfl, rfl, ⟨_, _, rfl, rfl, ⟨_, _, rfl, rfl, rfl⟩⟩⟩ := h
  exact rfl
def rd_T112 (xs : List S112) (i : Int) : S112 := xs.getD i.toNat z112
theorem at_T112 {w : World} {A : Option Addr} {n : Nat} {xs : List S112} (h : Kd.C k112 w A n xs) (i : Int) (h0 : 0 ≤ i) (h1 : i < n) : ∃ ad , A = some ad ∧ w.cell? (ad.add (i.toNat * 4)) = some (.int .u8 (rd_T112 xs i).f0) ∧ w.cell? ⟨(ad.add (i.toNat * 4)).block, (ad.add (i.toNat * 4)).off + 1, none⟩ = some (.bool (rd_T112 xs i).f1) ∧ w.cell? ⟨(ad.add (i.toNat * 4)).block, (ad.add (i.toNat * 4)).off + 2, none⟩ = some (.int .i64 (rd_T112 xs i).f2) ∧ w.cell? ⟨(ad.add (i.toNat * 4)).block, (ad.add (i.toNat * 4)).off + 3, none⟩ = some (.string (rd_T112 xs i).f3) := by
  obtain ⟨ad, c, e, _, hK, hc0⟩ := Kd.C_get h z112 i h0 h1
  have hc : ∀ j u, c[j]? = some u → w.cell? (ad.add (i.toNat * 4 + j)) = some u := hc0
  obtain rfl := k112_open hK
  exact ⟨ad, e, hc 0 _ rfl, by rw [← add_field _ _ 1 (by omega)]; exact hc 1 _ rfl, by rw [← add_field _ _ 2 (by omega)]; exact hc 2 _ rfl, by rw [← add_field _ _ 3 (by omega)]; exact hc 3 _ rfl⟩
def rd_L5 (xs : List (List S112)) (i : Int) : (List S112) := xs.getD i.toNat ([] : List S112)
theorem at_L5 {w : World} {A : Option Addr} {n : Nat} {xs : List (List S112)} (h : Kd.C (Kd.slice 112 k112) w A n xs) (i : Int) (h0 : 0 ≤ i) (h1 : i < n) : ∃ ad A0 c0, A = some ad ∧ w.cell? (ad.add i.toNat) = some (.slice A0 (rd_L5 xs i).length c0) ∧ (rd_L5 xs i).length ≤ c0 ∧ k112.C w A0 (rd_L5 xs i).length (rd_L5 xs i) := by
  obtain ⟨ad, c, e, _, hK, hc0⟩ := Kd.C_get h ([] : List S112) i h0 h1
  have hc : ∀ j u, c[j]? = some u → w.cell? (ad.add (i.toNat * 1 + j)) = some u := hc0
  obtain ⟨A0, c0, rfl, l0, g0⟩ := hK
  exact ⟨ad, A0, c0, e, by have hq := hc 0 _ rfl; rwa [Nat.mul_one, Nat.add_zero] at hq, l0, g0⟩
def rd_L7 (xs : List (List (List S112))) (i : Int) : (List (List S112)) := xs.getD i.toNat ([] : List (List S112))
theorem at_L7 {w : World} {A : Option Addr} {n : Nat} {xs : List (List (List S112))} (h : Kd.C (Kd.slice 101 (Kd.slice 112 k112)) w A n xs) (i : Int) (h0 : 0 ≤ i) (h1 : i < n) : ∃ ad A0 c0, A = some ad ∧ w.cell? (ad.add i.toNat) = some (.slice A0 (rd_L7 xs i).length c0) ∧ (rd_L7 xs i).length ≤ c0 ∧ (Kd.slice 112 k112).C w A0 (rd_L7 xs i).length (rd_L7 xs i) := by
  obtain ⟨ad, c, e, _, hK, hc0⟩ := Kd.C_get h ([] : List (List S112)) i h0 h1
  have hc : ∀ j u, c[j]? = some u → w.cell? (ad.add (i.toNat * 1 + j)) = some u := hc0
  obtain ⟨A0, c0, rfl, l0, g0⟩ := hK
  exact ⟨ad, A0, c0, e, by have hq := hc 0 _ rfl; rwa [Nat.mul_one, Nat.add_zero] at hq, l0, g0⟩
structure S83 where
  f0 : Int
  f1 : Bool
  f2 : (List (List S112))
def z83 : S83 := ⟨(0 : Int), false, ([] : List (List S112))⟩
def k83 : Kd S83 := Kd.iso (Kd.pair (Kd.int .u64) (Kd.pair Kd.bool (Kd.slice 101 (Kd.slice 112 k112)))) (fun x : S83 => (x.f0, x.f1, x.f2))
theorem k83_open {w : World} {x : S83} {cs : List Value} (h : k83.K w x cs) : ∃ A2 c2, cs = [.int .u64 x.f0, .bool x.f1, .slice A2 x.f2.length c2] ∧ x.f2.length ≤ c2 ∧ (Kd.slice 112 k112).C w A2 x.f2.length x.f2 := by
  obtain ⟨_, _, rfl, rfl, ⟨_, _, rfl, rfl, ⟨A2, c2, rfl, l2, g2⟩⟩⟩ := h
  exact ⟨A2, c2, rfl, l2, g2⟩
theorem k83_mk (w : World) (x : S83) {A2 : Option Addr} {c2 : Nat} (l2 : x.f2.length ≤ c2) (g2 : (Kd.slice 112 k112).C w A2 x.f2.length x.f2) : k83.K w x [.int .u64 x.f0, .bool x.f1, .slice A2 x.f2.length c2] := ⟨[.int .u64 x.f0], [.bool x.f1, .slice A2 x.f2.length c2], rfl, rfl, ⟨[.bool x.f1], [.slice A2 x.f2.length c2], rfl, rfl, ⟨A2, c2, rfl, l2, g2⟩⟩⟩
theorem k83_openF {W : World} {ok : Nat → Prop} {x : S83} {cs : List Value} (h : Kd.FK k83 W ok x cs) : ∃ A2 c2, cs = [.int .u64 x.f0, .bool x.f1, .slice A2 x.f2.length c2] ∧ x.f2.length ≤ c2 ∧ Kd.F (Kd.slice 112 k112) W ok A2 x.f2.length x.f2 := by
  obtain ⟨A2, c2, rfl, l2, _⟩ := k83_open (Kd.FK_now h)
  exact ⟨A2, c2, rfl, l2, (fun W' hW => by obtain ⟨A2_, c2_, he, l2_, g2_⟩ := k83_open (h W' hW); injection (Option.some.inj (show some (Value.slice A2 x.f2.length c2) = some (Value.slice A2_ x.f2.length c2_) from congrArg (fun l => l[2]?) he)) with ha_ _ _; rw [ha_]; exact g2_)⟩
theorem k83_mkF (W : World) (ok : Nat → Prop) (x : S83) {A2 : Option Addr} {c2 : Nat} (l2 : x.f2.length ≤ c2) (g2 : Kd.F (Kd.slice 112 k112) W ok A2 x.f2.length x.f2) : Kd.FK k83 W ok x [.int .u64 x.f0, .bool x.f1, .slice A2 x.f2.length c2] := fun W2 hW => k83_mk W2 x l2 (g2 W2 hW)
def rd_T83 (xs : List S83) (i : Int) : S83 := xs.getD i.toNat z83
theorem at_T83 {w : World} {A : Option Addr} {n : Nat} {xs : List S83} (h : Kd.C k83 w A n xs) (i : Int) (h0 : 0 ≤ i) (h1 : i < n) : ∃ ad A2 c2, A = some ad ∧ w.cell? (ad.add (i.toNat * 3)) = some (.int .u64 (rd_T83 xs i).f0) ∧ w.cell? ⟨(ad.add (i.toNat * 3)).block, (ad.add (i.toNat * 3)).off + 1, none⟩ = some (.bool (rd_T83 xs i).f1) ∧ w.cell? ⟨(ad.add (i.toNat * 3)).block, (ad.add (i.toNat * 3)).off + 2, none⟩ = some (.slice A2 (rd_T83 xs i).f2.length c2) ∧ (rd_T83 xs i).f2.length ≤ c2 ∧ (Kd.slice 112 k112).C w A2 (rd_T83 xs i).f2.length (rd_T83 xs i).f2 := by
  obtain ⟨ad, c, e, _, hK, hc0⟩ := Kd.C_get h z83 i h0 h1
  have hc : ∀ j u, c[j]? = some u → w.cell? (ad.add (i.toNat * 3 + j)) = some u := hc0
  obtain ⟨A2, c2, rfl, l2, g2⟩ := k83_open hK
  exact ⟨ad, A2, c2, e, hc 0 _ rfl, by rw [← add_field _ _ 1 (by omega)]; exact hc 1 _ rfl, by rw [← add_field _ _ 2 (by omega)]; exact hc 2 _ rfl, l2, g2⟩
structure S130 where
  f0 : Int
  f1 : ByteArray
  f2 : Int
def k130 : Kd S130 := Kd.iso (Kd.pair (Kd.int .u8) (Kd.pair Kd.string (Kd.int .i64))) (fun x : S130 => (x.f0, x.f1, x.f2))
structure S119 where
  f0 : Int
  f1 : (List S130)
def k119 : Kd S119 := Kd.iso (Kd.pair (Kd.int .u8) (Kd.slice 130 k130)) (fun x : S119 => (x.f0, x.f1))
structure S114 where
  f0 : ByteArray
  f1 : Int
def k114 : Kd S114 := Kd.iso (Kd.pair Kd.string (Kd.int .u8)) (fun x : S114 => (x.f0, x.f1))
structure S91 where
  f0 : ByteArray
  f1 : (List S114)
  f2 : (List (List S112))
def k91 : Kd S91 := Kd.iso (Kd.pair Kd.string (Kd.pair (Kd.slice 114 k114) (Kd.slice 101 (Kd.slice 112 k112)))) (fun x : S91 => (x.f0, x.f1, x.f2))
structure S42 where
  f0 : Int
  f1 : Int
def z42 : S42 := ⟨(0 : Int), (0 : Int)⟩
def k42 : Kd S42 := Kd.iso (Kd.pair (Kd.int .u64) (Kd.int .u64)) (fun x : S42 => (x.f0, x.f1))
theorem k42_open {w : World} {x : S42} {cs : List Value} (h : k42.K w x cs) : cs = [.int .u64 x.f0, .int .u64 x.f1] := by
  obtain ⟨_, _, rfl, rfl, rfl⟩ := h
  exact rfl
theorem k42_mk (w : World) (x : S42)  : k42.K w x [.int .u64 x.f0, .int .u64 x.f1] := ⟨[.int .u64 x.f0], [.int .u64 x.f1], rfl, rfl, rfl⟩
structure S125 where
  f0 : ByteArray
  f1 : (List S114)
  f2 : S42
  f3 : (List (List Int))
def k125 : Kd S125 := Kd.iso (Kd.pair Kd.string (Kd.pair (Kd.slice 114 k114) (Kd.pair k42 (Kd.slice 33 (Kd.slice 3 (Kd.int .i64)))))) (fun x : S125 => (x.f0, x.f1, x.f2, x.f3))
structure S24 where
  f0 : Int
  f1 : Int
def z24 : S24 := ⟨(0 : Int), (0 : Int)⟩
def k24 : Kd S24 := Kd.iso (Kd.pair (Kd.int .u64) (Kd.int .u64)) (fun x : S24 => (x.f0, x.f1))
theorem k24_open {w : World} {x : S24} {cs : List Value} (h : k24.K w x cs) : cs = [.int .u64 x.f0, .int .u64 x.f1] := by
  obtain ⟨_, _, rfl, rfl, rfl⟩ := h
  exact rfl
theorem k24_mk (w : World) (x : S24)  : k24.K w x [.int .u64 x.f0, .int .u64 x.f1] := ⟨[.int .u64 x.f0], [.int .u64 x.f1], rfl, rfl, rfl⟩
structure S26 where
  f0 : S24
  f1 : Int
  f2 : Int
  f3 : Int
def z26 : S26 := ⟨z24, (0 : Int), (0 : Int), (0 : Int)⟩
def k26 : Kd S26 := Kd.iso (Kd.pair k24 (Kd.pair (Kd.int .i64) (Kd.pair (Kd.int .i64) (Kd.int .i64)))) (fun x : S26 => (x.f0, x.f1, x.f2, x.f3))
theorem k26_open {w : World} {x : S26} {cs : List Value} (h : k26.K w x cs) : cs = [.int .u64 x.f0.f0, .int .u64 x.f0.f1, .int .i64 x.f1, .int .i64 x.f2, .int .i64 x.f3] := by
  obtain ⟨_, _, rfl, s0, ⟨_, _, rfl, rfl, ⟨_, _, rfl, rfl, rfl⟩⟩⟩ := h
  obtain rfl := k24_open s0
  exact rfl
theorem k26_mk (w : World) (x : S26)  : k26.K w x [.int .u64 x.f0.f0, .int .u64 x.f0.f1, .int .i64 x.f1, .int .i64 x.f2, .int .i64 x.f3] := ⟨[.int .u64 x.f0.f0, .int .u64 x.f0.f1], [.int .i64 x.f1, .int .i64 x.f2, .int .i64 x.f3], rfl, (k24_mk w x.f0 ), ⟨[.int .i64 x.f1], [.int .i64 x.f2, .int .i64 x.f3], rfl, rfl, ⟨[.int .i64 x.f2], [.int .i64 x.f3], rfl, rfl, rfl⟩⟩⟩
structure S38 where
  f0 : ByteArray
  f1 : ByteArray
  f2 : Int
  f3 : Int
  f4 : Int
  f5 : (List S130)
  f6 : (List Int)
  f7 : (List S119)
  f8 : Bool
  f9 : (List ByteArray)
  f10 : (List Int)
def z38 : S38 := ⟨(⟨#[]⟩ : ByteArray), (⟨#[]⟩ : ByteArray), (0 : Int), (0 : Int), (0 : Int), ([] : List S130), ([] : List Int), ([] : List S119), false, ([] : List ByteArray), ([] : List Int)⟩
def k38 : Kd S38 := Kd.iso (Kd.pair Kd.string (Kd.pair Kd.string (Kd.pair (Kd.int .i64) (Kd.pair (Kd.int .i64) (Kd.pair (Kd.int .i64) (Kd.pair (Kd.slice 130 k130) (Kd.pair (Kd.slice 3 (Kd.int .i64)) (Kd.pair (Kd.slice 119 k119) (Kd.pair Kd.bool (Kd.pair (Kd.slice 9 Kd.string) (Kd.slice 110 (Kd.int .u8)))))))))))) (fun x : S38 => (x.f0, x.f1, x.f2, x.f3, x.f4, x.f5, x.f6, x.f7, x.f8, x.f9, x.f10))
theorem k38_open {w : World} {x : S38} {cs : List Value} (h : k38.K w x cs) : ∃ A5 c5 A6 c6 A7 c7 A9 c9 A10 c10, cs = [.string x.f0, .string x.f1, .int .i64 x.f2, .int .i64 x.f3, .int .i64 x.f4, .slice A5 x.f5.length c5, .slice A6 x.f6.length c6, .slice A7 x.f7.length c7, .bool x.f8, .slice A9 x.f9.length c9, .slice A10 x.f10.length c10] ∧ x.f5.length ≤ c5 ∧ k130.C w A5 x.f5.length x.f5 ∧ x.f6.length ≤ c6 ∧ (Kd.int .i64).C w A6 x.f6.length x.f6 ∧ x.f7.length ≤ c7 ∧ k119.C w A7 x.f7.length x.f7 ∧ x.f9.length ≤ c9 ∧ Kd.string.C w A9 x.f9.length x.f9 ∧ x.f10.length ≤ c10 ∧ (Kd.int .u8).C w A10 x.f10.length x.f10 := by
  obtain ⟨_, _, rfl, rfl, ⟨_, _, rfl, rfl, ⟨_, _, rfl, rfl, ⟨_, _, rfl, rfl, ⟨_, _, rfl, rfl, ⟨_, _, rfl, ⟨A5, c5, rfl, l5, g5⟩, ⟨_, _, rfl, ⟨A6, c6, rfl, l6, g6⟩, ⟨_, _, rfl, ⟨A7, c7, rfl, l7, g7⟩, ⟨_, _, rfl, rfl, ⟨_, _, rfl, ⟨A9, c9, rfl, l9, g9⟩, ⟨A10, c10, rfl, l10, g10⟩⟩⟩⟩⟩⟩⟩⟩⟩⟩⟩ := h
  exact ⟨A5, c5, A6, c6, A7, c7, A9, c9, A10, c10, rfl, l5, g5, l6, g6, l7, g7, l9, g9, l10, g10⟩
theorem k38_mk (w : World) (x : S38) {A5 : Option Addr} {c5 : Nat} (l5 : x.f5.length ≤ c5) (g5 : k130.C w A5 x.f5.length x.f5) {A6 : Option Addr} {c6 : Nat} (l6 : x.f6.length ≤ c6) (g6 : (Kd.int .i64).C w A6 x.f6.length x.f6) {A7 : Option Addr} {c7 : Nat} (l7 : x.f7.length ≤ c7) (g7 : k119.C w A7 x.f7.length x.f7) {A9 : Option Addr} {c9 : Nat} (l9 : x.f9.length ≤ c9) (g9 : Kd.string.C w A9 x.f9.length x.f9) {A10 : Option Addr} {c10 : Nat} (l10 : x.f10.length ≤ c10) (g10 : (Kd.int .u8).C w A10 x.f10.length x.f10) : k38.K w x [.string x.f0, .string x.f1, .int .i64 x.f2, .int .i64 x.f3, .int .i64 x.f4, .slice A5 x.f5.length c5, .slice A6 x.f6.length c6, .slice A7 x.f7.length c7, .bool x.f8, .slice A9 x.f9.length c9, .slice A10 x.f10.length c10] := ⟨[.string x.f0], [.string x.f1, .int .i64 x.f2, .int .i64 x.f3, .int .i64 x.f4, .slice A5 x.f5.length c5, .slice A6 x.f6.length c6, .slice A7 x.f7.length c7, .bool x.f8, .slice A9 x.f9.length c9, .slice A10 x.f10.length c10], rfl, rfl, ⟨[.string x.f1], [.int .i64 x.f2, .int .i64 x.f3, .int .i64 x.f4, .slice A5 x.f5.length c5, .slice A6 x.f6.length c6, .slice A7 x.f7.length c7, .bool x.f8, .slice A9 x.f9.length c9, .slice A10 x.f10.length c10], rfl, rfl, ⟨[.int .i64 x.f2], [.int .i64 x.f3, .int .i64 x.f4, .slice A5 x.f5.length c5, .slice A6 x.f6.length c6, .slice A7 x.f7.length c7, .bool x.f8, .slice A9 x.f9.length c9, .slice A10 x.f10.length c10], rfl, rfl, ⟨[.int .i64 x.f3], [.int .i64 x.f4, .slice A5 x.f5.length c5, .slice A6 x.f6.length c6, .slice A7 x.f7.length c7, .bool x.f8, .slice A9 x.f9.length c9, .slice A10 x.f10.length c10], rfl, rfl, ⟨[.int .i64 x.f4], [.slice A5 x.f5.length c5, .slice A6 x.f6.length c6, .slice A7 x.f7.length c7, .bool x.f8, .slice A9 x.f9.length c9, .slice A10 x.f10.length c10], rfl, rfl, ⟨[.slice A5 x.f5.length c5], [.slice A6 x.f6.length c6, .slice A7 x.f7.length c7, .bool x.f8, .slice A9 x.f9.length c9, .slice A10 x.f10.length c10], rfl, ⟨A5, c5, rfl, l5, g5⟩, ⟨[.slice A6 x.f6.length c6], [.slice A7 x.f7.length c7, .bool x.f8, .slice A9 x.f9.length c9, .slice A10 x.f10.length c10], rfl, ⟨A6, c6, rfl, l6, g6⟩, ⟨[.slice A7 x.f7.length c7], [.bool x.f8, .slice A9 x.f9.length c9, .slice A10 x.f10.length c10], rfl, ⟨A7, c7, rfl, l7, g7⟩, ⟨[.bool x.f8], [.slice A9 x.f9.length c9, .slice A10 x.f10.length c10], rfl, rfl, ⟨[.slice A9 x.f9.length c9], [.slice A10 x.f10.length c10], rfl, ⟨A9, c9, rfl, l9, g9⟩, ⟨A10, c10, rfl, l10, g10⟩⟩⟩⟩⟩⟩⟩⟩⟩⟩⟩
structure S44 where
  f0 : Int
  f1 : ByteArray
  f2 : S42
  f3 : Int
  f4 : (List Int)
def z44 : S44 := ⟨(0 : Int), (⟨#[]⟩ : ByteArray), z42, (0 : Int), ([] : List Int)⟩
def k44 : Kd S44 := Kd.iso (Kd.pair (Kd.int .u8) (Kd.pair Kd.string (Kd.pair k42 (Kd.pair (Kd.int .i64) (Kd.slice 3 (Kd.int .i64)))))) (fun x : S44 => (x.f0, x.f1, x.f2, x.f3, x.f4))
theorem k44_open {w : World} {x : S44} {cs : List Value} (h : k44.K w x cs) : ∃ A5 c5, cs = [.int .u8 x.f0, .string x.f1, .int .u64 x.f2.f0, .int .u64 x.f2.f1, .int .i64 x.f3, .slice A5 x.f4.length c5] ∧ x.f4.length ≤ c5 ∧ (Kd.int .i64).C w A5 x.f4.length x.f4 := by
  obtain ⟨_, _, rfl, rfl, ⟨_, _, rfl, rfl, ⟨_, _, rfl, s2, ⟨_, _, rfl, rfl, ⟨A5, c5, rfl, l5, g5⟩⟩⟩⟩⟩ := h
  obtain rfl := k42_open s2
  exact ⟨A5, c5, rfl, l5, g5⟩
theorem k44_mk (w : World) (x : S44) {A5 : Option Addr} {c5 : Nat} (l5 : x.f4.length ≤ c5) (g5 : (Kd.int .i64).C w A5 x.f4.length x.f4) : k44.K w x [.int .u8 x.f0, .string x.f1, .int .u64 x.f2.f0, .int .u64 x.f2.f1, .int .i64 x.f3, .slice A5 x.f4.length c5] := ⟨[.int .u8 x.f0], [.string x.f1, .int .u64 x.f2.f0, .int .u64 x.f2.f1, .int .i64 x.f3, .slice A5 x.f4.length c5], rfl, rfl, ⟨[.string x.f1], [.int .u64 x.f2.f0, .int .u64 x.f2.f1, .int .i64 x.f3, .slice A5 x.f4.length c5], rfl, rfl, ⟨[.int .u64 x.f2.f0, .int .u64 x.f2.f1], [.int .i64 x.f3, .slice A5 x.f4.length c5], rfl, (k42_mk w x.f2 ), ⟨[.int .i64 x.f3], [.slice A5 x.f4.length c5], rfl, rfl, ⟨A5, c5, rfl, l5, g5⟩⟩⟩⟩⟩
structure S46 where
  f0 : Int
  f1 : Int
  f2 : S44
  f3 : S44
  f4 : Bool
  f5 : Int
  f6 : (List Int)
def z46 : S46 := ⟨(0 : Int), (0 : Int), z44, z44, false, (0 : Int), ([] : List Int)⟩
def k46 : Kd S46 := Kd.iso (Kd.pair (Kd.int .i64) (Kd.pair (Kd.int .i64) (Kd.pair k44 (Kd.pair k44 (Kd.pair Kd.bool (Kd.pair (Kd.int .i64) (Kd.slice 3 (Kd.int .i64)))))))) (fun x : S46 => (x.f0, x.f1, x.f2, x.f3, x.f4, x.f5, x.f6))
theorem k46_open {w : World} {x : S46} {cs : List Value} (h : k46.K w x cs) : ∃ A7 c7 A13 c13 A16 c16, cs = [.int .i64 x.f0, .int .i64 x.f1, .int .u8 x.f2.f0, .string x.f2.f1, .int .u64 x.f2.f2.f0, .int .u64 x.f2.f2.f1, .int .i64 x.f2.f3, .slice A7 x.f2.f4.length c7, .int .u8 x.f3.f0, .string x.f3.f1, .int .u64 x.f3.f2.f0, .int .u64 x.f3.f2.f1, .int .i64 x.f3.f3, .slice A13 x.f3.f4.length c13, .bool x.f4, .int .i64 x.f5, .slice A16 x.f6.length c16] ∧ x.f2.f4.length ≤ c7 ∧ (Kd.int .i64).C w A7 x.f2.f4.length x.f2.f4 ∧ x.f3.f4.length ≤ c13 ∧ (Kd.int .i64).C w A13 x.f3.f4.length x.f3.f4 ∧ x.f6.length ≤ c16 ∧ (Kd.int .i64).C w A16 x.f6.length x.f6 := by
  obtain ⟨_, _, rfl, rfl, ⟨_, _, rfl, rfl, ⟨_, _, rfl, s2, ⟨_, _, rfl, s8, ⟨_, _, rfl, rfl, ⟨_, _, rfl, rfl, ⟨A16, c16, rfl, l16, g16⟩⟩⟩⟩⟩⟩⟩ := h
  obtain ⟨A7, c7, rfl, l7, g7⟩ := k44_open s2
  obtain ⟨A13, c13, rfl, l13, g13⟩ := k44_open s8
  exact ⟨A7, c7, A13, c13, A16, c16, rfl, l7, g7, l13, g13, l16, g16⟩
theorem k46_mk (w : World) (x : S46) {A7 : Option Addr} {c7 : Nat} (l7 : x.f2.f4.length ≤ c7) (g7 : (Kd.int .i64).C w A7 x.f2.f4.length x.f2.f4) {A13 : Option Addr} {c13 : Nat} (l13 : x.f3.f4.length ≤ c13) (g13 : (Kd.int .i64).C w A13 x.f3.f4.length x.f3.f4) {A16 : Option Addr} {c16 : Nat} (l16 : x.f6.length ≤ c16) (g16 : (Kd.int .i64).C w A16 x.f6.length x.f6) : k46.K w x [.int .i64 x.f0, .int .i64 x.f1, .int .u8 x.f2.f0, .string x.f2.f1, .int .u64 x.f2.f2.f0, .int .u64 x.f2.f2.f1, .int .i64 x.f2.f3, .slice A7 x.f2.f4.length c7, .int .u8 x.f3.f0, .string x.f3.f1, .int .u64 x.f3.f2.f0, .int .u64 x.f3.f2.f1, .int .i64 x.f3.f3, .slice A13 x.f3.f4.length c13, .bool x.f4, .int .i64 x.f5, .slice A16 x.f6.length c16] := ⟨[.int .i64 x.f0], [.int .i64 x.f1, .int .u8 x.f2.f0, .string x.f2.f1, .int .u64 x.f2.f2.f0, .int .u64 x.f2.f2.f1, .int .i64 x.f2.f3, .slice A7 x.f2.f4.length c7, .int .u8 x.f3.f0, .string x.f3.f1, .int .u64 x.f3.f2.f0, .int .u64 x.f3.f2.f1, .int .i64 x.f3.f3, .slice A13 x.f3.f4.length c13, .bool x.f4, .int .i64 x.f5, .slice A16 x.f6.length c16], rfl, rfl, ⟨[.int .i64 x.f1], [.int .u8 x.f2.f0, .string x.f2.f1, .int .u64 x.f2.f2.f0, .int .u64 x.f2.f2.f1, .int .i64 x.f2.f3, .slice A7 x.f2.f4.length c7, .int .u8 x.f3.f0, .string x.f3.f1, .int .u64 x.f3.f2.f0, .int .u64 x.f3.f2.f1, .int .i64 x.f3.f3, .slice A13 x.f3.f4.length c13, .bool x.f4, .int .i64 x.f5, .slice A16 x.f6.length c16], rfl, rfl, ⟨[.int .u8 x.f2.f0, .string x.f2.f1, .int .u64 x.f2.f2.f0, .int .u64 x.f2.f2.f1, .int .i64 x.f2.f3, .slice A7 x.f2.f4.length c7], [.int .u8 x.f3.f0, .string x.f3.f1, .int .u64 x.f3.f2.f0, .int .u64 x.f3.f2.f1, .int .i64 x.f3.f3, .slice A13 x.f3.f4.length c13, .bool x.f4, .int .i64 x.f5, .slice A16 x.f6.length c16], rfl, (k44_mk w x.f2 l7 g7), ⟨[.int .u8 x.f3.f0, .string x.f3.f1, .int .u64 x.f3.f2.f0, .int .u64 x.f3.f2.f1, .int .i64 x.f3.f3, .slice A13 x.f3.f4.length c13], [.bool x.f4, .int .i64 x.f5, .slice A16 x.f6.length c16], rfl, (k44_mk w x.f3 l13 g13), ⟨[.bool x.f4], [.int .i64 x.f5, .slice A16 x.f6.length c16], rfl, rfl, ⟨[.int .i64 x.f5], [.slice A16 x.f6.length c16], rfl, rfl, ⟨A16, c16, rfl, l16, g16⟩⟩⟩⟩⟩⟩⟩
structure S49 where
  f0 : ByteArray
  f1 : S42
  f2 : Int
  f3 : (List S114)
  f4 : (List (List S112))
def z49 : S49 := ⟨(⟨#[]⟩ : ByteArray), z42, (0 : Int), ([] : List S114), ([] : List (List S112))⟩
def k49 : Kd S49 := Kd.iso (Kd.pair Kd.string (Kd.pair k42 (Kd.pair (Kd.int .i64) (Kd.pair (Kd.slice 114 k114) (Kd.slice 101 (Kd.slice 112 k112)))))) (fun x : S49 => (x.f0, x.f1, x.f2, x.f3, x.f4))
theorem k49_open {w : World} {x : S49} {cs : List Value} (h : k49.K w x cs) : ∃ A4 c4 A5 c5, cs = [.string x.f0, .int .u64 x.f1.f0, .int .u64 x.f1.f1, .int .i64 x.f2, .slice A4 x.f3.length c4, .slice A5 x.f4.length c5] ∧ x.f3.length ≤ c4 ∧ k114.C w A4 x.f3.length x.f3 ∧ x.f4.length ≤ c5 ∧ (Kd.slice 112 k112).C w A5 x.f4.length x.f4 := by
  obtain ⟨_, _, rfl, rfl, ⟨_, _, rfl, s1, ⟨_, _, rfl, rfl, ⟨_, _, rfl, ⟨A4, c4, rfl, l4, g4⟩, ⟨A5, c5, rfl, l5, g5⟩⟩⟩⟩⟩ := h
  obtain rfl := k42_open s1
  exact ⟨A4, c4, A5, c5, rfl, l4, g4, l5, g5⟩
theorem k49_mk (w : World) (x : S49) {A4 : Option Addr} {c4 : Nat} (l4 : x.f3.length ≤ c4) (g4 : k114.C w A4 x.f3.length x.f3) {A5 : Option Addr} {c5 : Nat} (l5 : x.f4.length ≤ c5) (g5 : (Kd.slice 112 k112).C w A5 x.f4.length x.f4) : k49.K w x [.string x.f0, .int .u64 x.f1.f0, .int .u64 x.f1.f1, .int .i64 x.f2, .slice A4 x.f3.length c4, .slice A5 x.f4.length c5] := ⟨[.string x.f0], [.int .u64 x.f1.f0, .int .u64 x.f1.f1, .int .i64 x.f2, .slice A4 x.f3.length c4, .slice A5 x.f4.length c5], rfl, rfl, ⟨[.int .u64 x.f1.f0, .int .u64 x.f1.f1], [.int .i64 x.f2, .slice A4 x.f3.length c4, .slice A5 x.f4.length c5], rfl, (k42_mk w x.f1 ), ⟨[.int .i64 x.f2], [.slice A4 x.f3.length c4, .slice A5 x.f4.length c5], rfl, rfl, ⟨[.slice A4 x.f3.length c4], [.slice A5 x.f4.length c5], rfl, ⟨A4, c4, rfl, l4, g4⟩, ⟨A5, c5, rfl, l5, g5⟩⟩⟩⟩⟩
structure S52 where
  f0 : Int
  f1 : Int
  f2 : S26
  f3 : S38
  f4 : (List S91)
  f5 : S46
  f6 : (List Int)
  f7 : Int
  f8 : Bool
  f9 : (List (List S112))
  f10 : S49
  f11 : (List S125)
def z52 : S52 := ⟨(0 : Int), (0 : Int), z26, z38, ([] : List S91), z46, ([] : List Int), (0 : Int), false, ([] : List (List S112)), z49, ([] : List S125)⟩
def k52 : Kd S52 := Kd.iso (Kd.pair (Kd.int .u8) (Kd.pair (Kd.int .u64) (Kd.pair k26 (Kd.pair k38 (Kd.pair (Kd.slice 91 k91) (Kd.pair k46 (Kd.pair (Kd.slice 3 (Kd.int .i64)) (Kd.pair (Kd.int .u64) (Kd.pair Kd.bool (Kd.pair (Kd.slice 101 (Kd.slice 112 k112)) (Kd.pair k49 (Kd.slice 125 k125)))))))))))) (fun x : S52 => (x.f0, x.f1, x.f2, x.f3, x.f4, x.f5, x.f6, x.f7, x.f8, x.f9, x.f10, x.f11))
theorem k52_open {w : World} {x : S52} {cs : List Value} (h : k52.K w x cs) : ∃ A12 c12 A13 c13 A14 c14 A16 c16 A17 c17 A18 c18 A26 c26 A32 c32 A35 c35 A36 c36 A39 c39 A44 c44 A45 c45 A46 c46, cs = [.int .u8 x.f0, .int .u64 x.f1, .int .u64 x.f2.f0.f0, .int .u64 x.f2.f0.f1, .int .i64 x.f2.f1, .int .i64 x.f2.f2, .int .i64 x.f2.f3, .string x.f3.f0, .string x.f3.f1, .int .i64 x.f3.f2, .int .i64 x.f3.f3, .int .i64 x.f3.f4, .slice A12 x.f3.f5.length c12, .slice A13 x.f3.f6.length c13, .slice A14 x.f3.f7.length c14, .bool x.f3.f8, .slice A16 x.f3.f9.length c16, .slice A17 x.f3.f10.length c17, .slice A18 x.f4.length c18, .int .i64 x.f5.f0, .int .i64 x.f5.f1, .int .u8 x.f5.f2.f0, .string x.f5.f2.f1, .int .u64 x.f5.f2.f2.f0, .int .u64 x.f5.f2.f2.f1, .int .i64 x.f5.f2.f3, .slice A26 x.f5.f2.f4.length c26, .int .u8 x.f5.f3.f0, .string x.f5.f3.f1, .int .u64 x.f5.f3.f2.f0, .int .u64 x.f5.f3.f2.f1, .int .i64 x.f5.f3.f3, .slice A32 x.f5.f3.f4.length c32, .bool x.f5.f4, .int .i64 x.f5.f5, .slice A35 x.f5.f6.length c35, .slice A36 x.f6.length c36, .int .u64 x.f7, .bool x.f8, .slice A39 x.f9.length c39, .string x.f10.f0, .int .u64 x.f10.f1.f0, .int .u64 x.f10.f1.f1, .int .i64 x.f10.f2, .slice A44 x.f10.f3.length c44, .slice A45 x.f10.f4.length c45, .slice A46 x.f11.length c46] ∧ x.f3.f5.length ≤ c12 ∧ k130.C w A12 x.f3.f5.length x.f3.f5 ∧ x.f3.f6.length ≤ c13 ∧ (Kd.int .i64).C w A13 x.f3.f6.length x.f3.f6 ∧ x.f3.f7.length ≤ c14 ∧ k119.C w A14 x.f3.f7.length x.f3.f7 ∧ x.f3.f9.length ≤ c16 ∧ Kd.string.C w A16 x.f3.f9.length x.f3.f9 ∧ x.f3.f10.length ≤ c17 ∧ (Kd.int .u8).C w A17 x.f3.f10.length x.f3.f10 ∧ x.f4.length ≤ c18 ∧ k91.C w A18 x.f4.length x.f4 ∧ x.f5.f2.f4.length ≤ c26 ∧ (Kd.int .i64).C w A26 x.f5.f2.f4.length x.f5.f2.f4 ∧ x.f5.f3.f4.length ≤ c32 ∧ (Kd.int .i64).C w A32 x.f5.f3.f4.length x.f5.f3.f4 ∧ x.f5.f6.length ≤ c35 ∧ (Kd.int .i64).C w A35 x.f5.f6.length x.f5.f6 ∧ x.f6.length ≤ c36 ∧ (Kd.int .i64).C w A36 x.f6.length x.f6 ∧ x.f9.length ≤ c39 ∧ (Kd.slice 112 k112).C w A39 x.f9.length x.f9 ∧ x.f10.f3.length ≤ c44 ∧ k114.C w A44 x.f10.f3.length x.f10.f3 ∧ x.f10.f4.length ≤ c45 ∧ (Kd.slice 112 k112).C w A45 x.f10.f4.length x.f10.f4 ∧ x.f11.length ≤ c46 ∧ k125.C w A46 x.f11.length x.f11 := by
  obtain ⟨_, _, rfl, rfl, ⟨_, _, rfl, rfl, ⟨_, _, rfl, s2, ⟨_, _, rfl, s7, ⟨_, _, rfl, ⟨A18, c18, rfl, l18, g18⟩, ⟨_, _, rfl, s19, ⟨_, _, rfl, ⟨A36, c36, rfl, l36, g36⟩, ⟨_, _, rfl, rfl, ⟨_, _, rfl, rfl, ⟨_, _, rfl, ⟨A39, c39, rfl, l39, g39⟩, ⟨_, _, rfl, s40, ⟨A46, c46, rfl, l46, g46⟩⟩⟩⟩⟩⟩⟩⟩⟩⟩⟩⟩ := h
  obtain rfl := k26_open s2
  obtain ⟨A12, c12, A13, c13, A14, c14, A16, c16, A17, c17, rfl, l12, g12, l13, g13, l14, g14, l16, g16, l17, g17⟩ := k38_open s7
  obtain ⟨A26, c26, A32, c32, A35, c35, rfl, l26, g26, l32, g32, l35, g35⟩ := k46_open s19
  obtain ⟨A44, c44, A45, c45, rfl, l44, g44, l45, g45⟩ := k49_open s40
  exact ⟨A12, c12, A13, c13, A14, c14, A16, c16, A17, c17, A18, c18, A26, c26, A32, c32, A35, c35, A36, c36, A39, c39, A44, c44, A45, c45, A46, c46, rfl, l12, g12, l13, g13, l14, g14, l16, g16, l17, g17, l18, g18, l26, g26, l32, g32, l35, g35, l36, g36, l39, g39, l44, g44, l45, g45, l46, g46⟩
theorem k52_mk (w : World) (x : S52) {A12 : Option Addr} {c12 : Nat} (l12 : x.f3.f5.length ≤ c12) (g12 : k130.C w A12 x.f3.f5.length x.f3.f5) {A13 : Option Addr} {c13 : Nat} (l13 : x.f3.f6.length ≤ c13) (g13 : (Kd.int .i64).C w A13 x.f3.f6.length x.f3.f6) {A14 : Option Addr} {c14 : Nat} (l14 : x.f3.f7.length ≤ c14) (g14 : k119.C w A14 x.f3.f7.length x.f3.f7) {A16 : Option Addr} {c16 : Nat} (l16 : x.f3.f9.length ≤ c16) (g16 : Kd.string.C w A16 x.f3.f9.length x.f3.f9) {A17 : Option Addr} {c17 : Nat} (l17 : x.f3.f10.length ≤ c17) (g17 : (Kd.int .u8).C w A17 x.f3.f10.length x.f3.f10) {A18 : Option Addr} {c18 : Nat} (l18 : x.f4.length ≤ c18) (g18 : k91.C w A18 x.f4.length x.f4) {A26 : Option Addr} {c26 : Nat} (l26 : x.f5.f2.f4.length ≤ c26) (g26 : (Kd.int .i64).C w A26 x.f5.f2.f4.length x.f5.f2.f4) {A32 : Option Addr} {c32 : Nat} (l32 : x.f5.f3.f4.length ≤ c32) (g32 : (Kd.int .i64).C w A32 x.f5.f3.f4.length x.f5.f3.f4) {A35 : Option Addr} {c35 : Nat} (l35 : x.f5.f6.length ≤ c35) (g35 : (Kd.int .i64).C w A35 x.f5.f6.length x.f5.f6) {A36 : Option Addr} {c36 : Nat} (l36 : x.f6.length ≤ c36) (g36 : (Kd.int .i64).C w A36 x.f6.length x.f6) {A39 : Option Addr} {c39 : Nat} (l39 : x.f9.length ≤ c39) (g39 : (Kd.slice 112 k112).C w A39 x.f9.length x.f9) {A44 : Option Addr} {c44 : Nat} (l44 : x.f10.f3.length ≤ c44) (g44 : k114.C w A44 x.f10.f3.length x.f10.f3) {A45 : Option Addr} {c45 : Nat} (l45 : x.f10.f4.length ≤ c45) (g45 : (Kd.slice 112 k112).C w A45 x.f10.f4.length x.f10.f4) {A46 : Option Addr} {c46 : Nat} (l46 : x.f11.length ≤ c46) (g46 : k125.C w A46 x.f11.length x.f11) : k52.K w x [.int .u8 x.f0, .int .u64 x.f1, .int .u64 x.f2.f0.f0, .int .u64 x.f2.f0.f1, .int .i64 x.f2.f1, .int .i64 x.f2.f2, .int .i64 x.f2.f3, .string x.f3.f0, .string x.f3.f1, .int .i64 x.f3.f2, .int .i64 x.f3.f3, .int .i64 x.f3.f4, .slice A12 x.f3.f5.length c12, .slice A13 x.f3.f6.length c13, .slice A14 x.f3.f7.length c14, .bool x.f3.f8, .slice A16 x.f3.f9.length c16, .slice A17 x.f3.f10.length c17, .slice A18 x.f4.length c18, .int .i64 x.f5.f0, .int .i64 x.f5.f1, .int .u8 x.f5.f2.f0, .string x.f5.f2.f1, .int .u64 x.f5.f2.f2.f0, .int .u64 x.f5.f2.f2.f1, .int .i64 x.f5.f2.f3, .slice A26 x.f5.f2.f4.length c26, .int .u8 x.f5.f3.f0, .string x.f5.f3.f1, .int .u64 x.f5.f3.f2.f0, .int .u64 x.f5.f3.f2.f1, .int .i64 x.f5.f3.f3, .slice A32 x.f5.f3.f4.length c32, .bool x.f5.f4, .int .i64 x.f5.f5, .slice A35 x.f5.f6.length c35, .slice A36 x.f6.length c36, .int .u64 x.f7, .bool x.f8, .slice A39 x.f9.length c39, .string x.f10.f0, .int .u64 x.f10.f1.f0, .int .u64 x.f10.f1.f1, .int .i64 x.f10.f2, .slice A44 x.f10.f3.length c44, .slice A45 x.f10.f4.length c45, .slice A46 x.f11.length c46] := ⟨[.int .u8 x.f0], [.int .u64 x.f1, .int .u64 x.f2.f0.f0, .int .u64 x.f2.f0.f1, .int .i64 x.f2.f1, .int .i64 x.f2.f2, .int .i64 x.f2.f3, .string x.f3.f0, .string x.f3.f1, .int .i64 x.f3.f2, .int .i64 x.f3.f3, .int .i64 x.f3.f4, .slice A12 x.f3.f5.length c12, .slice A13 x.f3.f6.length c13, .slice A14 x.f3.f7.length c14, .bool x.f3.f8, .slice A16 x.f3.f9.length c16, .slice A17 x.f3.f10.length c17, .slice A18 x.f4.length c18, .int .i64 x.f5.f0, .int .i64 x.f5.f1, .int .u8 x.f5.f2.f0, .string x.f5.f2.f1, .int .u64 x.f5.f2.f2.f0, .int .u64 x.f5.f2.f2.f1, .int .i64 x.f5.f2.f3, .slice A26 x.f5.f2.f4.length c26, .int .u8 x.f5.f3.f0, .string x.f5.f3.f1, .int .u64 x.f5.f3.f2.f0, .int .u64 x.f5.f3.f2.f1, .int .i64 x.f5.f3.f3, .slice A32 x.f5.f3.f4.length c32, .bool x.f5.f4, .int .i64 x.f5.f5, .slice A35 x.f5.f6.length c35, .slice A36 x.f6.length c36, .int .u64 x.f7, .bool x.f8, .slice A39 x.f9.length c39, .string x.f10.f0, .int .u64 x.f10.f1.f0, .int .u64 x.f10.f1.f1, .int .i64 x.f10.f2, .slice A44 x.f10.f3.length c44, .slice A45 x.f10.f4.length c45, .slice A46 x.f11.length c46], rfl, rfl, ⟨[.int .u64 x.f1], [.int .u64 x.f2.f0.f0, .int .u64 x.f2.f0.f1, .int .i64 x.f2.f1, .int .i64 x.f2.f2, .int .i64 x.f2.f3, .string x.f3.f0, .string x.f3.f1, .int .i64 x.f3.f2, .int .i64 x.f3.f3, .int .i64 x.f3.f4, .slice A12 x.f3.f5.length c12, .slice A13 x.f3.f6.length c13, .slice A14 x.f3.f7.length c14, .bool x.f3.f8, .slice A16 x.f3.f9.length c16, .slice A17 x.f3.f10.length c17, .slice A18 x.f4.length c18, .int .i64 x.f5.f0, .int .i64 x.f5.f1, .int .u8 x.f5.f2.f0, .string x.f5.f2.f1, .int .u64 x.f5.f2.f2.f0, .int .u64 x.f5.f2.f2.f1, .int .i64 x.f5.f2.f3, .slice A26 x.f5.f2.f4.length c26, .int .u8 x.f5.f3.f0, .string x.f5.f3.f1, .int .u64 x.f5.f3.f2.f0, .int .u64 x.f5.f3.f2.f1, .int .i64 x.f5.f3.f3, .slice A32 x.f5.f3.f4.length c32, .bool x.f5.f4, .int .i64 x.f5.f5, .slice A35 x.f5.f6.length c35, .slice A36 x.f6.length c36, .int .u64 x.f7, .bool x.f8, .slice A39 x.f9.length c39, .string x.f10.f0, .int .u64 x.f10.f1.f0, .int .u64 x.f10.f1.f1, .int .i64 x.f10.f2, .slice A44 x.f10.f3.length c44, .slice A45 x.f10.f4.length c45, .slice A46 x.f11.length c46], rfl, rfl, ⟨[.int .u64 x.f2.f0.f0, .int .u64 x.f2.f0.f1, .int .i64 x.f2.f1, .int .i64 x.f2.f2, .int .i64 x.f2.f3], [.string x.f3.f0, .string x.f3.f1, .int .i64 x.f3.f2, .int .i64 x.f3.f3, .int .i64 x.f3.f4, .slice A12 x.f3.f5.length c12, .slice A13 x.f3.f6.length c13, .slice A14 x.f3.f7.length c14, .bool x.f3.f8, .slice A16 x.f3.f9.length c16, .slice A17 x.f3.f10.length c17, .slice A18 x.f4.length c18, .int .i64 x.f5.f0, .int .i64 x.f5.f1, .int .u8 x.f5.f2.f0, .string x.f5.f2.f1, .int .u64 x.f5.f2.f2.f0, .int .u64 x.f5.f2.f2.f1, .int .i64 x.f5.f2.f3, .slice A26 x.f5.f2.f4.length c26, .int .u8 x.f5.f3.f0, .string x.f5.f3.f1, .int .u64 x.f5.f3.f2.f0, .int .u64 x.f5.f3.f2.f1, .int .i64 x.f5.f3.f3, .slice A32 x.f5.f3.f4.length c32, .bool x.f5.f4, .int .i64 x.f5.f5, .slice A35 x.f5.f6.length c35, .slice A36 x.f6.length c36, .int .u64 x.f7, .bool x.f8, .slice A39 x.f9.length c39, .string x.f10.f0, .int .u64 x.f10.f1.f0, .int .u64 x.f10.f1.f1, .int .i64 x.f10.f2, .slice A44 x.f10.f3.length c44, .slice A45 x.f10.f4.length c45, .slice A46 x.f11.length c46], rfl, (k26_mk w x.f2 ), ⟨[.string x.f3.f0, .string x.f3.f1, .int .i64 x.f3.f2, .int .i64 x.f3.f3, .int .i64 x.f3.f4, .slice A12 x.f3.f5.length c12, .slice A13 x.f3.f6.length c13, .slice A14 x.f3.f7.length c14, .bool x.f3.f8, .slice A16 x.f3.f9.length c16, .slice A17 x.f3.f10.length c17], [.slice A18 x.f4.length c18, .int .i64 x.f5.f0, .int .i64 x.f5.f1, .int .u8 x.f5.f2.f0, .string x.f5.f2.f1, .int .u64 x.f5.f2.f2.f0, .int .u64 x.f5.f2.f2.f1, .int .i64 x.f5.f2.f3, .slice A26 x.f5.f2.f4.length c26, .int .u8 x.f5.f3.f0, .string x.f5.f3.f1, .int .u64 x.f5.f3.f2.f0, .int .u64 x.f5.f3.f2.f1, .int .i64 x.f5.f3.f3, .slice A32 x.f5.f3.f4.length c32, .bool x.f5.f4, .int .i64 x.f5.f5, .slice A35 x.f5.f6.length c35, .slice A36 x.f6.length c36, .int .u64 x.f7, .bool x.f8, .slice A39 x.f9.length c39, .string x.f10.f0, .int .u64 x.f10.f1.f0, .int .u64 x.f10.f1.f1, .int .i64 x.f10.f2, .slice A44 x.f10.f3.length c44, .slice A45 x.f10.f4.length c45, .slice A46 x.f11.length c46], rfl, (k38_mk w x.f3 l12 g12 l13 g13 l14 g14 l16 g16 l17 g17), ⟨[.slice A18 x.f4.length c18], [.int .i64 x.f5.f0, .int .i64 x.f5.f1, .int .u8 x.f5.f2.f0, .string x.f5.f2.f1, .int .u64 x.f5.f2.f2.f0, .int .u64 x.f5.f2.f2.f1, .int .i64 x.f5.f2.f3, .slice A26 x.f5.f2.f4.length c26, .int .u8 x.f5.f3.f0, .string x.f5.f3.f1, .int .u64 x.f5.f3.f2.f0, .int .u64 x.f5.f3.f2.f1, .int .i64 x.f5.f3.f3, .slice A32 x.f5.f3.f4.length c32, .bool x.f5.f4, .int .i64 x.f5.f5, .slice A35 x.f5.f6.length c35, .slice A36 x.f6.length c36, .int .u64 x.f7, .bool x.f8, .slice A39 x.f9.length c39, .string x.f10.f0, .int .u64 x.f10.f1.f0, .int .u64 x.f10.f1.f1, .int .i64 x.f10.f2, .slice A44 x.f10.f3.length c44, .slice A45 x.f10.f4.length c45, .slice A46 x.f11.length c46], rfl, ⟨A18, c18, rfl, l18, g18⟩, ⟨[.int .i64 x.f5.f0, .int .i64 x.f5.f1, .int .u8 x.f5.f2.f0, .string x.f5.f2.f1, .int .u64 x.f5.f2.f2.f0, .int .u64 x.f5.f2.f2.f1, .int .i64 x.f5.f2.f3, .slice A26 x.f5.f2.f4.length c26, .int .u8 x.f5.f3.f0, .string x.f5.f3.f1, .int .u64 x.f5.f3.f2.f0, .int .u64 x.f5.f3.f2.f1, .int .i64 x.f5.f3.f3, .slice A32 x.f5.f3.f4.length c32, .bool x.f5.f4, .int .i64 x.f5.f5, .slice A35 x.f5.f6.length c35], [.slice A36 x.f6.length c36, .int .u64 x.f7, .bool x.f8, .slice A39 x.f9.length c39, .string x.f10.f0, .int .u64 x.f10.f1.f0, .int .u64 x.f10.f1.f1, .int .i64 x.f10.f2, .slice A44 x.f10.f3.length c44, .slice A45 x.f10.f4.length c45, .slice A46 x.f11.length c46], rfl, (k46_mk w x.f5 l26 g26 l32 g32 l35 g35), ⟨[.slice A36 x.f6.length c36], [.int .u64 x.f7, .bool x.f8, .slice A39 x.f9.length c39, .string x.f10.f0, .int .u64 x.f10.f1.f0, .int .u64 x.f10.f1.f1, .int .i64 x.f10.f2, .slice A44 x.f10.f3.length c44, .slice A45 x.f10.f4.length c45, .slice A46 x.f11.length c46], rfl, ⟨A36, c36, rfl, l36, g36⟩, ⟨[.int .u64 x.f7], [.bool x.f8, .slice A39 x.f9.length c39, .string x.f10.f0, .int .u64 x.f10.f1.f0, .int .u64 x.f10.f1.f1, .int .i64 x.f10.f2, .slice A44 x.f10.f3.length c44, .slice A45 x.f10.f4.length c45, .slice A46 x.f11.length c46], rfl, rfl, ⟨[.bool x.f8], [.slice A39 x.f9.length c39, .string x.f10.f0, .int .u64 x.f10.f1.f0, .int .u64 x.f10.f1.f1, .int .i64 x.f10.f2, .slice A44 x.f10.f3.length c44, .slice A45 x.f10.f4.length c45, .slice A46 x.f11.length c46], rfl, rfl, ⟨[.slice A39 x.f9.length c39], [.string x.f10.f0, .int .u64 x.f10.f1.f0, .int .u64 x.f10.f1.f1, .int .i64 x.f10.f2, .slice A44 x.f10.f3.length c44, .slice A45 x.f10.f4.length c45, .slice A46 x.f11.length c46], rfl, ⟨A39, c39, rfl, l39, g39⟩, ⟨[.string x.f10.f0, .int .u64 x.f10.f1.f0, .int .u64 x.f10.f1.f1, .int .i64 x.f10.f2, .slice A44 x.f10.f3.length c44, .slice A45 x.f10.f4.length c45], [.slice A46 x.f11.length c46], rfl, (k49_mk w x.f10 l44 g44 l45 g45), ⟨A46, c46, rfl, l46, g46⟩⟩⟩⟩⟩⟩⟩⟩⟩⟩⟩⟩
theorem k52_openF {W : World} {ok : Nat → Prop} {x : S52} {cs : List Value} (h : Kd.FK k52 W ok x cs) : ∃ A12 c12 A13 c13 A14 c14 A16 c16 A17 c17 A18 c18 A26 c26 A32 c32 A35 c35 A36 c36 A39 c39 A44 c44 A45 c45 A46 c46, cs = [.int .u8 x.f0, .int .u64 x.f1, .int .u64 x.f2.f0.f0, .int .u64 x.f2.f0.f1, .int .i64 x.f2.f1, .int .i64 x.f2.f2, .int .i64 x.f2.f3, .string x.f3.f0, .string x.f3.f1, .int .i64 x.f3.f2, .int .i64 x.f3.f3, .int .i64 x.f3.f4, .slice A12 x.f3.f5.length c12, .slice A13 x.f3.f6.length c13, .slice A14 x.f3.f7.length c14, .bool x.f3.f8, .slice A16 x.f3.f9.length c16, .slice A17 x.f3.f10.length c17, .slice A18 x.f4.length c18, .int .i64 x.f5.f0, .int .i64 x.f5.f1, .int .u8 x.f5.f2.f0, .string x.f5.f2.f1, .int .u64 x.f5.f2.f2.f0, .int .u64 x.f5.f2.f2.f1, .int .i64 x.f5.f2.f3, .slice A26 x.f5.f2.f4.length c26, .int .u8 x.f5.f3.f0, .string x.f5.f3.f1, .int .u64 x.f5.f3.f2.f0, .int .u64 x.f5.f3.f2.f1, .int .i64 x.f5.f3.f3, .slice A32 x.f5.f3.f4.length c32, .bool x.f5.f4, .int .i64 x.f5.f5, .slice A35 x.f5.f6.length c35, .slice A36 x.f6.length c36, .int .u64 x.f7, .bool x.f8, .slice A39 x.f9.length c39, .string x.f10.f0, .int .u64 x.f10.f1.f0, .int .u64 x.f10.f1.f1, .int .i64 x.f10.f2, .slice A44 x.f10.f3.length c44, .slice A45 x.f10.f4.length c45, .slice A46 x.f11.length c46] ∧ x.f3.f5.length ≤ c12 ∧ Kd.F k130 W ok A12 x.f3.f5.length x.f3.f5 ∧ x.f3.f6.length ≤ c13 ∧ Kd.F (Kd.int .i64) W ok A13 x.f3.f6.length x.f3.f6 ∧ x.f3.f7.length ≤ c14 ∧ Kd.F k119 W ok A14 x.f3.f7.length x.f3.f7 ∧ x.f3.f9.length ≤ c16 ∧ Kd.F Kd.string W ok A16 x.f3.f9.length x.f3.f9 ∧ x.f3.f10.length ≤ c17 ∧ Kd.F (Kd.int .u8) W ok A17 x.f3.f10.length x.f3.f10 ∧ x.f4.length ≤ c18 ∧ Kd.F k91 W ok A18 x.f4.length x.f4 ∧ x.f5.f2.f4.length ≤ c26 ∧ Kd.F (Kd.int .i64) W ok A26 x.f5.f2.f4.length x.f5.f2.f4 ∧ x.f5.f3.f4.length ≤ c32 ∧ Kd.F (Kd.int .i64) W ok A32 x.f5.f3.f4.length x.f5.f3.f4 ∧ x.f5.f6.length ≤ c35 ∧ Kd.F (Kd.int .i64) W ok A35 x.f5.f6.length x.f5.f6 ∧ x.f6.length ≤ c36 ∧ Kd.F (Kd.int .i64) W ok A36 x.f6.length x.f6 ∧ x.f9.length ≤ c39 ∧ Kd.F (Kd.slice 112 k112) W ok A39 x.f9.length x.f9 ∧ x.f10.f3.length ≤ c44 ∧ Kd.F k114 W ok A44 x.f10.f3.length x.f10.f3 ∧ x.f10.f4.length ≤ c45 ∧ Kd.F (Kd.slice 112 k112) W ok A45 x.f10.f4.length x.f10.f4 ∧ x.f11.length ≤ c46 ∧ Kd.F k125 W ok A46 x.f11.length x.f11 := by
  obtain ⟨A12, c12, A13, c13, A14, c14, A16, c16, A17, c17, A18, c18, A26, c26, A32, c32, A35, c35, A36, c36, A39, c39, A44, c44, A45, c45, A46, c46, rfl, l12, _, l13, _, l14, _, l16, _, l17, _, l18, _, l26, _, l32, _, l35, _, l36, _, l39, _, l44, _, l45, _, l46, _⟩ := k52_open (Kd.FK_now h)
  exact ⟨A12, c12, A13, c13, A14, c14, A16, c16, A17, c17, A18, c18, A26, c26, A32, c32, A35, c35, A36, c36, A39, c39, A44, c44, A45, c45, A46, c46, rfl, l12, (fun W' hW => by obtain ⟨A12_, c12_, A13_, c13_, A14_, c14_, A16_, c16_, A17_, c17_, A18_, c18_, A26_, c26_, A32_, c32_, A35_, c35_, A36_, c36_, A39_, c39_, A44_, c44_, A45_, c45_, A46_, c46_, he, l12_, g12_, l13_, g13_, l14_, g14_, l16_, g16_, l17_, g17_, l18_, g18_, l26_, g26_, l32_, g32_, l35_, g35_, l36_, g36_, l39_, g39_, l44_, g44_, l45_, g45_, l46_, g46_⟩ := k52_open (h W' hW); injection (Option.some.inj (show some (Value.slice A12 x.f3.f5.length c12) = some (Value.slice A12_ x.f3.f5.length c12_) from congrArg (fun l => l[12]?) he)) with ha_ _ _; rw [ha_]; exact g12_), l13, (fun W' hW => by obtain ⟨A12_, c12_, A13_, c13_, A14_, c14_, A16_, c16_, A17_, c17_, A18_, c18_, A26_, c26_, A32_, c32_, A35_, c35_, A36_, c36_, A39_, c39_, A44_, c44_, A45_, c45_, A46_, c46_, he, l12_, g12_, l13_, g13_, l14_, g14_, l16_, g16_, l17_, g17_, l18_, g18_, l26_, g26_, l32_, g32_, l35_, g35_, l36_, g36_, l39_, g39_, l44_, g44_, l45_, g45_, l46_, g46_⟩ := k52_open (h W' hW); injection (Option.some.inj (show some (Value.slice A13 x.f3.f6.length c13) = some (Value.slice A13_ x.f3.f6.length c13_) from congrArg (fun l => l[13]?) he)) with ha_ _ _; rw [ha_]; exact g13_), l14, (fun W' hW => by obtain ⟨A12_, c12_, A13_, c13_, A14_, c14_, A16_, c16_, A17_, c17_, A18_, c18_, A26_, c26_, A32_, c32_, A35_, c35_, A36_, c36_, A39_, c39_, A44_, c44_, A45_, c45_, A46_, c46_, he, l12_, g12_, l13_, g13_, l14_, g14_, l16_, g16_, l17_, g17_, l18_, g18_, l26_, g26_, l32_, g32_, l35_, g35_, l36_, g36_, l39_, g39_, l44_, g44_, l45_, g45_, l46_, g46_⟩ := k52_open (h W' hW); injection (Option.some.inj (show some (Value.slice A14 x.f3.f7.length c14) = some (Value.slice A14_ x.f3.f7.length c14_) from congrArg (fun l => l[14]?) he)) with ha_ _ _; rw [ha_]; exact g14_), l16, (fun W' hW => by obtain ⟨A12_, c12_, A13_, c13_, A14_, c14_, A16_, c16_, A17_, c17_, A18_, c18_, A26_, c26_, A32_, c32_, A35_, c35_, A36_, c36_, A39_, c39_, A44_, c44_, A45_, c45_, A46_, c46_, he, l12_, g12_, l13_, g13_, l14_, g14_, l16_, g16_, l17_, g17_, l18_, g18_, l26_, g26_, l32_, g32_, l35_, g35_, l36_, g36_, l39_, g39_, l44_, g44_, l45_, g45_, l46_, g46_⟩ := k52_open (h W' hW); injection (Option.some.inj (show some (Value.slice A16 x.f3.f9.length c16) = some (Value.slice A16_ x.f3.f9.length c16_) from congrArg (fun l => l[16]?) he)) with ha_ _ _; rw [ha_]; exact g16_), l17, (fun W' hW => by obtain ⟨A12_, c12_, A13_, c13_, A14_, c14_, A16_, c16_, A17_, c17_, A18_, c18_, A26_, c26_, A32_, c32_, A35_, c35_, A36_, c36_, A39_, c39_, A44_, c44_, A45_, c45_, A46_, c46_, he, l12_, g12_, l13_, g13_, l14_, g14_, l16_, g16_, l17_, g17_, l18_, g18_, l26_, g26_, l32_, g32_, l35_, g35_, l36_, g36_, l39_, g39_, l44_, g44_, l45_, g45_, l46_, g46_⟩ := k52_open (h W' hW); injection (Option.some.inj (show some (Value.slice A17 x.f3.f10.length c17) = some (Value.slice A17_ x.f3.f10.length c17_) from congrArg (fun l => l[17]?) he)) with ha_ _ _; rw [ha_]; exact g17_), l18, (fun W' hW => by obtain ⟨A12_, c12_, A13_, c13_, A14_, c14_, A16_, c16_, A17_, c17_, A18_, c18_, A26_, c26_, A32_, c32_, A35_, c35_, A36_, c36_, A39_, c39_, A44_, c44_, A45_, c45_, A46_, c46_, he, l12_, g12_, l13_, g13_, l14_, g14_, l16_, g16_, l17_, g17_, l18_, g18_, l26_, g26_, l32_, g32_, l35_, g35_, l36_, g36_, l39_, g39_, l44_, g44_, l45_, g45_, l46_, g46_⟩ := k52_open (h W' hW); injection (Option.some.inj (show some (Value.slice A18 x.f4.length c18) = some (Value.slice A18_ x.f4.length c18_) from congrArg (fun l => l[18]?) he)) with ha_ _ _; rw [ha_]; exact g18_), l26, (fun W' hW => by obtain ⟨A12_, c12_, A13_, c13_, A14_, c14_, A16_, c16_, A17_, c17_, A18_, c18_, A26_, c26_, A32_, c32_, A35_, c35_, A36_, c36_, A39_, c39_, A44_, c44_, A45_, c45_, A46_, c46_, he, l12_, g12_, l13_, g13_, l14_, g14_, l16_, g16_, l17_, g17_, l18_, g18_, l26_, g26_, l32_, g32_, l35_, g35_, l36_, g36_, l39_, g39_, l44_, g44_, l45_, g45_, l46_, g46_⟩ := k52_open (h W' hW); injection (Option.some.inj (show some (Value.slice A26 x.f5.f2.f4.length c26) = some (Value.slice A26_ x.f5.f2.f4.length c26_) from congrArg (fun l => l[26]?) he)) with ha_ _ _; rw [ha_]; exact g26_), l32, (fun W' hW => by obtain ⟨A12_, c12_, A13_, c13_, A14_, c14_, A16_, c16_, A17_, c17_, A18_, c18_, A26_, c26_, A32_, c32_, A35_, c35_, A36_, c36_, A39_, c39_, A44_, c44_, A45_, c45_, A46_, c46_, he, l12_, g12_, l13_, g13_, l14_, g14_, l16_, g16_, l17_, g17_, l18_, g18_, l26_, g26_, l32_, g32_, l35_, g35_, l36_, g36_, l39_, g39_, l44_, g44_, l45_, g45_, l46_, g46_⟩ := k52_open (h W' hW); injection (Option.some.inj (show some (Value.slice A32 x.f5.f3.f4.length c32) = some (Value.slice A32_ x.f5.f3.f4.length c32_) from congrArg (fun l => l[32]?) he)) with ha_ _ _; rw [ha_]; exact g32_), l35, (fun W' hW => by obtain ⟨A12_, c12_, A13_, c13_, A14_, c14_, A16_, c16_, A17_, c17_, A18_, c18_, A26_, c26_, A32_, c32_, A35_, c35_, A36_, c36_, A39_, c39_, A44_, c44_, A45_, c45_, A46_, c46_, he, l12_, g12_, l13_, g13_, l14_, g14_, l16_, g16_, l17_, g17_, l18_, g18_, l26_, g26_, l32_, g32_, l35_, g35_, l36_, g36_, l39_, g39_, l44_, g44_, l45_, g45_, l46_, g46_⟩ := k52_open (h W' hW); injection (Option.some.inj (show some (Value.slice A35 x.f5.f6.length c35) = some (Value.slice A35_ x.f5.f6.length c35_) from congrArg (fun l => l[35]?) he)) with ha_ _ _; rw [ha_]; exact g35_), l36, (fun W' hW => by obtain ⟨A12_, c12_, A13_, c13_, A14_, c14_, A16_, c16_, A17_, c17_, A18_, c18_, A26_, c26_, A32_, c32_, A35_, c35_, A36_, c36_, A39_, c39_, A44_, c44_, A45_, c45_, A46_, c46_, he, l12_, g12_, l13_, g13_, l14_, g14_, l16_, g16_, l17_, g17_, l18_, g18_, l26_, g26_, l32_, g32_, l35_, g35_, l36_, g36_, l39_, g39_, l44_, g44_, l45_, g45_, l46_, g46_⟩ := k52_open (h W' hW); injection (Option.some.inj (show some (Value.slice A36 x.f6.length c36) = some (Value.slice A36_ x.f6.length c36_) from congrArg (fun l => l[36]?) he)) with ha_ _ _; rw [ha_]; exact g36_), l39, (fun W' hW => by obtain ⟨A12_, c12_, A13_, c13_, A14_, c14_, A16_, c16_, A17_, c17_, A18_, c18_, A26_, c26_, A32_, c32_, A35_, c35_, A36_, c36_, A39_, c39_, A44_, c44_, A45_, c45_, A46_, c46_, he, l12_, g12_, l13_, g13_, l14_, g14_, l16_, g16_, l17_, g17_, l18_, g18_, l26_, g26_, l32_, g32_, l35_, g35_, l36_, g36_, l39_, g39_, l44_, g44_, l45_, g45_, l46_, g46_⟩ := k52_open (h W' hW); injection (Option.some.inj (show some (Value.slice A39 x.f9.length c39) = some (Value.slice A39_ x.f9.length c39_) from congrArg (fun l => l[39]?) he)) with ha_ _ _; rw [ha_]; exact g39_), l44, (fun W' hW => by obtain ⟨A12_, c12_, A13_, c13_, A14_, c14_, A16_, c16_, A17_, c17_, A18_, c18_, A26_, c26_, A32_, c32_, A35_, c35_, A36_, c36_, A39_, c39_, A44_, c44_, A45_, c45_, A46_, c46_, he, l12_, g12_, l13_, g13_, l14_, g14_, l16_, g16_, l17_, g17_, l18_, g18_, l26_, g26_, l32_, g32_, l35_, g35_, l36_, g36_, l39_, g39_, l44_, g44_, l45_, g45_, l46_, g46_⟩ := k52_open (h W' hW); injection (Option.some.inj (show some (Value.slice A44 x.f10.f3.length c44) = some (Value.slice A44_ x.f10.f3.length c44_) from congrArg (fun l => l[44]?) he)) with ha_ _ _; rw [ha_]; exact g44_), l45, (fun W' hW => by obtain ⟨A12_, c12_, A13_, c13_, A14_, c14_, A16_, c16_, A17_, c17_, A18_, c18_, A26_, c26_, A32_, c32_, A35_, c35_, A36_, c36_, A39_, c39_, A44_, c44_, A45_, c45_, A46_, c46_, he, l12_, g12_, l13_, g13_, l14_, g14_, l16_, g16_, l17_, g17_, l18_, g18_, l26_, g26_, l32_, g32_, l35_, g35_, l36_, g36_, l39_, g39_, l44_, g44_, l45_, g45_, l46_, g46_⟩ := k52_open (h W' hW); injection (Option.some.inj (show some (Value.slice A45 x.f10.f4.length c45) = some (Value.slice A45_ x.f10.f4.length c45_) from congrArg (fun l => l[45]?) he)) with ha_ _ _; rw [ha_]; exact g45_), l46, (fun W' hW => by obtain ⟨A12_, c12_, A13_, c13_, A14_, c14_, A16_, c16_, A17_, c17_, A18_, c18_, A26_, c26_, A32_, c32_, A35_, c35_, A36_, c36_, A39_, c39_, A44_, c44_, A45_, c45_, A46_, c46_, he, l12_, g12_, l13_, g13_, l14_, g14_, l16_, g16_, l17_, g17_, l18_, g18_, l26_, g26_, l32_, g32_, l35_, g35_, l36_, g36_, l39_, g39_, l44_, g44_, l45_, g45_, l46_, g46_⟩ := k52_open (h W' hW); injection (Option.some.inj (show some (Value.slice A46 x.f11.length c46) = some (Value.slice A46_ x.f11.length c46_) from congrArg (fun l => l[46]?) he)) with ha_ _ _; rw [ha_]; exact g46_)⟩
theorem k52_mkF (W : World) (ok : Nat → Prop) (x : S52) {A12 : Option Addr} {c12 : Nat} (l12 : x.f3.f5.length ≤ c12) (g12 : Kd.F k130 W ok A12 x.f3.f5.length x.f3.f5) {A13 : Option Addr} {c13 : Nat} (l13 : x.f3.f6.length ≤ c13) (g13 : Kd.F (Kd.int .i64) W ok A13 x.f3.f6.length x.f3.f6) {A14 : Option Addr} {c14 : Nat} (l14 : x.f3.f7.length ≤ c14) (g14 : Kd.F k119 W ok A14 x.f3.f7.length x.f3.f7) {A16 : Option Addr} {c16 : Nat} (l16 : x.f3.f9.length ≤ c16) (g16 : Kd.F Kd.string W ok A16 x.f3.f9.length x.f3.f9) {A17 : Option Addr} {c17 : Nat} (l17 : x.f3.f10.length ≤ c17) (g17 : Kd.F (Kd.int .u8) W ok A17 x.f3.f10.length x.f3.f10) {A18 : Option Addr} {c18 : Nat} (l18 : x.f4.length ≤ c18) (g18 : Kd.F k91 W ok A18 x.f4.length x.f4) {A26 : Option Addr} {c26 : Nat} (l26 : x.f5.f2.f4.length ≤ c26) (g26 : Kd.F (Kd.int .i64) W ok A26 x.f5.f2.f4.length x.f5.f2.f4) {A32 : Option Addr} {c32 : Nat} (l32 : x.f5.f3.f4.length ≤ c32) (g32 : Kd.F (Kd.int .i64) W ok A32 x.f5.f3.f4.length x.f5.f3.f4) {A35 : Option Addr} {c35 : Nat} (l35 : x.f5.f6.length ≤ c35) (g35 : Kd.F (Kd.int .i64) W ok A35 x.f5.f6.length x.f5.f6) {A36 : Option Addr} {c36 : Nat} (l36 : x.f6.length ≤ c36) (g36 : Kd.F (Kd.int .i64) W ok A36 x.f6.length x.f6) {A39 : Option Addr} {c39 : Nat} (l39 : x.f9.length ≤ c39) (g39 : Kd.F (Kd.slice 112 k112) W ok A39 x.f9.length x.f9) {A44 : Option Addr} {c44 : Nat} (l44 : x.f10.f3.length ≤ c44) (g44 : Kd.F k114 W ok A44 x.f10.f3.length x.f10.f3) {A45 : Option Addr} {c45 : Nat} (l45 : x.f10.f4.length ≤ c45) (g45 : Kd.F (Kd.slice 112 k112) W ok A45 x.f10.f4.length x.f10.f4) {A46 : Option Addr} {c46 : Nat} (l46 : x.f11.length ≤ c46) (g46 : Kd.F k125 W ok A46 x.f11.length x.f11) : Kd.FK k52 W ok x [.int .u8 x.f0, .int .u64 x.f1, .int .u64 x.f2.f0.f0, .int .u64 x.f2.f0.f1, .int .i64 x.f2.f1, .int .i64 x.f2.f2, .int .i64 x.f2.f3, .string x.f3.f0, .string x.f3.f1, .int .i64 x.f3.f2, .int .i64 x.f3.f3, .int .i64 x.f3.f4, .slice A12 x.f3.f5.length c12, .slice A13 x.f3.f6.length c13, .slice A14 x.f3.f7.length c14, .bool x.f3.f8, .slice A16 x.f3.f9.length c16, .slice A17 x.f3.f10.length c17, .slice A18 x.f4.length c18, .int .i64 x.f5.f0, .int .i64 x.f5.f1, .int .u8 x.f5.f2.f0, .string x.f5.f2.f1, .int .u64 x.f5.f2.f2.f0, .int .u64 x.f5.f2.f2.f1, .int .i64 x.f5.f2.f3, .slice A26 x.f5.f2.f4.length c26, .int .u8 x.f5.f3.f0, .string x.f5.f3.f1, .int .u64 x.f5.f3.f2.f0, .int .u64 x.f5.f3.f2.f1, .int .i64 x.f5.f3.f3, .slice A32 x.f5.f3.f4.length c32, .bool x.f5.f4, .int .i64 x.f5.f5, .slice A35 x.f5.f6.length c35, .slice A36 x.f6.length c36, .int .u64 x.f7, .bool x.f8, .slice A39 x.f9.length c39, .string x.f10.f0, .int .u64 x.f10.f1.f0, .int .u64 x.f10.f1.f1, .int .i64 x.f10.f2, .slice A44 x.f10.f3.length c44, .slice A45 x.f10.f4.length c45, .slice A46 x.f11.length c46] := fun W2 hW => k52_mk W2 x l12 (g12 W2 hW) l13 (g13 W2 hW) l14 (g14 W2 hW) l16 (g16 W2 hW) l17 (g17 W2 hW) l18 (g18 W2 hW) l26 (g26 W2 hW) l32 (g32 W2 hW) l35 (g35 W2 hW) l36 (g36 W2 hW) l39 (g39 W2 hW) l44 (g44 W2 hW) l45 (g45 W2 hW) l46 (g46 W2 hW)
theorem eqA24 (d : Nat) (w : World) (x0 y0 : Int) (x1 y1 : Int) :
    (Op.equalIn (d + 2) 24 (.agg #[.int .u64 x0, .int .u64 x1]) (.agg #[.int .u64 y0, .int .u64 y1])).run Try.prog w = .ok (x0 == y0 && (x1 == y1)) w := by
  refine eqA_of Try.underlying24 (by kernel_rfl) ?_
  refine eqf_cons (by rfl) (by go_simp; rfl) (by go_simp; rfl) (by go_simp) ?_
  exact eqf_last (by rfl) (by go_simp; rfl) (by go_simp; rfl) (by go_simp)
theorem eqA26 (d : Nat) (w : World) (x0 y0 : Int) (x1 y1 : Int) (x2 y2 : Int) (x3 y3 : Int) (x4 y4 : Int) :
    (Op.equalIn (d + 3) 26 (.agg #[.int .u64 x0, .int .u64 x1, .int .i64 x2, .int .i64 x3, .int .i64 x4]) (.agg #[.int .u64 y0, .int .u64 y1, .int .i64 y2, .int .i64 y3, .int .i64 y4])).run Try.prog w = .ok ((x0 == y0 && (x1 == y1)) && (x2 == y2 && (x3 == y3 && (x4 == y4)))) w := by
  refine eqA_of Try.underlying26 (by kernel_rfl) ?_
  refine eqf_cons (by rfl) (by go_simp) (by go_simp) (eqA24 (d + 0) w _ _ _ _) ?_
  refine eqf_cons (by rfl) (by go_simp; rfl) (by go_simp; rfl) (by go_simp) ?_
  refine eqf_cons (by rfl) (by go_simp; rfl) (by go_simp; rfl) (by go_simp) ?_
  exact eqf_last (by rfl) (by go_simp; rfl) (by go_simp; rfl) (by go_simp)
theorem eqA112 (d : Nat) (w : World) (x0 y0 : Int) (x1 y1 : Bool) (x2 y2 : Int) (x3 y3 : ByteArray) :
    (Op.equalIn (d + 2) 112 (.agg #[.int .u8 x0, .bool x1, .int .i64 x2, .string x3]) (.agg #[.int .u8 y0, .bool y1, .int .i64 y2, .string y3])).run Try.prog w = .ok (x0 == y0 && (x1 == y1 && (x2 == y2 && (x3.toList == y3.toList)))) w := by
  refine eqA_of Try.underlying112 (by kernel_rfl) ?_
  refine eqf_cons (by rfl) (by go_simp; rfl) (by go_simp; rfl) (by go_simp) ?_
  refine eqf_cons (by rfl) (by go_simp; rfl) (by go_simp; rfl) (by go_simp) ?_
  refine eqf_cons (by rfl) (by go_simp; rfl) (by go_simp; rfl) (by go_simp) ?_
  exact eqf_last (by rfl) (by go_simp; rfl) (by go_simp; rfl) (by go_simp)
end Go.Proofs.Ytkbemagcoojmmaa.G
