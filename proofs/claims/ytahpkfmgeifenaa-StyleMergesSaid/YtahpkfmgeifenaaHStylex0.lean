-- Written by this claim's own program over the kit's print.
import Derived.Test.YtahpkfmgeifenaaProg
import Derived.Below
import Derived.Deep.Draws
import Derived.Deep.AppendLies
import Derived.Maps.AppendAt
import Derived.OwnWalk
import Derived.Laws.BytesArg
import Derived.Laws.MakeOwn
import Derived.Laws.OwnMore
import Derived.Deep.OwnRows
import Derived.Tactics
import Derived.Lib.ConvBytes
import Derived.Laws.Slices
import Derived.WalkKit
import Derived.KernelRfl
import Derived.RowKit3
import Derived.Deep.LoopGhost
import Derived.Deep.QuietTactic
import Derived.BigQuiet
import Derived.WideLaws
import Derived.Deep.DeepCutAuto
import Derived.Deep.CutBlock
import Derived.Deep.RegionHeld3
import Derived.Laws.Rows
import Derived.Lib.AppendStr
import Derived.ArgAppend
import Derived.Laws.IdiomCopy
import Derived.OrdersHeld
import Derived.Laws.BitsLemmas
import Derived.RowKit
import Derived.Test.YtahpkfmgeifenaaWWords
import Derived.Test.YtahpkfmgeifenaaWLast
import Derived.Test.YtahpkfmgeifenaaWTab
import Derived.Test.YtahpkfmgeifenaaWFour
import Derived.Test.YtahpkfmgeifenaaWQPut
import Derived.Test.YtahpkfmgeifenaaWApart
import Derived.Test.YtahpkfmgeifenaaWArr
import Derived.Test.YtahpkfmgeifenaaWZeros
import Derived.Test.YtahpkfmgeifenaaWFoot
import Derived.Test.YtahpkfmgeifenaaWKept
import Derived.Test.YtahpkfmgeifenaaWShare
import Derived.Test.YtahpkfmgeifenaaWN
import Derived.Test.YtahpkfmgeifenaaWFootNe
import Derived.Test.YtahpkfmgeifenaaWAt
import Derived.Test.YtahpkfmgeifenaaWEqStruct
import Derived.Test.YtahpkfmgeifenaaWRepsOne
import Derived.Test.YtahpkfmgeifenaaWInv
import Derived.Test.YtahpkfmgeifenaaWInvWords
import Derived.Test.YtahpkfmgeifenaaWGuard
import Derived.Test.YtahpkfmgeifenaaWNEv
import Derived.Test.YtahpkfmgeifenaaWMore
namespace Go.Proofs.Ytahpkfmgeifenaa.HStyle
open Go.RowKit Go.Proofs.YtahpkfmgeifenaaW.PrintWords Go.Proofs.YtahpkfmgeifenaaW.PrintLast Go.Proofs.YtahpkfmgeifenaaW.PrintMore
attribute [local go_sem] max2_int min2_int max_two min_two max_three min_three max_four min_four   -- for this text's walks alone
set_option linter.unusedVariables false
set_option linter.unusedSimpArgs false



def errW : Option Int → Value
  | none => .nilIface
  | some c => .iface 0 (.int .i64 c)
theorem errW_none : errW none = .nilIface := rfl
theorem errW_some (c : Int) : errW (some c) = .iface 0 (.int .i64 c) := rfl

theorem info3 : (Try.prog.info? 3).map (fun i => (i.zero, i.size, i.bytes)) = some (some (.int .i64 0), 1, 8) := by kernel_rfl
theorem info4 : (Try.prog.info? 4).map (fun i => (i.zero, i.size, i.bytes)) = some (some (.bool false), 1, 1) := by kernel_rfl
theorem info23 : (Try.prog.info? 23).map (fun i => (i.zero, i.size, i.bytes)) = some (some (.agg #[(.int .u8 0), (.int .u8 0), (.int .u8 0), (.int .u8 0), (.int .i64 0), (.int .i64 0), (.int .i64 0), (.int .u8 0), (.int .i64 0)]), 9, 48) := by kernel_rfl
theorem info26 : (Try.prog.info? 26).map (fun i => (i.zero, i.size, i.bytes)) = some (some (.agg #[(.int .u16 0), (.int .u8 0), (.int .u8 0), (.int .u8 0), (.int .u8 0), (.int .i64 0), (.int .i64 0), (.int .i64 0), (.int .u8 0), (.int .i64 0)]), 10, 56) := by kernel_rfl
-- the values' own types
/-! #### struct type 23 -/
structure S23 where
  f0 : Int
  f1 : Int
  f2 : Int
  f3 : Int
  f4 : Int
  f5 : Int
  f6 : Int
  f7 : Int
  f8 : Int
def z23 : S23 := ⟨(0 : Int), (0 : Int), (0 : Int), (0 : Int), (0 : Int), (0 : Int), (0 : Int), (0 : Int), (0 : Int)⟩
def k23 : Kd S23 := Kd.iso (Kd.pair (Kd.int .u8) (Kd.pair (Kd.int .u8) (Kd.pair (Kd.int .u8) (Kd.pair (Kd.int .u8) (Kd.pair (Kd.int .i64) (Kd.pair (Kd.int .i64) (Kd.pair (Kd.int .i64) (Kd.pair (Kd.int .u8) (Kd.int .i64))))))))) (fun x : S23 => (x.f0, x.f1, x.f2, x.f3, x.f4, x.f5, x.f6, x.f7, x.f8))
theorem k23_open {w : World} {x : S23} {cs : List Value} (h : k23.K w x cs) : cs = [.int .u8 x.f0, .int .u8 x.f1, .int .u8 x.f2, .int .u8 x.f3, .int .i64 x.f4, .int .i64 x.f5, .int .i64 x.f6, .int .u8 x.f7, .int .i64 x.f8] := by
  obtain ⟨_, _, rfl, rfl, ⟨_, _, rfl, rfl, ⟨_, _, rfl, rfl, ⟨_, _, rfl, rfl, ⟨_, _, rfl, rfl, ⟨_, _, rfl, rfl, ⟨_, _, rfl, rfl, ⟨_, _, rfl, rfl, rfl⟩⟩⟩⟩⟩⟩⟩⟩ := h
  exact rfl
theorem k23_openM {w : World} {base : Nat} {ok : Nat → Prop} {x : S23} {cs : List Value} (h : k23.M w base ok x cs) : cs = [.int .u8 x.f0, .int .u8 x.f1, .int .u8 x.f2, .int .u8 x.f3, .int .i64 x.f4, .int .i64 x.f5, .int .i64 x.f6, .int .u8 x.f7, .int .i64 x.f8] := by
  obtain ⟨_, _, rfl, rfl, ⟨_, _, rfl, rfl, ⟨_, _, rfl, rfl, ⟨_, _, rfl, rfl, ⟨_, _, rfl, rfl, ⟨_, _, rfl, rfl, ⟨_, _, rfl, rfl, ⟨_, _, rfl, rfl, rfl⟩⟩⟩⟩⟩⟩⟩⟩ := h
  exact rfl
theorem k23_mk (w : World) (x : S23)  : k23.K w x [.int .u8 x.f0, .int .u8 x.f1, .int .u8 x.f2, .int .u8 x.f3, .int .i64 x.f4, .int .i64 x.f5, .int .i64 x.f6, .int .u8 x.f7, .int .i64 x.f8] := ⟨[.int .u8 x.f0], [.int .u8 x.f1, .int .u8 x.f2, .int .u8 x.f3, .int .i64 x.f4, .int .i64 x.f5, .int .i64 x.f6, .int .u8 x.f7, .int .i64 x.f8], rfl, rfl, ⟨[.int .u8 x.f1], [.int .u8 x.f2, .int .u8 x.f3, .int .i64 x.f4, .int .i64 x.f5, .int .i64 x.f6, .int .u8 x.f7, .int .i64 x.f8], rfl, rfl, ⟨[.int .u8 x.f2], [.int .u8 x.f3, .int .i64 x.f4, .int .i64 x.f5, .int .i64 x.f6, .int .u8 x.f7, .int .i64 x.f8], rfl, rfl, ⟨[.int .u8 x.f3], [.int .i64 x.f4, .int .i64 x.f5, .int .i64 x.f6, .int .u8 x.f7, .int .i64 x.f8], rfl, rfl, ⟨[.int .i64 x.f4], [.int .i64 x.f5, .int .i64 x.f6, .int .u8 x.f7, .int .i64 x.f8], rfl, rfl, ⟨[.int .i64 x.f5], [.int .i64 x.f6, .int .u8 x.f7, .int .i64 x.f8], rfl, rfl, ⟨[.int .i64 x.f6], [.int .u8 x.f7, .int .i64 x.f8], rfl, rfl, ⟨[.int .u8 x.f7], [.int .i64 x.f8], rfl, rfl, rfl⟩⟩⟩⟩⟩⟩⟩⟩
theorem k23_mkM (w : World) (base : Nat) (ok : Nat → Prop) (x : S23)  : k23.M w base ok x [.int .u8 x.f0, .int .u8 x.f1, .int .u8 x.f2, .int .u8 x.f3, .int .i64 x.f4, .int .i64 x.f5, .int .i64 x.f6, .int .u8 x.f7, .int .i64 x.f8] := ⟨[.int .u8 x.f0], [.int .u8 x.f1, .int .u8 x.f2, .int .u8 x.f3, .int .i64 x.f4, .int .i64 x.f5, .int .i64 x.f6, .int .u8 x.f7, .int .i64 x.f8], rfl, rfl, ⟨[.int .u8 x.f1], [.int .u8 x.f2, .int .u8 x.f3, .int .i64 x.f4, .int .i64 x.f5, .int .i64 x.f6, .int .u8 x.f7, .int .i64 x.f8], rfl, rfl, ⟨[.int .u8 x.f2], [.int .u8 x.f3, .int .i64 x.f4, .int .i64 x.f5, .int .i64 x.f6, .int .u8 x.f7, .int .i64 x.f8], rfl, rfl, ⟨[.int .u8 x.f3], [.int .i64 x.f4, .int .i64 x.f5, .int .i64 x.f6, .int .u8 x.f7, .int .i64 x.f8], rfl, rfl, ⟨[.int .i64 x.f4], [.int .i64 x.f5, .int .i64 x.f6, .int .u8 x.f7, .int .i64 x.f8], rfl, rfl, ⟨[.int .i64 x.f5], [.int .i64 x.f6, .int .u8 x.f7, .int .i64 x.f8], rfl, rfl, ⟨[.int .i64 x.f6], [.int .u8 x.f7, .int .i64 x.f8], rfl, rfl, ⟨[.int .u8 x.f7], [.int .i64 x.f8], rfl, rfl, rfl⟩⟩⟩⟩⟩⟩⟩⟩
def rd_T23 (xs : List S23) (i : Int) : S23 := xs.getD i.toNat z23
theorem at_T23 {w : World} {A : Option Addr} {n : Nat} {xs : List S23} (h : Kd.C k23 w A n xs) (i : Int) (h0 : 0 ≤ i) (h1 : i < n) : ∃ ad , A = some ad ∧ w.cell? (ad.add (i.toNat * 9)) = some (.int .u8 (rd_T23 xs i).f0) ∧ w.cell? ⟨(ad.add (i.toNat * 9)).block, (ad.add (i.toNat * 9)).off + 1, none⟩ = some (.int .u8 (rd_T23 xs i).f1) ∧ w.cell? ⟨(ad.add (i.toNat * 9)).block, (ad.add (i.toNat * 9)).off + 2, none⟩ = some (.int .u8 (rd_T23 xs i).f2) ∧ w.cell? ⟨(ad.add (i.toNat * 9)).block, (ad.add (i.toNat * 9)).off + 3, none⟩ = some (.int .u8 (rd_T23 xs i).f3) ∧ w.cell? ⟨(ad.add (i.toNat * 9)).block, (ad.add (i.toNat * 9)).off + 4, none⟩ = some (.int .i64 (rd_T23 xs i).f4) ∧ w.cell? ⟨(ad.add (i.toNat * 9)).block, (ad.add (i.toNat * 9)).off + 5, none⟩ = some (.int .i64 (rd_T23 xs i).f5) ∧ w.cell? ⟨(ad.add (i.toNat * 9)).block, (ad.add (i.toNat * 9)).off + 6, none⟩ = some (.int .i64 (rd_T23 xs i).f6) ∧ w.cell? ⟨(ad.add (i.toNat * 9)).block, (ad.add (i.toNat * 9)).off + 7, none⟩ = some (.int .u8 (rd_T23 xs i).f7) ∧ w.cell? ⟨(ad.add (i.toNat * 9)).block, (ad.add (i.toNat * 9)).off + 8, none⟩ = some (.int .i64 (rd_T23 xs i).f8) := by
  obtain ⟨ad, c, e, _, hK, hc0⟩ := Kd.C_get h z23 i h0 h1
  have hc : ∀ j u, c[j]? = some u → w.cell? (ad.add (i.toNat * 9 + j)) = some u := hc0
  obtain rfl := k23_open hK
  exact ⟨ad, e, hc 0 _ rfl, by rw [← add_field _ _ 1 (by omega)]; exact hc 1 _ rfl, by rw [← add_field _ _ 2 (by omega)]; exact hc 2 _ rfl, by rw [← add_field _ _ 3 (by omega)]; exact hc 3 _ rfl, by rw [← add_field _ _ 4 (by omega)]; exact hc 4 _ rfl, by rw [← add_field _ _ 5 (by omega)]; exact hc 5 _ rfl, by rw [← add_field _ _ 6 (by omega)]; exact hc 6 _ rfl, by rw [← add_field _ _ 7 (by omega)]; exact hc 7 _ rfl, by rw [← add_field _ _ 8 (by omega)]; exact hc 8 _ rfl⟩

/-! #### struct type 26 -/
structure S26 where
  f0 : Int
  f1 : S23
def z26 : S26 := ⟨(0 : Int), z23⟩
def k26 : Kd S26 := Kd.iso (Kd.pair (Kd.int .u16) k23) (fun x : S26 => (x.f0, x.f1))
theorem k26_open {w : World} {x : S26} {cs : List Value} (h : k26.K w x cs) : cs = [.int .u16 x.f0, .int .u8 x.f1.f0, .int .u8 x.f1.f1, .int .u8 x.f1.f2, .int .u8 x.f1.f3, .int .i64 x.f1.f4, .int .i64 x.f1.f5, .int .i64 x.f1.f6, .int .u8 x.f1.f7, .int .i64 x.f1.f8] := by
  obtain ⟨_, _, rfl, rfl, s1⟩ := h
  obtain rfl := k23_open s1
  exact rfl
theorem k26_openM {w : World} {base : Nat} {ok : Nat → Prop} {x : S26} {cs : List Value} (h : k26.M w base ok x cs) : cs = [.int .u16 x.f0, .int .u8 x.f1.f0, .int .u8 x.f1.f1, .int .u8 x.f1.f2, .int .u8 x.f1.f3, .int .i64 x.f1.f4, .int .i64 x.f1.f5, .int .i64 x.f1.f6, .int .u8 x.f1.f7, .int .i64 x.f1.f8] := by
  obtain ⟨_, _, rfl, rfl, s1⟩ := h
  obtain rfl := k23_openM s1
  exact rfl
theorem k26_mk (w : World) (x : S26)  : k26.K w x [.int .u16 x.f0, .int .u8 x.f1.f0, .int .u8 x.f1.f1, .int .u8 x.f1.f2, .int .u8 x.f1.f3, .int .i64 x.f1.f4, .int .i64 x.f1.f5, .int .i64 x.f1.f6, .int .u8 x.f1.f7, .int .i64 x.f1.f8] := ⟨[.int .u16 x.f0], [.int .u8 x.f1.f0, .int .u8 x.f1.f1, .int .u8 x.f1.f2, .int .u8 x.f1.f3, .int .i64 x.f1.f4, .int .i64 x.f1.f5, .int .i64 x.f1.f6, .int .u8 x.f1.f7, .int .i64 x.f1.f8], rfl, rfl, (k23_mk w x.f1 )⟩
theorem k26_mkM (w : World) (base : Nat) (ok : Nat → Prop) (x : S26)  : k26.M w base ok x [.int .u16 x.f0, .int .u8 x.f1.f0, .int .u8 x.f1.f1, .int .u8 x.f1.f2, .int .u8 x.f1.f3, .int .i64 x.f1.f4, .int .i64 x.f1.f5, .int .i64 x.f1.f6, .int .u8 x.f1.f7, .int .i64 x.f1.f8] := ⟨[.int .u16 x.f0], [.int .u8 x.f1.f0, .int .u8 x.f1.f1, .int .u8 x.f1.f2, .int .u8 x.f1.f3, .int .i64 x.f1.f4, .int .i64 x.f1.f5, .int .i64 x.f1.f6, .int .u8 x.f1.f7, .int .i64 x.f1.f8], rfl, rfl, (k23_mkM w base ok x.f1 )⟩
def rd_T26 (xs : List S26) (i : Int) : S26 := xs.getD i.toNat z26
theorem at_T26 {w : World} {A : Option Addr} {n : Nat} {xs : List S26} (h : Kd.C k26 w A n xs) (i : Int) (h0 : 0 ≤ i) (h1 : i < n) : ∃ ad , A = some ad ∧ w.cell? (ad.add (i.toNat * 10)) = some (.int .u16 (rd_T26 xs i).f0) ∧ w.cell? ⟨(ad.add (i.toNat * 10)).block, (ad.add (i.toNat * 10)).off + 1, none⟩ = some (.int .u8 (rd_T26 xs i).f1.f0) ∧ w.cell? ⟨(ad.add (i.toNat * 10)).block, (ad.add (i.toNat * 10)).off + 2, none⟩ = some (.int .u8 (rd_T26 xs i).f1.f1) ∧ w.cell? ⟨(ad.add (i.toNat * 10)).block, (ad.add (i.toNat * 10)).off + 3, none⟩ = some (.int .u8 (rd_T26 xs i).f1.f2) ∧ w.cell? ⟨(ad.add (i.toNat * 10)).block, (ad.add (i.toNat * 10)).off + 4, none⟩ = some (.int .u8 (rd_T26 xs i).f1.f3) ∧ w.cell? ⟨(ad.add (i.toNat * 10)).block, (ad.add (i.toNat * 10)).off + 5, none⟩ = some (.int .i64 (rd_T26 xs i).f1.f4) ∧ w.cell? ⟨(ad.add (i.toNat * 10)).block, (ad.add (i.toNat * 10)).off + 6, none⟩ = some (.int .i64 (rd_T26 xs i).f1.f5) ∧ w.cell? ⟨(ad.add (i.toNat * 10)).block, (ad.add (i.toNat * 10)).off + 7, none⟩ = some (.int .i64 (rd_T26 xs i).f1.f6) ∧ w.cell? ⟨(ad.add (i.toNat * 10)).block, (ad.add (i.toNat * 10)).off + 8, none⟩ = some (.int .u8 (rd_T26 xs i).f1.f7) ∧ w.cell? ⟨(ad.add (i.toNat * 10)).block, (ad.add (i.toNat * 10)).off + 9, none⟩ = some (.int .i64 (rd_T26 xs i).f1.f8) := by
  obtain ⟨ad, c, e, _, hK, hc0⟩ := Kd.C_get h z26 i h0 h1
  have hc : ∀ j u, c[j]? = some u → w.cell? (ad.add (i.toNat * 10 + j)) = some u := hc0
  obtain rfl := k26_open hK
  exact ⟨ad, e, hc 0 _ rfl, by rw [← add_field _ _ 1 (by omega)]; exact hc 1 _ rfl, by rw [← add_field _ _ 2 (by omega)]; exact hc 2 _ rfl, by rw [← add_field _ _ 3 (by omega)]; exact hc 3 _ rfl, by rw [← add_field _ _ 4 (by omega)]; exact hc 4 _ rfl, by rw [← add_field _ _ 5 (by omega)]; exact hc 5 _ rfl, by rw [← add_field _ _ 6 (by omega)]; exact hc 6 _ rfl, by rw [← add_field _ _ 7 (by omega)]; exact hc 7 _ rfl, by rw [← add_field _ _ 8 (by omega)]; exact hc 8 _ rfl, by rw [← add_field _ _ 9 (by omega)]; exact hc 9 _ rfl⟩

def rd_L5 (xs : List (List Int)) (i : Int) : (List Int) := xs.getD i.toNat ([] : List Int)
theorem at_L5 {w : World} {A : Option Addr} {n : Nat} {xs : List (List Int)} (h : Kd.C (Kd.slice 3 (Kd.int .i64)) w A n xs) (i : Int) (h0 : 0 ≤ i) (h1 : i < n) : ∃ ad A0 c0, A = some ad ∧ w.cell? (ad.add i.toNat) = some (.slice A0 (rd_L5 xs i).length c0) ∧ (rd_L5 xs i).length ≤ c0 ∧ (Kd.int .i64).C w A0 (rd_L5 xs i).length (rd_L5 xs i) := by
  obtain ⟨ad, c, e, _, hK, hc0⟩ := Kd.C_get h ([] : List Int) i h0 h1
  have hc : ∀ j u, c[j]? = some u → w.cell? (ad.add (i.toNat * 1 + j)) = some u := hc0
  obtain ⟨A0, c0, rfl, l0, g0⟩ := hK
  exact ⟨ad, A0, c0, e, by have hq := hc 0 _ rfl; rwa [Nat.mul_one, Nat.add_zero] at hq, l0, g0⟩

def rd_L6 (xs : List (List S26)) (i : Int) : (List S26) := xs.getD i.toNat ([] : List S26)
theorem at_L6 {w : World} {A : Option Addr} {n : Nat} {xs : List (List S26)} (h : Kd.C (Kd.slice 26 k26) w A n xs) (i : Int) (h0 : 0 ≤ i) (h1 : i < n) : ∃ ad A0 c0, A = some ad ∧ w.cell? (ad.add i.toNat) = some (.slice A0 (rd_L6 xs i).length c0) ∧ (rd_L6 xs i).length ≤ c0 ∧ k26.C w A0 (rd_L6 xs i).length (rd_L6 xs i) := by
  obtain ⟨ad, c, e, _, hK, hc0⟩ := Kd.C_get h ([] : List S26) i h0 h1
  have hc : ∀ j u, c[j]? = some u → w.cell? (ad.add (i.toNat * 1 + j)) = some u := hc0
  obtain ⟨A0, c0, rfl, l0, g0⟩ := hK
  exact ⟨ad, A0, c0, e, by have hq := hc 0 _ rfl; rwa [Nat.mul_one, Nat.add_zero] at hq, l0, g0⟩

/-! #### struct type 53 -/
structure S53 where
  f0 : S26
  f1 : S26
  f2 : S26
def z53 : S53 := ⟨z26, z26, z26⟩
def k53 : Kd S53 := Kd.iso (Kd.pair k26 (Kd.pair k26 k26)) (fun x : S53 => (x.f0, x.f1, x.f2))
theorem k53_open {w : World} {x : S53} {cs : List Value} (h : k53.K w x cs) : cs = [.int .u16 x.f0.f0, .int .u8 x.f0.f1.f0, .int .u8 x.f0.f1.f1, .int .u8 x.f0.f1.f2, .int .u8 x.f0.f1.f3, .int .i64 x.f0.f1.f4, .int .i64 x.f0.f1.f5, .int .i64 x.f0.f1.f6, .int .u8 x.f0.f1.f7, .int .i64 x.f0.f1.f8, .int .u16 x.f1.f0, .int .u8 x.f1.f1.f0, .int .u8 x.f1.f1.f1, .int .u8 x.f1.f1.f2, .int .u8 x.f1.f1.f3, .int .i64 x.f1.f1.f4, .int .i64 x.f1.f1.f5, .int .i64 x.f1.f1.f6, .int .u8 x.f1.f1.f7, .int .i64 x.f1.f1.f8, .int .u16 x.f2.f0, .int .u8 x.f2.f1.f0, .int .u8 x.f2.f1.f1, .int .u8 x.f2.f1.f2, .int .u8 x.f2.f1.f3, .int .i64 x.f2.f1.f4, .int .i64 x.f2.f1.f5, .int .i64 x.f2.f1.f6, .int .u8 x.f2.f1.f7, .int .i64 x.f2.f1.f8] := by
  obtain ⟨_, _, rfl, s0, ⟨_, _, rfl, s10, s20⟩⟩ := h
  obtain rfl := k26_open s0
  obtain rfl := k26_open s10
  obtain rfl := k26_open s20
  exact rfl
theorem k53_openM {w : World} {base : Nat} {ok : Nat → Prop} {x : S53} {cs : List Value} (h : k53.M w base ok x cs) : cs = [.int .u16 x.f0.f0, .int .u8 x.f0.f1.f0, .int .u8 x.f0.f1.f1, .int .u8 x.f0.f1.f2, .int .u8 x.f0.f1.f3, .int .i64 x.f0.f1.f4, .int .i64 x.f0.f1.f5, .int .i64 x.f0.f1.f6, .int .u8 x.f0.f1.f7, .int .i64 x.f0.f1.f8, .int .u16 x.f1.f0, .int .u8 x.f1.f1.f0, .int .u8 x.f1.f1.f1, .int .u8 x.f1.f1.f2, .int .u8 x.f1.f1.f3, .int .i64 x.f1.f1.f4, .int .i64 x.f1.f1.f5, .int .i64 x.f1.f1.f6, .int .u8 x.f1.f1.f7, .int .i64 x.f1.f1.f8, .int .u16 x.f2.f0, .int .u8 x.f2.f1.f0, .int .u8 x.f2.f1.f1, .int .u8 x.f2.f1.f2, .int .u8 x.f2.f1.f3, .int .i64 x.f2.f1.f4, .int .i64 x.f2.f1.f5, .int .i64 x.f2.f1.f6, .int .u8 x.f2.f1.f7, .int .i64 x.f2.f1.f8] := by
  obtain ⟨_, _, rfl, s0, ⟨_, _, rfl, s10, s20⟩⟩ := h
  obtain rfl := k26_openM s0
  obtain rfl := k26_openM s10
  obtain rfl := k26_openM s20
  exact rfl
theorem k53_mk (w : World) (x : S53)  : k53.K w x [.int .u16 x.f0.f0, .int .u8 x.f0.f1.f0, .int .u8 x.f0.f1.f1, .int .u8 x.f0.f1.f2, .int .u8 x.f0.f1.f3, .int .i64 x.f0.f1.f4, .int .i64 x.f0.f1.f5, .int .i64 x.f0.f1.f6, .int .u8 x.f0.f1.f7, .int .i64 x.f0.f1.f8, .int .u16 x.f1.f0, .int .u8 x.f1.f1.f0, .int .u8 x.f1.f1.f1, .int .u8 x.f1.f1.f2, .int .u8 x.f1.f1.f3, .int .i64 x.f1.f1.f4, .int .i64 x.f1.f1.f5, .int .i64 x.f1.f1.f6, .int .u8 x.f1.f1.f7, .int .i64 x.f1.f1.f8, .int .u16 x.f2.f0, .int .u8 x.f2.f1.f0, .int .u8 x.f2.f1.f1, .int .u8 x.f2.f1.f2, .int .u8 x.f2.f1.f3, .int .i64 x.f2.f1.f4, .int .i64 x.f2.f1.f5, .int .i64 x.f2.f1.f6, .int .u8 x.f2.f1.f7, .int .i64 x.f2.f1.f8] := ⟨[.int .u16 x.f0.f0, .int .u8 x.f0.f1.f0, .int .u8 x.f0.f1.f1, .int .u8 x.f0.f1.f2, .int .u8 x.f0.f1.f3, .int .i64 x.f0.f1.f4, .int .i64 x.f0.f1.f5, .int .i64 x.f0.f1.f6, .int .u8 x.f0.f1.f7, .int .i64 x.f0.f1.f8], [.int .u16 x.f1.f0, .int .u8 x.f1.f1.f0, .int .u8 x.f1.f1.f1, .int .u8 x.f1.f1.f2, .int .u8 x.f1.f1.f3, .int .i64 x.f1.f1.f4, .int .i64 x.f1.f1.f5, .int .i64 x.f1.f1.f6, .int .u8 x.f1.f1.f7, .int .i64 x.f1.f1.f8, .int .u16 x.f2.f0, .int .u8 x.f2.f1.f0, .int .u8 x.f2.f1.f1, .int .u8 x.f2.f1.f2, .int .u8 x.f2.f1.f3, .int .i64 x.f2.f1.f4, .int .i64 x.f2.f1.f5, .int .i64 x.f2.f1.f6, .int .u8 x.f2.f1.f7, .int .i64 x.f2.f1.f8], rfl, (k26_mk w x.f0 ), ⟨[.int .u16 x.f1.f0, .int .u8 x.f1.f1.f0, .int .u8 x.f1.f1.f1, .int .u8 x.f1.f1.f2, .int .u8 x.f1.f1.f3, .int .i64 x.f1.f1.f4, .int .i64 x.f1.f1.f5, .int .i64 x.f1.f1.f6, .int .u8 x.f1.f1.f7, .int .i64 x.f1.f1.f8], [.int .u16 x.f2.f0, .int .u8 x.f2.f1.f0, .int .u8 x.f2.f1.f1, .int .u8 x.f2.f1.f2, .int .u8 x.f2.f1.f3, .int .i64 x.f2.f1.f4, .int .i64 x.f2.f1.f5, .int .i64 x.f2.f1.f6, .int .u8 x.f2.f1.f7, .int .i64 x.f2.f1.f8], rfl, (k26_mk w x.f1 ), (k26_mk w x.f2 )⟩⟩
theorem k53_mkM (w : World) (base : Nat) (ok : Nat → Prop) (x : S53)  : k53.M w base ok x [.int .u16 x.f0.f0, .int .u8 x.f0.f1.f0, .int .u8 x.f0.f1.f1, .int .u8 x.f0.f1.f2, .int .u8 x.f0.f1.f3, .int .i64 x.f0.f1.f4, .int .i64 x.f0.f1.f5, .int .i64 x.f0.f1.f6, .int .u8 x.f0.f1.f7, .int .i64 x.f0.f1.f8, .int .u16 x.f1.f0, .int .u8 x.f1.f1.f0, .int .u8 x.f1.f1.f1, .int .u8 x.f1.f1.f2, .int .u8 x.f1.f1.f3, .int .i64 x.f1.f1.f4, .int .i64 x.f1.f1.f5, .int .i64 x.f1.f1.f6, .int .u8 x.f1.f1.f7, .int .i64 x.f1.f1.f8, .int .u16 x.f2.f0, .int .u8 x.f2.f1.f0, .int .u8 x.f2.f1.f1, .int .u8 x.f2.f1.f2, .int .u8 x.f2.f1.f3, .int .i64 x.f2.f1.f4, .int .i64 x.f2.f1.f5, .int .i64 x.f2.f1.f6, .int .u8 x.f2.f1.f7, .int .i64 x.f2.f1.f8] := ⟨[.int .u16 x.f0.f0, .int .u8 x.f0.f1.f0, .int .u8 x.f0.f1.f1, .int .u8 x.f0.f1.f2, .int .u8 x.f0.f1.f3, .int .i64 x.f0.f1.f4, .int .i64 x.f0.f1.f5, .int .i64 x.f0.f1.f6, .int .u8 x.f0.f1.f7, .int .i64 x.f0.f1.f8], [.int .u16 x.f1.f0, .int .u8 x.f1.f1.f0, .int .u8 x.f1.f1.f1, .int .u8 x.f1.f1.f2, .int .u8 x.f1.f1.f3, .int .i64 x.f1.f1.f4, .int .i64 x.f1.f1.f5, .int .i64 x.f1.f1.f6, .int .u8 x.f1.f1.f7, .int .i64 x.f1.f1.f8, .int .u16 x.f2.f0, .int .u8 x.f2.f1.f0, .int .u8 x.f2.f1.f1, .int .u8 x.f2.f1.f2, .int .u8 x.f2.f1.f3, .int .i64 x.f2.f1.f4, .int .i64 x.f2.f1.f5, .int .i64 x.f2.f1.f6, .int .u8 x.f2.f1.f7, .int .i64 x.f2.f1.f8], rfl, (k26_mkM w base ok x.f0 ), ⟨[.int .u16 x.f1.f0, .int .u8 x.f1.f1.f0, .int .u8 x.f1.f1.f1, .int .u8 x.f1.f1.f2, .int .u8 x.f1.f1.f3, .int .i64 x.f1.f1.f4, .int .i64 x.f1.f1.f5, .int .i64 x.f1.f1.f6, .int .u8 x.f1.f1.f7, .int .i64 x.f1.f1.f8], [.int .u16 x.f2.f0, .int .u8 x.f2.f1.f0, .int .u8 x.f2.f1.f1, .int .u8 x.f2.f1.f2, .int .u8 x.f2.f1.f3, .int .i64 x.f2.f1.f4, .int .i64 x.f2.f1.f5, .int .i64 x.f2.f1.f6, .int .u8 x.f2.f1.f7, .int .i64 x.f2.f1.f8], rfl, (k26_mkM w base ok x.f1 ), (k26_mkM w base ok x.f2 )⟩⟩
def rd_T53 (xs : List S53) (i : Int) : S53 := xs.getD i.toNat z53
theorem at_T53 {w : World} {A : Option Addr} {n : Nat} {xs : List S53} (h : Kd.C k53 w A n xs) (i : Int) (h0 : 0 ≤ i) (h1 : i < n) : ∃ ad , A = some ad ∧ w.cell? (ad.add (i.toNat * 30)) = some (.int .u16 (rd_T53 xs i).f0.f0) ∧ w.cell? ⟨(ad.add (i.toNat * 30)).block, (ad.add (i.toNat * 30)).off + 1, none⟩ = some (.int .u8 (rd_T53 xs i).f0.f1.f0) ∧ w.cell? ⟨(ad.add (i.toNat * 30)).block, (ad.add (i.toNat * 30)).off + 2, none⟩ = some (.int .u8 (rd_T53 xs i).f0.f1.f1) ∧ w.cell? ⟨(ad.add (i.toNat * 30)).block, (ad.add (i.toNat * 30)).off + 3, none⟩ = some (.int .u8 (rd_T53 xs i).f0.f1.f2) ∧ w.cell? ⟨(ad.add (i.toNat * 30)).block, (ad.add (i.toNat * 30)).off + 4, none⟩ = some (.int .u8 (rd_T53 xs i).f0.f1.f3) ∧ w.cell? ⟨(ad.add (i.toNat * 30)).block, (ad.add (i.toNat * 30)).off + 5, none⟩ = some (.int .i64 (rd_T53 xs i).f0.f1.f4) ∧ w.cell? ⟨(ad.add (i.toNat * 30)).block, (ad.add (i.toNat * 30)).off + 6, none⟩ = some (.int .i64 (rd_T53 xs i).f0.f1.f5) ∧ w.cell? ⟨(ad.add (i.toNat * 30)).block, (ad.add (i.toNat * 30)).off + 7, none⟩ = some (.int .i64 (rd_T53 xs i).f0.f1.f6) ∧ w.cell? ⟨(ad.add (i.toNat * 30)).block, (ad.add (i.toNat * 30)).off + 8, none⟩ = some (.int .u8 (rd_T53 xs i).f0.f1.f7) ∧ w.cell? ⟨(ad.add (i.toNat * 30)).block, (ad.add (i.toNat * 30)).off + 9, none⟩ = some (.int .i64 (rd_T53 xs i).f0.f1.f8) ∧ w.cell? ⟨(ad.add (i.toNat * 30)).block, (ad.add (i.toNat * 30)).off + 10, none⟩ = some (.int .u16 (rd_T53 xs i).f1.f0) ∧ w.cell? ⟨(ad.add (i.toNat * 30)).block, (ad.add (i.toNat * 30)).off + 11, none⟩ = some (.int .u8 (rd_T53 xs i).f1.f1.f0) ∧ w.cell? ⟨(ad.add (i.toNat * 30)).block, (ad.add (i.toNat * 30)).off + 12, none⟩ = some (.int .u8 (rd_T53 xs i).f1.f1.f1) ∧ w.cell? ⟨(ad.add (i.toNat * 30)).block, (ad.add (i.toNat * 30)).off + 13, none⟩ = some (.int .u8 (rd_T53 xs i).f1.f1.f2) ∧ w.cell? ⟨(ad.add (i.toNat * 30)).block, (ad.add (i.toNat * 30)).off + 14, none⟩ = some (.int .u8 (rd_T53 xs i).f1.f1.f3) ∧ w.cell? ⟨(ad.add (i.toNat * 30)).block, (ad.add (i.toNat * 30)).off + 15, none⟩ = some (.int .i64 (rd_T53 xs i).f1.f1.f4) ∧ w.cell? ⟨(ad.add (i.toNat * 30)).block, (ad.add (i.toNat * 30)).off + 16, none⟩ = some (.int .i64 (rd_T53 xs i).f1.f1.f5) ∧ w.cell? ⟨(ad.add (i.toNat * 30)).block, (ad.add (i.toNat * 30)).off + 17, none⟩ = some (.int .i64 (rd_T53 xs i).f1.f1.f6) ∧ w.cell? ⟨(ad.add (i.toNat * 30)).block, (ad.add (i.toNat * 30)).off + 18, none⟩ = some (.int .u8 (rd_T53 xs i).f1.f1.f7) ∧ w.cell? ⟨(ad.add (i.toNat * 30)).block, (ad.add (i.toNat * 30)).off + 19, none⟩ = some (.int .i64 (rd_T53 xs i).f1.f1.f8) ∧ w.cell? ⟨(ad.add (i.toNat * 30)).block, (ad.add (i.toNat * 30)).off + 20, none⟩ = some (.int .u16 (rd_T53 xs i).f2.f0) ∧ w.cell? ⟨(ad.add (i.toNat * 30)).block, (ad.add (i.toNat * 30)).off + 21, none⟩ = some (.int .u8 (rd_T53 xs i).f2.f1.f0) ∧ w.cell? ⟨(ad.add (i.toNat * 30)).block, (ad.add (i.toNat * 30)).off + 22, none⟩ = some (.int .u8 (rd_T53 xs i).f2.f1.f1) ∧ w.cell? ⟨(ad.add (i.toNat * 30)).block, (ad.add (i.toNat * 30)).off + 23, none⟩ = some (.int .u8 (rd_T53 xs i).f2.f1.f2) ∧ w.cell? ⟨(ad.add (i.toNat * 30)).block, (ad.add (i.toNat * 30)).off + 24, none⟩ = some (.int .u8 (rd_T53 xs i).f2.f1.f3) ∧ w.cell? ⟨(ad.add (i.toNat * 30)).block, (ad.add (i.toNat * 30)).off + 25, none⟩ = some (.int .i64 (rd_T53 xs i).f2.f1.f4) ∧ w.cell? ⟨(ad.add (i.toNat * 30)).block, (ad.add (i.toNat * 30)).off + 26, none⟩ = some (.int .i64 (rd_T53 xs i).f2.f1.f5) ∧ w.cell? ⟨(ad.add (i.toNat * 30)).block, (ad.add (i.toNat * 30)).off + 27, none⟩ = some (.int .i64 (rd_T53 xs i).f2.f1.f6) ∧ w.cell? ⟨(ad.add (i.toNat * 30)).block, (ad.add (i.toNat * 30)).off + 28, none⟩ = some (.int .u8 (rd_T53 xs i).f2.f1.f7) ∧ w.cell? ⟨(ad.add (i.toNat * 30)).block, (ad.add (i.toNat * 30)).off + 29, none⟩ = some (.int .i64 (rd_T53 xs i).f2.f1.f8) := by
  obtain ⟨ad, c, e, _, hK, hc0⟩ := Kd.C_get h z53 i h0 h1
  have hc : ∀ j u, c[j]? = some u → w.cell? (ad.add (i.toNat * 30 + j)) = some u := hc0
  obtain rfl := k53_open hK
  exact ⟨ad, e, hc 0 _ rfl, by rw [← add_field _ _ 1 (by omega)]; exact hc 1 _ rfl, by rw [← add_field _ _ 2 (by omega)]; exact hc 2 _ rfl, by rw [← add_field _ _ 3 (by omega)]; exact hc 3 _ rfl, by rw [← add_field _ _ 4 (by omega)]; exact hc 4 _ rfl, by rw [← add_field _ _ 5 (by omega)]; exact hc 5 _ rfl, by rw [← add_field _ _ 6 (by omega)]; exact hc 6 _ rfl, by rw [← add_field _ _ 7 (by omega)]; exact hc 7 _ rfl, by rw [← add_field _ _ 8 (by omega)]; exact hc 8 _ rfl, by rw [← add_field _ _ 9 (by omega)]; exact hc 9 _ rfl, by rw [← add_field _ _ 10 (by omega)]; exact hc 10 _ rfl, by rw [← add_field _ _ 11 (by omega)]; exact hc 11 _ rfl, by rw [← add_field _ _ 12 (by omega)]; exact hc 12 _ rfl, by rw [← add_field _ _ 13 (by omega)]; exact hc 13 _ rfl, by rw [← add_field _ _ 14 (by omega)]; exact hc 14 _ rfl, by rw [← add_field _ _ 15 (by omega)]; exact hc 15 _ rfl, by rw [← add_field _ _ 16 (by omega)]; exact hc 16 _ rfl, by rw [← add_field _ _ 17 (by omega)]; exact hc 17 _ rfl, by rw [← add_field _ _ 18 (by omega)]; exact hc 18 _ rfl, by rw [← add_field _ _ 19 (by omega)]; exact hc 19 _ rfl, by rw [← add_field _ _ 20 (by omega)]; exact hc 20 _ rfl, by rw [← add_field _ _ 21 (by omega)]; exact hc 21 _ rfl, by rw [← add_field _ _ 22 (by omega)]; exact hc 22 _ rfl, by rw [← add_field _ _ 23 (by omega)]; exact hc 23 _ rfl, by rw [← add_field _ _ 24 (by omega)]; exact hc 24 _ rfl, by rw [← add_field _ _ 25 (by omega)]; exact hc 25 _ rfl, by rw [← add_field _ _ 26 (by omega)]; exact hc 26 _ rfl, by rw [← add_field _ _ 27 (by omega)]; exact hc 27 _ rfl, by rw [← add_field _ _ 28 (by omega)]; exact hc 28 _ rfl, by rw [← add_field _ _ 29 (by omega)]; exact hc 29 _ rfl⟩

/-! #### struct type 56 -/
structure S56 where
  f0 : Int
  f1 : S26
def z56 : S56 := ⟨(0 : Int), z26⟩
def k56 : Kd S56 := Kd.iso (Kd.pair (Kd.int .i64) k26) (fun x : S56 => (x.f0, x.f1))
theorem k56_open {w : World} {x : S56} {cs : List Value} (h : k56.K w x cs) : cs = [.int .i64 x.f0, .int .u16 x.f1.f0, .int .u8 x.f1.f1.f0, .int .u8 x.f1.f1.f1, .int .u8 x.f1.f1.f2, .int .u8 x.f1.f1.f3, .int .i64 x.f1.f1.f4, .int .i64 x.f1.f1.f5, .int .i64 x.f1.f1.f6, .int .u8 x.f1.f1.f7, .int .i64 x.f1.f1.f8] := by
  obtain ⟨_, _, rfl, rfl, s1⟩ := h
  obtain rfl := k26_open s1
  exact rfl
theorem k56_openM {w : World} {base : Nat} {ok : Nat → Prop} {x : S56} {cs : List Value} (h : k56.M w base ok x cs) : cs = [.int .i64 x.f0, .int .u16 x.f1.f0, .int .u8 x.f1.f1.f0, .int .u8 x.f1.f1.f1, .int .u8 x.f1.f1.f2, .int .u8 x.f1.f1.f3, .int .i64 x.f1.f1.f4, .int .i64 x.f1.f1.f5, .int .i64 x.f1.f1.f6, .int .u8 x.f1.f1.f7, .int .i64 x.f1.f1.f8] := by
  obtain ⟨_, _, rfl, rfl, s1⟩ := h
  obtain rfl := k26_openM s1
  exact rfl
theorem k56_mk (w : World) (x : S56)  : k56.K w x [.int .i64 x.f0, .int .u16 x.f1.f0, .int .u8 x.f1.f1.f0, .int .u8 x.f1.f1.f1, .int .u8 x.f1.f1.f2, .int .u8 x.f1.f1.f3, .int .i64 x.f1.f1.f4, .int .i64 x.f1.f1.f5, .int .i64 x.f1.f1.f6, .int .u8 x.f1.f1.f7, .int .i64 x.f1.f1.f8] := ⟨[.int .i64 x.f0], [.int .u16 x.f1.f0, .int .u8 x.f1.f1.f0, .int .u8 x.f1.f1.f1, .int .u8 x.f1.f1.f2, .int .u8 x.f1.f1.f3, .int .i64 x.f1.f1.f4, .int .i64 x.f1.f1.f5, .int .i64 x.f1.f1.f6, .int .u8 x.f1.f1.f7, .int .i64 x.f1.f1.f8], rfl, rfl, (k26_mk w x.f1 )⟩
theorem k56_mkM (w : World) (base : Nat) (ok : Nat → Prop) (x : S56)  : k56.M w base ok x [.int .i64 x.f0, .int .u16 x.f1.f0, .int .u8 x.f1.f1.f0, .int .u8 x.f1.f1.f1, .int .u8 x.f1.f1.f2, .int .u8 x.f1.f1.f3, .int .i64 x.f1.f1.f4, .int .i64 x.f1.f1.f5, .int .i64 x.f1.f1.f6, .int .u8 x.f1.f1.f7, .int .i64 x.f1.f1.f8] := ⟨[.int .i64 x.f0], [.int .u16 x.f1.f0, .int .u8 x.f1.f1.f0, .int .u8 x.f1.f1.f1, .int .u8 x.f1.f1.f2, .int .u8 x.f1.f1.f3, .int .i64 x.f1.f1.f4, .int .i64 x.f1.f1.f5, .int .i64 x.f1.f1.f6, .int .u8 x.f1.f1.f7, .int .i64 x.f1.f1.f8], rfl, rfl, (k26_mkM w base ok x.f1 )⟩
def rd_T56 (xs : List S56) (i : Int) : S56 := xs.getD i.toNat z56
theorem at_T56 {w : World} {A : Option Addr} {n : Nat} {xs : List S56} (h : Kd.C k56 w A n xs) (i : Int) (h0 : 0 ≤ i) (h1 : i < n) : ∃ ad , A = some ad ∧ w.cell? (ad.add (i.toNat * 11)) = some (.int .i64 (rd_T56 xs i).f0) ∧ w.cell? ⟨(ad.add (i.toNat * 11)).block, (ad.add (i.toNat * 11)).off + 1, none⟩ = some (.int .u16 (rd_T56 xs i).f1.f0) ∧ w.cell? ⟨(ad.add (i.toNat * 11)).block, (ad.add (i.toNat * 11)).off + 2, none⟩ = some (.int .u8 (rd_T56 xs i).f1.f1.f0) ∧ w.cell? ⟨(ad.add (i.toNat * 11)).block, (ad.add (i.toNat * 11)).off + 3, none⟩ = some (.int .u8 (rd_T56 xs i).f1.f1.f1) ∧ w.cell? ⟨(ad.add (i.toNat * 11)).block, (ad.add (i.toNat * 11)).off + 4, none⟩ = some (.int .u8 (rd_T56 xs i).f1.f1.f2) ∧ w.cell? ⟨(ad.add (i.toNat * 11)).block, (ad.add (i.toNat * 11)).off + 5, none⟩ = some (.int .u8 (rd_T56 xs i).f1.f1.f3) ∧ w.cell? ⟨(ad.add (i.toNat * 11)).block, (ad.add (i.toNat * 11)).off + 6, none⟩ = some (.int .i64 (rd_T56 xs i).f1.f1.f4) ∧ w.cell? ⟨(ad.add (i.toNat * 11)).block, (ad.add (i.toNat * 11)).off + 7, none⟩ = some (.int .i64 (rd_T56 xs i).f1.f1.f5) ∧ w.cell? ⟨(ad.add (i.toNat * 11)).block, (ad.add (i.toNat * 11)).off + 8, none⟩ = some (.int .i64 (rd_T56 xs i).f1.f1.f6) ∧ w.cell? ⟨(ad.add (i.toNat * 11)).block, (ad.add (i.toNat * 11)).off + 9, none⟩ = some (.int .u8 (rd_T56 xs i).f1.f1.f7) ∧ w.cell? ⟨(ad.add (i.toNat * 11)).block, (ad.add (i.toNat * 11)).off + 10, none⟩ = some (.int .i64 (rd_T56 xs i).f1.f1.f8) := by
  obtain ⟨ad, c, e, _, hK, hc0⟩ := Kd.C_get h z56 i h0 h1
  have hc : ∀ j u, c[j]? = some u → w.cell? (ad.add (i.toNat * 11 + j)) = some u := hc0
  obtain rfl := k56_open hK
  exact ⟨ad, e, hc 0 _ rfl, by rw [← add_field _ _ 1 (by omega)]; exact hc 1 _ rfl, by rw [← add_field _ _ 2 (by omega)]; exact hc 2 _ rfl, by rw [← add_field _ _ 3 (by omega)]; exact hc 3 _ rfl, by rw [← add_field _ _ 4 (by omega)]; exact hc 4 _ rfl, by rw [← add_field _ _ 5 (by omega)]; exact hc 5 _ rfl, by rw [← add_field _ _ 6 (by omega)]; exact hc 6 _ rfl, by rw [← add_field _ _ 7 (by omega)]; exact hc 7 _ rfl, by rw [← add_field _ _ 8 (by omega)]; exact hc 8 _ rfl, by rw [← add_field _ _ 9 (by omega)]; exact hc 9 _ rfl, by rw [← add_field _ _ 10 (by omega)]; exact hc 10 _ rfl⟩

end Go.Proofs.Ytahpkfmgeifenaa.HStyle
