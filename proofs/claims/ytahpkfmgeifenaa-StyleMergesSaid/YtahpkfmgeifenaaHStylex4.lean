-- Written by this claim's own program over the kit's print.
import Derived.Test.YtahpkfmgeifenaaHStylex0
import Derived.Test.YtahpkfmgeifenaaHand3
import Derived.StillTailTactics
namespace Go.Proofs.Ytahpkfmgeifenaa.HStyle
open Go.RowKit Go.Proofs.YtahpkfmgeifenaaW.PrintWords Go.Proofs.YtahpkfmgeifenaaW.PrintLast Go.Proofs.YtahpkfmgeifenaaW.PrintMore
attribute [local go_sem] max2_int min2_int max_two min_two max_three min_three max_four min_four   -- for this text's walks alone
set_option linter.unusedVariables false
set_option linter.unusedSimpArgs false

-- BY HAND: function 16
section
open Go.Proofs.Ytahpkfmgeifenaa.Hand
def fv (n : Nat) : Value := .func (.func n) #[] #[]
def partsC : Array Value := #[.int .u16 1, fv 39, fv 40, .int .u16 2, fv 41, fv 42, .int .u16 4, fv 43, fv 44, .int .u16 8, fv 45, fv 46, .int .u16 16, fv 47, fv 48, .int .u16 32, fv 49, fv 50, .int .u16 64, fv 51, fv 53, .int .u16 128, fv 54, fv 55]
set_option maxRecDepth 100000 in
set_option maxHeartbeats 4000000 in
theorem parts_any (w : World) : Calls Try.prog 33 #[] w fun e w' => e = .returned (.agg partsC) ∧ Below w.heap.size w w' := by
  go_enter Try.func33, Try.ntmps33
  go_wp2_with (first | ((with_reducible refine gate_dst (N := 0) rfl ?_); refine box_event ?hg (N := 0) ?hd (cs := #[.int .u16 0, .nilFunc, .nilFunc, .int .u16 0, .nilFunc, .nilFunc, .int .u16 0, .nilFunc, .nilFunc, .int .u16 0, .nilFunc, .nilFunc, .int .u16 0, .nilFunc, .nilFunc, .int .u16 0, .nilFunc, .nilFunc, .int .u16 0, .nilFunc, .nilFunc, .int .u16 0, .nilFunc, .nilFunc]) (t := 78) ?hr ?_; (case hd => rfl); (case hg => rfl); (case hr => first | (go_simp; done) | (go_simp; rfl)); intro gb hg w1 hbox hb; have hge := Nat.le_of_eq hg.symm; clear hg) | ((with_reducible refine gate_store (t := 78) (p := 0) (v := .tmp 9) rfl ?_); refine store_row_event rfl 78 (.tmp 0) (.tmp 9) rfl rfl gb partsC rfl rfl 78 _ hbox (by kernel_rfl) rfl (by simp [partsC, fv, Value.oneCell']) ?_; intro w2 hw2 _ hw2b; have hb2 := hw2b _ _ hge hb; clear hw2b))
  refine bodyPost_ret (results_cell_row rfl _ _ gb 78 partsC (0, 0) _ rfl hw2 Try.underlying78 rfl (by kernel_rfl)) rfl ?_
  exact ⟨rfl, hb2⟩

def unitsP (n : Int) : Bool := decide (0 ≤ n) && decide (n ≤ 1073741824)
theorem units_any (n : Int) (w : World) : Calls Try.prog 52 #[.int .i64 n] w fun e w' => e = .returned (.bool (unitsP n)) ∧ w' = w := by
  go_enter Try.func52, Try.ntmps52
  go_wp2
  all_goals go_ret
  all_goals exact ⟨by (first | (simp [unitsP, *]; done) | (simp [unitsP, *]; omega)), rfl⟩

/-- May part k of a style be? -/
def mayP (s : S23) : Nat → Bool
  | 0 => decide (s.f0 ≤ 5)
  | 1 => decide (s.f1 ≤ 2)
  | 2 => decide (s.f2 ≤ 1)
  | 3 => decide (s.f3 ≤ 3)
  | 4 => (decide (0 ≤ s.f4) && decide (s.f4 ≤ 64))
  | 5 => (decide (0 ≤ s.f5) && decide (s.f5 < 64))
  | 6 => unitsP s.f6
  | _ => (decide (s.f7 ≤ 2) && unitsP s.f8)
theorem may0_any (s : S23) (w : World) : Calls Try.prog 39 #[.agg #[.int .u8 s.f0, .int .u8 s.f1, .int .u8 s.f2, .int .u8 s.f3, .int .i64 s.f4, .int .i64 s.f5, .int .i64 s.f6, .int .u8 s.f7, .int .i64 s.f8]] w fun e w' => e = .returned (.bool (mayP s 0)) ∧ Below w.heap.size w w' := by
  go_enter Try.func39, Try.ntmps39
  go_wp2_with (first | ((go_at_call 52); (with_reducible refine (units_any _ _).mono ?_); rintro e w' ⟨rfl, rfl⟩))
  all_goals go_ret
  all_goals exact ⟨by (first | (simp [mayP, *]; done) | (simp [mayP, *]; omega) | (simp [mayP, *]; intro h; omega)), (Below.refl _ w).alloc (Nat.le_refl _) _⟩
theorem may1_any (s : S23) (w : World) : Calls Try.prog 41 #[.agg #[.int .u8 s.f0, .int .u8 s.f1, .int .u8 s.f2, .int .u8 s.f3, .int .i64 s.f4, .int .i64 s.f5, .int .i64 s.f6, .int .u8 s.f7, .int .i64 s.f8]] w fun e w' => e = .returned (.bool (mayP s 1)) ∧ Below w.heap.size w w' := by
  go_enter Try.func41, Try.ntmps41
  go_wp2_with (first | ((go_at_call 52); (with_reducible refine (units_any _ _).mono ?_); rintro e w' ⟨rfl, rfl⟩))
  all_goals go_ret
  all_goals exact ⟨by (first | (simp [mayP, *]; done) | (simp [mayP, *]; omega) | (simp [mayP, *]; intro h; omega)), (Below.refl _ w).alloc (Nat.le_refl _) _⟩
theorem may2_any (s : S23) (w : World) : Calls Try.prog 43 #[.agg #[.int .u8 s.f0, .int .u8 s.f1, .int .u8 s.f2, .int .u8 s.f3, .int .i64 s.f4, .int .i64 s.f5, .int .i64 s.f6, .int .u8 s.f7, .int .i64 s.f8]] w fun e w' => e = .returned (.bool (mayP s 2)) ∧ Below w.heap.size w w' := by
  go_enter Try.func43, Try.ntmps43
  go_wp2_with (first | ((go_at_call 52); (with_reducible refine (units_any _ _).mono ?_); rintro e w' ⟨rfl, rfl⟩))
  all_goals go_ret
  all_goals exact ⟨by (first | (simp [mayP, *]; done) | (simp [mayP, *]; omega) | (simp [mayP, *]; intro h; omega)), (Below.refl _ w).alloc (Nat.le_refl _) _⟩
theorem may3_any (s : S23) (w : World) : Calls Try.prog 45 #[.agg #[.int .u8 s.f0, .int .u8 s.f1, .int .u8 s.f2, .int .u8 s.f3, .int .i64 s.f4, .int .i64 s.f5, .int .i64 s.f6, .int .u8 s.f7, .int .i64 s.f8]] w fun e w' => e = .returned (.bool (mayP s 3)) ∧ Below w.heap.size w w' := by
  go_enter Try.func45, Try.ntmps45
  go_wp2_with (first | ((go_at_call 52); (with_reducible refine (units_any _ _).mono ?_); rintro e w' ⟨rfl, rfl⟩))
  all_goals go_ret
  all_goals exact ⟨by (first | (simp [mayP, *]; done) | (simp [mayP, *]; omega) | (simp [mayP, *]; intro h; omega)), (Below.refl _ w).alloc (Nat.le_refl _) _⟩
theorem may4_any (s : S23) (w : World) : Calls Try.prog 47 #[.agg #[.int .u8 s.f0, .int .u8 s.f1, .int .u8 s.f2, .int .u8 s.f3, .int .i64 s.f4, .int .i64 s.f5, .int .i64 s.f6, .int .u8 s.f7, .int .i64 s.f8]] w fun e w' => e = .returned (.bool (mayP s 4)) ∧ Below w.heap.size w w' := by
  go_enter Try.func47, Try.ntmps47
  go_wp2_with (first | ((go_at_call 52); (with_reducible refine (units_any _ _).mono ?_); rintro e w' ⟨rfl, rfl⟩))
  all_goals go_ret
  all_goals exact ⟨by (first | (simp [mayP, *]; done) | (simp [mayP, *]; omega) | (simp [mayP, *]; intro h; omega)), (Below.refl _ w).alloc (Nat.le_refl _) _⟩
theorem may5_any (s : S23) (w : World) : Calls Try.prog 49 #[.agg #[.int .u8 s.f0, .int .u8 s.f1, .int .u8 s.f2, .int .u8 s.f3, .int .i64 s.f4, .int .i64 s.f5, .int .i64 s.f6, .int .u8 s.f7, .int .i64 s.f8]] w fun e w' => e = .returned (.bool (mayP s 5)) ∧ Below w.heap.size w w' := by
  go_enter Try.func49, Try.ntmps49
  go_wp2_with (first | ((go_at_call 52); (with_reducible refine (units_any _ _).mono ?_); rintro e w' ⟨rfl, rfl⟩))
  all_goals go_ret
  all_goals exact ⟨by (first | (simp [mayP, *]; done) | (simp [mayP, *]; omega) | (simp [mayP, *]; intro h; omega)), (Below.refl _ w).alloc (Nat.le_refl _) _⟩
theorem may6_any (s : S23) (w : World) : Calls Try.prog 51 #[.agg #[.int .u8 s.f0, .int .u8 s.f1, .int .u8 s.f2, .int .u8 s.f3, .int .i64 s.f4, .int .i64 s.f5, .int .i64 s.f6, .int .u8 s.f7, .int .i64 s.f8]] w fun e w' => e = .returned (.bool (mayP s 6)) ∧ Below w.heap.size w w' := by
  go_enter Try.func51, Try.ntmps51
  go_wp2_with (first | ((go_at_call 52); (with_reducible refine (units_any _ _).mono ?_); rintro e w' ⟨rfl, rfl⟩))
  all_goals go_ret
  all_goals exact ⟨by (first | (simp [mayP, *]; done) | (simp [mayP, *]; omega) | (simp [mayP, *]; intro h; omega)), (Below.refl _ w).alloc (Nat.le_refl _) _⟩
theorem may7_any (s : S23) (w : World) : Calls Try.prog 54 #[.agg #[.int .u8 s.f0, .int .u8 s.f1, .int .u8 s.f2, .int .u8 s.f3, .int .i64 s.f4, .int .i64 s.f5, .int .i64 s.f6, .int .u8 s.f7, .int .i64 s.f8]] w fun e w' => e = .returned (.bool (mayP s 7)) ∧ Below w.heap.size w w' := by
  go_enter Try.func54, Try.ntmps54
  go_wp2_with (first | ((go_at_call 52); (with_reducible refine (units_any _ _).mono ?_); rintro e w' ⟨rfl, rfl⟩))
  all_goals go_ret
  all_goals exact ⟨by (first | (simp [mayP, *]; done) | (simp [mayP, *]; omega) | (simp [mayP, *]; intro h; omega)), (Below.refl _ w).alloc (Nat.le_refl _) _⟩
/-- A style of which part k is another one's. -/
def oneP (s b : S23) : Nat → S23
  | 0 => { s with f0 := b.f0 }
  | 1 => { s with f1 := b.f1 }
  | 2 => { s with f2 := b.f2 }
  | 3 => { s with f3 := b.f3 }
  | 4 => { s with f4 := b.f4 }
  | 5 => { s with f5 := b.f5 }
  | 6 => { s with f6 := b.f6 }
  | _ => { s with f7 := b.f7, f8 := b.f8 }
set_option maxHeartbeats 1000000 in
theorem put0_any (a b : S23) (g : Nat) (w : World) (hg : w.heap[g]? = some (.cells #[.int .u8 a.f0, .int .u8 a.f1, .int .u8 a.f2, .int .u8 a.f3, .int .i64 a.f4, .int .i64 a.f5, .int .i64 a.f6, .int .u8 a.f7, .int .i64 a.f8] 23 (0, 0))) :
    Calls Try.prog 40 #[.pointer (some ⟨g, 0, none⟩), .agg #[.int .u8 b.f0, .int .u8 b.f1, .int .u8 b.f2, .int .u8 b.f3, .int .i64 b.f4, .int .i64 b.f5, .int .i64 b.f6, .int .u8 b.f7, .int .i64 b.f8]] w fun e w' => e = .returned (.tuple #[]) ∧ w'.heap[g]? = some (.cells #[.int .u8 (oneP a b 0).f0, .int .u8 (oneP a b 0).f1, .int .u8 (oneP a b 0).f2, .int .u8 (oneP a b 0).f3, .int .i64 (oneP a b 0).f4, .int .i64 (oneP a b 0).f5, .int .i64 (oneP a b 0).f6, .int .u8 (oneP a b 0).f7, .int .i64 (oneP a b 0).f8] 23 (0, 0)) ∧ KeepBut w w' g none ∧ ∀ n₀ w0, n₀ ≤ g → Below n₀ w0 w → Below n₀ w0 w' := by
  have hlt : g < w.heap.size := (Array.getElem?_eq_some_iff.1 hg).1
  go_enter Try.func40, Try.ntmps40
  go_wp2_with (first | ((with_reducible refine gate_dst (N := 3) rfl ?_); refine box_event ?hg (N := 3) ?hd (cs := #[.int .u8 b.f0, .int .u8 b.f1, .int .u8 b.f2, .int .u8 b.f3, .int .i64 b.f4, .int .i64 b.f5, .int .i64 b.f6, .int .u8 b.f7, .int .i64 b.f8]) (t := 23) ?hr ?_; (case hd => rfl); (case hg => rfl); (case hr => first | (go_simp; done) | (go_simp; rfl)); intro gb hgb w1 hbox hb; have hg1 := (hb.block g hlt).trans hg; have hcb0 : w1.cell? ⟨gb, 0, none⟩ = some (.int .u8 b.f0) := (blk_cell hbox 0).trans rfl; have hcg0 : w1.cell? ⟨g, 0, none⟩ = some (.int .u8 a.f0) := (blk_cell hg1 0).trans rfl; have hfg0 := blk_frozen hg1 0; clear hgb))
  go_end0
  exact ⟨rfl, blk_put hg1 0 _ rfl, (KeepBut.of_below hb g none).set_ 0 _, fun n₀ w0 hn h0 => (h0.trans (Below.mono hb (by omega))).setCell hn _⟩
set_option maxHeartbeats 1000000 in
theorem put1_any (a b : S23) (g : Nat) (w : World) (hg : w.heap[g]? = some (.cells #[.int .u8 a.f0, .int .u8 a.f1, .int .u8 a.f2, .int .u8 a.f3, .int .i64 a.f4, .int .i64 a.f5, .int .i64 a.f6, .int .u8 a.f7, .int .i64 a.f8] 23 (0, 0))) :
    Calls Try.prog 42 #[.pointer (some ⟨g, 0, none⟩), .agg #[.int .u8 b.f0, .int .u8 b.f1, .int .u8 b.f2, .int .u8 b.f3, .int .i64 b.f4, .int .i64 b.f5, .int .i64 b.f6, .int .u8 b.f7, .int .i64 b.f8]] w fun e w' => e = .returned (.tuple #[]) ∧ w'.heap[g]? = some (.cells #[.int .u8 (oneP a b 1).f0, .int .u8 (oneP a b 1).f1, .int .u8 (oneP a b 1).f2, .int .u8 (oneP a b 1).f3, .int .i64 (oneP a b 1).f4, .int .i64 (oneP a b 1).f5, .int .i64 (oneP a b 1).f6, .int .u8 (oneP a b 1).f7, .int .i64 (oneP a b 1).f8] 23 (0, 0)) ∧ KeepBut w w' g none ∧ ∀ n₀ w0, n₀ ≤ g → Below n₀ w0 w → Below n₀ w0 w' := by
  have hlt : g < w.heap.size := (Array.getElem?_eq_some_iff.1 hg).1
  go_enter Try.func42, Try.ntmps42
  go_wp2_with (first | ((with_reducible refine gate_dst (N := 3) rfl ?_); refine box_event ?hg (N := 3) ?hd (cs := #[.int .u8 b.f0, .int .u8 b.f1, .int .u8 b.f2, .int .u8 b.f3, .int .i64 b.f4, .int .i64 b.f5, .int .i64 b.f6, .int .u8 b.f7, .int .i64 b.f8]) (t := 23) ?hr ?_; (case hd => rfl); (case hg => rfl); (case hr => first | (go_simp; done) | (go_simp; rfl)); intro gb hgb w1 hbox hb; have hg1 := (hb.block g hlt).trans hg; have hcb1 : w1.cell? ⟨gb, 1, none⟩ = some (.int .u8 b.f1) := (blk_cell hbox 1).trans rfl; have hcg1 : w1.cell? ⟨g, 1, none⟩ = some (.int .u8 a.f1) := (blk_cell hg1 1).trans rfl; have hfg1 := blk_frozen hg1 1; clear hgb))
  go_end0
  exact ⟨rfl, blk_put hg1 1 _ rfl, (KeepBut.of_below hb g none).set_ 1 _, fun n₀ w0 hn h0 => (h0.trans (Below.mono hb (by omega))).setCell hn _⟩
set_option maxHeartbeats 1000000 in
theorem put2_any (a b : S23) (g : Nat) (w : World) (hg : w.heap[g]? = some (.cells #[.int .u8 a.f0, .int .u8 a.f1, .int .u8 a.f2, .int .u8 a.f3, .int .i64 a.f4, .int .i64 a.f5, .int .i64 a.f6, .int .u8 a.f7, .int .i64 a.f8] 23 (0, 0))) :
    Calls Try.prog 44 #[.pointer (some ⟨g, 0, none⟩), .agg #[.int .u8 b.f0, .int .u8 b.f1, .int .u8 b.f2, .int .u8 b.f3, .int .i64 b.f4, .int .i64 b.f5, .int .i64 b.f6, .int .u8 b.f7, .int .i64 b.f8]] w fun e w' => e = .returned (.tuple #[]) ∧ w'.heap[g]? = some (.cells #[.int .u8 (oneP a b 2).f0, .int .u8 (oneP a b 2).f1, .int .u8 (oneP a b 2).f2, .int .u8 (oneP a b 2).f3, .int .i64 (oneP a b 2).f4, .int .i64 (oneP a b 2).f5, .int .i64 (oneP a b 2).f6, .int .u8 (oneP a b 2).f7, .int .i64 (oneP a b 2).f8] 23 (0, 0)) ∧ KeepBut w w' g none ∧ ∀ n₀ w0, n₀ ≤ g → Below n₀ w0 w → Below n₀ w0 w' := by
  have hlt : g < w.heap.size := (Array.getElem?_eq_some_iff.1 hg).1
  go_enter Try.func44, Try.ntmps44
  go_wp2_with (first | ((with_reducible refine gate_dst (N := 3) rfl ?_); refine box_event ?hg (N := 3) ?hd (cs := #[.int .u8 b.f0, .int .u8 b.f1, .int .u8 b.f2, .int .u8 b.f3, .int .i64 b.f4, .int .i64 b.f5, .int .i64 b.f6, .int .u8 b.f7, .int .i64 b.f8]) (t := 23) ?hr ?_; (case hd => rfl); (case hg => rfl); (case hr => first | (go_simp; done) | (go_simp; rfl)); intro gb hgb w1 hbox hb; have hg1 := (hb.block g hlt).trans hg; have hcb2 : w1.cell? ⟨gb, 2, none⟩ = some (.int .u8 b.f2) := (blk_cell hbox 2).trans rfl; have hcg2 : w1.cell? ⟨g, 2, none⟩ = some (.int .u8 a.f2) := (blk_cell hg1 2).trans rfl; have hfg2 := blk_frozen hg1 2; clear hgb))
  go_end0
  exact ⟨rfl, blk_put hg1 2 _ rfl, (KeepBut.of_below hb g none).set_ 2 _, fun n₀ w0 hn h0 => (h0.trans (Below.mono hb (by omega))).setCell hn _⟩
set_option maxHeartbeats 1000000 in
theorem put3_any (a b : S23) (g : Nat) (w : World) (hg : w.heap[g]? = some (.cells #[.int .u8 a.f0, .int .u8 a.f1, .int .u8 a.f2, .int .u8 a.f3, .int .i64 a.f4, .int .i64 a.f5, .int .i64 a.f6, .int .u8 a.f7, .int .i64 a.f8] 23 (0, 0))) :
    Calls Try.prog 46 #[.pointer (some ⟨g, 0, none⟩), .agg #[.int .u8 b.f0, .int .u8 b.f1, .int .u8 b.f2, .int .u8 b.f3, .int .i64 b.f4, .int .i64 b.f5, .int .i64 b.f6, .int .u8 b.f7, .int .i64 b.f8]] w fun e w' => e = .returned (.tuple #[]) ∧ w'.heap[g]? = some (.cells #[.int .u8 (oneP a b 3).f0, .int .u8 (oneP a b 3).f1, .int .u8 (oneP a b 3).f2, .int .u8 (oneP a b 3).f3, .int .i64 (oneP a b 3).f4, .int .i64 (oneP a b 3).f5, .int .i64 (oneP a b 3).f6, .int .u8 (oneP a b 3).f7, .int .i64 (oneP a b 3).f8] 23 (0, 0)) ∧ KeepBut w w' g none ∧ ∀ n₀ w0, n₀ ≤ g → Below n₀ w0 w → Below n₀ w0 w' := by
  have hlt : g < w.heap.size := (Array.getElem?_eq_some_iff.1 hg).1
  go_enter Try.func46, Try.ntmps46
  go_wp2_with (first | ((with_reducible refine gate_dst (N := 3) rfl ?_); refine box_event ?hg (N := 3) ?hd (cs := #[.int .u8 b.f0, .int .u8 b.f1, .int .u8 b.f2, .int .u8 b.f3, .int .i64 b.f4, .int .i64 b.f5, .int .i64 b.f6, .int .u8 b.f7, .int .i64 b.f8]) (t := 23) ?hr ?_; (case hd => rfl); (case hg => rfl); (case hr => first | (go_simp; done) | (go_simp; rfl)); intro gb hgb w1 hbox hb; have hg1 := (hb.block g hlt).trans hg; have hcb3 : w1.cell? ⟨gb, 3, none⟩ = some (.int .u8 b.f3) := (blk_cell hbox 3).trans rfl; have hcg3 : w1.cell? ⟨g, 3, none⟩ = some (.int .u8 a.f3) := (blk_cell hg1 3).trans rfl; have hfg3 := blk_frozen hg1 3; clear hgb))
  go_end0
  exact ⟨rfl, blk_put hg1 3 _ rfl, (KeepBut.of_below hb g none).set_ 3 _, fun n₀ w0 hn h0 => (h0.trans (Below.mono hb (by omega))).setCell hn _⟩
set_option maxHeartbeats 1000000 in
theorem put4_any (a b : S23) (g : Nat) (w : World) (hg : w.heap[g]? = some (.cells #[.int .u8 a.f0, .int .u8 a.f1, .int .u8 a.f2, .int .u8 a.f3, .int .i64 a.f4, .int .i64 a.f5, .int .i64 a.f6, .int .u8 a.f7, .int .i64 a.f8] 23 (0, 0))) :
    Calls Try.prog 48 #[.pointer (some ⟨g, 0, none⟩), .agg #[.int .u8 b.f0, .int .u8 b.f1, .int .u8 b.f2, .int .u8 b.f3, .int .i64 b.f4, .int .i64 b.f5, .int .i64 b.f6, .int .u8 b.f7, .int .i64 b.f8]] w fun e w' => e = .returned (.tuple #[]) ∧ w'.heap[g]? = some (.cells #[.int .u8 (oneP a b 4).f0, .int .u8 (oneP a b 4).f1, .int .u8 (oneP a b 4).f2, .int .u8 (oneP a b 4).f3, .int .i64 (oneP a b 4).f4, .int .i64 (oneP a b 4).f5, .int .i64 (oneP a b 4).f6, .int .u8 (oneP a b 4).f7, .int .i64 (oneP a b 4).f8] 23 (0, 0)) ∧ KeepBut w w' g none ∧ ∀ n₀ w0, n₀ ≤ g → Below n₀ w0 w → Below n₀ w0 w' := by
  have hlt : g < w.heap.size := (Array.getElem?_eq_some_iff.1 hg).1
  go_enter Try.func48, Try.ntmps48
  go_wp2_with (first | ((with_reducible refine gate_dst (N := 3) rfl ?_); refine box_event ?hg (N := 3) ?hd (cs := #[.int .u8 b.f0, .int .u8 b.f1, .int .u8 b.f2, .int .u8 b.f3, .int .i64 b.f4, .int .i64 b.f5, .int .i64 b.f6, .int .u8 b.f7, .int .i64 b.f8]) (t := 23) ?hr ?_; (case hd => rfl); (case hg => rfl); (case hr => first | (go_simp; done) | (go_simp; rfl)); intro gb hgb w1 hbox hb; have hg1 := (hb.block g hlt).trans hg; have hcb4 : w1.cell? ⟨gb, 4, none⟩ = some (.int .i64 b.f4) := (blk_cell hbox 4).trans rfl; have hcg4 : w1.cell? ⟨g, 4, none⟩ = some (.int .i64 a.f4) := (blk_cell hg1 4).trans rfl; have hfg4 := blk_frozen hg1 4; clear hgb))
  go_end0
  exact ⟨rfl, blk_put hg1 4 _ rfl, (KeepBut.of_below hb g none).set_ 4 _, fun n₀ w0 hn h0 => (h0.trans (Below.mono hb (by omega))).setCell hn _⟩
set_option maxHeartbeats 1000000 in
theorem put5_any (a b : S23) (g : Nat) (w : World) (hg : w.heap[g]? = some (.cells #[.int .u8 a.f0, .int .u8 a.f1, .int .u8 a.f2, .int .u8 a.f3, .int .i64 a.f4, .int .i64 a.f5, .int .i64 a.f6, .int .u8 a.f7, .int .i64 a.f8] 23 (0, 0))) :
    Calls Try.prog 50 #[.pointer (some ⟨g, 0, none⟩), .agg #[.int .u8 b.f0, .int .u8 b.f1, .int .u8 b.f2, .int .u8 b.f3, .int .i64 b.f4, .int .i64 b.f5, .int .i64 b.f6, .int .u8 b.f7, .int .i64 b.f8]] w fun e w' => e = .returned (.tuple #[]) ∧ w'.heap[g]? = some (.cells #[.int .u8 (oneP a b 5).f0, .int .u8 (oneP a b 5).f1, .int .u8 (oneP a b 5).f2, .int .u8 (oneP a b 5).f3, .int .i64 (oneP a b 5).f4, .int .i64 (oneP a b 5).f5, .int .i64 (oneP a b 5).f6, .int .u8 (oneP a b 5).f7, .int .i64 (oneP a b 5).f8] 23 (0, 0)) ∧ KeepBut w w' g none ∧ ∀ n₀ w0, n₀ ≤ g → Below n₀ w0 w → Below n₀ w0 w' := by
  have hlt : g < w.heap.size := (Array.getElem?_eq_some_iff.1 hg).1
  go_enter Try.func50, Try.ntmps50
  go_wp2_with (first | ((with_reducible refine gate_dst (N := 3) rfl ?_); refine box_event ?hg (N := 3) ?hd (cs := #[.int .u8 b.f0, .int .u8 b.f1, .int .u8 b.f2, .int .u8 b.f3, .int .i64 b.f4, .int .i64 b.f5, .int .i64 b.f6, .int .u8 b.f7, .int .i64 b.f8]) (t := 23) ?hr ?_; (case hd => rfl); (case hg => rfl); (case hr => first | (go_simp; done) | (go_simp; rfl)); intro gb hgb w1 hbox hb; have hg1 := (hb.block g hlt).trans hg; have hcb5 : w1.cell? ⟨gb, 5, none⟩ = some (.int .i64 b.f5) := (blk_cell hbox 5).trans rfl; have hcg5 : w1.cell? ⟨g, 5, none⟩ = some (.int .i64 a.f5) := (blk_cell hg1 5).trans rfl; have hfg5 := blk_frozen hg1 5; clear hgb))
  go_end0
  exact ⟨rfl, blk_put hg1 5 _ rfl, (KeepBut.of_below hb g none).set_ 5 _, fun n₀ w0 hn h0 => (h0.trans (Below.mono hb (by omega))).setCell hn _⟩
set_option maxHeartbeats 1000000 in
theorem put6_any (a b : S23) (g : Nat) (w : World) (hg : w.heap[g]? = some (.cells #[.int .u8 a.f0, .int .u8 a.f1, .int .u8 a.f2, .int .u8 a.f3, .int .i64 a.f4, .int .i64 a.f5, .int .i64 a.f6, .int .u8 a.f7, .int .i64 a.f8] 23 (0, 0))) :
    Calls Try.prog 53 #[.pointer (some ⟨g, 0, none⟩), .agg #[.int .u8 b.f0, .int .u8 b.f1, .int .u8 b.f2, .int .u8 b.f3, .int .i64 b.f4, .int .i64 b.f5, .int .i64 b.f6, .int .u8 b.f7, .int .i64 b.f8]] w fun e w' => e = .returned (.tuple #[]) ∧ w'.heap[g]? = some (.cells #[.int .u8 (oneP a b 6).f0, .int .u8 (oneP a b 6).f1, .int .u8 (oneP a b 6).f2, .int .u8 (oneP a b 6).f3, .int .i64 (oneP a b 6).f4, .int .i64 (oneP a b 6).f5, .int .i64 (oneP a b 6).f6, .int .u8 (oneP a b 6).f7, .int .i64 (oneP a b 6).f8] 23 (0, 0)) ∧ KeepBut w w' g none ∧ ∀ n₀ w0, n₀ ≤ g → Below n₀ w0 w → Below n₀ w0 w' := by
  have hlt : g < w.heap.size := (Array.getElem?_eq_some_iff.1 hg).1
  go_enter Try.func53, Try.ntmps53
  go_wp2_with (first | ((with_reducible refine gate_dst (N := 3) rfl ?_); refine box_event ?hg (N := 3) ?hd (cs := #[.int .u8 b.f0, .int .u8 b.f1, .int .u8 b.f2, .int .u8 b.f3, .int .i64 b.f4, .int .i64 b.f5, .int .i64 b.f6, .int .u8 b.f7, .int .i64 b.f8]) (t := 23) ?hr ?_; (case hd => rfl); (case hg => rfl); (case hr => first | (go_simp; done) | (go_simp; rfl)); intro gb hgb w1 hbox hb; have hg1 := (hb.block g hlt).trans hg; have hcb6 : w1.cell? ⟨gb, 6, none⟩ = some (.int .i64 b.f6) := (blk_cell hbox 6).trans rfl; have hcg6 : w1.cell? ⟨g, 6, none⟩ = some (.int .i64 a.f6) := (blk_cell hg1 6).trans rfl; have hfg6 := blk_frozen hg1 6; clear hgb))
  go_end0
  exact ⟨rfl, blk_put hg1 6 _ rfl, (KeepBut.of_below hb g none).set_ 6 _, fun n₀ w0 hn h0 => (h0.trans (Below.mono hb (by omega))).setCell hn _⟩
set_option maxHeartbeats 1000000 in
theorem put7_any (a b : S23) (g : Nat) (w : World) (hg : w.heap[g]? = some (.cells #[.int .u8 a.f0, .int .u8 a.f1, .int .u8 a.f2, .int .u8 a.f3, .int .i64 a.f4, .int .i64 a.f5, .int .i64 a.f6, .int .u8 a.f7, .int .i64 a.f8] 23 (0, 0))) :
    Calls Try.prog 55 #[.pointer (some ⟨g, 0, none⟩), .agg #[.int .u8 b.f0, .int .u8 b.f1, .int .u8 b.f2, .int .u8 b.f3, .int .i64 b.f4, .int .i64 b.f5, .int .i64 b.f6, .int .u8 b.f7, .int .i64 b.f8]] w fun e w' => e = .returned (.tuple #[]) ∧ w'.heap[g]? = some (.cells #[.int .u8 (oneP a b 7).f0, .int .u8 (oneP a b 7).f1, .int .u8 (oneP a b 7).f2, .int .u8 (oneP a b 7).f3, .int .i64 (oneP a b 7).f4, .int .i64 (oneP a b 7).f5, .int .i64 (oneP a b 7).f6, .int .u8 (oneP a b 7).f7, .int .i64 (oneP a b 7).f8] 23 (0, 0)) ∧ KeepBut w w' g none ∧ ∀ n₀ w0, n₀ ≤ g → Below n₀ w0 w → Below n₀ w0 w' := by
  have hlt : g < w.heap.size := (Array.getElem?_eq_some_iff.1 hg).1
  go_enter Try.func55, Try.ntmps55
  go_wp2_with (first | ((with_reducible refine gate_dst (N := 3) rfl ?_); refine box_event ?hg (N := 3) ?hd (cs := #[.int .u8 b.f0, .int .u8 b.f1, .int .u8 b.f2, .int .u8 b.f3, .int .i64 b.f4, .int .i64 b.f5, .int .i64 b.f6, .int .u8 b.f7, .int .i64 b.f8]) (t := 23) ?hr ?_; (case hd => rfl); (case hg => rfl); (case hr => first | (go_simp; done) | (go_simp; rfl)); intro gb hgb w1 hbox hb; have hg1 := (hb.block g hlt).trans hg; have hcb7 : w1.cell? ⟨gb, 7, none⟩ = some (.int .u8 b.f7) := (blk_cell hbox 7).trans rfl; have hcg7 : w1.cell? ⟨g, 7, none⟩ = some (.int .u8 a.f7) := (blk_cell hg1 7).trans rfl; have hfg7 := blk_frozen hg1 7; have hcb8 : w1.cell? ⟨gb, 8, none⟩ = some (.int .i64 b.f8) := (blk_cell hbox 8).trans rfl; have hcg8 : w1.cell? ⟨g, 8, none⟩ = some (.int .i64 a.f8) := (blk_cell hg1 8).trans rfl; have hfg8 := blk_frozen hg1 8; clear hgb))
  go_region
  all_goals go_end0
  all_goals
  exact ⟨rfl, blk_drew (blk_put (blk_put hg1 7 _ rfl) 8 _ rfl), ((KeepBut.of_below hb g none).set_ 7 _).set_ 8 _, fun n₀ w0 hn h0 => (((h0.trans (Below.mono hb (by omega))).setCell (p := ⟨g, 7, none⟩) hn _).setCell (p := ⟨g, 8, none⟩) hn _).drew⟩
/-- May a style be? -/
def mayAll (s : S23) : Bool := mayP s 0 && mayP s 1 && mayP s 2 && mayP s 3 && mayP s 4 && mayP s 5 && mayP s 6 && mayP s 7
def style_Check.f (a0_0 a0_1 a0_2 a0_3 a0_4 a0_5 a0_6 a0_7 a0_8 : Int) : Option Int := some (if mayAll ⟨a0_0, a0_1, a0_2, a0_3, a0_4, a0_5, a0_6, a0_7, a0_8⟩ = true then 0 else 60)
/-- The value that part k is told as. -/
def partV (k : Nat) : Array Value := #[.int .u16 (2 ^ k), fv ([39, 41, 43, 45, 47, 49, 51, 54].getD k 0), fv ([40, 42, 44, 46, 48, 50, 53, 55].getD k 0)]

@[local go_sem] theorem idx0 (w : World) : Sem.run Try.prog (Instr.index 78 (.agg partsC) (.int .i64 0)) w = .ok (.agg #[.int .u16 1, fv 39, fv 40]) w := by kernel_rfl
@[local go_sem] theorem idx1 (w : World) : Sem.run Try.prog (Instr.index 78 (.agg partsC) (.int .i64 1)) w = .ok (.agg #[.int .u16 2, fv 41, fv 42]) w := by kernel_rfl
@[local go_sem] theorem idx2 (w : World) : Sem.run Try.prog (Instr.index 78 (.agg partsC) (.int .i64 2)) w = .ok (.agg #[.int .u16 4, fv 43, fv 44]) w := by kernel_rfl
@[local go_sem] theorem idx3 (w : World) : Sem.run Try.prog (Instr.index 78 (.agg partsC) (.int .i64 3)) w = .ok (.agg #[.int .u16 8, fv 45, fv 46]) w := by kernel_rfl
@[local go_sem] theorem idx4 (w : World) : Sem.run Try.prog (Instr.index 78 (.agg partsC) (.int .i64 4)) w = .ok (.agg #[.int .u16 16, fv 47, fv 48]) w := by kernel_rfl
@[local go_sem] theorem idx5 (w : World) : Sem.run Try.prog (Instr.index 78 (.agg partsC) (.int .i64 5)) w = .ok (.agg #[.int .u16 32, fv 49, fv 50]) w := by kernel_rfl
@[local go_sem] theorem idx6 (w : World) : Sem.run Try.prog (Instr.index 78 (.agg partsC) (.int .i64 6)) w = .ok (.agg #[.int .u16 64, fv 51, fv 53]) w := by kernel_rfl
@[local go_sem] theorem idx7 (w : World) : Sem.run Try.prog (Instr.index 78 (.agg partsC) (.int .i64 7)) w = .ok (.agg #[.int .u16 128, fv 54, fv 55]) w := by kernel_rfl
set_option maxRecDepth 100000 in
set_option maxHeartbeats 4000000 in
theorem check_any (s : S23) (w : World) : Calls Try.prog 16 #[.agg #[.int .u8 s.f0, .int .u8 s.f1, .int .u8 s.f2, .int .u8 s.f3, .int .i64 s.f4, .int .i64 s.f5, .int .i64 s.f6, .int .u8 s.f7, .int .i64 s.f8]] w fun e w' => e = .returned (.int .i64 (if mayAll s = true then 0 else 60)) ∧ Below w.heap.size w w' := by
  go_enter Try.func16, Try.ntmps16
  go_wp2_with (first | ((with_reducible refine gate_dst (N := 1) rfl ?_); refine box_event ?hg (N := 1) ?hd (cs := #[.int .u8 s.f0, .int .u8 s.f1, .int .u8 s.f2, .int .u8 s.f3, .int .i64 s.f4, .int .i64 s.f5, .int .i64 s.f6, .int .u8 s.f7, .int .i64 s.f8]) (t := 23) ?hr ?_; (case hd => rfl); (case hg => rfl); (case hr => first | (go_simp; done) | (go_simp; rfl)); intro gb hgb w1 hbgb hsgb; have gegb := Nat.le_of_eq hgb.symm; clear hgb; skip) | ((go_at_call 33); (with_reducible refine (parts_any _).mono ?_); rintro e w2 ⟨rfl, hp⟩))
  have hb2 := (hp.block gb (Array.getElem?_eq_some_iff.1 hbgb).1).trans hbgb
  have hB2 : Below w.heap.size w w2 := below_step hsgb hp
  clear hbgb hsgb hp
  go_loopw [6] (fun i wr => ∃ k : Nat, k ≤ 8 ∧ i = .int .i64 k ∧ (∀ j, j < k → mayP s j = true) ∧ wr.heap[gb]? = some (.cells #[.int .u8 s.f0, .int .u8 s.f1, .int .u8 s.f2, .int .u8 s.f3, .int .i64 s.f4, .int .i64 s.f5, .int .i64 s.f6, .int .u8 s.f7, .int .i64 s.f8] 23 (0, 0)) ∧ Below w.heap.size w wr) (fun i _ => 8 - (intOf i).toNat)
  case atStart => exact ⟨0, by omega, rfl, by omega, hb2, hB2⟩
  case round =>
    obtain ⟨k, hk, rfl, hm, hbx, hB⟩ := hrel
    by_cases hlt : k < 8
    · have hk8 : k = 0 ∨ k = 1 ∨ k = 2 ∨ k = 3 ∨ k = 4 ∨ k = 5 ∨ k = 6 ∨ k = 7 := by omega
      clear hk hlt
      rcases hk8 with rfl | rfl | rfl | rfl | rfl | rfl | rfl | rfl
      · cases hq : mayP s 0 with
        | true =>
          go_wp2_with (first | ((with_reducible refine gate_dst (N := 4) rfl ?_); refine box_event ?hg (N := 4) ?hd (cs := #[.int .u16 0, .nilFunc, .nilFunc]) (t := 77) ?hr ?_; (case hd => rfl); (case hg => rfl); (case hr => first | (go_simp; done) | (go_simp; rfl)); intro g4 hg4 w4 hbg4 hsg4; have geg4 := Nat.le_of_eq hg4.symm; clear hg4; skip) | ((with_reducible refine gate_store (t := 77) (p := 4) (v := .tmp 8) rfl ?_); refine store_row_event rfl 77 (.tmp 4) (.tmp 8) rfl rfl g4 #[.int .u16 1, fv 39, fv 40] rfl rfl 77 _ hbg4 (by kernel_rfl) rfl (by simp [fv, Value.oneCell']) ?_; intro w5 hw5 hkp hbl; have hbx5 := (hkp.2 gb (Nat.lt_of_lt_of_le (Array.getElem?_eq_some_iff.1 hbx).1 hsg4.size) (by have := (Array.getElem?_eq_some_iff.1 hbx).1; omega) (by simp)).trans ((hsg4.block gb (Array.getElem?_eq_some_iff.1 hbx).1).trans hbx); have hB5 := hbl _ _ (Nat.le_trans hB.size geg4) (hB.trans (Below.mono hsg4 hB.size)); have hc5 : w5.cell? ⟨g4, 1, none⟩ = some (.func (.func 39) #[] #[]) := (blk_cell hw5 1).trans rfl; clear hbl hkp hsg4 hbg4; skip) | ((with_reducible refine gate_dst (N := 11) rfl ?_); refine wpList_load_row rfl 23 (.tmp 1) rfl gb rfl 23 _ (0, 0) _ hbx5 Try.underlying23 rfl (by kernel_rfl) ?_) | ((go_at_call 39); (with_reducible refine (may0_any _ _).mono ?_); rintro e w6 ⟨rfl, hc6⟩; have hbx6 := (hc6.block gb (Array.getElem?_eq_some_iff.1 hbx5).1).trans hbx5; have hB6 := hB5.trans (Below.mono hc6 hB5.size); clear hc6))
          go_roundw
          case rel => exact ⟨1, by omega, by go_num, (fun j hj => by rcases Nat.lt_or_ge j 0 with h1 | h1; exact hm j h1; (obtain rfl : j = 0 := by omega); exact hq), hbx6, hB6⟩
          case measure => simp [intOf]
        | false =>
          have e8 : mayAll s = false := by simp [mayAll, hq]
          go_wp2_with (first | ((with_reducible refine gate_dst (N := 4) rfl ?_); refine box_event ?hg (N := 4) ?hd (cs := #[.int .u16 0, .nilFunc, .nilFunc]) (t := 77) ?hr ?_; (case hd => rfl); (case hg => rfl); (case hr => first | (go_simp; done) | (go_simp; rfl)); intro g4 hg4 w4 hbg4 hsg4; have geg4 := Nat.le_of_eq hg4.symm; clear hg4; skip) | ((with_reducible refine gate_store (t := 77) (p := 4) (v := .tmp 8) rfl ?_); refine store_row_event rfl 77 (.tmp 4) (.tmp 8) rfl rfl g4 #[.int .u16 1, fv 39, fv 40] rfl rfl 77 _ hbg4 (by kernel_rfl) rfl (by simp [fv, Value.oneCell']) ?_; intro w5 hw5 hkp hbl; have hbx5 := (hkp.2 gb (Nat.lt_of_lt_of_le (Array.getElem?_eq_some_iff.1 hbx).1 hsg4.size) (by have := (Array.getElem?_eq_some_iff.1 hbx).1; omega) (by simp)).trans ((hsg4.block gb (Array.getElem?_eq_some_iff.1 hbx).1).trans hbx); have hB5 := hbl _ _ (Nat.le_trans hB.size geg4) (hB.trans (Below.mono hsg4 hB.size)); have hc5 : w5.cell? ⟨g4, 1, none⟩ = some (.func (.func 39) #[] #[]) := (blk_cell hw5 1).trans rfl; clear hbl hkp hsg4 hbg4; skip) | ((with_reducible refine gate_dst (N := 11) rfl ?_); refine wpList_load_row rfl 23 (.tmp 1) rfl gb rfl 23 _ (0, 0) _ hbx5 Try.underlying23 rfl (by kernel_rfl) ?_) | ((go_at_call 39); (with_reducible refine (may0_any _ _).mono ?_); rintro e w6 ⟨rfl, hc6⟩; have hbx6 := (hc6.block gb (Array.getElem?_eq_some_iff.1 hbx5).1).trans hbx5; have hB6 := hB5.trans (Below.mono hc6 hB5.size); clear hc6))
          all_goals go_ret
          all_goals exact ⟨by first | rfl | (rw [e8]; rfl), hB6⟩
      · cases hq : mayP s 1 with
        | true =>
          go_wp2_with (first | ((with_reducible refine gate_dst (N := 4) rfl ?_); refine box_event ?hg (N := 4) ?hd (cs := #[.int .u16 0, .nilFunc, .nilFunc]) (t := 77) ?hr ?_; (case hd => rfl); (case hg => rfl); (case hr => first | (go_simp; done) | (go_simp; rfl)); intro g4 hg4 w4 hbg4 hsg4; have geg4 := Nat.le_of_eq hg4.symm; clear hg4; skip) | ((with_reducible refine gate_store (t := 77) (p := 4) (v := .tmp 8) rfl ?_); refine store_row_event rfl 77 (.tmp 4) (.tmp 8) rfl rfl g4 #[.int .u16 2, fv 41, fv 42] rfl rfl 77 _ hbg4 (by kernel_rfl) rfl (by simp [fv, Value.oneCell']) ?_; intro w5 hw5 hkp hbl; have hbx5 := (hkp.2 gb (Nat.lt_of_lt_of_le (Array.getElem?_eq_some_iff.1 hbx).1 hsg4.size) (by have := (Array.getElem?_eq_some_iff.1 hbx).1; omega) (by simp)).trans ((hsg4.block gb (Array.getElem?_eq_some_iff.1 hbx).1).trans hbx); have hB5 := hbl _ _ (Nat.le_trans hB.size geg4) (hB.trans (Below.mono hsg4 hB.size)); have hc5 : w5.cell? ⟨g4, 1, none⟩ = some (.func (.func 41) #[] #[]) := (blk_cell hw5 1).trans rfl; clear hbl hkp hsg4 hbg4; skip) | ((with_reducible refine gate_dst (N := 11) rfl ?_); refine wpList_load_row rfl 23 (.tmp 1) rfl gb rfl 23 _ (0, 0) _ hbx5 Try.underlying23 rfl (by kernel_rfl) ?_) | ((go_at_call 41); (with_reducible refine (may1_any _ _).mono ?_); rintro e w6 ⟨rfl, hc6⟩; have hbx6 := (hc6.block gb (Array.getElem?_eq_some_iff.1 hbx5).1).trans hbx5; have hB6 := hB5.trans (Below.mono hc6 hB5.size); clear hc6))
          go_roundw
          case rel => exact ⟨2, by omega, by go_num, (fun j hj => by rcases Nat.lt_or_ge j 1 with h1 | h1; exact hm j h1; (obtain rfl : j = 1 := by omega); exact hq), hbx6, hB6⟩
          case measure => simp [intOf]
        | false =>
          have e8 : mayAll s = false := by simp [mayAll, hq]
          go_wp2_with (first | ((with_reducible refine gate_dst (N := 4) rfl ?_); refine box_event ?hg (N := 4) ?hd (cs := #[.int .u16 0, .nilFunc, .nilFunc]) (t := 77) ?hr ?_; (case hd => rfl); (case hg => rfl); (case hr => first | (go_simp; done) | (go_simp; rfl)); intro g4 hg4 w4 hbg4 hsg4; have geg4 := Nat.le_of_eq hg4.symm; clear hg4; skip) | ((with_reducible refine gate_store (t := 77) (p := 4) (v := .tmp 8) rfl ?_); refine store_row_event rfl 77 (.tmp 4) (.tmp 8) rfl rfl g4 #[.int .u16 2, fv 41, fv 42] rfl rfl 77 _ hbg4 (by kernel_rfl) rfl (by simp [fv, Value.oneCell']) ?_; intro w5 hw5 hkp hbl; have hbx5 := (hkp.2 gb (Nat.lt_of_lt_of_le (Array.getElem?_eq_some_iff.1 hbx).1 hsg4.size) (by have := (Array.getElem?_eq_some_iff.1 hbx).1; omega) (by simp)).trans ((hsg4.block gb (Array.getElem?_eq_some_iff.1 hbx).1).trans hbx); have hB5 := hbl _ _ (Nat.le_trans hB.size geg4) (hB.trans (Below.mono hsg4 hB.size)); have hc5 : w5.cell? ⟨g4, 1, none⟩ = some (.func (.func 41) #[] #[]) := (blk_cell hw5 1).trans rfl; clear hbl hkp hsg4 hbg4; skip) | ((with_reducible refine gate_dst (N := 11) rfl ?_); refine wpList_load_row rfl 23 (.tmp 1) rfl gb rfl 23 _ (0, 0) _ hbx5 Try.underlying23 rfl (by kernel_rfl) ?_) | ((go_at_call 41); (with_reducible refine (may1_any _ _).mono ?_); rintro e w6 ⟨rfl, hc6⟩; have hbx6 := (hc6.block gb (Array.getElem?_eq_some_iff.1 hbx5).1).trans hbx5; have hB6 := hB5.trans (Below.mono hc6 hB5.size); clear hc6))
          all_goals go_ret
          all_goals exact ⟨by first | rfl | (rw [e8]; rfl), hB6⟩
      · cases hq : mayP s 2 with
        | true =>
          go_wp2_with (first | ((with_reducible refine gate_dst (N := 4) rfl ?_); refine box_event ?hg (N := 4) ?hd (cs := #[.int .u16 0, .nilFunc, .nilFunc]) (t := 77) ?hr ?_; (case hd => rfl); (case hg => rfl); (case hr => first | (go_simp; done) | (go_simp; rfl)); intro g4 hg4 w4 hbg4 hsg4; have geg4 := Nat.le_of_eq hg4.symm; clear hg4; skip) | ((with_reducible refine gate_store (t := 77) (p := 4) (v := .tmp 8) rfl ?_); refine store_row_event rfl 77 (.tmp 4) (.tmp 8) rfl rfl g4 #[.int .u16 4, fv 43, fv 44] rfl rfl 77 _ hbg4 (by kernel_rfl) rfl (by simp [fv, Value.oneCell']) ?_; intro w5 hw5 hkp hbl; have hbx5 := (hkp.2 gb (Nat.lt_of_lt_of_le (Array.getElem?_eq_some_iff.1 hbx).1 hsg4.size) (by have := (Array.getElem?_eq_some_iff.1 hbx).1; omega) (by simp)).trans ((hsg4.block gb (Array.getElem?_eq_some_iff.1 hbx).1).trans hbx); have hB5 := hbl _ _ (Nat.le_trans hB.size geg4) (hB.trans (Below.mono hsg4 hB.size)); have hc5 : w5.cell? ⟨g4, 1, none⟩ = some (.func (.func 43) #[] #[]) := (blk_cell hw5 1).trans rfl; clear hbl hkp hsg4 hbg4; skip) | ((with_reducible refine gate_dst (N := 11) rfl ?_); refine wpList_load_row rfl 23 (.tmp 1) rfl gb rfl 23 _ (0, 0) _ hbx5 Try.underlying23 rfl (by kernel_rfl) ?_) | ((go_at_call 43); (with_reducible refine (may2_any _ _).mono ?_); rintro e w6 ⟨rfl, hc6⟩; have hbx6 := (hc6.block gb (Array.getElem?_eq_some_iff.1 hbx5).1).trans hbx5; have hB6 := hB5.trans (Below.mono hc6 hB5.size); clear hc6))
          go_roundw
          case rel => exact ⟨3, by omega, by go_num, (fun j hj => by rcases Nat.lt_or_ge j 2 with h1 | h1; exact hm j h1; (obtain rfl : j = 2 := by omega); exact hq), hbx6, hB6⟩
          case measure => simp [intOf]
        | false =>
          have e8 : mayAll s = false := by simp [mayAll, hq]
          go_wp2_with (first | ((with_reducible refine gate_dst (N := 4) rfl ?_); refine box_event ?hg (N := 4) ?hd (cs := #[.int .u16 0, .nilFunc, .nilFunc]) (t := 77) ?hr ?_; (case hd => rfl); (case hg => rfl); (case hr => first | (go_simp; done) | (go_simp; rfl)); intro g4 hg4 w4 hbg4 hsg4; have geg4 := Nat.le_of_eq hg4.symm; clear hg4; skip) | ((with_reducible refine gate_store (t := 77) (p := 4) (v := .tmp 8) rfl ?_); refine store_row_event rfl 77 (.tmp 4) (.tmp 8) rfl rfl g4 #[.int .u16 4, fv 43, fv 44] rfl rfl 77 _ hbg4 (by kernel_rfl) rfl (by simp [fv, Value.oneCell']) ?_; intro w5 hw5 hkp hbl; have hbx5 := (hkp.2 gb (Nat.lt_of_lt_of_le (Array.getElem?_eq_some_iff.1 hbx).1 hsg4.size) (by have := (Array.getElem?_eq_some_iff.1 hbx).1; omega) (by simp)).trans ((hsg4.block gb (Array.getElem?_eq_some_iff.1 hbx).1).trans hbx); have hB5 := hbl _ _ (Nat.le_trans hB.size geg4) (hB.trans (Below.mono hsg4 hB.size)); have hc5 : w5.cell? ⟨g4, 1, none⟩ = some (.func (.func 43) #[] #[]) := (blk_cell hw5 1).trans rfl; clear hbl hkp hsg4 hbg4; skip) | ((with_reducible refine gate_dst (N := 11) rfl ?_); refine wpList_load_row rfl 23 (.tmp 1) rfl gb rfl 23 _ (0, 0) _ hbx5 Try.underlying23 rfl (by kernel_rfl) ?_) | ((go_at_call 43); (with_reducible refine (may2_any _ _).mono ?_); rintro e w6 ⟨rfl, hc6⟩; have hbx6 := (hc6.block gb (Array.getElem?_eq_some_iff.1 hbx5).1).trans hbx5; have hB6 := hB5.trans (Below.mono hc6 hB5.size); clear hc6))
          all_goals go_ret
          all_goals exact ⟨by first | rfl | (rw [e8]; rfl), hB6⟩
      · cases hq : mayP s 3 with
        | true =>
          go_wp2_with (first | ((with_reducible refine gate_dst (N := 4) rfl ?_); refine box_event ?hg (N := 4) ?hd (cs := #[.int .u16 0, .nilFunc, .nilFunc]) (t := 77) ?hr ?_; (case hd => rfl); (case hg => rfl); (case hr => first | (go_simp; done) | (go_simp; rfl)); intro g4 hg4 w4 hbg4 hsg4; have geg4 := Nat.le_of_eq hg4.symm; clear hg4; skip) | ((with_reducible refine gate_store (t := 77) (p := 4) (v := .tmp 8) rfl ?_); refine store_row_event rfl 77 (.tmp 4) (.tmp 8) rfl rfl g4 #[.int .u16 8, fv 45, fv 46] rfl rfl 77 _ hbg4 (by kernel_rfl) rfl (by simp [fv, Value.oneCell']) ?_; intro w5 hw5 hkp hbl; have hbx5 := (hkp.2 gb (Nat.lt_of_lt_of_le (Array.getElem?_eq_some_iff.1 hbx).1 hsg4.size) (by have := (Array.getElem?_eq_some_iff.1 hbx).1; omega) (by simp)).trans ((hsg4.block gb (Array.getElem?_eq_some_iff.1 hbx).1).trans hbx); have hB5 := hbl _ _ (Nat.le_trans hB.size geg4) (hB.trans (Below.mono hsg4 hB.size)); have hc5 : w5.cell? ⟨g4, 1, none⟩ = some (.func (.func 45) #[] #[]) := (blk_cell hw5 1).trans rfl; clear hbl hkp hsg4 hbg4; skip) | ((with_reducible refine gate_dst (N := 11) rfl ?_); refine wpList_load_row rfl 23 (.tmp 1) rfl gb rfl 23 _ (0, 0) _ hbx5 Try.underlying23 rfl (by kernel_rfl) ?_) | ((go_at_call 45); (with_reducible refine (may3_any _ _).mono ?_); rintro e w6 ⟨rfl, hc6⟩; have hbx6 := (hc6.block gb (Array.getElem?_eq_some_iff.1 hbx5).1).trans hbx5; have hB6 := hB5.trans (Below.mono hc6 hB5.size); clear hc6))
          go_roundw
          case rel => exact ⟨4, by omega, by go_num, (fun j hj => by rcases Nat.lt_or_ge j 3 with h1 | h1; exact hm j h1; (obtain rfl : j = 3 := by omega); exact hq), hbx6, hB6⟩
          case measure => simp [intOf]
        | false =>
          have e8 : mayAll s = false := by simp [mayAll, hq]
          go_wp2_with (first | ((with_reducible refine gate_dst (N := 4) rfl ?_); refine box_event ?hg (N := 4) ?hd (cs := #[.int .u16 0, .nilFunc, .nilFunc]) (t := 77) ?hr ?_; (case hd => rfl); (case hg => rfl); (case hr => first | (go_simp; done) | (go_simp; rfl)); intro g4 hg4 w4 hbg4 hsg4; have geg4 := Nat.le_of_eq hg4.symm; clear hg4; skip) | ((with_reducible refine gate_store (t := 77) (p := 4) (v := .tmp 8) rfl ?_); refine store_row_event rfl 77 (.tmp 4) (.tmp 8) rfl rfl g4 #[.int .u16 8, fv 45, fv 46] rfl rfl 77 _ hbg4 (by kernel_rfl) rfl (by simp [fv, Value.oneCell']) ?_; intro w5 hw5 hkp hbl; have hbx5 := (hkp.2 gb (Nat.lt_of_lt_of_le (Array.getElem?_eq_some_iff.1 hbx).1 hsg4.size) (by have := (Array.getElem?_eq_some_iff.1 hbx).1; omega) (by simp)).trans ((hsg4.block gb (Array.getElem?_eq_some_iff.1 hbx).1).trans hbx); have hB5 := hbl _ _ (Nat.le_trans hB.size geg4) (hB.trans (Below.mono hsg4 hB.size)); have hc5 : w5.cell? ⟨g4, 1, none⟩ = some (.func (.func 45) #[] #[]) := (blk_cell hw5 1).trans rfl; clear hbl hkp hsg4 hbg4; skip) | ((with_reducible refine gate_dst (N := 11) rfl ?_); refine wpList_load_row rfl 23 (.tmp 1) rfl gb rfl 23 _ (0, 0) _ hbx5 Try.underlying23 rfl (by kernel_rfl) ?_) | ((go_at_call 45); (with_reducible refine (may3_any _ _).mono ?_); rintro e w6 ⟨rfl, hc6⟩; have hbx6 := (hc6.block gb (Array.getElem?_eq_some_iff.1 hbx5).1).trans hbx5; have hB6 := hB5.trans (Below.mono hc6 hB5.size); clear hc6))
          all_goals go_ret
          all_goals exact ⟨by first | rfl | (rw [e8]; rfl), hB6⟩
      · cases hq : mayP s 4 with
        | true =>
          go_wp2_with (first | ((with_reducible refine gate_dst (N := 4) rfl ?_); refine box_event ?hg (N := 4) ?hd (cs := #[.int .u16 0, .nilFunc, .nilFunc]) (t := 77) ?hr ?_; (case hd => rfl); (case hg => rfl); (case hr => first | (go_simp; done) | (go_simp; rfl)); intro g4 hg4 w4 hbg4 hsg4; have geg4 := Nat.le_of_eq hg4.symm; clear hg4; skip) | ((with_reducible refine gate_store (t := 77) (p := 4) (v := .tmp 8) rfl ?_); refine store_row_event rfl 77 (.tmp 4) (.tmp 8) rfl rfl g4 #[.int .u16 16, fv 47, fv 48] rfl rfl 77 _ hbg4 (by kernel_rfl) rfl (by simp [fv, Value.oneCell']) ?_; intro w5 hw5 hkp hbl; have hbx5 := (hkp.2 gb (Nat.lt_of_lt_of_le (Array.getElem?_eq_some_iff.1 hbx).1 hsg4.size) (by have := (Array.getElem?_eq_some_iff.1 hbx).1; omega) (by simp)).trans ((hsg4.block gb (Array.getElem?_eq_some_iff.1 hbx).1).trans hbx); have hB5 := hbl _ _ (Nat.le_trans hB.size geg4) (hB.trans (Below.mono hsg4 hB.size)); have hc5 : w5.cell? ⟨g4, 1, none⟩ = some (.func (.func 47) #[] #[]) := (blk_cell hw5 1).trans rfl; clear hbl hkp hsg4 hbg4; skip) | ((with_reducible refine gate_dst (N := 11) rfl ?_); refine wpList_load_row rfl 23 (.tmp 1) rfl gb rfl 23 _ (0, 0) _ hbx5 Try.underlying23 rfl (by kernel_rfl) ?_) | ((go_at_call 47); (with_reducible refine (may4_any _ _).mono ?_); rintro e w6 ⟨rfl, hc6⟩; have hbx6 := (hc6.block gb (Array.getElem?_eq_some_iff.1 hbx5).1).trans hbx5; have hB6 := hB5.trans (Below.mono hc6 hB5.size); clear hc6))
          go_roundw
          case rel => exact ⟨5, by omega, by go_num, (fun j hj => by rcases Nat.lt_or_ge j 4 with h1 | h1; exact hm j h1; (obtain rfl : j = 4 := by omega); exact hq), hbx6, hB6⟩
          case measure => simp [intOf]
        | false =>
          have e8 : mayAll s = false := by simp [mayAll, hq]
          go_wp2_with (first | ((with_reducible refine gate_dst (N := 4) rfl ?_); refine box_event ?hg (N := 4) ?hd (cs := #[.int .u16 0, .nilFunc, .nilFunc]) (t := 77) ?hr ?_; (case hd => rfl); (case hg => rfl); (case hr => first | (go_simp; done) | (go_simp; rfl)); intro g4 hg4 w4 hbg4 hsg4; have geg4 := Nat.le_of_eq hg4.symm; clear hg4; skip) | ((with_reducible refine gate_store (t := 77) (p := 4) (v := .tmp 8) rfl ?_); refine store_row_event rfl 77 (.tmp 4) (.tmp 8) rfl rfl g4 #[.int .u16 16, fv 47, fv 48] rfl rfl 77 _ hbg4 (by kernel_rfl) rfl (by simp [fv, Value.oneCell']) ?_; intro w5 hw5 hkp hbl; have hbx5 := (hkp.2 gb (Nat.lt_of_lt_of_le (Array.getElem?_eq_some_iff.1 hbx).1 hsg4.size) (by have := (Array.getElem?_eq_some_iff.1 hbx).1; omega) (by simp)).trans ((hsg4.block gb (Array.getElem?_eq_some_iff.1 hbx).1).trans hbx); have hB5 := hbl _ _ (Nat.le_trans hB.size geg4) (hB.trans (Below.mono hsg4 hB.size)); have hc5 : w5.cell? ⟨g4, 1, none⟩ = some (.func (.func 47) #[] #[]) := (blk_cell hw5 1).trans rfl; clear hbl hkp hsg4 hbg4; skip) | ((with_reducible refine gate_dst (N := 11) rfl ?_); refine wpList_load_row rfl 23 (.tmp 1) rfl gb rfl 23 _ (0, 0) _ hbx5 Try.underlying23 rfl (by kernel_rfl) ?_) | ((go_at_call 47); (with_reducible refine (may4_any _ _).mono ?_); rintro e w6 ⟨rfl, hc6⟩; have hbx6 := (hc6.block gb (Array.getElem?_eq_some_iff.1 hbx5).1).trans hbx5; have hB6 := hB5.trans (Below.mono hc6 hB5.size); clear hc6))
          all_goals go_ret
          all_goals exact ⟨by first | rfl | (rw [e8]; rfl), hB6⟩
      · cases hq : mayP s 5 with
        | true =>
          go_wp2_with (first | ((with_reducible refine gate_dst (N := 4) rfl ?_); refine box_event ?hg (N := 4) ?hd (cs := #[.int .u16 0, .nilFunc, .nilFunc]) (t := 77) ?hr ?_; (case hd => rfl); (case hg => rfl); (case hr => first | (go_simp; done) | (go_simp; rfl)); intro g4 hg4 w4 hbg4 hsg4; have geg4 := Nat.le_of_eq hg4.symm; clear hg4; skip) | ((with_reducible refine gate_store (t := 77) (p := 4) (v := .tmp 8) rfl ?_); refine store_row_event rfl 77 (.tmp 4) (.tmp 8) rfl rfl g4 #[.int .u16 32, fv 49, fv 50] rfl rfl 77 _ hbg4 (by kernel_rfl) rfl (by simp [fv, Value.oneCell']) ?_; intro w5 hw5 hkp hbl; have hbx5 := (hkp.2 gb (Nat.lt_of_lt_of_le (Array.getElem?_eq_some_iff.1 hbx).1 hsg4.size) (by have := (Array.getElem?_eq_some_iff.1 hbx).1; omega) (by simp)).trans ((hsg4.block gb (Array.getElem?_eq_some_iff.1 hbx).1).trans hbx); have hB5 := hbl _ _ (Nat.le_trans hB.size geg4) (hB.trans (Below.mono hsg4 hB.size)); have hc5 : w5.cell? ⟨g4, 1, none⟩ = some (.func (.func 49) #[] #[]) := (blk_cell hw5 1).trans rfl; clear hbl hkp hsg4 hbg4; skip) | ((with_reducible refine gate_dst (N := 11) rfl ?_); refine wpList_load_row rfl 23 (.tmp 1) rfl gb rfl 23 _ (0, 0) _ hbx5 Try.underlying23 rfl (by kernel_rfl) ?_) | ((go_at_call 49); (with_reducible refine (may5_any _ _).mono ?_); rintro e w6 ⟨rfl, hc6⟩; have hbx6 := (hc6.block gb (Array.getElem?_eq_some_iff.1 hbx5).1).trans hbx5; have hB6 := hB5.trans (Below.mono hc6 hB5.size); clear hc6))
          go_roundw
          case rel => exact ⟨6, by omega, by go_num, (fun j hj => by rcases Nat.lt_or_ge j 5 with h1 | h1; exact hm j h1; (obtain rfl : j = 5 := by omega); exact hq), hbx6, hB6⟩
          case measure => simp [intOf]
        | false =>
          have e8 : mayAll s = false := by simp [mayAll, hq]
          go_wp2_with (first | ((with_reducible refine gate_dst (N := 4) rfl ?_); refine box_event ?hg (N := 4) ?hd (cs := #[.int .u16 0, .nilFunc, .nilFunc]) (t := 77) ?hr ?_; (case hd => rfl); (case hg => rfl); (case hr => first | (go_simp; done) | (go_simp; rfl)); intro g4 hg4 w4 hbg4 hsg4; have geg4 := Nat.le_of_eq hg4.symm; clear hg4; skip) | ((with_reducible refine gate_store (t := 77) (p := 4) (v := .tmp 8) rfl ?_); refine store_row_event rfl 77 (.tmp 4) (.tmp 8) rfl rfl g4 #[.int .u16 32, fv 49, fv 50] rfl rfl 77 _ hbg4 (by kernel_rfl) rfl (by simp [fv, Value.oneCell']) ?_; intro w5 hw5 hkp hbl; have hbx5 := (hkp.2 gb (Nat.lt_of_lt_of_le (Array.getElem?_eq_some_iff.1 hbx).1 hsg4.size) (by have := (Array.getElem?_eq_some_iff.1 hbx).1; omega) (by simp)).trans ((hsg4.block gb (Array.getElem?_eq_some_iff.1 hbx).1).trans hbx); have hB5 := hbl _ _ (Nat.le_trans hB.size geg4) (hB.trans (Below.mono hsg4 hB.size)); have hc5 : w5.cell? ⟨g4, 1, none⟩ = some (.func (.func 49) #[] #[]) := (blk_cell hw5 1).trans rfl; clear hbl hkp hsg4 hbg4; skip) | ((with_reducible refine gate_dst (N := 11) rfl ?_); refine wpList_load_row rfl 23 (.tmp 1) rfl gb rfl 23 _ (0, 0) _ hbx5 Try.underlying23 rfl (by kernel_rfl) ?_) | ((go_at_call 49); (with_reducible refine (may5_any _ _).mono ?_); rintro e w6 ⟨rfl, hc6⟩; have hbx6 := (hc6.block gb (Array.getElem?_eq_some_iff.1 hbx5).1).trans hbx5; have hB6 := hB5.trans (Below.mono hc6 hB5.size); clear hc6))
          all_goals go_ret
          all_goals exact ⟨by first | rfl | (rw [e8]; rfl), hB6⟩
      · cases hq : mayP s 6 with
        | true =>
          go_wp2_with (first | ((with_reducible refine gate_dst (N := 4) rfl ?_); refine box_event ?hg (N := 4) ?hd (cs := #[.int .u16 0, .nilFunc, .nilFunc]) (t := 77) ?hr ?_; (case hd => rfl); (case hg => rfl); (case hr => first | (go_simp; done) | (go_simp; rfl)); intro g4 hg4 w4 hbg4 hsg4; have geg4 := Nat.le_of_eq hg4.symm; clear hg4; skip) | ((with_reducible refine gate_store (t := 77) (p := 4) (v := .tmp 8) rfl ?_); refine store_row_event rfl 77 (.tmp 4) (.tmp 8) rfl rfl g4 #[.int .u16 64, fv 51, fv 53] rfl rfl 77 _ hbg4 (by kernel_rfl) rfl (by simp [fv, Value.oneCell']) ?_; intro w5 hw5 hkp hbl; have hbx5 := (hkp.2 gb (Nat.lt_of_lt_of_le (Array.getElem?_eq_some_iff.1 hbx).1 hsg4.size) (by have := (Array.getElem?_eq_some_iff.1 hbx).1; omega) (by simp)).trans ((hsg4.block gb (Array.getElem?_eq_some_iff.1 hbx).1).trans hbx); have hB5 := hbl _ _ (Nat.le_trans hB.size geg4) (hB.trans (Below.mono hsg4 hB.size)); have hc5 : w5.cell? ⟨g4, 1, none⟩ = some (.func (.func 51) #[] #[]) := (blk_cell hw5 1).trans rfl; clear hbl hkp hsg4 hbg4; skip) | ((with_reducible refine gate_dst (N := 11) rfl ?_); refine wpList_load_row rfl 23 (.tmp 1) rfl gb rfl 23 _ (0, 0) _ hbx5 Try.underlying23 rfl (by kernel_rfl) ?_) | ((go_at_call 51); (with_reducible refine (may6_any _ _).mono ?_); rintro e w6 ⟨rfl, hc6⟩; have hbx6 := (hc6.block gb (Array.getElem?_eq_some_iff.1 hbx5).1).trans hbx5; have hB6 := hB5.trans (Below.mono hc6 hB5.size); clear hc6))
          go_roundw
          case rel => exact ⟨7, by omega, by go_num, (fun j hj => by rcases Nat.lt_or_ge j 6 with h1 | h1; exact hm j h1; (obtain rfl : j = 6 := by omega); exact hq), hbx6, hB6⟩
          case measure => simp [intOf]
        | false =>
          have e8 : mayAll s = false := by simp [mayAll, hq]
          go_wp2_with (first | ((with_reducible refine gate_dst (N := 4) rfl ?_); refine box_event ?hg (N := 4) ?hd (cs := #[.int .u16 0, .nilFunc, .nilFunc]) (t := 77) ?hr ?_; (case hd => rfl); (case hg => rfl); (case hr => first | (go_simp; done) | (go_simp; rfl)); intro g4 hg4 w4 hbg4 hsg4; have geg4 := Nat.le_of_eq hg4.symm; clear hg4; skip) | ((with_reducible refine gate_store (t := 77) (p := 4) (v := .tmp 8) rfl ?_); refine store_row_event rfl 77 (.tmp 4) (.tmp 8) rfl rfl g4 #[.int .u16 64, fv 51, fv 53] rfl rfl 77 _ hbg4 (by kernel_rfl) rfl (by simp [fv, Value.oneCell']) ?_; intro w5 hw5 hkp hbl; have hbx5 := (hkp.2 gb (Nat.lt_of_lt_of_le (Array.getElem?_eq_some_iff.1 hbx).1 hsg4.size) (by have := (Array.getElem?_eq_some_iff.1 hbx).1; omega) (by simp)).trans ((hsg4.block gb (Array.getElem?_eq_some_iff.1 hbx).1).trans hbx); have hB5 := hbl _ _ (Nat.le_trans hB.size geg4) (hB.trans (Below.mono hsg4 hB.size)); have hc5 : w5.cell? ⟨g4, 1, none⟩ = some (.func (.func 51) #[] #[]) := (blk_cell hw5 1).trans rfl; clear hbl hkp hsg4 hbg4; skip) | ((with_reducible refine gate_dst (N := 11) rfl ?_); refine wpList_load_row rfl 23 (.tmp 1) rfl gb rfl 23 _ (0, 0) _ hbx5 Try.underlying23 rfl (by kernel_rfl) ?_) | ((go_at_call 51); (with_reducible refine (may6_any _ _).mono ?_); rintro e w6 ⟨rfl, hc6⟩; have hbx6 := (hc6.block gb (Array.getElem?_eq_some_iff.1 hbx5).1).trans hbx5; have hB6 := hB5.trans (Below.mono hc6 hB5.size); clear hc6))
          all_goals go_ret
          all_goals exact ⟨by first | rfl | (rw [e8]; rfl), hB6⟩
      · cases hq : mayP s 7 with
        | true =>
          go_wp2_with (first | ((with_reducible refine gate_dst (N := 4) rfl ?_); refine box_event ?hg (N := 4) ?hd (cs := #[.int .u16 0, .nilFunc, .nilFunc]) (t := 77) ?hr ?_; (case hd => rfl); (case hg => rfl); (case hr => first | (go_simp; done) | (go_simp; rfl)); intro g4 hg4 w4 hbg4 hsg4; have geg4 := Nat.le_of_eq hg4.symm; clear hg4; skip) | ((with_reducible refine gate_store (t := 77) (p := 4) (v := .tmp 8) rfl ?_); refine store_row_event rfl 77 (.tmp 4) (.tmp 8) rfl rfl g4 #[.int .u16 128, fv 54, fv 55] rfl rfl 77 _ hbg4 (by kernel_rfl) rfl (by simp [fv, Value.oneCell']) ?_; intro w5 hw5 hkp hbl; have hbx5 := (hkp.2 gb (Nat.lt_of_lt_of_le (Array.getElem?_eq_some_iff.1 hbx).1 hsg4.size) (by have := (Array.getElem?_eq_some_iff.1 hbx).1; omega) (by simp)).trans ((hsg4.block gb (Array.getElem?_eq_some_iff.1 hbx).1).trans hbx); have hB5 := hbl _ _ (Nat.le_trans hB.size geg4) (hB.trans (Below.mono hsg4 hB.size)); have hc5 : w5.cell? ⟨g4, 1, none⟩ = some (.func (.func 54) #[] #[]) := (blk_cell hw5 1).trans rfl; clear hbl hkp hsg4 hbg4; skip) | ((with_reducible refine gate_dst (N := 11) rfl ?_); refine wpList_load_row rfl 23 (.tmp 1) rfl gb rfl 23 _ (0, 0) _ hbx5 Try.underlying23 rfl (by kernel_rfl) ?_) | ((go_at_call 54); (with_reducible refine (may7_any _ _).mono ?_); rintro e w6 ⟨rfl, hc6⟩; have hbx6 := (hc6.block gb (Array.getElem?_eq_some_iff.1 hbx5).1).trans hbx5; have hB6 := hB5.trans (Below.mono hc6 hB5.size); clear hc6))
          go_roundw
          case rel => exact ⟨8, by omega, by go_num, (fun j hj => by rcases Nat.lt_or_ge j 7 with h1 | h1; exact hm j h1; (obtain rfl : j = 7 := by omega); exact hq), hbx6, hB6⟩
          case measure => simp [intOf]
        | false =>
          have e8 : mayAll s = false := by simp [mayAll, hq]
          go_wp2_with (first | ((with_reducible refine gate_dst (N := 4) rfl ?_); refine box_event ?hg (N := 4) ?hd (cs := #[.int .u16 0, .nilFunc, .nilFunc]) (t := 77) ?hr ?_; (case hd => rfl); (case hg => rfl); (case hr => first | (go_simp; done) | (go_simp; rfl)); intro g4 hg4 w4 hbg4 hsg4; have geg4 := Nat.le_of_eq hg4.symm; clear hg4; skip) | ((with_reducible refine gate_store (t := 77) (p := 4) (v := .tmp 8) rfl ?_); refine store_row_event rfl 77 (.tmp 4) (.tmp 8) rfl rfl g4 #[.int .u16 128, fv 54, fv 55] rfl rfl 77 _ hbg4 (by kernel_rfl) rfl (by simp [fv, Value.oneCell']) ?_; intro w5 hw5 hkp hbl; have hbx5 := (hkp.2 gb (Nat.lt_of_lt_of_le (Array.getElem?_eq_some_iff.1 hbx).1 hsg4.size) (by have := (Array.getElem?_eq_some_iff.1 hbx).1; omega) (by simp)).trans ((hsg4.block gb (Array.getElem?_eq_some_iff.1 hbx).1).trans hbx); have hB5 := hbl _ _ (Nat.le_trans hB.size geg4) (hB.trans (Below.mono hsg4 hB.size)); have hc5 : w5.cell? ⟨g4, 1, none⟩ = some (.func (.func 54) #[] #[]) := (blk_cell hw5 1).trans rfl; clear hbl hkp hsg4 hbg4; skip) | ((with_reducible refine gate_dst (N := 11) rfl ?_); refine wpList_load_row rfl 23 (.tmp 1) rfl gb rfl 23 _ (0, 0) _ hbx5 Try.underlying23 rfl (by kernel_rfl) ?_) | ((go_at_call 54); (with_reducible refine (may7_any _ _).mono ?_); rintro e w6 ⟨rfl, hc6⟩; have hbx6 := (hc6.block gb (Array.getElem?_eq_some_iff.1 hbx5).1).trans hbx5; have hB6 := hB5.trans (Below.mono hc6 hB5.size); clear hc6))
          all_goals go_ret
          all_goals exact ⟨by first | rfl | (rw [e8]; rfl), hB6⟩
    · obtain rfl : k = 8 := by omega
      have e8 : mayAll s = true := by simp [mayAll, hm]
      go_wp2
      go_ret
      exact ⟨by first | rfl | (rw [e8]; rfl), hB⟩

theorem style_Check.calls (a0_0 a0_1 a0_2 a0_3 a0_4 a0_5 a0_6 a0_7 a0_8 : Int) (r : Int) (w : World) (h : style_Check.f a0_0 a0_1 a0_2 a0_3 a0_4 a0_5 a0_6 a0_7 a0_8 = some r) : Calls Try.prog 16 #[.agg #[.int .u8 a0_0, .int .u8 a0_1, .int .u8 a0_2, .int .u8 a0_3, .int .i64 a0_4, .int .i64 a0_5, .int .i64 a0_6, .int .u8 a0_7, .int .i64 a0_8]] w fun e w' => e = .returned (.int .i64 r) ∧ Below w.heap.size w w' := by
  obtain rfl := Option.some.inj h
  exact check_any ⟨a0_0, a0_1, a0_2, a0_3, a0_4, a0_5, a0_6, a0_7, a0_8⟩ w
end

end Go.Proofs.Ytahpkfmgeifenaa.HStyle
