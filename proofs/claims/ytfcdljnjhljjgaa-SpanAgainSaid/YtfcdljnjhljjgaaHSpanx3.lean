-- Written by this claim's own program over the kit's print.
import Derived.Test.YtfcdljnjhljjgaaHSpanx0
import Derived.Test.YtfcdljnjhljjgaaHand3
import Derived.Test.YtfcdljnjhljjgaaHand4
import Derived.StillTailTactics
import Derived.Laws.Externs
import Derived.BigFrameIn
import Derived.Lib.Hide
import Derived.Test.YtfcdljnjhljjgaaHand9
import Derived.Sort.LoopGhostIn
import Derived.BigQuiet
import Derived.Deep.MidRow
import Derived.Deep.Cut
import Derived.Test.YtfcdljnjhljjgaaHSpanb
import Derived.Test.YtfcdljnjhljjgaaHandA
namespace Go.Proofs.Ytfcdljnjhljjgaa.HSpan
open Go.RowKit Go.Proofs.YtfcdljnjhljjgaaW.PrintWords Go.Proofs.YtfcdljnjhljjgaaW.PrintLast Go.Proofs.YtfcdljnjhljjgaaW.PrintMore
attribute [local go_sem] max2_int min2_int max_two min_two max_three min_three max_four min_four   -- for this text's walks alone
set_option linter.unusedVariables false
set_option linter.unusedSimpArgs false

-- BY HAND: function 15
section
open Go.Proofs.Ytfcdljnjhljjgaa.Hand
/-- Is a number too far from nothing? -/
def farB (q : Int) : Bool := decide (q < -1099511627776) || decide (q > 1099511627776)
/-- The first place of which something is so; -1: none. -/
def idxF {α : Type} (p : α → Bool) : List α → Int → Int
  | [], _ => -1
  | x :: xs, i => if p x = true then i else idxF p xs (i + 1)
theorem idx_any {α : Type} (p : α → Bool) : ∀ (l : List α) (i : Int), 0 ≤ i → decide (idxF p l i ≥ 0) = l.any p
  | [], i, _ => rfl
  | x :: xs, i, h => by
    unfold idxF
    rw [List.any_cons]
    by_cases hp : p x = true
    · rw [if_pos hp, hp, Bool.true_or]
      exact decide_eq_true h
    · rw [if_neg hp, idx_any p xs (i + 1) (by omega), Bool.eq_false_iff.2 hp, Bool.false_or]
set_option maxRecDepth 100000 in
set_option maxHeartbeats 1000000 in
theorem may1_any (q : Int) (w : World) : Calls Try.prog 31 #[.int .i64 q] w fun e w' => e = .returned (.bool (farB q)) ∧ Below w.heap.size w w' := by
  unfold farB
  by_cases h1 : q < -1099511627776
  · have d1 : decide (q < -1099511627776) = true := decide_eq_true h1
    rw [d1, Bool.true_or]
    clear h1
    go_enter Try.func31, Try.ntmps31
    go_wp2_with fail
    go_ret
    exact ⟨rfl, Below.refl _ _⟩
  · have d1 : decide (q < -1099511627776) = false := decide_eq_false h1
    rw [d1, Bool.false_or]
    clear h1
    go_enter Try.func31, Try.ntmps31
    go_wp2_with fail
    go_ret
    exact ⟨rfl, Below.refl _ _⟩
set_option maxRecDepth 100000 in
set_option maxHeartbeats 2000000 in
theorem idx64_any (gi : Nat) (p : Int → Bool) (A : Option Addr) (c : Nat) (l : List Int) (w : World) (heg : ∀ args w, (callFunc gi args).run Try.prog w = .ok (.enter gi args) w)
    (hf : ∀ (q : Int) (W : World), Calls Try.prog gi #[.int .i64 q] W fun e W' => e = .returned (.bool (p q)) ∧ Below W.heap.size W W') (hr0 : Kd.C (Kd.int .i64) w A l.length l) :
    Calls Try.prog 36 #[.slice A l.length c, .func (.func gi) #[] #[]] w fun e w' => e = .returned (.int .i64 (idxF p l 0)) ∧ Below w.heap.size w w' := by
  have HF := Aside0.mk hf
  have HR0 := Aside0.mk hr0
  have hmx : l.length ≤ 9223372036854775807 := hr0.2.1
  generalize hR : idxF p l 0 = r
  have HRR := Aside0.mk (show idxF p (l.drop (0 : Int).toNat) 0 = r from hR)
  clear hf hr0 hR
  go_enter Try.func36, Try.ntmps36
  go_wp2_with fail
  go_loopg [8] (l.length + 1) (fun kq v8 wr => ∃ (x : Int), v8 = .int .i64 x ∧ Aside0 (0 ≤ x ∧ x ≤ (l.length : Int) ∧ x + (kq : Int) = (l.length : Int) + 1) ∧ Aside0 (idxF p (l.drop x.toNat) x = r) ∧ Aside0 (Below w.heap.size w wr))
  case atStart => exact ⟨0, rfl, ⟨by omega⟩, HRR, ⟨Below.refl _ _⟩⟩
  case round =>
    clear HRR
    obtain ⟨x, rfl, hin, hA, HB⟩ := hrel
    cases gk with
    | zero => have := hin.out; exfalso; omega
    | succ m =>
    by_cases hx : x < (l.length : Int)
    · have d1 : decide (x < (l.length : Int)) = true := decide_eq_true hx
      have z1 : 0 ≤ x := hin.out.1
      obtain ⟨ad0, e0, hx0⟩ := Kd.at_int (Kd.C_below HR0.out HB.out) x z1 hx
      cases e0
      have hAs := hA.out
      have hd : l.drop x.toNat = rd l x :: l.drop (x + 1).toNat := by
        rw [show (x + 1).toNat = x.toNat + 1 by omega, List.drop_eq_getElem_cons (by omega)]
        unfold rd
        rw [List.getD_eq_getElem?_getD, List.getElem?_eq_getElem (by omega)]
        rfl
      rw [hd] at hAs
      simp only [idxF] at hAs
      have e5 : IntKind.i64.wrap (x + 1) = x + 1 := IntWalk.i64_in _ (by omega)
      have HI := Aside0.mk (show x + 1 ≤ (l.length : Int) by omega)
      clear hA hd
      generalize rd l x = q at hx0 hAs
      have HA := Aside0.mk hAs
      clear hAs
      go_wp2_with fail
      refine (HF.out q _).mono ?_
      rintro e_ w5 ⟨rfl, hb5⟩
      have HB5 := Aside0.mk (below_step HB.out hb5)
      have HA2 := HA.out
      clear hb5 HF hx0 HA
      cases hq : p q with
      | true =>
        rw [if_pos hq] at HA2
        subst HA2
        clear hq
        go_wp2_with fail
        go_ret
        exact ⟨rfl, HB5.out⟩
      | false =>
        rw [if_neg (by rw [hq]; decide)] at HA2
        have HA := Aside0.mk HA2
        clear HA2 hq
        go_wp2_with fail
        go_roundg m
        case measure => omega
        case rel => exact ⟨x + 1, rfl, ⟨by have := hin.out; have := HI.out; omega⟩, HA, HB5⟩
    · have d1 : decide (x < (l.length : Int)) = false := decide_eq_false hx
      have hA2 := hA.out
      rw [List.drop_of_length_le (by omega)] at hA2
      subst hA2
      clear hA
      go_wp2_with fail
      go_ret
      exact ⟨rfl, HB.out⟩
set_option maxRecDepth 100000 in
set_option maxHeartbeats 2000000 in
theorem has64_any (A : Option Addr) (c : Nat) (l : List Int) (w : World) (hr0 : Kd.C (Kd.int .i64) w A l.length l) :
    Calls Try.prog 30 #[.slice A l.length c, .func (.func 31) #[] #[]] w fun e w' => e = .returned (.bool (l.any farB)) ∧ Below w.heap.size w w' := by
  have HC := Aside0.mk (idx64_any 31 farB A c l w (enters_of Try.func31 (by kernel_rfl) rfl) may1_any hr0)
  rw [← idx_any farB l 0 (Int.le_refl _)]
  generalize idxF farB l 0 = i at HC ⊢
  generalize l.length = n at HC ⊢
  clear hr0
  go_enter Try.func30, Try.ntmps30
  go_wp2_with (first | (go_at_call 36; refine HC.out.mono ?_; rintro e w5 ⟨rfl, hB5⟩))
  go_ret
  exact ⟨rfl, hB5⟩
def span_may.f (l0 : List Int) : Option Bool := some (!(l0.any farB))
set_option maxRecDepth 100000 in
set_option maxHeartbeats 2000000 in
theorem span_may.calls (A0 : Option Addr) (c0 : Nat) (l0 : List Int) (r : Bool) (w : World) (hr0 : Kd.C (Kd.int .i64) w A0 l0.length l0) (_hc0 : l0.length ≤ c0) (h : span_may.f l0 = some r) :
    Calls Try.prog 15 #[.slice A0 l0.length c0] w fun e w' => e = .returned (.bool r) ∧ Below w.heap.size w w' := by
  obtain rfl := Option.some.inj h
  have HC := Aside0.mk (has64_any A0 c0 l0 w hr0)
  generalize l0.any farB = b at HC ⊢
  generalize l0.length = n at HC ⊢
  clear hr0 h _hc0
  go_enter Try.func15, Try.ntmps15
  go_wp2_with (first | (go_at_call 30; refine HC.out.mono ?_; rintro e w5 ⟨rfl, hB5⟩))
  go_ret
  exact ⟨rfl, hB5⟩
end

end Go.Proofs.Ytfcdljnjhljjgaa.HSpan
