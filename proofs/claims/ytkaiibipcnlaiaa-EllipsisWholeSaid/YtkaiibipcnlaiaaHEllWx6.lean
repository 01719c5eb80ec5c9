-- Written by this claim's own program over the kit's print.
import Derived.Test.YtkaiibipcnlaiaaHEllWx0
import Derived.Test.YtkaiibipcnlaiaaHEllWx5
import Derived.Test.YtkaiibipcnlaiaaMB
import Derived.StillTailTactics
import Derived.Laws.Externs
import Derived.BigFrameIn
import Derived.Lib.Hide
import Derived.Sort.LoopGhostIn
import Derived.BigQuiet
import Derived.Test.YtkaiibipcnlaiaaHEllWb
namespace Go.Proofs.Ytkaiibipcnlaiaa.HEllW
open Go.RowKit Go.Proofs.YtkaiibipcnlaiaaW.PrintWords Go.Proofs.YtkaiibipcnlaiaaW.PrintLast Go.Proofs.YtkaiibipcnlaiaaW.PrintMore
attribute [local go_sem] max2_int min2_int max_two min_two max_three min_three max_four min_four   -- for this text's walks alone
set_option linter.unusedVariables false
set_option linter.unusedSimpArgs false

-- BY HAND: function 34
def in64 (n : Int) : Prop := -9223372036854775808 ≤ n ∧ n ≤ 9223372036854775807
instance (n : Int) : Decidable (in64 n) := by unfold in64; exact inferInstance
/-- A number as 64 bits; a sum of two such; its carry. -/
def un64 (n : Int) : Int := n % 18446744073709551616
def addS (x y : Int) : Int := (x + y) % 18446744073709551616
def addC (x y : Int) : Int := (x + y) / 18446744073709551616
def neg1 (n : Int) : Int := if n < 0 then -1 else 0
def unit_Sum.f (l0 : List Int) : Option (Int × Int) := if (∀ x ∈ l0, in64 x) ∧ l0.length ≤ 1000000000000 then (if -4611686018427387904 ≤ l0.sum ∧ l0.sum ≤ 4611686018427387904 then some (l0.sum, 0) else some (0, 10)) else none
theorem add64_run (x y : Int) (w : World) (hx : 0 ≤ x) (hy : 0 ≤ y) : (callFunc 51 #[.int .u64 x, .int .u64 y, .int .u64 0]).run Try.prog w = .ok (.value (.tuple #[.int .u64 (addS x y), .int .u64 (addC x y)])) w := by
  rw [run_callFunc_extern Try.func51 (by kernel_rfl) (by kernel_rfl) (by kernel_rfl) (e := add64Entry) (by kernel_rfl), run_add64 x y 0 hx hy (by omega) (by omega)]
  simp only [Result.andThen, Int.add_zero]
  rfl
def head64 (s : Int) : Int := s / 18446744073709551616
def low64 (s : Int) : Int := s % 18446744073709551616
theorem un64_ok (n : Int) : IntKind.u64.wrap n = un64 n ∧ 0 ≤ un64 n := by
  constructor
  · simp [IntKind.wrap, un64, IntKind.signed, IntKind.bits]
  · unfold un64; omega
theorem sum_snoc (l : List Int) (k : Nat) (h : k < l.length) : (l.take (k + 1)).sum = (l.take k).sum + rd l k := by
  unfold rd
  rw [List.take_add_one, List.sum_append]
  simp [List.getD, h]
theorem sum_bound (l : List Int) (h : ∀ x ∈ l, in64 x) : ∀ k, k ≤ l.length → -9223372036854775808 * (k : Int) ≤ (l.take k).sum ∧ (l.take k).sum ≤ 9223372036854775807 * (k : Int)
  | 0, _ => by simp
  | k + 1, hk => by
    have ih := sum_bound l h k (by omega)
    rw [sum_snoc l k (by omega)]
    have := h (rd l k) (by simp [rd, List.getD, show k < l.length by omega])
    unfold in64 at this
    omega
theorem wrap_small {x : Int} (h1 : -9223372036854775808 ≤ x) (h2 : x ≤ 9223372036854775807) : wrap64 x = x := by
  unfold wrap64
  omega
theorem sum_step (s n : Int) (k : Int) (hk : 0 ≤ k) (hk2 : k ≤ 1000000000000) (h1 : -9223372036854775808 * k ≤ s) (h2 : s ≤ 9223372036854775807 * k) (hn : in64 n) :
    wrap64 (wrap64 (head64 s + n / 9223372036854775808) + wrap64 (addC (low64 s) (un64 n))) = head64 (s + n) ∧ addS (low64 s) (un64 n) = low64 (s + n) := by
  unfold in64 at hn
  unfold head64 addC addS low64 un64
  obtain ⟨q, hq⟩ : ∃ q, s / 18446744073709551616 = q := ⟨_, rfl⟩
  obtain ⟨r, hr⟩ : ∃ r, s % 18446744073709551616 = r := ⟨_, rfl⟩
  have hs : s = 18446744073709551616 * q + r := by omega
  have hr0 : 0 ≤ r ∧ r < 18446744073709551616 := by omega
  have hqb : -1000000000000 ≤ q ∧ q ≤ 1000000000000 := by omega
  rw [hq, hr]
  clear hq hr h1 h2 hk hk2
  subst hs
  obtain ⟨hr1, hr2⟩ := hr0
  obtain ⟨hq1, hq2⟩ := hqb
  by_cases hn0 : n < 0
  · have e1 : n / 9223372036854775808 = -1 := by omega
    have e2 : n % 18446744073709551616 = n + 18446744073709551616 := by omega
    rw [e1, e2, wrap_small (x := q + -1) (by omega) (by omega)]
    by_cases hc : r + n < 0
    · have e3 : (r + (n + 18446744073709551616)) / 18446744073709551616 = 0 := by omega
      rw [e3, wrap_small (x := 0) (by omega) (by omega), wrap_small (by omega) (by omega)]
      constructor <;> omega
    · have e3 : (r + (n + 18446744073709551616)) / 18446744073709551616 = 1 := by omega
      rw [e3, wrap_small (x := 1) (by omega) (by omega), wrap_small (by omega) (by omega)]
      constructor <;> omega
  · have e1 : n / 9223372036854775808 = 0 := by omega
    have e2 : n % 18446744073709551616 = n := by omega
    rw [e1, e2, wrap_small (x := q + 0) (by omega) (by omega)]
    by_cases hc : r + n < 18446744073709551616
    · have e3 : (r + n) / 18446744073709551616 = 0 := by omega
      rw [e3, wrap_small (x := 0) (by omega) (by omega), wrap_small (by omega) (by omega)]
      constructor <;> omega
    · have e3 : (r + n) / 18446744073709551616 = 1 := by omega
      rw [e3, wrap_small (x := 1) (by omega) (by omega), wrap_small (by omega) (by omega)]
      constructor <;> omega
/-- The low 64 bits as a signed number; do they tell the whole sum? -/
theorem fit_yes {s : Int} (h1 : -9223372036854775808 ≤ s) (h2 : s ≤ 9223372036854775807) : wrap64 (low64 s) = s ∧ head64 s = s / 9223372036854775808 := by
  unfold wrap64 low64 head64
  constructor <;> omega
theorem fit_no {s : Int} (h1 : -9223372036854775808000000000000 ≤ s) (h2 : s ≤ 9223372036854775808000000000000) (h : ¬ (-9223372036854775808 ≤ s ∧ s ≤ 9223372036854775807)) : (head64 s == wrap64 (low64 s) / 9223372036854775808) = false := by
  rw [beq_eq_false_iff_ne]
  unfold wrap64 low64 head64
  omega
set_option maxRecDepth 100000 in
set_option maxHeartbeats 1000000 in
theorem unit_Sum.calls (A0 : Option Addr) (c0 : Nat) (l0 : List Int) (r1 r2 : Int) (w : World) (hr0 : Kd.C (Kd.int .i64) w A0 l0.length l0) (hc0 : l0.length ≤ c0) (h : unit_Sum.f l0 = some (r1, r2)) :
    Calls Try.prog 34 #[.slice A0 l0.length c0] w fun e w' => e = .returned (.tuple #[.int .i64 r1, .int .i64 r2]) ∧ Drawn0 w w' := by
  obtain ⟨hin, hlen⟩ : (∀ x ∈ l0, in64 x) ∧ l0.length ≤ 1000000000000 := by
    unfold unit_Sum.f at h
    by_cases hc : (∀ x ∈ l0, in64 x) ∧ l0.length ≤ 1000000000000
    · exact hc
    · rw [if_neg hc] at h; cases h
  have HF := Aside0.mk h
  have HI := Aside0.mk hin
  clear h hin
  go_enter Try.func34, Try.ntmps34
  go_wp2_with fail
  go_loop [4, 5, 13] (fun h lo i => ∃ k : Nat, k ≤ l0.length ∧ i = .int .i64 k ∧ h = .int .i64 (head64 (l0.take k).sum) ∧ lo = .int .u64 (low64 (l0.take k).sum)) (fun _ _ i => l0.length - (intOf i).toNat)
  case atStart => exact ⟨0, Nat.zero_le _, rfl, by simp [head64], by simp [low64]⟩
  case round =>
    obtain ⟨k, hk, rfl, rfl, rfl⟩ := hrel
    by_cases hlt : k < l0.length
    · obtain ⟨ad, rfl, hcell⟩ := Kd.at_int hr0 (k : Int) (by omega) (by omega)
      simp only [Int.toNat_natCast] at hcell
      have hlo : 0 ≤ low64 (l0.take k).sum := by unfold low64; omega
      have HS := Aside0.mk (sum_step (l0.take k).sum (rd l0 k) k (by omega) (by omega) (sum_bound l0 HI.out k hk).1 (sum_bound l0 HI.out k hk).2 (HI.out _ (by simp [rd, List.getD, hlt])))
      have HT := Aside0.mk (sum_snoc l0 k hlt)
      generalize hh1 : head64 (l0.take k).sum = hh at *
      generalize hl1 : low64 (l0.take k).sum = ll at *
      clear hh1 hl1
      have e1 := (un64_ok (rd l0 k)).1
      have e2 := fun w => add64_run ll (un64 (rd l0 k)) w hlo (un64_ok (rd l0 k)).2
      go_wp2_with fail
      go_round
      case rel => exact ⟨k + 1, by omega, by go_num, by rw [HT.out, HS.out.1], by rw [HT.out, HS.out.2]⟩
      case measure => simp [intOf]; omega
    · obtain rfl : k = l0.length := by omega
      rw [List.take_length]
      have hbd := sum_bound l0 HI.out l0.length (Nat.le_refl _)
      rw [List.take_length] at hbd
      have hf := HF.out
      unfold unit_Sum.f at hf
      rw [if_pos ⟨HI.out, hlen⟩] at hf
      generalize l0.sum = s at *
      have hb1 : -9223372036854775808000000000000 ≤ s := by omega
      have hb2 : s ≤ 9223372036854775808000000000000 := by omega
      by_cases hs : -9223372036854775808 ≤ s ∧ s ≤ 9223372036854775807
      · obtain ⟨e1, e2⟩ := fit_yes hs.1 hs.2
        have HF2 := Aside0.mk (show unit_fit.f s = some (r1, r2) by
          unfold unit_fit.f
          by_cases hc : -4611686018427387904 ≤ s ∧ s ≤ 4611686018427387904
          · rw [if_pos hc] at hf; rw [if_neg (by omega), if_neg (by omega)]; exact hf
          · rw [if_neg hc] at hf
            by_cases hd : s < -4611686018427387904
            · rw [if_pos hd]; exact hf
            · rw [if_neg hd, if_pos (by omega)]; exact hf)
        clear hf hbd HI HF hr0 hc0
        go_wp2_with (first | (go_at_call 52; (with_reducible refine (unit_fit.calls _ _ _ _ HF2.out).mono ?_); rintro e w' ⟨rfl, ⟨nd, rfl⟩⟩))
        go_ret2
        exact ⟨rfl, by repeat (first | exact Drawn0.refl _ | apply Drawn0.step)⟩
      · have e3 := fit_no hb1 hb2 hs
        rw [if_neg (by omega)] at hf
        simp only [Option.some.injEq, Prod.mk.injEq] at hf
        obtain ⟨rfl, rfl⟩ := hf
        clear hbd HI HF hr0 hc0
        go_wp2_with fail
        go_ret2
        exact ⟨rfl, by repeat (first | exact Drawn0.refl _ | apply Drawn0.step)⟩

end Go.Proofs.Ytkaiibipcnlaiaa.HEllW
