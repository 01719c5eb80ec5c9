-- Written by this claim's own program over the kit's print.
import Derived.Test.YtkaiibipcnlaiaaHEllWx0
import Derived.Test.YtkaiibipcnlaiaaHEllWx10
import Derived.Test.YtkaiibipcnlaiaaHEllWx11
import Derived.Test.YtkaiibipcnlaiaaMB
import Derived.StillTailTactics
import Derived.Laws.Externs
import Derived.BigFrameIn
import Derived.Lib.Hide
import Derived.Sort.LoopGhostIn
import Derived.BigQuiet
import Derived.Test.YtkaiibipcnlaiaaHEllWb
namespace Go.Proofs.Ytkaiibipcnlaiaa.HEllW
open Go.RowKit Go.Proofs.YtkaiibipcnlaiaaW.PrintWords Go.Proofs.YtkaiibipcnlaiaaW.PrintLast Go.Proofs.YtkaiibipcnlaiaaW.PrintMore
attribute [local go_sem] max2_int min2_int max_two min_two max_three min_three max_four min_four   -- for this text's walks alone
set_option linter.unusedVariables false
set_option linter.unusedSimpArgs false

-- BY HAND: function 20
section
open Go.Proofs.Ytkaiibipcnlaiaa.Hand
/-- The roles when what hangs goes, as far as a place. -/
def hangG (t : List Int) : Nat → List Int
  | 0 => t
  | i + 1 => if rdOf (0 : Int) (hangG t i) (i : Int) = 2 then (hangG t i).set i 1 else hangG t i
def trim_Fits.f (l0 : List (S53)) (a1 : Int) : Option (Int × Int) := (trim_Roles.f l0).bind fun t => ((tabs_End.f l0 (hangG t t.length) a1).bind fun b => (some (b.1, b.2)))
set_option maxRecDepth 100000 in
set_option maxHeartbeats 4000000 in
theorem trim_Fits.calls (A0 : Option Addr) (c0 : Nat) (l0 : List (S53)) (a1 r1 r2 : Int) (w : World) (hr0 : Kd.C k53 w A0 l0.length l0) (hc0 : l0.length ≤ c0) (h : trim_Fits.f l0 a1 = some (r1, r2)) :
    Calls Try.prog 20 #[.slice A0 l0.length c0, .int .i64 a1] w fun e w' => e = .returned (.tuple #[.int .i64 r1, .int .i64 r2]) ∧ Below w.heap.size w w' := by
  obtain ⟨t, ht, H⟩ := Option.bind_eq_some_iff.mp h
  obtain ⟨⟨b1, b2⟩, hb, H⟩ := Option.bind_eq_some_iff.mp H
  simp only [Option.some.injEq, Prod.mk.injEq] at H
  obtain ⟨rfl, rfl⟩ := H
  have HT := Aside0.mk ht
  have HE := Aside0.mk hb
  have HR0 := Aside0.mk hr0
  have HC0 := Aside0.mk hc0
  clear ht hb hr0 hc0 h
  go_enter Try.func20, Try.ntmps20
  go_wp2_with (first | (go_at_call 19; refine Aside0.out ?_))
  refine Aside0.mk ?_
  refine (trim_Roles.calls A0 c0 l0 t w HR0.out HC0.out HT.out).mono ?_
  rintro e_ w1 ⟨v0, rfl, hR, hB⟩
  obtain ⟨A, c, rfl⟩ := Kd.R_slice hR
  have hm : t.length ≤ 9223372036854775807 := (Kd.R_reads' hR).2.2.2.1
  obtain ⟨n, hn⟩ : ∃ n, t.length = n := ⟨_, rfl⟩
  rw [hn] at hR hm ⊢
  have HN := Aside0.mk hn
  have HR1 := Aside0.mk hR
  have HB1 := Aside0.mk hB
  clear hR hB hn
  go_wp2_with fail
  go_loopg [13] (n + 1) (fun kq v13 wr => ∃ i : Nat, v13 = .int .i64 (i : Int) ∧ i ≤ n ∧ n - i < kq ∧ Aside0 (Kd.R (Kd.int .u8) 5 wr w.heap.size (fun _ => True) (.slice A n c) (hangG t i)) ∧ Aside0 (Below w.heap.size w wr))
  case atStart => exact ⟨0, rfl, Nat.zero_le _, by omega, HR1, HB1⟩
  case round =>
    obtain ⟨i, rfl, hi, hq, hO, hBB⟩ := hrel
    cases gk with
    | zero => omega
    | succ m =>
      by_cases hlt : i < n
      · have hd : decide ((i : Int) < (n : Int)) = true := by simp; omega
        have hle : n = (hangG t i).length := (Kd.R_reads' hO.out).1
        obtain ⟨g, cap, e, gb, gl, cl⟩ := Kd.R_form hO.out (by omega)
        injection e with ea en ec
        subst ea
        obtain ⟨x0, f0⟩ := Kd.R_celln 0 hO.out (i : Int) (by omega) (by omega)
        have hP := Kd.R_putg hO.out (i : Int) 1
        simp only [Int.toNat_natCast] at x0 f0 hP
        have HP := Aside0.mk hP
        have ew : IntKind.i64.wrap ((i : Int) + 1) = ((i + 1 : Nat) : Int) := (IntWalk.i64_in _ (by omega)).trans (by omega)
        clear hP cl
        have HS : hangG t (i + 1) = if rdOf (0 : Int) (hangG t i) (i : Int) = 2 then (hangG t i).set i 1 else hangG t i := rfl
        by_cases h2 : rdOf (0 : Int) (hangG t i) (i : Int) = 2
        · rw [if_pos h2] at HS
          rw [h2] at x0
          have HS2 := Aside0.mk HS
          clear HS h2 hle
          go_wp2_with fail
          go_roundg m
          case measure => omega
          case rel => exact ⟨i + 1, by first | rfl | (rw [ew]; done) | simp, by omega, by omega, ⟨by rw [HS2.out]; exact HP.out.1⟩, ⟨hBB.out.setCell (p := ⟨g, i, none⟩) gb _⟩⟩
        · rw [if_neg h2] at HS
          generalize rdOf (0 : Int) (hangG t i) (i : Int) = u at x0 h2
          have hu : (u == 2) = false := beq_eq_false_iff_ne.2 h2
          have HS2 := Aside0.mk HS
          clear HS h2 hle
          go_wp2_with fail
          go_roundg m
          case measure => omega
          case rel => exact ⟨i + 1, by first | rfl | (rw [ew]; done) | simp, by omega, by omega, ⟨by rw [HS2.out]; exact hO.out⟩, hBB⟩
      · obtain rfl : i = n := by omega
        have hd : decide ((i : Int) < (i : Int)) = false := by simp
        have hle : i = (hangG t i).length := (Kd.R_reads' hO.out).1
        have hE := HE.out
        rw [HN.out] at hE
        have HC : Calls Try.prog 41 #[.slice A0 l0.length c0, .slice A i c, .int .i64 a1] wr fun e w' => e = .returned (.tuple #[.int .i64 b1, .int .i64 b2]) ∧ Below wr.heap.size wr w' := by
          have hh := tabs_End.calls A0 c0 l0 A c (hangG t i) a1 b1 b2 wr (Kd.C_below HR0.out hBB.out) HC0.out (Kd.R_reads' hO.out).2.2 (by rw [← hle]; exact (Kd.R_reads' hO.out).2.1) hE
          rw [← hle] at hh
          exact hh
        have HCA := Aside0.mk HC
        clear HC hE hle
        go_wp2_with (first | (go_at_call 41; refine HCA.out.mono ?_; rintro e_ w5 ⟨rfl, hb5⟩))
        go_ret2
        exact ⟨rfl, hBB.out.trans (below_lower_ hb5 hBB.out.size)⟩
end

end Go.Proofs.Ytkaiibipcnlaiaa.HEllW
