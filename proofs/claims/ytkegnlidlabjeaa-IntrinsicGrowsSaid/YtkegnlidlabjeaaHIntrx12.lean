-- Written by this claim's own program over the kit's print.
import Derived.Test.YtkegnlidlabjeaaHIntrx0
import Derived.Test.YtkegnlidlabjeaaHIntrx11
import Derived.Test.YtkegnlidlabjeaaHand3
import Derived.Test.YtkegnlidlabjeaaHand4
import Derived.StillTailTactics
import Derived.Laws.Externs
import Derived.BigFrameIn
import Derived.Lib.Hide
import Derived.Test.YtkegnlidlabjeaaHand8
import Derived.Sort.LoopGhostIn
import Derived.BigQuiet
namespace Go.Proofs.Ytkegnlidlabjeaa.HIntr
open Go.RowKit Go.Proofs.YtkegnlidlabjeaaW.PrintWords Go.Proofs.YtkegnlidlabjeaaW.PrintLast Go.Proofs.YtkegnlidlabjeaaW.PrintMore
attribute [local go_sem] max2_int min2_int max_two min_two max_three min_three max_four min_four   -- for this text's walks alone
set_option linter.unusedVariables false
set_option linter.unusedSimpArgs false

-- BY HAND: function 31
section
open Go.Proofs.Ytkegnlidlabjeaa.Hand
def intrinsic_Pieces.f (l0 : List S35) : Option (List S50) := if l0.length ≤ 999999999999 then some (partsL l0 softB (l0.length + 1) 0) else none
set_option maxRecDepth 100000 in
set_option maxHeartbeats 4000000 in
theorem intrinsic_Pieces.calls (A0 : Option Addr) (c0 : Nat) (l0 : List S35) (r : List S50) (w : World) (h0 : Kd.C k35 w A0 l0.length l0) (hc0 : l0.length ≤ c0) (h : intrinsic_Pieces.f l0 = some r) :
    Calls Try.prog 31 #[.slice A0 l0.length c0] w fun e w' => ∃ v0_ : Value, e = .returned v0_ ∧ Kd.R k50 50 w' w.heap.size (fun _ => True) v0_ r ∧ Below w.heap.size w w' := by
  have hlen : l0.length ≤ 999999999999 := by
    unfold intrinsic_Pieces.f at h
    split at h
    · assumption
    · cases h
  have hres : partsL l0 softB (l0.length + 1) 0 = r := by
    unfold intrinsic_Pieces.f at h
    rw [if_pos hlen] at h
    exact Option.some.inj h
  have HR := Aside0.mk hres
  clear h hres
  go_enter Try.func31, Try.ntmps31
  go_wp2_with (first | (go_at_call 45; refine Aside0.out ?_))
  refine Aside0.mk ?_
  refine (parts_any A0 l0.length c0 (.func (.func 46) #[] #[]) w rfl).mono ?_
  rintro e_ W4 ⟨rfl, hW4⟩
  have HI := Aside0.mk (made_iter 46 softB A0 c0 l0 w h0 (enters_of Try.func46 (by kernel_rfl) rfl) soft_any W4 hW4)
  have hb4 : Below w.heap.size w W4 := by rw [← hW4]; exact ((Below.refl _ w).alloc (Nat.le_refl _) _).alloc (by simp) _
  have hz4 : W4.heap.size = w.heap.size + 2 := by rw [← hW4]; simp
  have HZ := Aside0.mk hz4
  clear hW4 hz4
  go_wp2_with (first | (go_at_call 49; refine Aside0.out ?_))
  refine Aside0.mk ?_
  refine (collect_any 55 _ w.heap.size [w.heap.size, w.heap.size + 1] (partsL l0 softB (l0.length + 1) 0) W4 (enters_of Try.func55 (by kernel_rfl) rfl) HI.out (by rw [HZ.out]; omega) (fun B hB => by simp at hB; rw [HZ.out]; omega) (by have := partsL_len l0 softB (l0.length + 1) 0; omega)).mono ?_
  rintro e_ W5 ⟨v5, rfl, hr5, hb5⟩
  rw [HR.out] at hr5
  go_wp2_with fail
  go_ret
  exact ⟨_, rfl, Kd.R_lower hr5 (by rw [HZ.out]; omega), below_step hb4 hb5⟩
end

end Go.Proofs.Ytkegnlidlabjeaa.HIntr
