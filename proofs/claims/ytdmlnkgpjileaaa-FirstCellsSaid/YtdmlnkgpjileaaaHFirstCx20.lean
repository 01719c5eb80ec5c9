-- Written by this claim's own program over the kit's print.
import Derived.Test.YtdmlnkgpjileaaaM3
import Derived.Test.YtdmlnkgpjileaaaHFirstCx4
import Derived.Test.YtdmlnkgpjileaaaHFirstCx19
import Derived.Test.YtdmlnkgpjileaaaM2
import Derived.StillTailTactics
import Derived.Laws.Externs
import Derived.BigFrameIn
import Derived.Lib.Hide
import Derived.Sort.LoopGhostIn
import Derived.BigQuiet
namespace Go.Proofs.Ytdmlnkgpjileaaa.HFirstC
open Go.RowKit Go.Proofs.YtdmlnkgpjileaaaW.PrintWords Go.Proofs.YtdmlnkgpjileaaaW.PrintLast Go.Proofs.YtdmlnkgpjileaaaW.PrintMore
attribute [local go_sem] max2_int min2_int max_two min_two max_three min_three max_four min_four   -- for this text's walks alone
set_option linter.unusedVariables false
set_option linter.unusedSimpArgs false

-- BY HAND: function 14
section
open Go.Proofs.Ytdmlnkgpjileaaa.Hand
/-- One line's cells; none where the line does not lie in the row. -/
def cutO (own : List S46) (x : S43) : List S46 := (own.take x.f1.toNat).drop x.f0.toNat
/-- The cells of lines, the first one's of a row, the others' of another one; none where a line does not lie in its row. -/
def cellsO (l1 : List S46) : List S46 → List S43 → Option (List (List S46))
  | _, [] => some []
  | own, x :: xs => if x.f0 < 0 ∨ x.f1 < x.f0 ∨ (own.length : Int) < x.f1 then none else (cellsO l1 l1 xs).map (cutO own x :: ·)
def first_Cells.f (l0 l1 : List S46) (l2 : List S43) : Option (List (List S46) × Int) :=
  if l0.length ≤ 1000000000000 ∧ l1.length ≤ 1000000000000 ∧ l2.length ≤ 1000000000000 then some (if asL l0 l1 = true then ((cellsO l1 l0 l2).getD [], if (cellsO l1 l0 l2).isSome = true then 0 else 2) else ([], 2)) else none
theorem cut_max {P : Program} (t e : TypeId) (kl kh km : IntKind) {i : TypeInfo} (ht : P.underlying t = some (.slice e)) (hi : P.info? e = some i) (size : Nat) (hsz : i.size = size) (A : Option Addr) (n c : Nat) (lo hi' : Int) (h0 : 0 ≤ lo) (h1 : lo ≤ hi') (h2 : hi' ≤ n) (hc : n ≤ c) :
    ∀ W : World, (Instr.slice t (.slice A n c) (some (.int kl lo)) (some (.int kh hi')) (some (.int km hi'))).run P W = .ok (.slice (if hi'.toNat = lo.toNat then A else A.map (·.add (lo.toNat * size))) (hi'.toNat - lo.toNat) (hi'.toNat - lo.toNat)) W := by
  intro W
  have hel : P.elem t = e := by simp [Program.elem, ht]
  have hu : P.underlying t = some (.slice (P.elem t)) := by rw [hel]; exact ht
  rw [run_slice_lhm W t A n c hu kl kh km lo hi' hi' h0 h1 (Int.le_refl _) (by omega), hel]
  simp [sizeOf, typeInfo, hi, hsz, sliced, Result.andThen]
theorem Kc_cut {W W' : World} {x : S46} {cs : List Value} (h : k46.K W x cs) : k46.K W' x cs := by rw [k46_open h]; exact k46_mk W' x
set_option maxRecDepth 100000 in
set_option maxHeartbeats 4000000 in
theorem first_Cells.calls (A0 : Option Addr) (c0 : Nat) (l0 : List S46) (A1 : Option Addr) (c1 : Nat) (l1 : List S46) (A2 : Option Addr) (c2 : Nat) (l2 : List S43) (r1 : List (List S46)) (r2 : Int) (w : World) (hr0 : Kd.C k46 w A0 l0.length l0) (hc0 : l0.length ≤ c0) (hr1 : Kd.C k46 w A1 l1.length l1) (hc1 : l1.length ≤ c1) (hr2 : Kd.C k43 w A2 l2.length l2) (hc2 : l2.length ≤ c2) (h : first_Cells.f l0 l1 l2 = some (r1, r2)) :
    Calls Try.prog 14 #[.slice A0 l0.length c0, .slice A1 l1.length c1, .slice A2 l2.length c2] w fun e w' => ∃ v0_ : Value, e = .returned (.tuple #[v0_, .int .i64 r2]) ∧ Kd.S (Kd.slice 46 k46) 22 w' w.heap.size (fun _ => True) v0_ r1 ∧ Below w.heap.size w w' := by
  unfold first_Cells.f at h
  split at h
  case isFalse => cases h
  rename_i hsz
  obtain ⟨n0, n1, n2⟩ := hsz
  have hmx : l2.length ≤ 9223372036854775807 := hr2.2.1
  have HR0 := Aside0.mk hr0
  have HR1 := Aside0.mk hr1
  have HR2 := Aside0.mk hr2
  have HH := Aside0.mk (Option.some.inj h)
  clear h hr0 hr1 hr2
  have hu := Try.underlying46
  go_enter Try.func14, Try.ntmps14
  go_wp2_with (first | (go_at_call 12; refine Aside0.out ?_))
  refine Aside0.mk ?_
  refine (first_Alike.calls A0 c0 l0 A1 c1 l1 (asL l0 l1) w HR0.out hc0 HR1.out hc1 rfl).mono ?_
  rintro e_ w1 ⟨rfl, hb1⟩
  have HB1 := Aside0.mk hb1
  have HH2 := HH.out
  clear HH hb1
  cases hl : asL l0 l1 with
  | false =>
    rw [hl] at HH2
    replace HH2 := (if_neg (by decide)).symm.trans HH2
    simp only [Prod.mk.injEq] at HH2
    obtain ⟨rfl, rfl⟩ := HH2
    go_wp2_with fail
    go_ret2
    exact ⟨_, rfl, Kd.S_nil _ _ _ _ _, HB1.out⟩
  | true =>
  rw [hl] at HH2
  replace HH2 := (if_pos rfl).symm.trans HH2
  have HH := Aside0.mk HH2
  clear HH2 hl
  go_wp2_with (first | (go_at_call 28; refine Aside0.out ?_))
  refine Aside0.mk ?_
  refine (api_Cell_28.calls A0 c0 l0 l0 w1 (Kd.C_below HR0.out HB1.out) hc0 (if_pos n0)).mono ?_
  rintro e_ w2 ⟨v0, rfl, hrow, hb2⟩
  have HB2 := Aside0.mk (below_step HB1.out hb2)
  obtain ⟨Ao, co, rfl⟩ := Kd.R_slice hrow
  have HO := Aside0.mk (Kd.R_reads' hrow)
  clear hb2 hrow HB1
  go_wp2_with fail
  go_loopg [8, 9, 20] (l2.length + 1) (fun kq v8 v9 v20 wr => ∃ (i : Nat) (x : Int) (A : Option Addr) (c : Nat) (own : List S46) (pre : List (List S46)), v20 = .int .i64 x ∧ v8 = .slice A own.length c ∧ Aside0 (x = (i : Int)) ∧ Aside0 (i ≤ l2.length ∧ l2.length < i + kq ∧ pre.length = i) ∧
    Aside0 ((cellsO l1 l0 l2 = (cellsO l1 own (l2.drop i)).map (pre ++ ·))) ∧ Aside0 (Kd.C k46 w2 A own.length own ∧ own.length ≤ c ∧ own.length ≤ 1000000000000) ∧
    Aside0 (Kd.S (Kd.slice 46 k46) 22 wr w2.heap.size (fun _ => True) v9 pre) ∧ Aside0 (Below w2.heap.size w2 wr))
  case atStart => exact ⟨0, 0, Ao, co, l0, [], rfl, rfl, ⟨rfl⟩, ⟨by simp⟩, ⟨by simp⟩, ⟨HO.out.2.2, HO.out.2.1, n0⟩, ⟨Kd.S_nil _ _ _ _ _⟩, ⟨Below.refl _ _⟩⟩
  case round =>
    obtain ⟨i, x, A, c, own, pre, rfl, rfl, hx, hin, hcel, hown, hS, hB⟩ := hrel
    cases gk with
    | zero => have := hin.out; exfalso; omega
    | succ m =>
    by_cases hi : i < l2.length
    · have d1 : decide (x < (l2.length : Int)) = true := decide_eq_true (by have := hx.out; omega)
      have z1 : 0 ≤ x := by have := hx.out; omega
      have z2 : x < (l2.length : Int) := by have := hx.out; omega
      obtain ⟨ad, rfl, hd0, hd1, hd2⟩ := at_T43 (Kd.C_below HR2.out (below_step HB2.out hB.out)) x z1 z2
      have erd : rd_T43 l2 x = l2[i] := by rw [hx.out]; unfold rd_T43; simp [List.getD, hi]
      rw [erd] at hd0 hd1 hd2
      have hc2 := hcel.out
      rw [List.drop_eq_getElem_cons hi] at hc2
      simp only [cellsO] at hc2
      generalize l2[i] = p at hd0 hd1 hd2 hc2
      have e5 : IntKind.i64.wrap (x + 1) = x + 1 := IntWalk.i64_in _ (by omega)
      have HI := Aside0.mk hi
      by_cases hbad : p.f0 < 0 ∨ p.f1 < p.f0 ∨ (own.length : Int) < p.f1
      · rw [if_pos hbad] at hc2
        have HHo := HH.out
        rw [hc2] at HHo
        simp only [Option.map_none, Option.getD_none, Option.isSome_none, Prod.mk.injEq] at HHo
        obtain ⟨rfl, h2⟩ := HHo
        replace h2 := (if_neg (by decide)).symm.trans h2
        subst h2
        clear HH hc2 hcel
        by_cases g0 : p.f0 < 0
        · have g0b : decide (p.f0 < 0) = true := decide_eq_true g0
          go_wp2_with fail
          go_ret2
          exact ⟨_, rfl, Kd.S_nil _ _ _ _ _, below_step HB2.out (below_step hB.out (below_alloc (Below.refl _ _) _))⟩
        · have g0b : decide (p.f0 < 0) = false := decide_eq_false g0
          by_cases g1 : p.f1 < p.f0
          · have g1b : decide (p.f1 < p.f0) = true := decide_eq_true g1
            go_wp2_with fail
            go_ret2
            exact ⟨_, rfl, Kd.S_nil _ _ _ _ _, below_step HB2.out (below_step hB.out (below_alloc (Below.refl _ _) _))⟩
          · have g1b : decide (p.f1 < p.f0) = false := decide_eq_false g1
            have g2b : decide ((own.length : Int) < p.f1) = true := decide_eq_true (by omega)
            go_wp2_with fail
            go_ret2
            exact ⟨_, rfl, Kd.S_nil _ _ _ _ _, below_step HB2.out (below_step hB.out (below_alloc (Below.refl _ _) _))⟩
      · rw [if_neg hbad] at hc2
        have g0 : decide (p.f0 < 0) = false := decide_eq_false (fun h => hbad (.inl h))
        have g1 : decide (p.f1 < p.f0) = false := decide_eq_false (fun h => hbad (.inr (.inl h)))
        have g2 : decide ((own.length : Int) < p.f1) = false := decide_eq_false (fun h => hbad (.inr (.inr h)))
        have b0 : 0 ≤ p.f0 := by omega
        have b1 : p.f0 ≤ p.f1 := by omega
        have b2 : p.f1 ≤ (own.length : Int) := by omega
        clear hbad
        obtain ⟨i0, hi0, _, hsz, _⟩ := info_parts info46
        have hcut := cut_max (P := Try.prog) 22 46 .i64 .i64 .i64 Try.underlying22 hi0 6 hsz A own.length c p.f0 p.f1 b0 b1 b2 hown.out.2.1
        have hn : (cutO own p).length = p.f1.toNat - p.f0.toNat := by unfold cutO; rw [List.length_drop, List.length_take]; omega
        have htl : (own.take p.f1.toNat).length = p.f1.toNat := by rw [List.length_take]; omega
        have hrw : Kd.C k46 w2 (if p.f1.toNat = p.f0.toNat then A else A.map (·.add (p.f0.toNat * 6))) (cutO own p).length (cutO own p) :=
          Kd.C_drop (m := p.f0.toNat) (c := p.f1.toNat) (Kd.C_take (m := p.f1.toNat) hown.out.1 (by omega)) (by omega) (by omega)
        obtain ⟨Ay, hAy⟩ : ∃ Ay, Ay = (if p.f1.toNat = p.f0.toNat then A else A.map (·.add (p.f0.toNat * 6))) := ⟨_, rfl⟩
        rw [← hn, ← hAy] at hcut
        rw [← hAy] at hrw
        have hyl : (cutO own p).length ≤ 1000000000000 := by have := hown.out.2.2; omega
        obtain ⟨y, hy⟩ : ∃ y, cutO own p = y := ⟨_, rfl⟩
        rw [hy] at hcut hrw hyl
        have HY := Aside0.mk hy
        have HRW := Aside0.mk hrw
        have HC2 := Aside0.mk hc2
        have HYL := Aside0.mk hyl
        clear hrw hn htl hAy hy hi0 hsz hyl hc2 hcel
        go_wp2_with (first | (go_at_call 28; refine Aside0.out ?_))
        refine Aside0.mk ?_
        have hb3 : Below wr.heap.size wr (wr.alloc (Obj.cells #[Value.int IntKind.i64 p.f0, Value.int IntKind.i64 p.f1, Value.bool p.f2] 43)) := below_alloc (Below.refl _ _) _
        generalize (wr.alloc (Obj.cells #[Value.int IntKind.i64 p.f0, Value.int IntKind.i64 p.f1, Value.bool p.f2] 43)) = w3 at hb3 ⊢
        have hB3 := below_step hB.out hb3
        have hS3 := Kd.S_below hS.out hb3
        refine (api_Cell_28.calls Ay y.length y y w3 (Kd.C_below HRW.out hB3) (Nat.le_refl _) (if_pos HYL.out)).mono ?_
        rintro e_ w4 ⟨v5, rfl, hrow5, hb4⟩
        have HB := Aside0.mk (below_step hB3 hb4)
        have HS4 := Aside0.mk (Kd.S_below (Kd.S_mono (Kd.S_bound hS3) (ok' := fun k => k < w3.heap.size) (fun k hk => hk.2.2.1)) hb4)
        have HO5 := Aside0.mk (Kd.R_lower (Kd.R_mono (Kd.R_bound hrow5) (ok' := fun k => w3.heap.size ≤ k) (fun k hk => hk.2.1)) (Nat.le_trans hB.out.size hb3.size))
        obtain ⟨A5, c5, rfl⟩ := Kd.R_slice hrow5
        have hz : (pre.length + 1) * 24 ≤ 140737488355328 := by have := hin.out; omega
        clear hrow5 hb4 hb3 hB3 hS3 hS hcut HRW
        go_wp2_with (first | (at_builtin; refine Aside0.out ?_))
        refine Aside0.mk ?_
        refine Kd.S_append (Kd.slice 46 k46) (w0 := w2) w2.heap.size rfl (.tmp 41) (.tmp 51) 37 22 (.slice none 0 0) 24 rfl Try.underlying37 info22 rfl (by decide) (by omega) _ pre y [.slice A5 y.length c5] (fun _ => True) (fun k => w3.heap.size ≤ k) rfl rfl (Kd.M_row HO5.out)
          (fun k hk => ⟨trivial, fun e => by
            obtain ⟨f, hR⟩ := HS4.out
            have h1 : k < w3.heap.size := hR.1 k e.symm
            have h2 : w3.heap.size ≤ k := hk
            omega⟩) (fun _ _ => trivial) (Kd.S_mono HS4.out (fun k hk => ⟨trivial, Nat.not_le.2 hk⟩)) HB.out HB.out.size hz ?_
        intro v6 w6 ho6 hb6 _ _
        have HS6 := Aside0.mk ho6
        have HB6 := Aside0.mk hb6
        clear ho6 hb6 HS4 HO5
        go_wp2_with fail
        go_roundg m
        case measure => omega
        case rel => exact ⟨i + 1, x + 1, A1, c1, l1, pre ++ [y], rfl, rfl, ⟨by have := hx.out; omega⟩, ⟨by have := hin.out; have := HI.out; simp only [List.length_append, List.length_singleton]; omega⟩, ⟨by rw [HC2.out, HY.out, Option.map_map]; congr 1; funext z; simp⟩, ⟨Kd.C_below HR1.out HB2.out, hc1, n1⟩, HS6, HB6⟩
    · have d1 : decide (x < (l2.length : Int)) = false := decide_eq_false (by have := hx.out; omega)
      have hc2 := hcel.out
      rw [List.drop_of_length_le (by omega)] at hc2
      have HHo := HH.out
      rw [hc2] at HHo
      simp only [cellsO, Option.map_some, Option.getD_some, Option.isSome_some, List.append_nil, Prod.mk.injEq] at HHo
      obtain ⟨rfl, h2⟩ := HHo
      replace h2 := (if_pos trivial).symm.trans h2
      subst h2
      clear hcel hc2 HH
      go_wp2_with fail
      go_ret2
      exact ⟨_, rfl, Kd.S_lower hS.out HB2.out.size, below_step HB2.out hB.out⟩
end

end Go.Proofs.Ytdmlnkgpjileaaa.HFirstC
