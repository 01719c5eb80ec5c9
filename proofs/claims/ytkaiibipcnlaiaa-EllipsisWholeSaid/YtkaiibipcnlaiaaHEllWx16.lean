-- Written by this claim's own program over the kit's print.
import Derived.Test.YtkaiibipcnlaiaaHEllWx0
import Derived.Test.YtkaiibipcnlaiaaHEllWx4
import Derived.Test.YtkaiibipcnlaiaaMB
import Derived.StillTailTactics
import Derived.Laws.Externs
import Derived.BigFrameIn
import Derived.Lib.Hide
import Derived.Sort.LoopGhostIn
import Derived.BigQuiet
import Derived.Test.YtkaiibipcnlaiaaHEllWb
namespace Go.Proofs.Ytkaiibipcnlaiaa.HEllW
open Go.RowKit Go.Proofs.YtkaiibipcnlaiaaW.PrintWords Go.Proofs.YtkaiibipcnlaiaaW.PrintLast Go.Proofs.YtkaiibipcnlaiaaW.PrintMore
attribute [local go_sem] max2_int min2_int max_two min_two max_three min_three max_four min_four   -- for this text's walks alone
set_option linter.unusedVariables false
set_option linter.unusedSimpArgs false

-- BY HAND: function 33
section
open Go.Proofs.Ytkaiibipcnlaiaa.Hand
noncomputable def rwA : List Oper := (opsOf2 Try.f50.body).1
noncomputable def rwB : List Oper := (opsOf2 Try.f50.body).2
theorem rows_body : Try.f50.body = some (.seq (.region 0 rwA.toArray false) (.seq (.region 1 rwB.toArray false) .ret)) := by kernel_rfl
noncomputable def rwStart : Act := ({ tmps := #[.slice none 0 0] ++ Array.replicate 189 undef, defers := [] } : Act)
noncomputable def rwAct : Act := (foldB Try.prog (rwB.take 188) rwStart).getD { tmps := #[], defers := [] }
/-- The document's rows: from, to, class. -/
def rowL : List (Int × Int × Int) :=
  [(11, 12, 1), (8232, 8233, 1), (13, 13, 2), (10, 10, 3), (133, 133, 4), (32, 32, 5), (8203, 8203, 6), (8288, 8288, 7), (65279, 65279, 7), (160, 160, 8), (8199, 8199, 8), (8209, 8209, 8), (8239, 8239, 8), (0, 8, 9), (14, 31, 9), (127, 132, 9), (134, 159, 9), (768, 879, 9), (1155, 1161, 9), (1425, 1469, 9)] ++
  [(1552, 1562, 9), (1611, 1631, 9), (6832, 6911, 9), (7616, 7679, 9), (8204, 8207, 9), (8234, 8238, 9), (8400, 8447, 9), (12330, 12335, 9), (12441, 12442, 9), (65024, 65039, 9), (65056, 65071, 9), (917505, 917999, 9), (9, 9, 10), (124, 124, 10), (173, 173, 10), (8192, 8198, 10), (8200, 8202, 10), (8208, 8208, 10), (8210, 8211, 10), (12288, 12288, 10)] ++
  [(180, 180, 11), (712, 712, 11), (716, 716, 11), (8212, 8212, 12), (45, 45, 13), (40, 40, 14), (91, 91, 14), (123, 123, 14), (161, 161, 14), (191, 191, 14), (8218, 8218, 14), (8222, 8222, 14), (8261, 8261, 14), (12296, 12296, 14), (12298, 12298, 14), (12300, 12300, 14), (12302, 12302, 14), (12304, 12304, 14), (12308, 12308, 14), (12310, 12310, 14)] ++
  [(12312, 12312, 14), (12314, 12314, 14), (12317, 12317, 14), (65288, 65288, 14), (41, 41, 15), (93, 93, 15), (125, 125, 15), (8262, 8262, 15), (12289, 12290, 15), (12297, 12297, 15), (12299, 12299, 15), (12301, 12301, 15), (12303, 12303, 15), (12305, 12305, 15), (12309, 12309, 15), (12311, 12311, 15), (12313, 12313, 15), (12315, 12315, 15), (12318, 12319, 15), (65289, 65289, 15)] ++
  [(65292, 65292, 15), (65294, 65294, 15), (34, 34, 16), (39, 39, 16), (171, 171, 16), (187, 187, 16), (8216, 8217, 16), (8220, 8221, 16), (8249, 8250, 16), (33, 33, 17), (63, 63, 17), (65281, 65281, 17), (65311, 65311, 17), (44, 44, 18), (46, 47, 18), (58, 59, 18), (8260, 8260, 18), (8252, 8253, 19), (12293, 12293, 19), (12316, 12316, 19)] ++
  [(12443, 12446, 19), (12448, 12448, 19), (12539, 12539, 19), (12541, 12542, 19), (65306, 65307, 19), (12353, 12353, 20), (12355, 12355, 20), (12357, 12357, 20), (12359, 12359, 20), (12361, 12361, 20), (12387, 12387, 20), (12419, 12419, 20), (12421, 12421, 20), (12423, 12423, 20), (12430, 12430, 20), (12437, 12438, 20), (12449, 12449, 20), (12451, 12451, 20), (12453, 12453, 20), (12455, 12455, 20)] ++
  [(12457, 12457, 20), (12483, 12483, 20), (12515, 12515, 20), (12517, 12517, 20), (12519, 12519, 20), (12526, 12526, 20), (12533, 12534, 20), (12540, 12540, 20), (8228, 8230, 21), (48, 57, 22), (1632, 1641, 22), (2406, 2415, 22), (36, 36, 23), (43, 43, 23), (92, 92, 23), (163, 165, 23), (177, 177, 23), (8352, 8399, 23), (8470, 8470, 23), (8722, 8723, 23)] ++
  [(37, 37, 24), (162, 162, 24), (176, 176, 24), (8240, 8247, 24), (8451, 8451, 24), (4352, 4607, 25), (11904, 12287, 25), (12291, 12292, 25), (12294, 12295, 25), (12306, 12307, 25), (12320, 12329, 25), (12336, 12352, 25), (12354, 12354, 25), (12356, 12356, 25), (12358, 12358, 25), (12360, 12360, 25), (12362, 12386, 25), (12388, 12418, 25), (12420, 12420, 25), (12422, 12422, 25)] ++
  [(12424, 12429, 25), (12431, 12436, 25), (12439, 12440, 25), (12447, 12447, 25), (12450, 12450, 25), (12452, 12452, 25), (12454, 12454, 25), (12456, 12456, 25), (12458, 12482, 25), (12484, 12514, 25), (12516, 12516, 25), (12518, 12518, 25), (12520, 12525, 25), (12527, 12532, 25), (12535, 12538, 25), (12543, 19903, 25), (19968, 42191, 25), (44032, 55203, 25), (63744, 64255, 25), (65282, 65287, 25)] ++
  [(65290, 65291, 25), (65293, 65293, 25), (65295, 65305, 25), (65308, 65310, 25), (65312, 65376, 25), (126976, 129791, 25), (131072, 262141, 25), (65532, 65532, 26)]
def flat3 : List (Int × Int × Int) → List Value
  | [] => []
  | (x, y, z) :: ls => .int .i32 x :: .int .i32 y :: .int .i32 z :: flat3 ls
def rowsV : Array Value := (flat3 rowL).toArray
theorem rwA_eq : rwA = [spO rwA] := by kernel_rfl
theorem rwA_run (a : Act) (w : World) : (execOp a.eval (spO rwA)).run Try.prog w = .ok (.value (.slice none 0 0)) w := by kernel_rfl
theorem rwA_g : (spO rwA).guard = none := by kernel_rfl
theorem rwA_d : (spO rwA).dst = some 0 := by kernel_rfl
theorem rwB_eq : rwB = rwB.take 188 ++ [spO (rwB.drop 188), spO (rwB.drop 189)] := by kernel_rfl
theorem rwB_some : (foldB Try.prog (rwB.take 188) rwStart).isSome = true := by kernel_rfl
theorem rwB_fold : foldB Try.prog (rwB.take 188) rwStart = some rwAct := some_of _ rwB_some
theorem rwS_run (w : World) : (execOp rwAct.eval (spO (rwB.drop 188))).run Try.prog w = .ok (.value (.slice (some ⟨w.heap.size, 0, none⟩) 188 188)) (w.alloc (.cells rowsV 97 (0, 0))) := by kernel_rfl
theorem rwS_g : (spO (rwB.drop 188)).guard = none := by kernel_rfl
theorem rwS_d : (spO (rwB.drop 188)).dst = some 189 := by kernel_rfl
theorem rwT_run (v : Value) (w : World) : (execOp (rwAct.put (some 189) v).eval (spO (rwB.drop 189))).run Try.prog w = .ok (.value v) w := by kernel_rfl
theorem rwT_g : (spO (rwB.drop 189)).guard = none := by kernel_rfl
theorem rwT_d : (spO (rwB.drop 189)).dst = some 0 := by kernel_rfl
theorem rw_start : ({ tmps := #[] ++ Array.replicate (Try.f50.ntmps - (#[] : Array Value).size) undef, defers := [] } : Act).put (some 0) (.slice none 0 0) = rwStart := by kernel_rfl
theorem rw_res (v : Value) (w : World) : (results Try.f50 ((rwAct.put (some 189) v).put (some 0) v).tmps).run Try.prog w = .ok v w := by kernel_rfl
theorem rw_defers (v : Value) : ((rwAct.put (some 189) v).put (some 0) v).defers = [] := by kernel_rfl
theorem rows_any (w : World) : Calls Try.prog 50 #[] w fun e w' => e = .returned (.slice (some ⟨w.heap.size, 0, none⟩) 188 188) ∧ w'.heap[w.heap.size]? = some (.cells rowsV 97 (0, 0)) ∧ Below w.heap.size w w' := by
  refine calls_of_wp Try.func50 rows_body ?_
  refine wp_seq_k fun K hK => ?_
  refine wp_region_lit ?_
  rw [rwA_eq]
  refine Kd.event_run rwA_g (rwA_run _ w) ?_
  rw [rwA_d, rw_start]
  refine hK _ _ ?_
  refine wp_seq_k fun K2 hK2 => ?_
  refine wp_region_lit ?_
  generalize rwB.toArray = ops
  rw [rwB_eq]
  refine wpList_builds _ _ _ _ rwB_fold ?_
  refine Kd.event_run rwS_g (rwS_run w) ?_
  rw [rwS_d]
  refine Kd.event_run rwT_g (rwT_run _ _) ?_
  rw [rwT_d]
  refine hK2 _ _ (wp_ret ?_)
  exact bodyPost_ret (rw_res _ _) (rw_defers _) ⟨rfl, World.alloc_heap_new w _, below_alloc (Below.refl _ _) _⟩
def rowAt (l : List (Int × Int × Int)) (q : Int) : Int × Int × Int := l.getD q.toNat (0, 0, 0)
theorem flat3_at : ∀ (l : List (Int × Int × Int)) (k : Nat), k < l.length → (flat3 l)[k * 3]? = some (.int .i32 (l.getD k (0, 0, 0)).1) ∧ (flat3 l)[k * 3 + 1]? = some (.int .i32 (l.getD k (0, 0, 0)).2.1) ∧ (flat3 l)[k * 3 + 2]? = some (.int .i32 (l.getD k (0, 0, 0)).2.2)
  | [], k, h => absurd h (by simp)
  | (x, y, z) :: ls, 0, _ => by simp [flat3]
  | (x, y, z) :: ls, k + 1, h => by
    have := flat3_at ls k (by simpa using h)
    rw [show (k + 1) * 3 = k * 3 + 3 by omega, show k * 3 + 3 + 1 = (k * 3 + 1) + 3 by omega, show k * 3 + 3 + 2 = (k * 3 + 2) + 3 by omega]
    simpa [flat3] using this
theorem rows_at {l : List (Int × Int × Int)} {w : World} {g : Nat} {t : TypeId} (hg : w.heap[g]? = some (.cells (flat3 l).toArray t (0, 0))) (q : Int) (h0 : 0 ≤ q) (h1 : q < (l.length : Int)) :
    w.cell? ⟨g, q.toNat * 3, none⟩ = some (.int .i32 (rowAt l q).1) ∧ w.cell? ⟨g, q.toNat * 3 + 1, none⟩ = some (.int .i32 (rowAt l q).2.1) ∧ w.cell? ⟨g, q.toNat * 3 + 2, none⟩ = some (.int .i32 (rowAt l q).2.2) := by
  obtain ⟨a, b, c⟩ := flat3_at l q.toNat (by omega)
  have e : ∀ k : Nat, (flat3 l).toArray[k]? = (flat3 l)[k]? := fun k => List.getElem?_toArray
  refine ⟨?_, ?_, ?_⟩
  · simp only [World.cell?, hg, rowAt]; rw [← a]; exact e _
  · simp only [World.cell?, hg, rowAt]; rw [← b]; exact e _
  · simp only [World.cell?, hg, rowAt]; rw [← c]; exact e _
/-- The class of the first row, from one on, that has a code point. -/
def scanN (l : List (Int × Int × Int)) (r : Int) : Nat → Int → Int
  | 0, _ => 0
  | n + 1, i => if r ≥ (rowAt l i).1 then (if r ≤ (rowAt l i).2.1 then (rowAt l i).2.2 else scanN l r n (i + 1)) else scanN l r n (i + 1)
def rofR (r : Int) : Int := scanN rowL r 188 0
def stickfulref04_Of.f (a0 : Int) : Option Int := some (rofR a0)
theorem rows_cls : rowL.all (fun q => decide (0 ≤ q.2.2) && decide (q.2.2 ≤ 255)) = true := by kernel_rfl
theorem rows_len : rowL.length = 188 := by kernel_rfl
theorem row_cls (q : Int) (h0 : 0 ≤ q) (h1 : q < 188) : 0 ≤ (rowAt rowL q).2.2 ∧ (rowAt rowL q).2.2 ≤ 255 := by
  have hm : rowAt rowL q ∈ rowL := by
    unfold rowAt
    rw [List.getD_eq_getElem?_getD, List.getElem?_eq_getElem (by rw [rows_len]; omega)]
    exact List.getElem_mem _
  have := List.all_eq_true.1 rows_cls _ hm
  simp only [Bool.and_eq_true, decide_eq_true_eq] at this
  exact this
set_option maxRecDepth 100000 in
set_option maxHeartbeats 2000000 in
theorem stickfulref04_Of.calls (a0 r : Int) (w : World) (h : stickfulref04_Of.f a0 = some r) :
    Calls Try.prog 33 #[.int .i32 a0] w fun e w' => e = .returned (.int .u8 r) ∧ Below w.heap.size w w' := by
  have HR := Aside0.mk (Option.some.inj h)
  clear h
  go_enter Try.func33, Try.ntmps33
  go_wp2_with (first | (go_at_call 50; refine Aside0.out ?_))
  refine Aside0.mk ?_
  refine (rows_any _).mono ?_
  rintro e_ w5 ⟨rfl, hg5, hb5⟩
  have HG5 := Aside0.mk (show w5.heap[w.heap.size]? = some (.cells (flat3 rowL).toArray 97 (0, 0)) from hg5)
  have HB5 := Aside0.mk hb5
  have HLEN := Aside0.mk (show ((rowL.length : Nat) : Int) = 188 by rw [rows_len]; rfl)
  have HCL := Aside0.mk row_cls
  have HR2 := Aside0.mk (show scanN rowL a0 188 0 = r from HR.out)
  clear hg5 hb5 HR
  generalize rowL = l at HG5 HLEN HCL HR2
  go_wp2_with fail
  go_loopg [4] 189 (fun kq v4 wr => ∃ (i : Int) (n : Nat), v4 = .int .i64 i ∧ Aside0 (0 ≤ i ∧ i + (n : Int) = 188 ∧ n < kq) ∧ Aside0 (scanN l a0 n i = r) ∧ Aside0 (wr.heap[w.heap.size]? = some (.cells (flat3 l).toArray 97 (0, 0))) ∧ Aside0 (Below w.heap.size w wr))
  case atStart => exact ⟨0, 188, rfl, ⟨by omega⟩, HR2, HG5, HB5⟩
  case round =>
    clear HR2 HG5 HB5
    obtain ⟨i, n, rfl, hin, hr, hG, hB⟩ := hrel
    cases gk with
    | zero => have := hin.out; exfalso; omega
    | succ m =>
    cases n with
    | zero =>
      have d1 : decide (i < 188) = false := decide_eq_false (by have := hin.out; omega)
      have hr2 := hr.out
      simp only [scanN] at hr2
      subst hr2
      clear hr
      go_wp2_with fail
      go_ret
      exact ⟨rfl, hB.out⟩
    | succ n =>
      have d1 : decide (i < 188) = true := decide_eq_true (by have := hin.out; omega)
      have h1 : 0 ≤ i := by have := hin.out; omega
      have h2 : i < 188 := by have := hin.out; omega
      obtain ⟨c0, c1, c2⟩ := rows_at hG.out i h1 (by have := HLEN.out; omega)
      have hcl := HCL.out i h1 h2
      have e5 : IntKind.i64.wrap (i + 1) = i + 1 := IntWalk.i64_in _ (by omega)
      have e6 : IntKind.u8.wrap (rowAt l i).2.2 = (rowAt l i).2.2 := by have hs : IntKind.u8.signed = false := rfl; unfold IntKind.wrap; simp [go_sem, hs]; omega
      have hr2 := hr.out
      simp only [scanN] at hr2
      clear hr hcl
      generalize rowAt l i = q at c0 c1 c2 e6 hr2
      by_cases hs : a0 ≥ q.1
      · rw [if_pos hs] at hr2
        have d2 : decide (a0 ≥ q.1) = true := decide_eq_true hs
        have d3 : decide (q.1 ≤ a0) = true := decide_eq_true hs
        clear hs
        by_cases ht : a0 ≤ q.2.1
        · rw [if_pos ht] at hr2
          subst hr2
          have d4 : decide (a0 ≤ q.2.1) = true := decide_eq_true ht
          clear ht
          go_wp2_with fail
          go_ret
          exact ⟨rfl, hB.out⟩
        · rw [if_neg ht] at hr2
          have d4 : decide (a0 ≤ q.2.1) = false := decide_eq_false ht
          have HR := Aside0.mk hr2
          clear ht hr2
          go_wp2_with fail
          go_roundg m
          case measure => omega
          case rel => exact ⟨i + 1, n, rfl, ⟨by have := hin.out; omega⟩, HR, hG, hB⟩
      · rw [if_neg hs] at hr2
        have d2 : decide (a0 ≥ q.1) = false := decide_eq_false hs
        have d3 : decide (q.1 ≤ a0) = false := decide_eq_false hs
        have HR := Aside0.mk hr2
        clear hs hr2
        go_wp2_with fail
        go_roundg m
        case measure => omega
        case rel => exact ⟨i + 1, n, rfl, ⟨by have := hin.out; omega⟩, HR, hG, hB⟩
end

end Go.Proofs.Ytkaiibipcnlaiaa.HEllW
