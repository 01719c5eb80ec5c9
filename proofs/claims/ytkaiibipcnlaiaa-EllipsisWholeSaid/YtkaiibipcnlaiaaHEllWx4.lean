-- Written by this claim's own program over the kit's print.
import Derived.Test.YtkaiibipcnlaiaaHEllWx0
import Derived.Test.YtkaiibipcnlaiaaMB
import Derived.StillTailTactics
import Derived.Laws.Externs
import Derived.BigFrameIn
import Derived.Lib.Hide
import Derived.Sort.LoopGhostIn
import Derived.BigQuiet
import Derived.Test.YtkaiibipcnlaiaaHEllWb
namespace Go.Proofs.Ytkaiibipcnlaiaa.HEllW
open Go.RowKit Go.Proofs.YtkaiibipcnlaiaaW.PrintWords Go.Proofs.YtkaiibipcnlaiaaW.PrintLast Go.Proofs.YtkaiibipcnlaiaaW.PrintMore
attribute [local go_sem] max2_int min2_int max_two min_two max_three min_three max_four min_four   -- for this text's walks alone
set_option linter.unusedVariables false
set_option linter.unusedSimpArgs false

-- BY HAND: function 49
section
open Go.Proofs.Ytkaiibipcnlaiaa.Hand
/-- Builds one after the other. -/
def foldB (P : Program) : List Oper → Act → Option Act
  | [], a => some a
  | o :: l, a =>
    match o.guard, o.op with
    | none, .build t parts => match P.built t (parts.map fun (i, x) => (i, a.eval x)).toList with
      | some cells => foldB P l (a.put o.dst (.agg cells))
      | none => none
    | _, _ => none
theorem wpList_builds {P : Program} {ops : Array Oper} {Q : Exit → Act → World → Prop} {w : World} : ∀ (l rest : List Oper) (a a' : Act), foldB P l a = some a' → wpList P ops Q rest a' w → wpList P ops Q (l ++ rest) a w
  | [], rest, a, a', h, hq => by
    simp only [foldB, Option.some.injEq] at h
    subst h
    exact hq
  | o :: l, rest, a, a', h, hq => by
    simp only [foldB] at h
    split at h
    · rename_i t parts hg ho
      split at h
      · rename_i cells hc
        refine wpList_build hg t parts ho (by rw [hc]; rfl) ?_
        rw [hc]
        exact wpList_builds l rest _ a' h hq
      · cases h
    · cases h
def opsOf2 (c : Option Code) : List Oper × List Oper := match c with
  | some (.seq (.region _ x _) (.seq (.region _ y _) .ret)) => (x.toList, y.toList)
  | _ => ([], [])
noncomputable def spA : List Oper := (opsOf2 Try.f60.body).1
noncomputable def spB : List Oper := (opsOf2 Try.f60.body).2
theorem spans_body : Try.f60.body = some (.seq (.region 0 spA.toArray false) (.seq (.region 1 spB.toArray false) .ret)) := by kernel_rfl
noncomputable def spZero : Array Value := ((Try.prog.info? 111).bind (·.zero)).elim #[] Value.cells
noncomputable def spStart (v : Value) : Act := ({ tmps := #[v] ++ Array.replicate 189 undef, defers := [] } : Act)
noncomputable def spAct (v : Value) : Act := (foldB Try.prog (spB.take 189) (spStart v)).getD { tmps := #[], defers := [] }
/-- The spans: from, to, class. -/
def spanL : List (Int × Int × Int) :=
  [(0, 8, 9), (9, 9, 10), (10, 10, 3), (11, 12, 1), (13, 13, 2), (14, 31, 9), (32, 32, 5), (33, 33, 17), (34, 34, 16), (36, 36, 23), (37, 37, 24), (39, 39, 16), (40, 40, 14), (41, 41, 15), (43, 43, 23), (44, 44, 18), (45, 45, 13), (46, 47, 18), (48, 57, 22), (58, 59, 18)] ++
  [(63, 63, 17), (91, 91, 14), (92, 92, 23), (93, 93, 15), (123, 123, 14), (124, 124, 10), (125, 125, 15), (127, 132, 9), (133, 133, 4), (134, 159, 9), (160, 160, 8), (161, 161, 14), (162, 162, 24), (163, 165, 23), (171, 171, 16), (173, 173, 10), (176, 176, 24), (177, 177, 23), (180, 180, 11), (187, 187, 16)] ++
  [(191, 191, 14), (712, 712, 11), (716, 716, 11), (768, 879, 9), (1155, 1161, 9), (1425, 1469, 9), (1552, 1562, 9), (1611, 1631, 9), (1632, 1641, 22), (2406, 2415, 22), (4352, 4607, 25), (6832, 6911, 9), (7616, 7679, 9), (8192, 8198, 10), (8199, 8199, 8), (8200, 8202, 10), (8203, 8203, 6), (8204, 8207, 9), (8208, 8208, 10), (8209, 8209, 8)] ++
  [(8210, 8211, 10), (8212, 8212, 12), (8216, 8217, 16), (8218, 8218, 14), (8220, 8221, 16), (8222, 8222, 14), (8228, 8230, 21), (8232, 8233, 1), (8234, 8238, 9), (8239, 8239, 8), (8240, 8247, 24), (8249, 8250, 16), (8252, 8253, 19), (8260, 8260, 18), (8261, 8261, 14), (8262, 8262, 15), (8288, 8288, 7), (8352, 8399, 23), (8400, 8447, 9), (8451, 8451, 24)] ++
  [(8470, 8470, 23), (8722, 8723, 23), (11904, 12287, 25), (12288, 12288, 10), (12289, 12290, 15), (12291, 12292, 25), (12293, 12293, 19), (12294, 12295, 25), (12296, 12296, 14), (12297, 12297, 15), (12298, 12298, 14), (12299, 12299, 15), (12300, 12300, 14), (12301, 12301, 15), (12302, 12302, 14), (12303, 12303, 15), (12304, 12304, 14), (12305, 12305, 15), (12306, 12307, 25), (12308, 12308, 14)] ++
  [(12309, 12309, 15), (12310, 12310, 14), (12311, 12311, 15), (12312, 12312, 14), (12313, 12313, 15), (12314, 12314, 14), (12315, 12315, 15), (12316, 12316, 19), (12317, 12317, 14), (12318, 12319, 15), (12320, 12329, 25), (12330, 12335, 9), (12336, 12352, 25), (12353, 12353, 20), (12354, 12354, 25), (12355, 12355, 20), (12356, 12356, 25), (12357, 12357, 20), (12358, 12358, 25), (12359, 12359, 20)] ++
  [(12360, 12360, 25), (12361, 12361, 20), (12362, 12386, 25), (12387, 12387, 20), (12388, 12418, 25), (12419, 12419, 20), (12420, 12420, 25), (12421, 12421, 20), (12422, 12422, 25), (12423, 12423, 20), (12424, 12429, 25), (12430, 12430, 20), (12431, 12436, 25), (12437, 12438, 20), (12439, 12440, 25), (12441, 12442, 9), (12443, 12446, 19), (12447, 12447, 25), (12448, 12448, 19), (12449, 12449, 20)] ++
  [(12450, 12450, 25), (12451, 12451, 20), (12452, 12452, 25), (12453, 12453, 20), (12454, 12454, 25), (12455, 12455, 20), (12456, 12456, 25), (12457, 12457, 20), (12458, 12482, 25), (12483, 12483, 20), (12484, 12514, 25), (12515, 12515, 20), (12516, 12516, 25), (12517, 12517, 20), (12518, 12518, 25), (12519, 12519, 20), (12520, 12525, 25), (12526, 12526, 20), (12527, 12532, 25), (12533, 12534, 20)] ++
  [(12535, 12538, 25), (12539, 12539, 19), (12540, 12540, 20), (12541, 12542, 19), (12543, 19903, 25), (19968, 42191, 25), (44032, 55203, 25), (63744, 64255, 25), (65024, 65039, 9), (65056, 65071, 9), (65279, 65279, 7), (65281, 65281, 17), (65282, 65287, 25), (65288, 65288, 14), (65289, 65289, 15), (65290, 65291, 25), (65292, 65292, 15), (65293, 65293, 25), (65294, 65294, 15), (65295, 65305, 25)] ++
  [(65306, 65307, 19), (65308, 65310, 25), (65311, 65311, 17), (65312, 65376, 25), (65532, 65532, 26), (126976, 129791, 25), (131072, 262141, 25), (917505, 917999, 9)]
def flatL : List (Int × Int × Int) → List Value
  | [] => []
  | (x, y, z) :: ls => .int .i32 x :: .int .i32 y :: .int .u8 z :: flatL ls
def spansV : Array Value := (flatL spanL).toArray
def areB : List Value → List (Int × Int × Int) → Bool
  | [], [] => true
  | .int .i32 a :: .int .i32 b :: .int .u8 c :: vs, (x, y, z) :: ls => decide (a = x) && (decide (b = y) && (decide (c = z) && areB vs ls))
  | _, _ => false
theorem areB_eq : ∀ {vs : List Value} {ls : List (Int × Int × Int)}, areB vs ls = true → vs = flatL ls
  | [], [], _ => rfl
  | .int .i32 a :: .int .i32 b :: .int .u8 c :: vs, (x, y, z) :: ls, h => by
    simp only [areB, Bool.and_eq_true, decide_eq_true_eq] at h
    obtain ⟨rfl, rfl, rfl, h⟩ := h
    rw [flatL, areB_eq h]
def aggB (v : Value) (ls : List (Int × Int × Int)) : Bool := match v with | .agg c => areB c.toList ls | _ => false
theorem aggB_eq {v : Value} {ls : List (Int × Int × Int)} (h : aggB v ls = true) : v = .agg (flatL ls).toArray := by
  unfold aggB at h
  split at h
  · rename_i c
    rw [← areB_eq h]
  · cases h
theorem some_of {α : Type} {o : Option α} (d : α) (h : o.isSome = true) : o = some (o.getD d) := by
  cases o with
  | none => cases h
  | some x => rfl
def spO (l : List Oper) : Oper := l.headD { op := .move (.tmp 0), dst := none, type := 0, pos := "", after := #[], guard := none }
theorem spA_eq : spA = [spO spA] := by kernel_rfl
theorem spA_run (a : Act) (w : World) : (execOp a.eval (spO spA)).run Try.prog w = .ok (.value (.pointer (some ⟨w.heap.size, 0, none⟩))) (w.alloc (.cells spZero 111 (0, 0))) := by kernel_rfl
theorem spA_g : (spO spA).guard = none := by kernel_rfl
theorem spA_d : (spO spA).dst = some 0 := by kernel_rfl
theorem spB_eq : spB = spB.take 189 ++ [spO (spB.drop 189)] := by kernel_rfl
theorem spB_some (v : Value) : (foldB Try.prog (spB.take 189) (spStart v)).isSome = true := by kernel_rfl
theorem spB_fold (v : Value) : foldB Try.prog (spB.take 189) (spStart v) = some (spAct v) := some_of _ (spB_some v)
theorem spAct_0 (v : Value) : (spAct v).eval (.tmp 0) = v := by kernel_rfl
theorem spAct_B (v : Value) : aggB ((spAct v).eval (.tmp 189)) spanL = true := by kernel_rfl
theorem spAct_189 (v : Value) : (spAct v).eval (.tmp 189) = .agg spansV := aggB_eq (spAct_B v)
theorem spAct_t0 (v : Value) : ((spAct v).put none undef).tmps.getD 0 undef = v := by kernel_rfl
theorem spAct_d (v : Value) : ((spAct v).put none undef).defers = [] := by kernel_rfl
theorem spS_op : (spO (spB.drop 189)).op = .store 111 (.tmp 0) (.tmp 189) := by kernel_rfl
theorem spS_g : (spO (spB.drop 189)).guard = none := by kernel_rfl
theorem spS_d : (spO (spB.drop 189)).dst = none := by kernel_rfl
theorem sp_size : (Try.prog.info? 111).map (·.size) = some spansV.size := by kernel_rfl
theorem sp_sizes : spZero.size = spansV.size := by kernel_rfl
theorem sp_one : spansV.all (·.oneCell') = true := by kernel_rfl
theorem sp_start (v : Value) : ({ tmps := #[] ++ Array.replicate (Try.f60.ntmps - (#[] : Array Value).size) undef, defers := [] } : Act).put (some 0) v = spStart v := by kernel_rfl
theorem sp_res : Try.f60.results = #[.cell 0 111] := by kernel_rfl
theorem sp_under : Try.prog.underlying 111 = some (.array 188 110) := by kernel_rfl
theorem spans_any (w : World) : Calls Try.prog 60 #[] w fun e w' => e = .returned (.agg spansV) ∧ Below w.heap.size w w' := by
  refine calls_of_wp Try.func60 spans_body ?_
  refine wp_seq_k fun K hK => ?_
  refine wp_region_lit ?_
  rw [spA_eq]
  refine Kd.event_run spA_g (spA_run _ w) ?_
  rw [spA_d, sp_start]
  refine hK _ _ ?_
  refine wp_seq_k fun K2 hK2 => ?_
  refine wp_region_lit ?_
  generalize spB.toArray = ops
  rw [spB_eq]
  refine wpList_builds _ _ _ _ (spB_fold _) ?_
  refine wpList_store_row spS_g 111 (.tmp 0) (.tmp 189) spS_op w.heap.size spansV (spAct_0 _) (spAct_189 _) 111 spZero (World.alloc_heap_new w _) sp_size sp_sizes sp_one ?_
  rw [spS_d]
  refine hK2 _ _ (wp_ret ?_)
  refine bodyPost_ret (results_cell_row sp_res _ _ w.heap.size 111 spansV (0, 0) _ (spAct_t0 _) (setRow_heap _ _ _ _ _ _ (World.alloc_heap_new w _)) sp_under rfl sp_size) (spAct_d _) ⟨rfl, below_rows (below_alloc (Below.refl _ _) _) (Nat.le_refl _) _⟩
/-- The first place of which something is so, by halves. -/
def searchP (p : Int → Bool) : Nat → Int → Int → Int
  | 0, i, _ => i
  | n + 1, i, j => if i < j then (if p ((i + j) / 2) = true then searchP p n i ((i + j) / 2) else searchP p n ((i + j) / 2 + 1) j) else i
set_option maxRecDepth 100000 in
set_option maxHeartbeats 2000000 in
theorem search_any (gi : Nat) (cap : Array Value) (p : Int → Bool) (n : Int) (w : World) (heg : ∀ args w, (callFunc gi args).run Try.prog w = .ok (.enter gi args) w) (hn : 0 ≤ n ∧ n ≤ 1000000)
    (hf : ∀ (q : Int) (W : World), 0 ≤ q → q < n → Below w.heap.size w W → Calls Try.prog gi (#[.int .i64 q] ++ cap) W fun e W' => e = .returned (.bool (p q)) ∧ Below W.heap.size W W') :
    Calls Try.prog 61 #[.int .i64 n, .func (.func gi) #[] cap] w fun e w' => e = .returned (.int .i64 (searchP p (n.toNat + 1) 0 n)) ∧ Below w.heap.size w w' := by
  have HF := Aside0.mk hf
  generalize hR : searchP p (n.toNat + 1) 0 n = r
  have HR := Aside0.mk hR
  clear hf hR
  go_enter Try.func61, Try.ntmps61
  go_wp2_with fail
  go_loopg [5, 6] (n.toNat + 1) (fun kq v5 v6 wr => ∃ (i j : Int), v5 = .int .i64 i ∧ v6 = .int .i64 j ∧ Aside0 (0 ≤ i ∧ i ≤ j ∧ j ≤ n ∧ j - i < (kq : Int)) ∧ Aside0 (searchP p kq i j = r) ∧ Aside0 (Below w.heap.size w wr))
  case atStart => exact ⟨0, n, rfl, rfl, ⟨by omega⟩, HR, ⟨Below.refl _ _⟩⟩
  case round =>
    clear HR
    obtain ⟨i, j, rfl, rfl, hin, hr, hB⟩ := hrel
    cases gk with
    | zero => have := hin.out; exfalso; omega
    | succ m =>
    have hr2 := hr.out
    clear hr
    simp only [searchP] at hr2
    by_cases hi : i < j
    · have d1 : decide (i < j) = true := decide_eq_true hi
      rw [if_pos hi] at hr2
      have e1 : IntKind.i64.wrap (i + j) = i + j := IntWalk.i64_in _ (by have := hin.out; omega)
      have HI := Aside0.mk hi
      have HR2 := Aside0.mk hr2
      clear hi hr2
      have e2 : IntKind.u64.wrap (i + j) = i + j := by have := hin.out; unfold IntKind.wrap; simp [go_sem]; omega
      have e3 : wrap64 ((i + j) / 2) = (i + j) / 2 := IntWalk.wrap64_in _ (by have := hin.out; omega)
      go_wp2_with fail
      rw [e3]
      obtain ⟨q, hq⟩ : ∃ q, (i + j) / 2 = q := ⟨_, rfl⟩
      have HQ := Aside0.mk (show i ≤ q ∧ q < j by have := hin.out; have := HI.out; omega)
      rw [hq] at HR2 e3 ⊢
      have e4 : IntKind.i64.wrap (q + 1) = q + 1 := IntWalk.i64_in _ (by have := hin.out; have := HQ.out; omega)
      have HR3 := HR2.out
      clear hq e1 e2 HR2
      refine (HF.out q wr (by have := hin.out; have := HQ.out; omega) (by have := hin.out; have := HQ.out; omega) hB.out).mono ?_
      rintro e_ w5 ⟨rfl, hb5⟩
      have HB5 := Aside0.mk (below_step hB.out hb5)
      clear hb5
      cases hp : p q with
      | true =>
        rw [if_pos hp] at HR3
        have HR2 := Aside0.mk HR3
        clear HR3
        go_wp2_with fail
        go_roundg m
        case measure => omega
        case rel => exact ⟨i, q, rfl, rfl, ⟨by have := hin.out; have := HQ.out; omega⟩, HR2, HB5⟩
      | false =>
        rw [if_neg (fun h => by rw [hp] at h; cases h)] at HR3
        have HR2 := Aside0.mk HR3
        clear HR3
        go_wp2_with fail
        go_roundg m
        case measure => omega
        case rel => exact ⟨q + 1, j, rfl, rfl, ⟨by have := hin.out; have := HQ.out; omega⟩, HR2, HB5⟩
    · have d1 : decide (i < j) = false := decide_eq_false hi
      rw [if_neg hi] at hr2
      subst hr2
      clear hi
      go_wp2_with fail
      go_ret
      exact ⟨rfl, hB.out⟩
def spAt (q : Int) : Int × Int × Int := spanL.getD q.toNat (0, 0, 0)
theorem flat_at : ∀ (l : List (Int × Int × Int)) (k : Nat), k < l.length → (flatL l)[k * 3]? = some (.int .i32 (l.getD k (0, 0, 0)).1) ∧ (flatL l)[k * 3 + 1]? = some (.int .i32 (l.getD k (0, 0, 0)).2.1) ∧ (flatL l)[k * 3 + 2]? = some (.int .u8 (l.getD k (0, 0, 0)).2.2)
  | [], k, h => absurd h (by simp)
  | (x, y, z) :: ls, 0, _ => by simp [flatL]
  | (x, y, z) :: ls, k + 1, h => by
    have := flat_at ls k (by simpa using h)
    rw [show (k + 1) * 3 = k * 3 + 3 by omega, show k * 3 + 3 + 1 = (k * 3 + 1) + 3 by omega, show k * 3 + 3 + 2 = (k * 3 + 2) + 3 by omega]
    simpa [flatL] using this
theorem spans_len : spanL.length = 188 := by kernel_rfl
theorem spans_at {w : World} {g : Nat} {t : TypeId} (hg : w.heap[g]? = some (.cells spansV t (0, 0))) (q : Int) (h0 : 0 ≤ q) (h1 : q < 188) :
    w.cell? ⟨g, q.toNat * 3, none⟩ = some (.int .i32 (spAt q).1) ∧ w.cell? ⟨g, q.toNat * 3 + 1, none⟩ = some (.int .i32 (spAt q).2.1) ∧ w.cell? ⟨g, q.toNat * 3 + 2, none⟩ = some (.int .u8 (spAt q).2.2) := by
  obtain ⟨a, b, c⟩ := flat_at spanL q.toNat (by rw [spans_len]; omega)
  have e : ∀ k : Nat, spansV[k]? = (flatL spanL)[k]? := fun k => by unfold spansV; exact List.getElem?_toArray
  refine ⟨?_, ?_, ?_⟩
  · simp only [World.cell?, hg, spAt]; rw [← a]; exact e _
  · simp only [World.cell?, hg, spAt]; rw [← b]; exact e _
  · simp only [World.cell?, hg, spAt]; rw [← c]; exact e _
set_option maxRecDepth 100000 in
set_option maxHeartbeats 2000000 in
theorem of1_any (g b : Nat) (q r : Int) (w : World) (hq : 0 ≤ q ∧ q < 188) (hg : w.heap[g]? = some (.cells spansV 111 (0, 0))) (hr : Boxed w b 21 (.int .i32 r)) :
    Calls Try.prog 62 #[.int .i64 q, .pointer (some ⟨g, 0, none⟩), .pointer (some ⟨b, 0, none⟩)] w fun e w' => e = .returned (.bool (decide (r ≤ (spAt q).2.1))) ∧ Below w.heap.size w w' := by
  obtain ⟨c0, c1, c2⟩ := spans_at hg q hq.1 hq.2
  have cr := hr.cell
  go_enter Try.func62, Try.ntmps62
  go_wp2_with fail
  refine wp_region_still_lit (by kernel_rfl) (by kernel_rfl) ?_
  repeat still_step
  refine wpStill_nil ?_
  simp only [Exit.then]
  go_wp2_with fail
  go_ret
  exact ⟨rfl, below_drew1 (Below.refl _ _)⟩
theorem searchP_in (p : Int → Bool) : ∀ (n : Nat) (i j : Int), i ≤ j → i ≤ searchP p n i j ∧ searchP p n i j ≤ j
  | 0, i, j, h => ⟨Int.le_refl _, h⟩
  | n + 1, i, j, h => by
    unfold searchP
    split
    · split
      · have := searchP_in p n i ((i + j) / 2) (by omega); omega
      · have := searchP_in p n ((i + j) / 2 + 1) j (by omega); omega
    · omega
def spLe (r q : Int) : Bool := decide (r ≤ (spAt q).2.1)
/-- Where a code point's span is, if anywhere. -/
def ofI (r : Int) : Int := searchP (spLe r) 189 0 188
/-- A code point's class. -/
def ofR (r : Int) : Int := if ofI r = 188 then 0 else if (spAt (ofI r)).1 > r then 0 else (spAt (ofI r)).2.2
def class_Of.f (a0 : Int) : Option Int := some (ofR a0)
theorem alloc_run (a : Act) (o : Oper) (W : World) (ho : o.op = .alloc 111) : (execOp a.eval o).run Try.prog W = .ok (.value (.pointer (some ⟨W.heap.size, 0, none⟩))) (W.alloc (.cells spZero 111 (0, 0))) := by
  cases o
  subst ho
  kernel_rfl
set_option maxRecDepth 100000 in
set_option maxHeartbeats 2000000 in
theorem class_Of.calls (a0 r : Int) (w : World) (h : class_Of.f a0 = some r) :
    Calls Try.prog 49 #[.int .i32 a0] w fun e w' => e = .returned (.int .u8 r) ∧ Below w.heap.size w w' := by
  have HR := Aside0.mk (Option.some.inj h)
  clear h
  go_enter Try.func49, Try.ntmps49
  go_wp2_with (first | (go_at_call 60; refine Aside0.out ?_))
  refine Aside0.mk ?_
  refine (spans_any _).mono ?_
  rintro e_ w5 ⟨rfl, hb5⟩
  obtain ⟨sv, hsv⟩ : ∃ sv, spansV = sv := ⟨_, rfl⟩
  have hz1 := sp_size
  have hz2 := sp_sizes
  have hz3 := sp_one
  rw [hsv] at hz1 hz2 hz3 ⊢
  have HZ1 := Aside0.mk hz1
  have HZ2 := Aside0.mk hz2
  have HZ3 := Aside0.mk hz3
  have HSV := Aside0.mk hsv
  have b1 := boxed_below (boxed_new w w.heap.size 21 (.int .i32 a0) rfl) hb5
  have HB : Aside0 (Below w.heap.size w w5) := ⟨below_step (below_alloc (Below.refl _ _) _) hb5⟩
  clear hz1 hz2 hz3 hsv hb5
  go_wp2_with (first
    | ((with_reducible refine gate_dst (N := 3) rfl ?_); (try (refine gate_guard (by rfl) ?_; dsimp only)); refine box_event ?hg (N := 3) ?hd (cs := spZero) (t := 111) ?hr ?_; (case hd => rfl); (case hg => rfl); (case hr => exact alloc_run _ _ _ rfl); intro gb8 hg w8 hbox hb; have BK8 := Aside0.mk (hbox); have GT8 := Aside0.mk (show w.heap.size < gb8 from by rw [hg]; exact b1.lt); have GE8 := bge HB hg; have B18 := Aside0.mk (boxed_below b1 hb); replace HB := bh HB hb; clear hb hbox hg b1)
    | ((with_reducible refine gate_store (t := 111) (p := 3) (v := .tmp 5) rfl ?_); refine Aside0.out ?_))
  refine Aside0.mk ?_
  refine store_row_event rfl 111 (.tmp 3) (.tmp 5) rfl rfl gb8 _ rfl rfl 111 _ BK8.out HZ1.out HZ2.out HZ3.out ?_
  intro ws hs hk hb
  have b2 : Boxed ws w.heap.size 21 (.int .i32 a0) := hk.blk B18.out (fun e => by have := GT8.out; omega) (by simp)
  rw [← HSV.out] at hs
  have HB2 := Aside0.mk (hb _ _ GE8.out HB.out)
  have BK := Aside0.mk hs
  have B2 := Aside0.mk b2
  clear hb hk hs b2 BK8 B18 HB HZ1 HZ2 HZ3
  go_wp2_with (first | (go_at_call 61; refine Aside0.out ?_))
  refine Aside0.mk ?_
  have HF : ∀ (q : Int) (W : World), 0 ≤ q → q < 188 → Below ws.heap.size ws W → Calls Try.prog 62 (#[.int .i64 q] ++ #[.pointer (some ⟨gb8, 0, none⟩), .pointer (some ⟨w.heap.size, 0, none⟩)]) W fun e W' => e = .returned (.bool (spLe a0 q)) ∧ Below W.heap.size W W' := fun q W h0 h1 hb => of1_any gb8 w.heap.size q a0 W ⟨h0, h1⟩ ((hb.block _ (Array.getElem?_eq_some_iff.1 BK.out).1).trans BK.out) (boxed_below B2.out hb)
  refine (search_any 62 #[.pointer (some ⟨gb8, 0, none⟩), .pointer (some ⟨w.heap.size, 0, none⟩)] (spLe a0) 188 ws (enters_of Try.func62 (by kernel_rfl) rfl) ⟨by decide, by decide⟩ HF).mono ?_
  clear HF
  rintro e_ w6 ⟨rfl, hb6⟩
  have HB6 := Aside0.mk (below_step HB2.out hb6)
  have BK6 := (hb6.block _ (Array.getElem?_eq_some_iff.1 BK.out).1).trans BK.out
  have cr6 := (boxed_below B2.out hb6).cell
  have HIN := searchP_in (spLe a0) 189 0 188 (by decide)
  have HR1 : ofR a0 = r := HR.out
  unfold ofR ofI at HR1
  rw [show ((188 : Int).toNat + 1) = 189 from rfl]
  generalize searchP (spLe a0) 189 0 188 = i at HIN HR1 ⊢
  clear hb6 HB2 BK B2 HR HSV
  by_cases hi : i = 188
  · rw [if_pos hi] at HR1
    subst HR1
    have d1 : (i == 188) = true := beq_iff_eq.2 hi
    clear cr6 BK6 HIN hi
    go_wp2_with fail
    go_quiet (fail)
    simp only [Exit.then]
    go_wp2_with fail
    go_ret
    exact ⟨rfl, pw_below_drewN HB6.out _⟩
  · obtain ⟨c0, c1, c2⟩ := spans_at BK6 i HIN.1 (by omega)
    have d1 : (i == 188) = false := beq_eq_false_iff_ne.2 hi
    have h1 : 0 ≤ i := HIN.1
    have h2 : i < 188 := by omega
    rw [if_neg hi] at HR1
    clear hi HIN c1 BK6
    generalize spAt i = s at c0 c2 HR1
    by_cases hs : s.1 > a0
    · rw [if_pos hs] at HR1
      subst HR1
      have d2 : decide (a0 < s.1) = true := decide_eq_true hs
      have d3 : decide (s.1 > a0) = true := decide_eq_true hs
      clear hs c2
      go_wp2_with fail
      go_quiet (fail)
      simp only [Exit.then]
      go_wp2_with fail
      go_ret
      exact ⟨rfl, pw_below_drewN HB6.out _⟩
    · rw [if_neg hs] at HR1
      subst HR1
      have d2 : decide (a0 < s.1) = false := decide_eq_false hs
      have d3 : decide (s.1 > a0) = false := decide_eq_false hs
      clear hs
      go_wp2_with fail
      go_quiet (fail)
      simp only [Exit.then]
      go_wp2_with fail
      go_ret
      exact ⟨rfl, pw_below_drewN HB6.out _⟩
end

end Go.Proofs.Ytkaiibipcnlaiaa.HEllW
