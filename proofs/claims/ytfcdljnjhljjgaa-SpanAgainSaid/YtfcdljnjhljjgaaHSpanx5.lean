-- Written by this claim's own program over the kit's print.
import Derived.Test.YtfcdljnjhljjgaaHSpanx0
import Derived.Test.YtfcdljnjhljjgaaHand3
import Derived.Test.YtfcdljnjhljjgaaHand4
import Derived.StillTailTactics
import Derived.Laws.Externs
import Derived.BigFrameIn
import Derived.Lib.Hide
import Derived.Test.YtfcdljnjhljjgaaHand9
import Derived.Sort.LoopGhostIn
import Derived.BigQuiet
import Derived.Deep.MidRow
import Derived.Deep.Cut
import Derived.Test.YtfcdljnjhljjgaaHSpanb
import Derived.Test.YtfcdljnjhljjgaaHandA
namespace Go.Proofs.Ytfcdljnjhljjgaa.HSpan
open Go.RowKit Go.Proofs.YtfcdljnjhljjgaaW.PrintWords Go.Proofs.YtfcdljnjhljjgaaW.PrintLast Go.Proofs.YtfcdljnjhljjgaaW.PrintMore
attribute [local go_sem] max2_int min2_int max_two min_two max_three min_three max_four min_four   -- for this text's walks alone
set_option linter.unusedVariables false
set_option linter.unusedSimpArgs false

-- BY HAND: function 20
section
open Go.Proofs.Ytfcdljnjhljjgaa.Hand
section
variable {α : Type} (lt : α → α → Bool) (d : α)
/-- Two things change places. -/
def swpL (xs : List α) (i j : Nat) : List α := (xs.set i (xs.getD j d)).set j (xs.getD i d)
def insJ (a : Nat) : Nat → Nat → List α → List α
  | 0, _, xs => xs
  | n + 1, j, xs => if a < j then (if lt (xs.getD j d) (xs.getD (j - 1) d) = true then insJ a n (j - 1) (swpL d xs j (j - 1)) else xs) else xs
def insI (a b : Nat) : Nat → Nat → List α → List α
  | 0, _, xs => xs
  | n + 1, i, xs => if i < b then insI a b n (i + 1) (insJ lt d a (i + 1) i xs) else xs
def bsL (p : Nat → Bool) : Nat → Nat → Nat → Nat
  | 0, i, _ => i
  | n + 1, i, j => if i < j then (if p ((i + j) / 2) = true then bsL p n i ((i + j) / 2) else bsL p n ((i + j) / 2 + 1) j) else i
def mvR (hi : Nat) : Nat → Nat → List α → List α
  | 0, _, xs => xs
  | n + 1, q, xs => if q + 1 < hi then mvR hi n (q + 1) (swpL d xs q (q + 1)) else xs
def mvL (lo : Nat) : Nat → Nat → List α → List α
  | 0, _, xs => xs
  | n + 1, q, xs => if lo < q then mvL lo n (q - 1) (swpL d xs q (q - 1)) else xs
def swrL (a b n : Nat) : Nat → Nat → List α → List α
  | 0, _, xs => xs
  | f + 1, i, xs => if i < n then swrL a b n f (i + 1) (swpL d xs (a + i) (b + i)) else xs
def rotJ (m : Nat) : Nat → Nat → Nat → List α → List α
  | 0, _, _, xs => xs
  | f + 1, i, j, xs => if i = j then swrL d (m - i) m i (i + 1) 0 xs else (if j < i then rotJ m f (i - j) j (swrL d (m - i) m j (j + 1) 0 xs) else rotJ m f i (j - i) (swrL d (m - i) (m + j - i) i (i + 1) 0 xs))
def rotL (a m b : Nat) (xs : List α) : List α := rotJ d m (b - a + 1) (m - a) (b - m) xs
def symL : Nat → Nat → Nat → Nat → List α → List α
  | 0, _, _, _, xs => xs
  | n + 1, a, m, b, xs =>
    if m - a = 1 then mvR d (bsL (fun h => !(lt (xs.getD h d) (xs.getD a d))) (b - m + 1) m b) (b - a + 1) a xs
    else if b - m = 1 then mvL d (bsL (fun h => lt (xs.getD m d) (xs.getD h d)) (m - a + 1) a m) (b - a + 1) m xs
    else
      let mid := (a + b) / 2
      let st := bsL (fun c => lt (xs.getD (mid + m - 1 - c) d) (xs.getD c d)) (b - a + 1) (if m > mid then mid + m - b else a) (if m > mid then mid else m)
      let en := mid + m - st
      let xs1 := if st < m ∧ m < en then rotL d st m en xs else xs
      let xs2 := if a < st ∧ st < mid then symL n a st mid xs1 else xs1
      if mid < en ∧ en < b then symL n mid en b xs2 else xs2
def stA (N : Nat) : Nat → Nat → List α → List α
  | 0, _, xs => xs
  | f + 1, a, xs => if a + 20 ≤ N then stA N f (a + 20) (insI lt d a (a + 20) 21 (a + 1) xs) else insI lt d a N (N - a + 1) (a + 1) xs
def stP (N bs : Nat) : Nat → Nat → List α → List α
  | 0, _, xs => xs
  | f + 1, a, xs => if a + 2 * bs ≤ N then stP N bs f (a + 2 * bs) (symL lt d (2 * bs + 1) a (a + bs) (a + 2 * bs) xs) else (if a + bs < N then symL lt d (N - a + 1) a (a + bs) N xs else xs)
def stB (N : Nat) : Nat → Nat → List α → List α
  | 0, _, xs => xs
  | f + 1, bs, xs => if bs < N then stB N f (2 * bs) (stP lt d N bs (N + 1) 0 xs) else xs
def stableL (xs : List α) : List α := stB lt d xs.length (xs.length + 1) 20 (stA lt d xs.length (xs.length + 1) 0 xs)
end
/-! #### A row of parts in a block of its own, part by part -/
def encP (x : S35) : List Value := [.int .i64 x.f0.f0, .int .i64 x.f0.f1, .int .i64 x.f1, .int .u8 x.f2]
theorem encP_len (x : S35) : (encP x).length = 4 := rfl
/-- In a block of its own lies a row of parts, and it may be written. -/
def RowAt (w : World) (g : Nat) (xs : List S35) : Prop := g < w.heap.size ∧ ∀ q, q < xs.length → w.rangeAt g (q * 4) (encP (xs.getD q z35)) ∧ w.there g (q * 4) 4
theorem RowAt.below {w w' : World} {g : Nat} {xs : List S35} (h : RowAt w g xs) (hb : Below w.heap.size w w') : RowAt w' g xs := by
  have hg := hb.block g h.1
  have hc : ∀ o, w'.cell? ⟨g, o, none⟩ = w.cell? ⟨g, o, none⟩ := fun o => by simp only [World.cell?, hg]
  have hf : ∀ o, w'.frozen? ⟨g, o, none⟩ = w.frozen? ⟨g, o, none⟩ := fun o => by simp only [World.frozen?, hg]
  refine ⟨Nat.lt_of_lt_of_le h.1 hb.size, fun q hq => ⟨fun j v hv => ?_, fun j hj => ?_⟩⟩
  · rw [hc]; exact (h.2 q hq).1 j v hv
  · rw [hc, hf]; exact (h.2 q hq).2 j hj
theorem RowAt.range {w : World} {g : Nat} {xs : List S35} (h : RowAt w g xs) {q : Int} {x : S35} (h0 : 0 ≤ q) (h1 : q < (xs.length : Int)) (hx : rd_T35 xs q = x) : w.rangeAt g (q.toNat * 4) (encP x) := by
  rw [← hx]
  exact (h.2 q.toNat (by omega)).1
theorem RowAt.there {w : World} {g : Nat} {xs : List S35} (h : RowAt w g xs) {q : Int} (h0 : 0 ≤ q) (h1 : q < (xs.length : Int)) : w.there g (q.toNat * 4) 4 := (h.2 q.toNat (by omega)).2
theorem size_setCellsP (b : Nat) : ∀ (vs : List Value) (o : Nat) (w : World), (w.setCells b o vs).heap.size = w.heap.size
  | [], _, _ => rfl
  | v :: vs, o, w => by
    show ((w.setCell ⟨b, o, none⟩ v).setCells b (o + 1) vs).heap.size = _
    rw [size_setCellsP b vs]
    simp
theorem below_setCellsP {B b : Nat} {a : World} (hb : B ≤ b) : ∀ (vs : List Value) (o : Nat) (w : World), Below B a w → Below B a (w.setCells b o vs)
  | [], _, _, h => h
  | v :: vs, o, w, h => below_setCellsP hb vs (o + 1) (w.setCell ⟨b, o, none⟩ v) (h.setCell (p := ⟨b, o, none⟩) hb v)
theorem RowAt.put {w : World} {g : Nat} {xs : List S35} (h : RowAt w g xs) {q : Int} (h0 : 0 ≤ q) (h1 : q < (xs.length : Int)) (x : S35) : RowAt (w.setCells g (q.toNat * 4) (encP x)) g (xs.set q.toNat x) := by
  refine ⟨by rw [size_setCellsP]; exact h.1, fun r hr => ?_⟩
  rw [List.length_set] at hr
  refine ⟨?_, World.there_setCells (h.2 r hr).2 _ _ _⟩
  by_cases he : r = q.toNat
  · subst he
    have e : (xs.set q.toNat x).getD q.toNat z35 = x := by simp [List.getD, hr]
    rw [e]
    exact World.rangeAt_setCells_same w g _ (encP x) (h.2 q.toNat hr).2
  · have e : (xs.set q.toNat x).getD r z35 = xs.getD r z35 := by
      rw [List.getD_eq_getElem?_getD, List.getD_eq_getElem?_getD, List.getElem?_set_ne (fun h => he h.symm)]
    rw [e]
    exact World.rangeAt_setCells_apart (h.2 r hr).1 g _ (encP x) (.inr (by rw [encP_len, encP_len]; omega))
theorem encP_one (x : S35) : (encP x).toArray.all (·.oneCell') = true := by simp [encP, Value.oneCell']
theorem part_size : (Try.prog.info? 35).map (·.size) = some 4 := by kernel_rfl
theorem store_mid_run {P : Program} {o : Oper} {a : Act} {w : World} (ty : TypeId) (x y : Operand) (ho : o.op = .store ty x y) (b f : Nat) (cs : List Value) (hx : a.eval x = .pointer (some ⟨b, f, none⟩)) (hy : a.eval y = .agg cs.toArray)
    (ht : w.there b f cs.length) (hi : (P.info? ty).map (·.size) = some cs.length) (h1 : cs.toArray.all (·.oneCell') = true) : (execOp a.eval o).run P w = .ok .skip (w.setCells b f cs) := by
  unfold execOp
  simp only [ho, hx, hy, Instr.storeAt, Instr.sureAddr, Sem.run_bind, Sem.run_pure, Result.andThen_ok, run_storeVar_mid w b f ty cs.toArray (by simpa using ht) (by simpa using hi) h1]
theorem rd_swp (xs : List S35) (i j : Int) : swpL z35 xs i.toNat j.toNat = (xs.set i.toNat (rd_T35 xs j)).set j.toNat (rd_T35 xs i) := rfl
theorem swr_len {α : Type} (d : α) (a b n : Nat) : ∀ (f i : Nat) (xs : List α), (swrL d a b n f i xs).length = xs.length
  | 0, _, _ => rfl
  | f + 1, i, xs => by
    unfold swrL
    split
    · rw [swr_len d a b n f]; unfold swpL; simp
    · rfl
theorem insJ_len {α : Type} (lt : α → α → Bool) (d : α) (a : Nat) : ∀ (n j : Nat) (xs : List α), (insJ lt d a n j xs).length = xs.length
  | 0, _, _ => rfl
  | n + 1, j, xs => by
    unfold insJ
    split
    · split
      · rw [insJ_len lt d a n]; unfold swpL; simp
      · rfl
    · rfl
theorem insI_len {α : Type} (lt : α → α → Bool) (d : α) (a b : Nat) : ∀ (n i : Nat) (xs : List α), (insI lt d a b n i xs).length = xs.length
  | 0, _, _ => rfl
  | n + 1, i, xs => by
    unfold insI
    split
    · rw [insI_len lt d a b n, insJ_len]
    · rfl
theorem symL_far {α : Type} (lt : α → α → Bool) (d : α) (n a m b : Nat) (xs : List α) (h1 : m - a ≠ 1) (h2 : b - m ≠ 1) {mid st en : Nat} {xs1 xs2 : List α} (hmid : (a + b) / 2 = mid)
    (hst : bsL (fun c => lt (xs.getD (mid + m - 1 - c) d) (xs.getD c d)) (b - a + 1) (if m > mid then mid + m - b else a) (if m > mid then mid else m) = st) (hen : mid + m - st = en) (hx1 : (if st < m ∧ m < en then rotL d st m en xs else xs) = xs1)
    (hx2 : (if a < st ∧ st < mid then symL lt d n a st mid xs1 else xs1) = xs2) : symL lt d (n + 1) a m b xs = if mid < en ∧ en < b then symL lt d n mid en b xs2 else xs2 := by
  subst hmid
  subst hst
  subst hen
  subst hx1
  subst hx2
  rw [symL, if_neg h1, if_neg h2]
theorem mvR_len {α : Type} (d : α) (hi : Nat) : ∀ (n q : Nat) (xs : List α), (mvR d hi n q xs).length = xs.length
  | 0, _, _ => rfl
  | n + 1, q, xs => by
    unfold mvR
    split
    · rw [mvR_len d hi n]; unfold swpL; simp
    · rfl
theorem mvL_len {α : Type} (d : α) (lo : Nat) : ∀ (n q : Nat) (xs : List α), (mvL d lo n q xs).length = xs.length
  | 0, _, _ => rfl
  | n + 1, q, xs => by
    unfold mvL
    split
    · rw [mvL_len d lo n]; unfold swpL; simp
    · rfl
theorem rotJ_len {α : Type} (d : α) (m : Nat) : ∀ (f i j : Nat) (xs : List α), (rotJ d m f i j xs).length = xs.length
  | 0, _, _, _ => rfl
  | f + 1, i, j, xs => by
    unfold rotJ
    split
    · rw [swr_len]
    · split
      · rw [rotJ_len d m f, swr_len]
      · rw [rotJ_len d m f, swr_len]
theorem rotL_len {α : Type} (d : α) (a m b : Nat) (xs : List α) : (rotL d a m b xs).length = xs.length := rotJ_len d m _ _ _ xs
theorem symL_len {α : Type} (lt : α → α → Bool) (d : α) : ∀ (n a m b : Nat) (xs : List α), (symL lt d n a m b xs).length = xs.length
  | 0, _, _, _, _ => rfl
  | n + 1, a, m, b, xs => by
    have e1 : ∀ (c : Prop) [Decidable c] (s t u : Nat), (if c then rotL d s t u xs else xs).length = xs.length := fun c _ s t u => by split; exact rotL_len d s t u xs; rfl
    have e2 : ∀ (c : Prop) [Decidable c] (s t u : Nat) (ys : List α), (if c then symL lt d n s t u ys else ys).length = ys.length := fun c _ s t u ys => by split; exact symL_len lt d n s t u ys; rfl
    unfold symL
    split
    · exact mvR_len d _ _ _ xs
    · split
      · exact mvL_len d _ _ _ xs
      · simp only [e1, e2]
theorem bsL_in (p : Nat → Bool) : ∀ (n i j : Nat), i ≤ j → i ≤ bsL p n i j ∧ bsL p n i j ≤ j
  | 0, i, j, h => ⟨Nat.le_refl _, h⟩
  | n + 1, i, j, h => by
    unfold bsL
    split
    · split
      · have := bsL_in p n i ((i + j) / 2) (by omega); omega
      · have := bsL_in p n ((i + j) / 2 + 1) j (by omega); omega
    · omega
-- The parts of two stretches change places.
set_option maxRecDepth 100000 in
set_option maxHeartbeats 4000000 in
theorem swr_any (g cap : Nat) (fv : Value) (xs : List S35) (a b n : Int) (w : World) (hR : RowAt w g xs) (hl : xs.length ≤ 1000000) (ha : 0 ≤ a) (hb : 0 ≤ b) (hn : 0 ≤ n) (han : a + n ≤ (xs.length : Int)) (hbn : b + n ≤ (xs.length : Int)) :
    Calls Try.prog 40 #[.slice (some ⟨g, 0, none⟩) xs.length cap, .int .i64 a, .int .i64 b, .int .i64 n, fv] w fun e w' => e = .returned (.tuple #[]) ∧ RowAt w' g (swrL z35 a.toNat b.toNat n.toNat (n.toNat + 1) 0 xs) ∧ Below g w w' := by
  generalize hr : swrL z35 a.toNat b.toNat n.toNat (n.toNat + 1) 0 xs = r
  have HR0 := Aside0.mk hR
  have H0 := Aside0.mk hr
  have HIN := Aside0.mk (show 0 ≤ a ∧ 0 ≤ b ∧ 0 ≤ n ∧ a + n ≤ (xs.length : Int) ∧ b + n ≤ (xs.length : Int) ∧ xs.length ≤ 1000000 from ⟨ha, hb, hn, han, hbn, hl⟩)
  obtain ⟨N, hN⟩ : ∃ N, N = xs.length := ⟨_, rfl⟩
  have HN := Aside0.mk hN
  rw [← hN]
  clear hR hr ha hb hn han hbn hl hN
  go_enter Try.func40, Try.ntmps40
  go_wp2_with fail
  go_loopg [10] (n.toNat + 1) (fun kq v10 wr => ∃ (i : Int) (ys : List S35), v10 = .int .i64 i ∧ Aside0 (0 ≤ i ∧ i ≤ n ∧ i + (kq : Int) = n + 1) ∧ Aside0 (ys.length = N) ∧ Aside0 (swrL z35 a.toNat b.toNat n.toNat kq i.toNat ys = r) ∧ Aside0 (RowAt wr g ys) ∧ Aside0 (Below g w wr))
  case atStart => exact ⟨0, xs, rfl, ⟨by have := HIN.out; omega⟩, ⟨HN.out.symm⟩, H0, HR0, ⟨Below.refl _ _⟩⟩
  case round =>
    clear H0 HR0
    obtain ⟨i, ys, rfl, hin, hyl, HS, HR, HB⟩ := hrel
    cases gk with
    | zero => have := hin.out; exfalso; omega
    | succ m =>
    have hs := HS.out
    simp only [swrL] at hs
    clear HS
    by_cases hi : i < n
    · have d1 : decide (i < n) = true := decide_eq_true hi
      have hA := HIN.out
      rw [if_pos (by have := hin.out; omega)] at hs
      have e1 : IntKind.i64.wrap (a + i) = a + i := IntWalk.i64_in _ (by have := hin.out; have := HN.out; omega)
      have e2 : IntKind.i64.wrap (b + i) = b + i := IntWalk.i64_in _ (by have := hin.out; have := HN.out; omega)
      have e3 : IntKind.i64.wrap (i + 1) = i + 1 := IntWalk.i64_in _ (by have := hin.out; have := HN.out; omega)
      have p1 : 0 ≤ a + i := by have := hin.out; omega
      have p2 : 0 ≤ b + i := by have := hin.out; omega
      have q1 : a + i < (N : Int) := by have := HN.out; omega
      have q2 : b + i < (N : Int) := by have := HN.out; omega
      have HPQ := Aside0.mk (show (0 ≤ a + i ∧ a + i < (ys.length : Int)) ∧ (0 ≤ b + i ∧ b + i < (ys.length : Int)) from ⟨⟨p1, by rw [hyl.out]; exact q1⟩, p2, by rw [hyl.out]; exact q2⟩)
      obtain ⟨x1, hx1⟩ : ∃ x, rd_T35 ys (a + i) = x := ⟨_, rfl⟩
      obtain ⟨y1, hy1⟩ : ∃ x, rd_T35 ys (b + i) = x := ⟨_, rfl⟩
      have hsw : swpL z35 ys (a.toNat + i.toNat) (b.toNat + i.toNat) = (ys.set (a + i).toNat y1).set (b + i).toNat x1 := by
        rw [← hx1, ← hy1, ← rd_swp, show (a + i).toNat = a.toNat + i.toNat by have := hin.out; omega, show (b + i).toNat = b.toNat + i.toNat by have := hin.out; omega]
      rw [hsw, show i.toNat + 1 = (i + 1).toNat by have := hin.out; omega] at hs
      have HX1 := Aside0.mk hx1
      have HY1 := Aside0.mk hy1
      have HS := Aside0.mk hs
      replace p1 := eq_true p1
      replace p2 := eq_true p2
      replace q1 := eq_true q1
      replace q2 := eq_true q2
      have HI := Aside0.mk hi
      clear hx1 hy1 hs hsw hi hA
      go_wp2_with fail
      replace HR := Aside0.mk (show RowAt wr.drew g ys from HR.out.below (below_drew1 (Below.refl _ _)))
      replace HB := Aside0.mk (below_drew1 HB.out)
      refine start_ (n := 24) (S := fun w' => RowAt w' g ys) (ds := [21, 23]) #[false, false, false, false, false, false, false, false, false, false, false, false, false, false, false, false, false, false, false, false, false, false, false, false] (by kernel_rfl) rfl rfl HR.out (fun hHeld => ?_)
      generalize wr.drew = w8 at HR HB hHeld ⊢
      refine pure_ (i := 0) (N := some 16) (v := ?_) (a' := ?_) #[true, false, false, false, false, false, false, false, false, false, false, false, false, false, false, false, false, false, false, false, false, false, false, false] rfl rfl (by kernel_rfl) (fun _ _ _ h => h) (Or.inl ⟨by rfl, ?_⟩) ?_ ?_
      rotate_left; (focus intro w'; go_simp; with_reducible rfl); rotate_left; (focus simp only [Act.put, List.setIfInBounds_toArray, List.set_cons_zero, List.set_cons_succ, i64_w, i32_w]; rfl)
      refine pure_ (i := 1) (N := some 17) (v := ?_) (a' := ?_) #[true, true, false, false, false, false, false, false, false, false, false, false, false, false, false, false, false, false, false, false, false, false, false, false] rfl rfl (by kernel_rfl) (fun _ _ _ h => h) (Or.inl ⟨by rfl, ?_⟩) ?_ ?_
      rotate_left; (focus intro w'; go_simp; with_reducible rfl); rotate_left; (focus simp only [Act.put, List.setIfInBounds_toArray, List.set_cons_zero, List.set_cons_succ, i64_w, i32_w]; rfl)
      refine pure_ (i := 2) (N := some 18) (v := ?_) (a' := ?_) #[true, true, true, false, false, false, false, false, false, false, false, false, false, false, false, false, false, false, false, false, false, false, false, false] rfl rfl (by kernel_rfl) (fun _ _ _ h => h) (Or.inl ⟨by rfl, ?_⟩) ?_ ?_
      rotate_left; (focus intro w'; go_simp; with_reducible rfl); rotate_left; (focus simp only [Act.put, List.setIfInBounds_toArray, List.set_cons_zero, List.set_cons_succ, i64_w, i32_w]; rfl)
      refine pure_ (i := 3) (N := some 19) (v := ?_) (a' := ?_) #[true, true, true, true, false, false, false, false, false, false, false, false, false, false, false, false, false, false, false, false, false, false, false, false] rfl rfl (by kernel_rfl) (fun _ _ _ h => h) (Or.inl ⟨by rfl, ?_⟩) ?_ ?_
      rotate_left; (focus intro w'; go_simp; with_reducible rfl); rotate_left; (focus simp only [Act.put, List.setIfInBounds_toArray, List.set_cons_zero, List.set_cons_succ, i64_w, i32_w]; rfl)
      refine pure_ (i := 4) (N := some 20) (v := ?_) (a' := ?_) #[true, true, true, true, true, false, false, false, false, false, false, false, false, false, false, false, false, false, false, false, false, false, false, false] rfl rfl (by kernel_rfl) (fun _ _ _ h => h) (Or.inl ⟨by rfl, ?_⟩) ?_ ?_
      rotate_left; (focus intro w'; go_simp; with_reducible rfl); rotate_left; (focus simp only [Act.put, List.setIfInBounds_toArray, List.set_cons_zero, List.set_cons_succ, i64_w, i32_w]; rfl)
      refine pure_ (i := 5) (N := some 21) (v := ?_) (a' := ?_) #[true, true, true, true, true, true, false, false, false, false, false, false, false, false, false, false, false, false, false, false, false, false, false, false] rfl rfl (by kernel_rfl) (fun _ _ _ h => h) (Or.inl ⟨by rfl, ?_⟩) ?_ ?_
      rotate_left; (focus intro w'; go_simp; with_reducible rfl); rotate_left; (focus simp only [Act.put, List.setIfInBounds_toArray, List.set_cons_zero, List.set_cons_succ, i64_w, i32_w]; rfl)
      refine pure_ (i := 6) (N := some 22) (v := ?_) (a' := ?_) #[true, true, true, true, true, true, true, false, false, false, false, false, false, false, false, false, false, false, false, false, false, false, false, false] rfl rfl (by kernel_rfl) (fun _ _ _ h => h) (Or.inl ⟨by rfl, ?_⟩) ?_ ?_
      rotate_left; (focus intro w'; go_simp; with_reducible rfl); rotate_left; (focus simp only [Act.put, List.setIfInBounds_toArray, List.set_cons_zero, List.set_cons_succ, i64_w, i32_w]; rfl)
      refine pure_ (i := 7) (N := some 23) (v := ?_) (a' := ?_) #[true, true, true, true, true, true, true, true, false, false, false, false, false, false, false, false, false, false, false, false, false, false, false, false] rfl rfl (by kernel_rfl) (fun _ _ _ h => h) (Or.inl ⟨by rfl, ?_⟩) ?_ ?_
      rotate_left; (focus intro w'; go_simp; with_reducible rfl); rotate_left; (focus simp only [Act.put, List.setIfInBounds_toArray, List.set_cons_zero, List.set_cons_succ, i64_w, i32_w]; rfl)
      refine pure_ (i := 8) (N := some 24) (v := ?_) (a' := ?_) #[true, true, true, true, true, true, true, true, true, false, false, false, false, false, false, false, false, false, false, false, false, false, false, false] rfl rfl (by kernel_rfl) (fun _ _ _ h => h) (Or.inl ⟨by rfl, ?_⟩) ?_ ?_
      rotate_left; (focus intro w'; go_simp; with_reducible rfl); rotate_left; (focus simp only [Act.put, List.setIfInBounds_toArray, List.set_cons_zero, List.set_cons_succ, i64_w, i32_w]; rfl)
      refine pure_ (i := 9) (N := some 25) (v := ?_) (a' := ?_) #[true, true, true, true, true, true, true, true, true, true, false, false, false, false, false, false, false, false, false, false, false, false, false, false] rfl rfl (by kernel_rfl) (fun _ _ _ h => h) (Or.inl ⟨by rfl, ?_⟩) ?_ ?_
      rotate_left; (focus intro w'; go_simp; with_reducible rfl); rotate_left; (focus simp only [Act.put, List.setIfInBounds_toArray, List.set_cons_zero, List.set_cons_succ, i64_w, i32_w]; rfl)
      refine pure_ (i := 10) (N := some 26) (v := ?_) (a' := ?_) #[true, true, true, true, true, true, true, true, true, true, true, false, false, false, false, false, false, false, false, false, false, false, false, false] rfl rfl (by kernel_rfl) (fun _ _ _ h => h) (Or.inl ⟨by rfl, ?_⟩) ?_ ?_
      rotate_left; (focus intro w'; go_simp; with_reducible rfl); rotate_left; (focus simp only [Act.put, List.setIfInBounds_toArray, List.set_cons_zero, List.set_cons_succ, i64_w, i32_w]; rfl)
      refine pure_ (i := 11) (N := some 27) (v := ?_) (a' := ?_) #[true, true, true, true, true, true, true, true, true, true, true, true, false, false, false, false, false, false, false, false, false, false, false, false] rfl rfl (by kernel_rfl) (fun _ _ _ h => h) (Or.inl ⟨by rfl, ?_⟩) ?_ ?_
      rotate_left; (focus intro w'; go_simp; with_reducible rfl); rotate_left; (focus simp only [Act.put, List.setIfInBounds_toArray, List.set_cons_zero, List.set_cons_succ, i64_w, i32_w]; rfl)
      refine pure_ (i := 12) (N := some 28) (v := ?_) (a' := ?_) #[true, true, true, true, true, true, true, true, true, true, true, true, true, false, false, false, false, false, false, false, false, false, false, false] rfl rfl (by kernel_rfl) (fun _ _ _ h => h) (Or.inl ⟨by rfl, ?_⟩) ?_ ?_
      rotate_left; (focus intro w'; go_simp; with_reducible rfl); rotate_left; (focus simp only [Act.put, List.setIfInBounds_toArray, List.set_cons_zero, List.set_cons_succ, i64_w, i32_w]; rfl)
      refine pure_ (i := 14) (N := some 30) (v := ?_) (a' := ?_) #[true, true, true, true, true, true, true, true, true, true, true, true, true, false, true, false, false, false, false, false, false, false, false, false] rfl rfl (by kernel_rfl) (fun _ _ _ h => h) (Or.inl ⟨by rfl, ?_⟩) ?_ ?_
      rotate_left; (focus intro w'; go_simp; with_reducible rfl); rotate_left; (focus simp only [Act.put, List.setIfInBounds_toArray, List.set_cons_zero, List.set_cons_succ, i64_w, i32_w]; rfl)
      refine pure_ (i := 15) (N := some 31) (v := ?_) (a' := ?_) #[true, true, true, true, true, true, true, true, true, true, true, true, true, false, true, true, false, false, false, false, false, false, false, false] rfl rfl (by kernel_rfl) (fun _ _ _ h => h) (Or.inl ⟨by rfl, ?_⟩) ?_ ?_
      rotate_left; (focus intro w'; go_simp; with_reducible rfl); rotate_left; (focus simp only [Act.put, List.setIfInBounds_toArray, List.set_cons_zero, List.set_cons_succ, i64_w, i32_w]; rfl)
      refine pure_ (i := 16) (N := some 32) (v := ?_) (a' := ?_) #[true, true, true, true, true, true, true, true, true, true, true, true, true, false, true, true, true, false, false, false, false, false, false, false] rfl rfl (by kernel_rfl) (fun _ _ _ h => h) (Or.inl ⟨by rfl, ?_⟩) ?_ ?_
      rotate_left; (focus intro w'; go_simp; with_reducible rfl); rotate_left; (focus simp only [Act.put, List.setIfInBounds_toArray, List.set_cons_zero, List.set_cons_succ, i64_w, i32_w]; rfl)
      refine pure_ (i := 17) (N := some 33) (v := ?_) (a' := ?_) #[true, true, true, true, true, true, true, true, true, true, true, true, true, false, true, true, true, true, false, false, false, false, false, false] rfl rfl (by kernel_rfl) (fun _ _ _ h => h) (Or.inl ⟨by rfl, ?_⟩) ?_ ?_
      rotate_left; (focus intro w'; go_simp; with_reducible rfl); rotate_left; (focus simp only [Act.put, List.setIfInBounds_toArray, List.set_cons_zero, List.set_cons_succ, i64_w, i32_w]; rfl)
      refine pure_ (i := 18) (N := some 34) (v := ?_) (a' := ?_) #[true, true, true, true, true, true, true, true, true, true, true, true, true, false, true, true, true, true, true, false, false, false, false, false] rfl rfl (by kernel_rfl) (fun _ _ _ h => h) (Or.inl ⟨by rfl, ?_⟩) ?_ ?_
      rotate_left; (focus intro w'; go_simp; with_reducible rfl); rotate_left; (focus simp only [Act.put, List.setIfInBounds_toArray, List.set_cons_zero, List.set_cons_succ, i64_w, i32_w]; rfl)
      refine take_ (i := 13) (N := some 29) (v := .agg (encP y1).toArray) (a' := ?_) #[true, true, true, true, true, true, true, true, true, true, true, true, true, true, true, true, true, true, true, false, false, false, false, false] rfl rfl (by kernel_rfl) (fun _ _ _ h => h) (yieldsIf_load_mid (by rfl) 35 (.tmp 28) rfl g _ rfl (encP y1) _ (fun w' hS => hS.range (q := b + i) HPQ.out.2.1 HPQ.out.2.2 HY1.out) Try.underlying35 rfl part_size) hHeld ?_ ?_
      rotate_left; (focus simp only [Act.put, List.setIfInBounds_toArray, List.set_cons_zero, List.set_cons_succ, i64_w, i32_w]; rfl)
      refine take_ (i := 19) (N := some 35) (v := .agg (encP x1).toArray) (a' := ?_) #[true, true, true, true, true, true, true, true, true, true, true, true, true, true, true, true, true, true, true, true, false, false, false, false] rfl rfl (by kernel_rfl) (fun _ _ _ h => h) (yieldsIf_load_mid (by rfl) 35 (.tmp 34) rfl g _ rfl (encP x1) _ (fun w' hS => hS.range (q := a + i) HPQ.out.1.1 HPQ.out.1.2 HX1.out) Try.underlying35 rfl part_size) hHeld ?_ ?_
      rotate_left; (focus simp only [Act.put, List.setIfInBounds_toArray, List.set_cons_zero, List.set_cons_succ, i64_w, i32_w]; rfl)
      refine pure_ (i := 20) (N := some 36) (v := ?_) (a' := ?_) #[true, true, true, true, true, true, true, true, true, true, true, true, true, true, true, true, true, true, true, true, true, false, false, false] rfl rfl (by kernel_rfl) (fun _ _ _ h => h) (Or.inl ⟨by rfl, ?_⟩) ?_ ?_
      rotate_left; (focus intro w'; go_simp; with_reducible rfl); rotate_left; (focus simp only [Act.put, List.setIfInBounds_toArray, List.set_cons_zero, List.set_cons_succ, i64_w, i32_w]; rfl)
      refine last_ (i := 21) (N := none) #[true, true, true, true, true, true, true, true, true, true, true, true, true, true, true, true, true, true, true, true, true, true, false, false] rfl rfl (by kernel_rfl) (by decide) (fun K hK => ?_)
      refine skip_ (by rfl) rfl (store_mid_run 35 (.tmp 36) (.tmp 29) rfl g _ (encP y1) rfl rfl (HR.out.there (q := a + i) HPQ.out.1.1 HPQ.out.1.2) part_size (encP_one y1)) ?_
      refine hK.out _ _ ?_
      clear hK K
      replace HB := Aside0.mk (below_setCellsP (Nat.le_refl g) (encP y1) ((a + i).toNat * 4) _ HB.out)
      replace HR := Aside0.mk (HR.out.put (q := a + i) HPQ.out.1.1 HPQ.out.1.2 y1)
      refine pure_ (i := 22) (N := some 37) (v := ?_) (a' := ?_) #[true, true, true, true, true, true, true, true, true, true, true, true, true, true, true, true, true, true, true, true, true, true, true, false] rfl rfl (by kernel_rfl) (fun _ _ _ h => h) (Or.inl ⟨by rfl, ?_⟩) ?_ ?_
      rotate_left; (focus intro w'; go_simp; with_reducible rfl); rotate_left; (focus simp only [Act.put, List.setIfInBounds_toArray, List.set_cons_zero, List.set_cons_succ, i64_w, i32_w]; rfl)
      refine last_ (i := 23) (N := none) #[true, true, true, true, true, true, true, true, true, true, true, true, true, true, true, true, true, true, true, true, true, true, true, true] rfl rfl (by kernel_rfl) (by decide) (fun K hK => ?_)
      refine skip_ (by rfl) rfl (store_mid_run 35 (.tmp 37) (.tmp 35) rfl g _ (encP x1) rfl rfl (HR.out.there (q := b + i) HPQ.out.2.1 (by rw [List.length_set]; exact HPQ.out.2.2)) part_size (encP_one x1)) ?_
      refine hK.out _ _ ?_
      clear hK K
      replace HB := Aside0.mk (below_setCellsP (Nat.le_refl g) (encP x1) ((b + i).toNat * 4) _ HB.out)
      replace HR := Aside0.mk (HR.out.put (q := b + i) HPQ.out.2.1 (by rw [List.length_set]; exact HPQ.out.2.2) x1)
      refine done_ (by kernel_rfl) ?_
      try simp only [Exit.then]
      clear hHeld
      go_wp2_with fail
      go_roundg m
      case measure => omega
      case rel => exact ⟨i + 1, _, rfl, ⟨by have := hin.out; have := HI.out; omega⟩, ⟨by rw [List.length_set, List.length_set]; exact hyl.out⟩, HS, HR, HB⟩
    · have d1 : decide (i < n) = false := decide_eq_false hi
      rw [if_neg (by have := hin.out; omega)] at hs
      subst hs
      clear hi
      go_wp2_with fail
      go_end0
      exact ⟨rfl, HR.out, HB.out⟩
-- A stretch changes places with the one behind it.
set_option maxRecDepth 100000 in
set_option maxHeartbeats 4000000 in
theorem rot_any (g cap : Nat) (fv : Value) (xs : List S35) (a m b : Int) (w : World) (hR : RowAt w g xs) (hl : xs.length ≤ 1000000) (ha : 0 ≤ a) (ham : a < m) (hmb : m < b) (hb : b ≤ (xs.length : Int)) :
    Calls Try.prog 39 #[.slice (some ⟨g, 0, none⟩) xs.length cap, .int .i64 a, .int .i64 m, .int .i64 b, fv] w fun e w' => e = .returned (.tuple #[]) ∧ RowAt w' g (rotL z35 a.toNat m.toNat b.toNat xs) ∧ Below g w w' := by
  generalize hr : rotL z35 a.toNat m.toNat b.toNat xs = r
  unfold rotL at hr
  have HR0 := Aside0.mk hR
  have HIN := Aside0.mk (show 0 ≤ a ∧ a < m ∧ m < b ∧ b ≤ (xs.length : Int) ∧ xs.length ≤ 1000000 from ⟨ha, ham, hmb, hb, hl⟩)
  have H0 := Aside0.mk (show rotJ z35 m.toNat ((b - a).toNat + 1) (m - a).toNat (b - m).toNat xs = r from by rw [← hr, show (b - a).toNat = b.toNat - a.toNat by omega, show (m - a).toNat = m.toNat - a.toNat by omega, show (b - m).toNat = b.toNat - m.toNat by omega])
  obtain ⟨N, hN⟩ : ∃ N, N = xs.length := ⟨_, rfl⟩
  have HN := Aside0.mk hN
  have e1 : IntKind.i64.wrap (m - a) = m - a := IntWalk.i64_in _ (by omega)
  have e2 : IntKind.i64.wrap (b - m) = b - m := IntWalk.i64_in _ (by omega)
  rw [← hN]
  clear hR hr ha ham hmb hb hl hN
  go_enter Try.func39, Try.ntmps39
  go_wp2_with fail
  clear e1 e2
  go_loopg [10, 11] ((b - a).toNat + 1) (fun kq v10 v11 wr => ∃ (i j : Int) (ys : List S35), v10 = .int .i64 i ∧ v11 = .int .i64 j ∧ Aside0 (0 < i ∧ 0 < j ∧ i + j < (kq : Int) ∧ i ≤ m ∧ m + j ≤ (N : Int)) ∧ Aside0 (ys.length = N) ∧ Aside0 (rotJ z35 m.toNat kq i.toNat j.toNat ys = r) ∧ Aside0 (RowAt wr g ys) ∧ Aside0 (Below g w wr))
  case atStart => exact ⟨m - a, b - m, xs, rfl, rfl, ⟨by have := HIN.out; have := HN.out; omega⟩, ⟨HN.out.symm⟩, H0, HR0, ⟨Below.refl _ _⟩⟩
  case round =>
    clear H0 HR0
    obtain ⟨i, j, ys, rfl, rfl, hin, hyl, HS, HR, HB⟩ := hrel
    cases gk with
    | zero => have := hin.out; exfalso; omega
    | succ f =>
    have hs := HS.out
    simp only [rotJ] at hs
    clear HS
    have e1 : IntKind.i64.wrap (m - i) = m - i := IntWalk.i64_in _ (by have := hin.out; have := HN.out; have := HIN.out; omega)
    by_cases hij : i = j
    · have d1 : (i == j) = true := beq_iff_eq.2 hij
      have d2 : (i != j) = false := bne_eq_false_iff_eq.2 hij
      rw [if_pos (by rw [hij])] at hs
      have hc := swr_any g cap fv ys (m - i) m i wr HR.out (by rw [hyl.out, HN.out]; exact HIN.out.2.2.2.2) (by have := hin.out; omega) (by have := HIN.out; omega) (by have := hin.out; omega) (by rw [hyl.out]; have := hin.out; omega) (by rw [hyl.out]; have := hin.out; omega)
      rw [hyl.out] at hc
      have HC := Aside0.mk hc
      have HQ := Aside0.mk (show swrL z35 (m - i).toNat m.toNat i.toNat (i.toNat + 1) 0 ys = r from by rw [← hs, show (m - i).toNat = m.toNat - i.toNat by have := hin.out; omega])
      clear hs hc hij
      go_wp2_with (first | (go_at_call 40; refine HC.out.mono ?_; rintro e w5 ⟨rfl, hR5, hB5⟩))
      go_end0
      rw [HQ.out] at hR5
      exact ⟨rfl, hR5, HB.out.trans hB5⟩
    · have d1 : (i == j) = false := beq_eq_false_iff_ne.2 hij
      have d2 : (i != j) = true := bne_iff_ne.2 hij
      rw [if_neg (by have := hin.out; omega)] at hs
      have HNE := Aside0.mk hij
      clear hij
      by_cases hji : j < i
      · have d3 : decide (j < i) = true := decide_eq_true hji
        have d4 : decide (i > j) = true := decide_eq_true hji
        rw [if_pos (by have := hin.out; omega)] at hs
        have hc := swr_any g cap fv ys (m - i) m j wr HR.out (by rw [hyl.out, HN.out]; exact HIN.out.2.2.2.2) (by have := hin.out; omega) (by have := HIN.out; omega) (by have := hin.out; omega) (by rw [hyl.out]; have := hin.out; omega) (by rw [hyl.out]; have := hin.out; omega)
        rw [hyl.out] at hc
        have HC := Aside0.mk hc
        have e2 : IntKind.i64.wrap (i - j) = i - j := IntWalk.i64_in _ (by have := hin.out; have := HN.out; have := HIN.out; omega)
        have HQ := Aside0.mk (show rotJ z35 m.toNat f (i - j).toNat j.toNat (swrL z35 (m - i).toNat m.toNat j.toNat (j.toNat + 1) 0 ys) = r from by rw [← hs, show (m - i).toNat = m.toNat - i.toNat by have := hin.out; omega, show (i - j).toNat = i.toNat - j.toNat by have := hin.out; omega])
        have HJ := Aside0.mk hji
        clear hs hc hji
        go_wp2_with (first | (go_at_call 40; refine HC.out.mono ?_; rintro e w5 ⟨rfl, hR5, hB5⟩))
        go_roundg f
        case measure => omega
        case rel => exact ⟨i - j, j, _, rfl, rfl, ⟨by have := hin.out; have := HJ.out; omega⟩, ⟨by rw [swr_len]; exact hyl.out⟩, HQ, ⟨hR5⟩, ⟨HB.out.trans hB5⟩⟩
      · have d3 : decide (j < i) = false := decide_eq_false hji
        have d4 : decide (i > j) = false := decide_eq_false hji
        rw [if_neg (by have := hin.out; omega)] at hs
        have hc := swr_any g cap fv ys (m - i) (m + j - i) i wr HR.out (by rw [hyl.out, HN.out]; exact HIN.out.2.2.2.2) (by have := hin.out; omega) (by have := hin.out; have := HIN.out; omega) (by have := hin.out; omega) (by rw [hyl.out]; have := hin.out; omega) (by rw [hyl.out]; have := hin.out; omega)
        rw [hyl.out] at hc
        have HC := Aside0.mk hc
        have e2 : IntKind.i64.wrap (j - i) = j - i := IntWalk.i64_in _ (by have := hin.out; have := HN.out; have := HIN.out; omega)
        have e3 : IntKind.i64.wrap (m + j) = m + j := IntWalk.i64_in _ (by have := hin.out; have := HN.out; have := HIN.out; omega)
        have e4 : IntKind.i64.wrap (m + j - i) = m + j - i := IntWalk.i64_in _ (by have := hin.out; have := HN.out; have := HIN.out; omega)
        have HQ := Aside0.mk (show rotJ z35 m.toNat f i.toNat (j - i).toNat (swrL z35 (m - i).toNat (m + j - i).toNat i.toNat (i.toNat + 1) 0 ys) = r from by rw [← hs, show (m - i).toNat = m.toNat - i.toNat by have := hin.out; omega, show (j - i).toNat = j.toNat - i.toNat by have := hin.out; omega, show (m + j - i).toNat = m.toNat + j.toNat - i.toNat by have := hin.out; omega])
        have HJ := Aside0.mk hji
        clear hs hc hji
        go_wp2_with (first | (go_at_call 40; refine HC.out.mono ?_; rintro e w5 ⟨rfl, hR5, hB5⟩))
        go_roundg f
        case measure => omega
        case rel => exact ⟨i, j - i, _, rfl, rfl, ⟨by have := hin.out; have := HJ.out; have := HNE.out; omega⟩, ⟨by rw [swr_len]; exact hyl.out⟩, HQ, ⟨hR5⟩, ⟨HB.out.trans hB5⟩⟩
-- An insertion sort of a stretch.
set_option maxRecDepth 100000 in
set_option maxHeartbeats 8000000 in
theorem ins_any (g cap : Nat) (gi : Nat) (c : S35 → S35 → Int) (heg : ∀ args w, (callFunc gi args).run Try.prog w = .ok (.enter gi args) w) (hf : ∀ (x y : S35) (W : World), Calls Try.prog gi #[.agg (encP x).toArray, .agg (encP y).toArray] W fun e W' => e = .returned (.int .i64 (c x y)) ∧ Below W.heap.size W W') (xs : List S35) (a b : Int) (n : Nat) (w : World) (hR : RowAt w g xs) (hl : xs.length ≤ 1000000) (ha : 0 ≤ a) (hab : a ≤ b) (hb : b ≤ (xs.length : Int)) (hn : b - a ≤ (n : Int)) (hn0 : 0 < n) :
    Calls Try.prog 37 #[.slice (some ⟨g, 0, none⟩) xs.length cap, .int .i64 a, .int .i64 b, .func (.func gi) #[] #[]] w fun e w' => e = .returned (.tuple #[]) ∧ RowAt w' g (insI (fun x y => decide (c x y < 0)) z35 a.toNat b.toNat n (a + 1).toNat xs) ∧ Below g w w' := by
  generalize hr : insI (fun x y => decide (c x y < 0)) z35 a.toNat b.toNat n (a + 1).toNat xs = r
  have HR0 := Aside0.mk hR
  have HIN := Aside0.mk (show 0 ≤ a ∧ a ≤ b ∧ b ≤ (xs.length : Int) ∧ xs.length ≤ 1000000 from ⟨ha, hab, hb, hl⟩)
  have H0 := Aside0.mk hr
  have HF := Aside0.mk hf
  have HE := Aside0.mk heg
  have HNN := Aside0.mk (show b - a ≤ (n : Int) ∧ 0 < n from ⟨hn, hn0⟩)
  obtain ⟨N, hN⟩ : ∃ N, N = xs.length := ⟨_, rfl⟩
  have HN := Aside0.mk hN
  have e1 : IntKind.i64.wrap (a + 1) = a + 1 := IntWalk.i64_in _ (by omega)
  rw [← hN]
  clear hR hr ha hab hb hl hN hf hn hn0
  go_enter Try.func37, Try.ntmps37
  go_wp2_with fail
  clear e1
  go_loopg [8] n (fun kq v8 wr => ∃ (i : Int) (ys : List S35), v8 = .int .i64 i ∧ Aside0 (a + 1 ≤ i ∧ i ≤ (N : Int) + 1 ∧ b - i < (kq : Int) ∧ 0 < kq) ∧ Aside0 (ys.length = N) ∧ Aside0 (insI (fun x y => decide (c x y < 0)) z35 a.toNat b.toNat kq i.toNat ys = r) ∧ Aside0 (RowAt wr g ys) ∧ Aside0 (Below g w wr))
  case atStart => exact ⟨a + 1, xs, rfl, ⟨by have := HIN.out; have := HN.out; have := HNN.out; omega⟩, ⟨HN.out.symm⟩, H0, HR0, ⟨Below.refl _ _⟩⟩
  case round =>
    clear H0 HR0
    obtain ⟨i, ys, rfl, hin, hyl, HS, HR, HB⟩ := hrel
    cases gk with
    | zero => have := hin.out; exfalso; omega
    | succ m =>
    have hs := HS.out
    simp only [insI] at hs
    clear HS
    by_cases hi : i < b
    · have d1 : decide (i < b) = true := decide_eq_true hi
      rw [if_pos (by have := hin.out; have := HIN.out; omega)] at hs
      have e3 : IntKind.i64.wrap (i + 1) = i + 1 := IntWalk.i64_in _ (by have := hin.out; have := HN.out; have := HIN.out; omega)
      have HS := Aside0.mk (show insI (fun x y => decide (c x y < 0)) z35 a.toNat b.toNat m (i + 1).toNat (insJ (fun x y => decide (c x y < 0)) z35 a.toNat (i.toNat + 1) i.toNat ys) = r from by rw [← hs, show (i + 1).toNat = i.toNat + 1 by have := hin.out; have := HIN.out; omega])
      have HI := Aside0.mk hi
      clear hi hs
      go_wp2_with fail
      clear d1
      generalize hr2 : insJ (fun x y => decide (c x y < 0)) z35 a.toNat (i.toNat + 1) i.toNat ys = r2 at HS
      have HL2 := Aside0.mk (show r2.length = N from by rw [← hr2, insJ_len]; exact hyl.out)
      have H2 := Aside0.mk hr2
      clear hr2
      go_loopg [9] (i.toNat + 1) (fun kq v9 wo => ∃ (j : Int) (zs : List S35), v9 = .int .i64 j ∧ Aside0 (a ≤ j ∧ j ≤ i ∧ j < (kq : Int)) ∧ Aside0 (zs.length = N) ∧ Aside0 (insJ (fun x y => decide (c x y < 0)) z35 a.toNat kq j.toNat zs = r2) ∧ Aside0 (RowAt wo g zs) ∧ Aside0 (Below g w wo))
      case atStart => exact ⟨i, ys, rfl, ⟨by have := hin.out; have := HIN.out; omega⟩, hyl, H2, HR, HB⟩
      case round =>
        clear H2 HR HB hyl
        obtain ⟨j, zs, rfl, hjn, hzl, HS2, HR, HB⟩ := hrel
        cases gk with
        | zero => have := hjn.out; have := HIN.out; exfalso; omega
        | succ f =>
        have hs := HS2.out
        simp only [insJ] at hs
        clear HS2
        by_cases hj : a < j
        · have d2 : decide (a < j) = true := decide_eq_true hj
          have d3 : decide (j > a) = true := decide_eq_true hj
          rw [if_pos (by have := hjn.out; have := HIN.out; omega)] at hs
          obtain ⟨jm, hjm⟩ : ∃ v, j - 1 = v := ⟨_, rfl⟩
          have e4 : IntKind.i64.wrap (j - 1) = jm := by rw [← hjm]; exact IntWalk.i64_in _ (by have := hjn.out; have := hin.out; have := HN.out; have := HIN.out; omega)
          have HJM := Aside0.mk hjm
          have p1 : 0 ≤ j := by have := HIN.out; omega
          have p2 : 0 ≤ jm := by have := HIN.out; omega
          have q1 : j < (N : Int) := by have := HIN.out; have := hjn.out; have := HI.out; have := HN.out; omega
          have q2 : jm < (N : Int) := by omega
          have HPQ := Aside0.mk (show (0 ≤ j ∧ j < (zs.length : Int)) ∧ (0 ≤ jm ∧ jm < (zs.length : Int)) from ⟨⟨p1, by rw [hzl.out]; exact q1⟩, p2, by rw [hzl.out]; exact q2⟩)
          obtain ⟨x1, hx1⟩ : ∃ x, rd_T35 zs j = x := ⟨_, rfl⟩
          obtain ⟨y1, hy1⟩ : ∃ x, rd_T35 zs jm = x := ⟨_, rfl⟩
          have hg1 : zs.getD j.toNat z35 = x1 := hx1
          have hg2 : zs.getD (j.toNat - 1) z35 = y1 := by rw [← hy1, show j.toNat - 1 = jm.toNat by have := HJM.out; omega]; rfl
          rw [hg1, hg2] at hs
          clear hjm
          have HX1 := Aside0.mk hx1
          have HY1 := Aside0.mk hy1
          have HJ := Aside0.mk hj
          replace p1 := eq_true p1
          replace p2 := eq_true p2
          replace q1 := eq_true q1
          replace q2 := eq_true q2
          by_cases hlt : c x1 y1 < 0
          · have d4 : decide (c x1 y1 < 0) = true := decide_eq_true hlt
            rw [if_pos d4] at hs
            have hsw : swpL z35 zs j.toNat (j.toNat - 1) = (zs.set j.toNat y1).set jm.toNat x1 := by
              rw [← hx1, ← hy1, show j.toNat - 1 = jm.toNat by have := HJM.out; omega, ← rd_swp]
            have HS2 := Aside0.mk (show insJ (fun x y => decide (c x y < 0)) z35 a.toNat f jm.toNat ((zs.set j.toNat y1).set jm.toNat x1) = r2 from by rw [← hs, hsw, show j.toNat - 1 = jm.toNat by have := HJM.out; omega])
            clear hx1 hy1 hs hsw hg1 hg2 hlt hj
            go_wp2_with fail
            replace HR := Aside0.mk (show RowAt wr.drew g zs from HR.out.below (below_drew1 (Below.refl _ _)))
            replace HB := Aside0.mk (below_drew1 HB.out)
            refine start_ (n := 17) (S := fun w' => RowAt w' g zs) (ds := []) #[false, false, false, false, false, false, false, false, false, false, false, false, false, false, false, false, false] (by kernel_rfl) rfl rfl HR.out (fun hHeld => ?_)
            generalize wr.drew = w8 at HR HB hHeld ⊢
            refine pure_ (i := 0) (N := some 18) (v := ?_) (a' := ?_) #[true, false, false, false, false, false, false, false, false, false, false, false, false, false, false, false, false] rfl rfl (by kernel_rfl) (fun _ _ _ h => h) (Or.inl ⟨by rfl, ?_⟩) ?_ ?_
            rotate_left; (focus intro w'; go_simp; with_reducible rfl); rotate_left; (focus simp only [Act.put, List.setIfInBounds_toArray, List.set_cons_zero, List.set_cons_succ, i64_w, i32_w]; rfl)
            refine pure_ (i := 1) (N := some 19) (v := ?_) (a' := ?_) #[true, true, false, false, false, false, false, false, false, false, false, false, false, false, false, false, false] rfl rfl (by kernel_rfl) (fun _ _ _ h => h) (Or.inl ⟨by rfl, ?_⟩) ?_ ?_
            rotate_left; (focus intro w'; go_simp; with_reducible rfl); rotate_left; (focus simp only [Act.put, List.setIfInBounds_toArray, List.set_cons_zero, List.set_cons_succ, i64_w, i32_w]; rfl)
            refine pure_ (i := 2) (N := some 20) (v := ?_) (a' := ?_) #[true, true, true, false, false, false, false, false, false, false, false, false, false, false, false, false, false] rfl rfl (by kernel_rfl) (fun _ _ _ h => h) (Or.inl ⟨by rfl, ?_⟩) ?_ ?_
            rotate_left; (focus intro w'; go_simp; with_reducible rfl); rotate_left; (focus simp only [Act.put, List.setIfInBounds_toArray, List.set_cons_zero, List.set_cons_succ, i64_w, i32_w]; rfl)
            refine pure_ (i := 3) (N := some 21) (v := ?_) (a' := ?_) #[true, true, true, true, false, false, false, false, false, false, false, false, false, false, false, false, false] rfl rfl (by kernel_rfl) (fun _ _ _ h => h) (Or.inl ⟨by rfl, ?_⟩) ?_ ?_
            rotate_left; (focus intro w'; go_simp; with_reducible rfl); rotate_left; (focus simp only [Act.put, List.setIfInBounds_toArray, List.set_cons_zero, List.set_cons_succ, i64_w, i32_w]; rfl)
            refine pure_ (i := 4) (N := some 22) (v := ?_) (a' := ?_) #[true, true, true, true, true, false, false, false, false, false, false, false, false, false, false, false, false] rfl rfl (by kernel_rfl) (fun _ _ _ h => h) (Or.inl ⟨by rfl, ?_⟩) ?_ ?_
            rotate_left; (focus intro w'; go_simp; with_reducible rfl); rotate_left; (focus simp only [Act.put, List.setIfInBounds_toArray, List.set_cons_zero, List.set_cons_succ, i64_w, i32_w]; rfl)
            refine pure_ (i := 5) (N := some 23) (v := ?_) (a' := ?_) #[true, true, true, true, true, true, false, false, false, false, false, false, false, false, false, false, false] rfl rfl (by kernel_rfl) (fun _ _ _ h => h) (Or.inl ⟨by rfl, ?_⟩) ?_ ?_
            rotate_left; (focus intro w'; go_simp; with_reducible rfl); rotate_left; (focus simp only [Act.put, List.setIfInBounds_toArray, List.set_cons_zero, List.set_cons_succ, i64_w, i32_w]; rfl)
            refine pure_ (i := 6) (N := some 24) (v := ?_) (a' := ?_) #[true, true, true, true, true, true, true, false, false, false, false, false, false, false, false, false, false] rfl rfl (by kernel_rfl) (fun _ _ _ h => h) (Or.inl ⟨by rfl, ?_⟩) ?_ ?_
            rotate_left; (focus intro w'; go_simp; with_reducible rfl); rotate_left; (focus simp only [Act.put, List.setIfInBounds_toArray, List.set_cons_zero, List.set_cons_succ, i64_w, i32_w]; rfl)
            refine pure_ (i := 7) (N := some 25) (v := ?_) (a' := ?_) #[true, true, true, true, true, true, true, true, false, false, false, false, false, false, false, false, false] rfl rfl (by kernel_rfl) (fun _ _ _ h => h) (Or.inl ⟨by rfl, ?_⟩) ?_ ?_
            rotate_left; (focus intro w'; go_simp; with_reducible rfl); rotate_left; (focus simp only [Act.put, List.setIfInBounds_toArray, List.set_cons_zero, List.set_cons_succ, i64_w, i32_w]; rfl)
            refine pure_ (i := 9) (N := some 27) (v := ?_) (a' := ?_) #[true, true, true, true, true, true, true, true, false, true, false, false, false, false, false, false, false] rfl rfl (by kernel_rfl) (fun _ _ _ h => h) (Or.inl ⟨by rfl, ?_⟩) ?_ ?_
            rotate_left; (focus intro w'; go_simp; with_reducible rfl); rotate_left; (focus simp only [Act.put, List.setIfInBounds_toArray, List.set_cons_zero, List.set_cons_succ, i64_w, i32_w]; rfl)
            refine pure_ (i := 10) (N := some 28) (v := ?_) (a' := ?_) #[true, true, true, true, true, true, true, true, false, true, true, false, false, false, false, false, false] rfl rfl (by kernel_rfl) (fun _ _ _ h => h) (Or.inl ⟨by rfl, ?_⟩) ?_ ?_
            rotate_left; (focus intro w'; go_simp; with_reducible rfl); rotate_left; (focus simp only [Act.put, List.setIfInBounds_toArray, List.set_cons_zero, List.set_cons_succ, i64_w, i32_w]; rfl)
            refine pure_ (i := 11) (N := some 29) (v := ?_) (a' := ?_) #[true, true, true, true, true, true, true, true, false, true, true, true, false, false, false, false, false] rfl rfl (by kernel_rfl) (fun _ _ _ h => h) (Or.inl ⟨by rfl, ?_⟩) ?_ ?_
            rotate_left; (focus intro w'; go_simp; with_reducible rfl); rotate_left; (focus simp only [Act.put, List.setIfInBounds_toArray, List.set_cons_zero, List.set_cons_succ, i64_w, i32_w]; rfl)
            refine pure_ (i := 12) (N := some 30) (v := ?_) (a' := ?_) #[true, true, true, true, true, true, true, true, false, true, true, true, true, false, false, false, false] rfl rfl (by kernel_rfl) (fun _ _ _ h => h) (Or.inl ⟨by rfl, ?_⟩) ?_ ?_
            rotate_left; (focus intro w'; go_simp; with_reducible rfl); rotate_left; (focus simp only [Act.put, List.setIfInBounds_toArray, List.set_cons_zero, List.set_cons_succ, i64_w, i32_w]; rfl)
            refine take_ (i := 8) (N := some 26) (v := .agg (encP x1).toArray) (a' := ?_) #[true, true, true, true, true, true, true, true, true, true, true, true, true, false, false, false, false] rfl rfl (by kernel_rfl) (fun _ _ _ h => h) (yieldsIf_load_mid (by rfl) 35 (.tmp 25) rfl g _ rfl (encP x1) _ (fun w' hS => hS.range (q := j) HPQ.out.1.1 HPQ.out.1.2 HX1.out) Try.underlying35 rfl part_size) hHeld ?_ ?_
            rotate_left; (focus simp only [Act.put, List.setIfInBounds_toArray, List.set_cons_zero, List.set_cons_succ, i64_w, i32_w]; rfl)
            refine take_ (i := 13) (N := some 31) (v := .agg (encP y1).toArray) (a' := ?_) #[true, true, true, true, true, true, true, true, true, true, true, true, true, true, false, false, false] rfl rfl (by kernel_rfl) (fun _ _ _ h => h) (yieldsIf_load_mid (by rfl) 35 (.tmp 30) rfl g _ rfl (encP y1) _ (fun w' hS => hS.range (q := jm) HPQ.out.2.1 HPQ.out.2.2 HY1.out) Try.underlying35 rfl part_size) hHeld ?_ ?_
            rotate_left; (focus simp only [Act.put, List.setIfInBounds_toArray, List.set_cons_zero, List.set_cons_succ, i64_w, i32_w]; rfl)
            refine one_ (i := 14) (N := some 32) #[true, true, true, true, true, true, true, true, true, true, true, true, true, true, true, false, false] rfl rfl (by kernel_rfl) (by decide) (fun K hK => ?_)
            refine call_ gi #[.agg (encP x1).toArray, .agg (encP y1).toArray] (by rfl) rfl (by go_simp; first | exact HE.out _ _ | skip) ?_
            refine (HF.out x1 y1 _).mono ?_
            rintro e_ w9 ⟨rfl, hb9⟩
            refine ⟨_, rfl, ?_⟩
            replace HB := Aside0.mk (HB.out.trans (hb9.mono (Nat.le_of_lt HR.out.1)))
            replace HR := Aside0.mk (HR.out.below hb9)
            clear hb9
            refine hK.out _ _ HR.out (fun hHeld => ?_)
            clear hK K
            refine norm_ (a' := ?_) ?_ ?_
            rotate_left; (focus show Act.put _ (some 32) _ = _; simp only [Act.put, List.setIfInBounds_toArray, List.set_cons_zero, List.set_cons_succ, i64_w, i32_w]; rfl)
            refine pure_ (i := 15) (N := some 33) (v := ?_) (a' := ?_) #[true, true, true, true, true, true, true, true, true, true, true, true, true, true, true, true, false] rfl rfl (by kernel_rfl) (fun _ _ _ h => h) (Or.inl ⟨by rfl, ?_⟩) ?_ ?_
            rotate_left; (focus intro w'; go_simp; with_reducible rfl); rotate_left; (focus simp only [Act.put, List.setIfInBounds_toArray, List.set_cons_zero, List.set_cons_succ, i64_w, i32_w]; rfl)
            refine pure_ (i := 16) (N := some 34) (v := ?_) (a' := ?_) #[true, true, true, true, true, true, true, true, true, true, true, true, true, true, true, true, true] rfl rfl (by kernel_rfl) (fun _ _ _ h => h) (Or.inl ⟨by rfl, ?_⟩) ?_ ?_
            rotate_left; (focus intro w'; go_simp; with_reducible rfl); rotate_left; (focus simp only [Act.put, List.setIfInBounds_toArray, List.set_cons_zero, List.set_cons_succ, i64_w, i32_w]; rfl)
            refine done_ (by kernel_rfl) ?_
            try simp only [Exit.then]
            clear hHeld
            go_wp2_with fail
            generalize w9 = wr at HR HB ⊢
            replace HR := Aside0.mk (show RowAt wr.drew g zs from HR.out.below (below_drew1 (Below.refl _ _)))
            replace HB := Aside0.mk (below_drew1 HB.out)
            refine start_ (n := 18) (S := fun w' => RowAt w' g zs) (ds := [15, 17]) #[false, false, false, false, false, false, false, false, false, false, false, false, false, false, false, false, false, false] (by kernel_rfl) rfl rfl HR.out (fun hHeld => ?_)
            generalize wr.drew = w8 at HR HB hHeld ⊢
            refine pure_ (i := 0) (N := some 37) (v := ?_) (a' := ?_) #[true, false, false, false, false, false, false, false, false, false, false, false, false, false, false, false, false, false] rfl rfl (by kernel_rfl) (fun _ _ _ h => h) (Or.inl ⟨by rfl, ?_⟩) ?_ ?_
            rotate_left; (focus intro w'; go_simp; with_reducible rfl); rotate_left; (focus simp only [Act.put, List.setIfInBounds_toArray, List.set_cons_zero, List.set_cons_succ, i64_w, i32_w]; rfl)
            refine pure_ (i := 1) (N := some 38) (v := ?_) (a' := ?_) #[true, true, false, false, false, false, false, false, false, false, false, false, false, false, false, false, false, false] rfl rfl (by kernel_rfl) (fun _ _ _ h => h) (Or.inl ⟨by rfl, ?_⟩) ?_ ?_
            rotate_left; (focus intro w'; go_simp; with_reducible rfl); rotate_left; (focus simp only [Act.put, List.setIfInBounds_toArray, List.set_cons_zero, List.set_cons_succ, i64_w, i32_w]; rfl)
            refine pure_ (i := 2) (N := some 39) (v := ?_) (a' := ?_) #[true, true, true, false, false, false, false, false, false, false, false, false, false, false, false, false, false, false] rfl rfl (by kernel_rfl) (fun _ _ _ h => h) (Or.inl ⟨by rfl, ?_⟩) ?_ ?_
            rotate_left; (focus intro w'; go_simp; with_reducible rfl); rotate_left; (focus simp only [Act.put, List.setIfInBounds_toArray, List.set_cons_zero, List.set_cons_succ, i64_w, i32_w]; rfl)
            refine pure_ (i := 3) (N := some 40) (v := ?_) (a' := ?_) #[true, true, true, true, false, false, false, false, false, false, false, false, false, false, false, false, false, false] rfl rfl (by kernel_rfl) (fun _ _ _ h => h) (Or.inl ⟨by rfl, ?_⟩) ?_ ?_
            rotate_left; (focus intro w'; go_simp; with_reducible rfl); rotate_left; (focus simp only [Act.put, List.setIfInBounds_toArray, List.set_cons_zero, List.set_cons_succ, i64_w, i32_w]; rfl)
            refine pure_ (i := 4) (N := some 41) (v := ?_) (a' := ?_) #[true, true, true, true, true, false, false, false, false, false, false, false, false, false, false, false, false, false] rfl rfl (by kernel_rfl) (fun _ _ _ h => h) (Or.inl ⟨by rfl, ?_⟩) ?_ ?_
            rotate_left; (focus intro w'; go_simp; with_reducible rfl); rotate_left; (focus simp only [Act.put, List.setIfInBounds_toArray, List.set_cons_zero, List.set_cons_succ, i64_w, i32_w]; rfl)
            refine pure_ (i := 5) (N := some 42) (v := ?_) (a' := ?_) #[true, true, true, true, true, true, false, false, false, false, false, false, false, false, false, false, false, false] rfl rfl (by kernel_rfl) (fun _ _ _ h => h) (Or.inl ⟨by rfl, ?_⟩) ?_ ?_
            rotate_left; (focus intro w'; go_simp; with_reducible rfl); rotate_left; (focus simp only [Act.put, List.setIfInBounds_toArray, List.set_cons_zero, List.set_cons_succ, i64_w, i32_w]; rfl)
            refine pure_ (i := 6) (N := some 43) (v := ?_) (a' := ?_) #[true, true, true, true, true, true, true, false, false, false, false, false, false, false, false, false, false, false] rfl rfl (by kernel_rfl) (fun _ _ _ h => h) (Or.inl ⟨by rfl, ?_⟩) ?_ ?_
            rotate_left; (focus intro w'; go_simp; with_reducible rfl); rotate_left; (focus simp only [Act.put, List.setIfInBounds_toArray, List.set_cons_zero, List.set_cons_succ, i64_w, i32_w]; rfl)
            refine pure_ (i := 7) (N := some 44) (v := ?_) (a' := ?_) #[true, true, true, true, true, true, true, true, false, false, false, false, false, false, false, false, false, false] rfl rfl (by kernel_rfl) (fun _ _ _ h => h) (Or.inl ⟨by rfl, ?_⟩) ?_ ?_
            rotate_left; (focus intro w'; go_simp; with_reducible rfl); rotate_left; (focus simp only [Act.put, List.setIfInBounds_toArray, List.set_cons_zero, List.set_cons_succ, i64_w, i32_w]; rfl)
            refine pure_ (i := 8) (N := some 45) (v := ?_) (a' := ?_) #[true, true, true, true, true, true, true, true, true, false, false, false, false, false, false, false, false, false] rfl rfl (by kernel_rfl) (fun _ _ _ h => h) (Or.inl ⟨by rfl, ?_⟩) ?_ ?_
            rotate_left; (focus intro w'; go_simp; with_reducible rfl); rotate_left; (focus simp only [Act.put, List.setIfInBounds_toArray, List.set_cons_zero, List.set_cons_succ, i64_w, i32_w]; rfl)
            refine pure_ (i := 10) (N := some 47) (v := ?_) (a' := ?_) #[true, true, true, true, true, true, true, true, true, false, true, false, false, false, false, false, false, false] rfl rfl (by kernel_rfl) (fun _ _ _ h => h) (Or.inl ⟨by rfl, ?_⟩) ?_ ?_
            rotate_left; (focus intro w'; go_simp; with_reducible rfl); rotate_left; (focus simp only [Act.put, List.setIfInBounds_toArray, List.set_cons_zero, List.set_cons_succ, i64_w, i32_w]; rfl)
            refine pure_ (i := 11) (N := some 48) (v := ?_) (a' := ?_) #[true, true, true, true, true, true, true, true, true, false, true, true, false, false, false, false, false, false] rfl rfl (by kernel_rfl) (fun _ _ _ h => h) (Or.inl ⟨by rfl, ?_⟩) ?_ ?_
            rotate_left; (focus intro w'; go_simp; with_reducible rfl); rotate_left; (focus simp only [Act.put, List.setIfInBounds_toArray, List.set_cons_zero, List.set_cons_succ, i64_w, i32_w]; rfl)
            refine pure_ (i := 12) (N := some 49) (v := ?_) (a' := ?_) #[true, true, true, true, true, true, true, true, true, false, true, true, true, false, false, false, false, false] rfl rfl (by kernel_rfl) (fun _ _ _ h => h) (Or.inl ⟨by rfl, ?_⟩) ?_ ?_
            rotate_left; (focus intro w'; go_simp; with_reducible rfl); rotate_left; (focus simp only [Act.put, List.setIfInBounds_toArray, List.set_cons_zero, List.set_cons_succ, i64_w, i32_w]; rfl)
            refine take_ (i := 9) (N := some 46) (v := .agg (encP y1).toArray) (a' := ?_) #[true, true, true, true, true, true, true, true, true, true, true, true, true, false, false, false, false, false] rfl rfl (by kernel_rfl) (fun _ _ _ h => h) (yieldsIf_load_mid (by rfl) 35 (.tmp 45) rfl g _ rfl (encP y1) _ (fun w' hS => hS.range (q := jm) HPQ.out.2.1 HPQ.out.2.2 HY1.out) Try.underlying35 rfl part_size) hHeld ?_ ?_
            rotate_left; (focus simp only [Act.put, List.setIfInBounds_toArray, List.set_cons_zero, List.set_cons_succ, i64_w, i32_w]; rfl)
            refine take_ (i := 13) (N := some 50) (v := .agg (encP x1).toArray) (a' := ?_) #[true, true, true, true, true, true, true, true, true, true, true, true, true, true, false, false, false, false] rfl rfl (by kernel_rfl) (fun _ _ _ h => h) (yieldsIf_load_mid (by rfl) 35 (.tmp 49) rfl g _ rfl (encP x1) _ (fun w' hS => hS.range (q := j) HPQ.out.1.1 HPQ.out.1.2 HX1.out) Try.underlying35 rfl part_size) hHeld ?_ ?_
            rotate_left; (focus simp only [Act.put, List.setIfInBounds_toArray, List.set_cons_zero, List.set_cons_succ, i64_w, i32_w]; rfl)
            refine pure_ (i := 14) (N := some 51) (v := ?_) (a' := ?_) #[true, true, true, true, true, true, true, true, true, true, true, true, true, true, true, false, false, false] rfl rfl (by kernel_rfl) (fun _ _ _ h => h) (Or.inl ⟨by rfl, ?_⟩) ?_ ?_
            rotate_left; (focus intro w'; go_simp; with_reducible rfl); rotate_left; (focus simp only [Act.put, List.setIfInBounds_toArray, List.set_cons_zero, List.set_cons_succ, i64_w, i32_w]; rfl)
            refine last_ (i := 15) (N := none) #[true, true, true, true, true, true, true, true, true, true, true, true, true, true, true, true, false, false] rfl rfl (by kernel_rfl) (by decide) (fun K hK => ?_)
            refine skip_ (by rfl) rfl (store_mid_run 35 (.tmp 51) (.tmp 46) rfl g _ (encP y1) rfl rfl (HR.out.there (q := j) HPQ.out.1.1 HPQ.out.1.2) part_size (encP_one y1)) ?_
            refine hK.out _ _ ?_
            clear hK K
            replace HB := Aside0.mk (below_setCellsP (Nat.le_refl g) (encP y1) ((j).toNat * 4) _ HB.out)
            replace HR := Aside0.mk (HR.out.put (q := j) HPQ.out.1.1 HPQ.out.1.2 y1)
            refine pure_ (i := 16) (N := some 52) (v := ?_) (a' := ?_) #[true, true, true, true, true, true, true, true, true, true, true, true, true, true, true, true, true, false] rfl rfl (by kernel_rfl) (fun _ _ _ h => h) (Or.inl ⟨by rfl, ?_⟩) ?_ ?_
            rotate_left; (focus intro w'; go_simp; with_reducible rfl); rotate_left; (focus simp only [Act.put, List.setIfInBounds_toArray, List.set_cons_zero, List.set_cons_succ, i64_w, i32_w]; rfl)
            refine last_ (i := 17) (N := none) #[true, true, true, true, true, true, true, true, true, true, true, true, true, true, true, true, true, true] rfl rfl (by kernel_rfl) (by decide) (fun K hK => ?_)
            refine skip_ (by rfl) rfl (store_mid_run 35 (.tmp 52) (.tmp 50) rfl g _ (encP x1) rfl rfl (HR.out.there (q := jm) HPQ.out.2.1 (by rw [List.length_set]; exact HPQ.out.2.2)) part_size (encP_one x1)) ?_
            refine hK.out _ _ ?_
            clear hK K
            replace HB := Aside0.mk (below_setCellsP (Nat.le_refl g) (encP x1) ((jm).toNat * 4) _ HB.out)
            replace HR := Aside0.mk (HR.out.put (q := jm) HPQ.out.2.1 (by rw [List.length_set]; exact HPQ.out.2.2) x1)
            refine done_ (by kernel_rfl) ?_
            try simp only [Exit.then]
            clear hHeld
            go_wp2_with fail
            go_roundg f
            case measure => omega
            case rel => exact ⟨jm, _, rfl, ⟨by have := hjn.out; have := HJ.out; have := HJM.out; omega⟩, ⟨by rw [List.length_set, List.length_set]; exact hzl.out⟩, HS2, HR, HB⟩
          · have d4 : decide (c x1 y1 < 0) = false := decide_eq_false hlt
            rw [if_neg (by rw [d4]; decide)] at hs
            subst hs
            clear hx1 hy1 hg1 hg2 hlt hj
            go_wp2_with fail
            replace HR := Aside0.mk (show RowAt wr.drew g zs from HR.out.below (below_drew1 (Below.refl _ _)))
            replace HB := Aside0.mk (below_drew1 HB.out)
            refine start_ (n := 17) (S := fun w' => RowAt w' g zs) (ds := []) #[false, false, false, false, false, false, false, false, false, false, false, false, false, false, false, false, false] (by kernel_rfl) rfl rfl HR.out (fun hHeld => ?_)
            generalize wr.drew = w8 at HR HB hHeld ⊢
            refine pure_ (i := 0) (N := some 18) (v := ?_) (a' := ?_) #[true, false, false, false, false, false, false, false, false, false, false, false, false, false, false, false, false] rfl rfl (by kernel_rfl) (fun _ _ _ h => h) (Or.inl ⟨by rfl, ?_⟩) ?_ ?_
            rotate_left; (focus intro w'; go_simp; with_reducible rfl); rotate_left; (focus simp only [Act.put, List.setIfInBounds_toArray, List.set_cons_zero, List.set_cons_succ, i64_w, i32_w]; rfl)
            refine pure_ (i := 1) (N := some 19) (v := ?_) (a' := ?_) #[true, true, false, false, false, false, false, false, false, false, false, false, false, false, false, false, false] rfl rfl (by kernel_rfl) (fun _ _ _ h => h) (Or.inl ⟨by rfl, ?_⟩) ?_ ?_
            rotate_left; (focus intro w'; go_simp; with_reducible rfl); rotate_left; (focus simp only [Act.put, List.setIfInBounds_toArray, List.set_cons_zero, List.set_cons_succ, i64_w, i32_w]; rfl)
            refine pure_ (i := 2) (N := some 20) (v := ?_) (a' := ?_) #[true, true, true, false, false, false, false, false, false, false, false, false, false, false, false, false, false] rfl rfl (by kernel_rfl) (fun _ _ _ h => h) (Or.inl ⟨by rfl, ?_⟩) ?_ ?_
            rotate_left; (focus intro w'; go_simp; with_reducible rfl); rotate_left; (focus simp only [Act.put, List.setIfInBounds_toArray, List.set_cons_zero, List.set_cons_succ, i64_w, i32_w]; rfl)
            refine pure_ (i := 3) (N := some 21) (v := ?_) (a' := ?_) #[true, true, true, true, false, false, false, false, false, false, false, false, false, false, false, false, false] rfl rfl (by kernel_rfl) (fun _ _ _ h => h) (Or.inl ⟨by rfl, ?_⟩) ?_ ?_
            rotate_left; (focus intro w'; go_simp; with_reducible rfl); rotate_left; (focus simp only [Act.put, List.setIfInBounds_toArray, List.set_cons_zero, List.set_cons_succ, i64_w, i32_w]; rfl)
            refine pure_ (i := 4) (N := some 22) (v := ?_) (a' := ?_) #[true, true, true, true, true, false, false, false, false, false, false, false, false, false, false, false, false] rfl rfl (by kernel_rfl) (fun _ _ _ h => h) (Or.inl ⟨by rfl, ?_⟩) ?_ ?_
            rotate_left; (focus intro w'; go_simp; with_reducible rfl); rotate_left; (focus simp only [Act.put, List.setIfInBounds_toArray, List.set_cons_zero, List.set_cons_succ, i64_w, i32_w]; rfl)
            refine pure_ (i := 5) (N := some 23) (v := ?_) (a' := ?_) #[true, true, true, true, true, true, false, false, false, false, false, false, false, false, false, false, false] rfl rfl (by kernel_rfl) (fun _ _ _ h => h) (Or.inl ⟨by rfl, ?_⟩) ?_ ?_
            rotate_left; (focus intro w'; go_simp; with_reducible rfl); rotate_left; (focus simp only [Act.put, List.setIfInBounds_toArray, List.set_cons_zero, List.set_cons_succ, i64_w, i32_w]; rfl)
            refine pure_ (i := 6) (N := some 24) (v := ?_) (a' := ?_) #[true, true, true, true, true, true, true, false, false, false, false, false, false, false, false, false, false] rfl rfl (by kernel_rfl) (fun _ _ _ h => h) (Or.inl ⟨by rfl, ?_⟩) ?_ ?_
            rotate_left; (focus intro w'; go_simp; with_reducible rfl); rotate_left; (focus simp only [Act.put, List.setIfInBounds_toArray, List.set_cons_zero, List.set_cons_succ, i64_w, i32_w]; rfl)
            refine pure_ (i := 7) (N := some 25) (v := ?_) (a' := ?_) #[true, true, true, true, true, true, true, true, false, false, false, false, false, false, false, false, false] rfl rfl (by kernel_rfl) (fun _ _ _ h => h) (Or.inl ⟨by rfl, ?_⟩) ?_ ?_
            rotate_left; (focus intro w'; go_simp; with_reducible rfl); rotate_left; (focus simp only [Act.put, List.setIfInBounds_toArray, List.set_cons_zero, List.set_cons_succ, i64_w, i32_w]; rfl)
            refine pure_ (i := 9) (N := some 27) (v := ?_) (a' := ?_) #[true, true, true, true, true, true, true, true, false, true, false, false, false, false, false, false, false] rfl rfl (by kernel_rfl) (fun _ _ _ h => h) (Or.inl ⟨by rfl, ?_⟩) ?_ ?_
            rotate_left; (focus intro w'; go_simp; with_reducible rfl); rotate_left; (focus simp only [Act.put, List.setIfInBounds_toArray, List.set_cons_zero, List.set_cons_succ, i64_w, i32_w]; rfl)
            refine pure_ (i := 10) (N := some 28) (v := ?_) (a' := ?_) #[true, true, true, true, true, true, true, true, false, true, true, false, false, false, false, false, false] rfl rfl (by kernel_rfl) (fun _ _ _ h => h) (Or.inl ⟨by rfl, ?_⟩) ?_ ?_
            rotate_left; (focus intro w'; go_simp; with_reducible rfl); rotate_left; (focus simp only [Act.put, List.setIfInBounds_toArray, List.set_cons_zero, List.set_cons_succ, i64_w, i32_w]; rfl)
            refine pure_ (i := 11) (N := some 29) (v := ?_) (a' := ?_) #[true, true, true, true, true, true, true, true, false, true, true, true, false, false, false, false, false] rfl rfl (by kernel_rfl) (fun _ _ _ h => h) (Or.inl ⟨by rfl, ?_⟩) ?_ ?_
            rotate_left; (focus intro w'; go_simp; with_reducible rfl); rotate_left; (focus simp only [Act.put, List.setIfInBounds_toArray, List.set_cons_zero, List.set_cons_succ, i64_w, i32_w]; rfl)
            refine pure_ (i := 12) (N := some 30) (v := ?_) (a' := ?_) #[true, true, true, true, true, true, true, true, false, true, true, true, true, false, false, false, false] rfl rfl (by kernel_rfl) (fun _ _ _ h => h) (Or.inl ⟨by rfl, ?_⟩) ?_ ?_
            rotate_left; (focus intro w'; go_simp; with_reducible rfl); rotate_left; (focus simp only [Act.put, List.setIfInBounds_toArray, List.set_cons_zero, List.set_cons_succ, i64_w, i32_w]; rfl)
            refine take_ (i := 8) (N := some 26) (v := .agg (encP x1).toArray) (a' := ?_) #[true, true, true, true, true, true, true, true, true, true, true, true, true, false, false, false, false] rfl rfl (by kernel_rfl) (fun _ _ _ h => h) (yieldsIf_load_mid (by rfl) 35 (.tmp 25) rfl g _ rfl (encP x1) _ (fun w' hS => hS.range (q := j) HPQ.out.1.1 HPQ.out.1.2 HX1.out) Try.underlying35 rfl part_size) hHeld ?_ ?_
            rotate_left; (focus simp only [Act.put, List.setIfInBounds_toArray, List.set_cons_zero, List.set_cons_succ, i64_w, i32_w]; rfl)
            refine take_ (i := 13) (N := some 31) (v := .agg (encP y1).toArray) (a' := ?_) #[true, true, true, true, true, true, true, true, true, true, true, true, true, true, false, false, false] rfl rfl (by kernel_rfl) (fun _ _ _ h => h) (yieldsIf_load_mid (by rfl) 35 (.tmp 30) rfl g _ rfl (encP y1) _ (fun w' hS => hS.range (q := jm) HPQ.out.2.1 HPQ.out.2.2 HY1.out) Try.underlying35 rfl part_size) hHeld ?_ ?_
            rotate_left; (focus simp only [Act.put, List.setIfInBounds_toArray, List.set_cons_zero, List.set_cons_succ, i64_w, i32_w]; rfl)
            refine one_ (i := 14) (N := some 32) #[true, true, true, true, true, true, true, true, true, true, true, true, true, true, true, false, false] rfl rfl (by kernel_rfl) (by decide) (fun K hK => ?_)
            refine call_ gi #[.agg (encP x1).toArray, .agg (encP y1).toArray] (by rfl) rfl (by go_simp; first | exact HE.out _ _ | skip) ?_
            refine (HF.out x1 y1 _).mono ?_
            rintro e_ w9 ⟨rfl, hb9⟩
            refine ⟨_, rfl, ?_⟩
            replace HB := Aside0.mk (HB.out.trans (hb9.mono (Nat.le_of_lt HR.out.1)))
            replace HR := Aside0.mk (HR.out.below hb9)
            clear hb9
            refine hK.out _ _ HR.out (fun hHeld => ?_)
            clear hK K
            refine norm_ (a' := ?_) ?_ ?_
            rotate_left; (focus show Act.put _ (some 32) _ = _; simp only [Act.put, List.setIfInBounds_toArray, List.set_cons_zero, List.set_cons_succ, i64_w, i32_w]; rfl)
            refine pure_ (i := 15) (N := some 33) (v := ?_) (a' := ?_) #[true, true, true, true, true, true, true, true, true, true, true, true, true, true, true, true, false] rfl rfl (by kernel_rfl) (fun _ _ _ h => h) (Or.inl ⟨by rfl, ?_⟩) ?_ ?_
            rotate_left; (focus intro w'; go_simp; with_reducible rfl); rotate_left; (focus simp only [Act.put, List.setIfInBounds_toArray, List.set_cons_zero, List.set_cons_succ, i64_w, i32_w]; rfl)
            refine pure_ (i := 16) (N := some 34) (v := ?_) (a' := ?_) #[true, true, true, true, true, true, true, true, true, true, true, true, true, true, true, true, true] rfl rfl (by kernel_rfl) (fun _ _ _ h => h) (Or.inl ⟨by rfl, ?_⟩) ?_ ?_
            rotate_left; (focus intro w'; go_simp; with_reducible rfl); rotate_left; (focus simp only [Act.put, List.setIfInBounds_toArray, List.set_cons_zero, List.set_cons_succ, i64_w, i32_w]; rfl)
            refine done_ (by kernel_rfl) ?_
            try simp only [Exit.then]
            clear hHeld
            go_wp2_with fail
            go_roundg m
            case measure => omega
            case rel => exact ⟨i + 1, _, rfl, ⟨by have := hin.out; have := HI.out; have := HIN.out; have := HN.out; omega⟩, hzl, HS, HR, HB⟩
        · have d2 : decide (a < j) = false := decide_eq_false hj
          have d3 : decide (j > a) = false := decide_eq_false hj
          rw [if_neg (by have := hjn.out; have := HIN.out; omega)] at hs
          subst hs
          clear hj
          go_wp2_with fail
          replace HR := Aside0.mk (show RowAt wr.drew g zs from HR.out.below (below_drew1 (Below.refl _ _)))
          replace HB := Aside0.mk (below_drew1 HB.out)
          refine start_ (n := 17) (S := fun w' => RowAt w' g zs) (ds := []) #[false, false, false, false, false, false, false, false, false, false, false, false, false, false, false, false, false] (by kernel_rfl) rfl rfl HR.out (fun hHeld => ?_)
          generalize wr.drew = w8 at HR HB hHeld ⊢
          refine pure_ (i := 0) (N := some 18) (v := ?_) (a' := ?_) #[true, false, false, false, false, false, false, false, false, false, false, false, false, false, false, false, false] rfl rfl (by kernel_rfl) (fun _ _ _ h => h) (Or.inl ⟨by rfl, ?_⟩) ?_ ?_
          rotate_left; (focus intro w'; go_simp; with_reducible rfl); rotate_left; (focus simp only [Act.put, List.setIfInBounds_toArray, List.set_cons_zero, List.set_cons_succ, i64_w, i32_w]; rfl)
          refine pure_ (i := 1) (N := some 19) (v := ?_) (a' := ?_) #[true, true, false, false, false, false, false, false, false, false, false, false, false, false, false, false, false] rfl rfl (by kernel_rfl) (fun _ _ _ h => h) (Or.inl ⟨by rfl, ?_⟩) ?_ ?_
          rotate_left; (focus intro w'; go_simp; with_reducible rfl); rotate_left; (focus simp only [Act.put, List.setIfInBounds_toArray, List.set_cons_zero, List.set_cons_succ, i64_w, i32_w]; rfl)
          refine pure_ (i := 2) (N := some 20) (v := ?_) (a' := ?_) #[true, true, true, false, false, false, false, false, false, false, false, false, false, false, false, false, false] rfl rfl (by kernel_rfl) (fun _ _ _ h => h) (Or.inl ⟨by rfl, ?_⟩) ?_ ?_
          rotate_left; (focus intro w'; go_simp; with_reducible rfl); rotate_left; (focus simp only [Act.put, List.setIfInBounds_toArray, List.set_cons_zero, List.set_cons_succ, i64_w, i32_w]; rfl)
          refine pure_ (i := 3) (N := some 21) (v := ?_) (a' := ?_) #[true, true, true, true, false, false, false, false, false, false, false, false, false, false, false, false, false] rfl rfl (by kernel_rfl) (fun _ _ _ h => h) (Or.inl ⟨by rfl, ?_⟩) ?_ ?_
          rotate_left; (focus intro w'; go_simp; with_reducible rfl); rotate_left; (focus simp only [Act.put, List.setIfInBounds_toArray, List.set_cons_zero, List.set_cons_succ, i64_w, i32_w]; rfl)
          refine pure_ (i := 4) (N := some 22) (v := undef) (a' := ?_) #[true, true, true, true, true, false, false, false, false, false, false, false, false, false, false, false, false] rfl rfl (by kernel_rfl) (fun _ _ _ h => h) (Or.inr ⟨by rfl, rfl⟩) ?_ ?_
          rotate_left; (focus simp only [Act.put, List.setIfInBounds_toArray, List.set_cons_zero, List.set_cons_succ, i64_w, i32_w]; rfl)
          refine pure_ (i := 5) (N := some 23) (v := undef) (a' := ?_) #[true, true, true, true, true, true, false, false, false, false, false, false, false, false, false, false, false] rfl rfl (by kernel_rfl) (fun _ _ _ h => h) (Or.inr ⟨by rfl, rfl⟩) ?_ ?_
          rotate_left; (focus simp only [Act.put, List.setIfInBounds_toArray, List.set_cons_zero, List.set_cons_succ, i64_w, i32_w]; rfl)
          refine pure_ (i := 6) (N := some 24) (v := undef) (a' := ?_) #[true, true, true, true, true, true, true, false, false, false, false, false, false, false, false, false, false] rfl rfl (by kernel_rfl) (fun _ _ _ h => h) (Or.inr ⟨by rfl, rfl⟩) ?_ ?_
          rotate_left; (focus simp only [Act.put, List.setIfInBounds_toArray, List.set_cons_zero, List.set_cons_succ, i64_w, i32_w]; rfl)
          refine pure_ (i := 7) (N := some 25) (v := undef) (a' := ?_) #[true, true, true, true, true, true, true, true, false, false, false, false, false, false, false, false, false] rfl rfl (by kernel_rfl) (fun _ _ _ h => h) (Or.inr ⟨by rfl, rfl⟩) ?_ ?_
          rotate_left; (focus simp only [Act.put, List.setIfInBounds_toArray, List.set_cons_zero, List.set_cons_succ, i64_w, i32_w]; rfl)
          refine pure_ (i := 9) (N := some 27) (v := undef) (a' := ?_) #[true, true, true, true, true, true, true, true, false, true, false, false, false, false, false, false, false] rfl rfl (by kernel_rfl) (fun _ _ _ h => h) (Or.inr ⟨by rfl, rfl⟩) ?_ ?_
          rotate_left; (focus simp only [Act.put, List.setIfInBounds_toArray, List.set_cons_zero, List.set_cons_succ, i64_w, i32_w]; rfl)
          refine pure_ (i := 10) (N := some 28) (v := undef) (a' := ?_) #[true, true, true, true, true, true, true, true, false, true, true, false, false, false, false, false, false] rfl rfl (by kernel_rfl) (fun _ _ _ h => h) (Or.inr ⟨by rfl, rfl⟩) ?_ ?_
          rotate_left; (focus simp only [Act.put, List.setIfInBounds_toArray, List.set_cons_zero, List.set_cons_succ, i64_w, i32_w]; rfl)
          refine pure_ (i := 11) (N := some 29) (v := undef) (a' := ?_) #[true, true, true, true, true, true, true, true, false, true, true, true, false, false, false, false, false] rfl rfl (by kernel_rfl) (fun _ _ _ h => h) (Or.inr ⟨by rfl, rfl⟩) ?_ ?_
          rotate_left; (focus simp only [Act.put, List.setIfInBounds_toArray, List.set_cons_zero, List.set_cons_succ, i64_w, i32_w]; rfl)
          refine pure_ (i := 12) (N := some 30) (v := undef) (a' := ?_) #[true, true, true, true, true, true, true, true, false, true, true, true, true, false, false, false, false] rfl rfl (by kernel_rfl) (fun _ _ _ h => h) (Or.inr ⟨by rfl, rfl⟩) ?_ ?_
          rotate_left; (focus simp only [Act.put, List.setIfInBounds_toArray, List.set_cons_zero, List.set_cons_succ, i64_w, i32_w]; rfl)
          refine pure_ (i := 8) (N := some 26) (v := undef) (a' := ?_) #[true, true, true, true, true, true, true, true, true, true, true, true, true, false, false, false, false] rfl rfl (by kernel_rfl) (fun _ _ _ h => h) (Or.inr ⟨by rfl, rfl⟩) ?_ ?_
          rotate_left; (focus simp only [Act.put, List.setIfInBounds_toArray, List.set_cons_zero, List.set_cons_succ, i64_w, i32_w]; rfl)
          refine pure_ (i := 13) (N := some 31) (v := undef) (a' := ?_) #[true, true, true, true, true, true, true, true, true, true, true, true, true, true, false, false, false] rfl rfl (by kernel_rfl) (fun _ _ _ h => h) (Or.inr ⟨by rfl, rfl⟩) ?_ ?_
          rotate_left; (focus simp only [Act.put, List.setIfInBounds_toArray, List.set_cons_zero, List.set_cons_succ, i64_w, i32_w]; rfl)
          refine pure_ (i := 14) (N := some 32) (v := undef) (a' := ?_) #[true, true, true, true, true, true, true, true, true, true, true, true, true, true, true, false, false] rfl rfl (by kernel_rfl) (fun _ _ _ h => h) (Or.inr ⟨by rfl, rfl⟩) ?_ ?_
          rotate_left; (focus simp only [Act.put, List.setIfInBounds_toArray, List.set_cons_zero, List.set_cons_succ, i64_w, i32_w]; rfl)
          refine pure_ (i := 15) (N := some 33) (v := undef) (a' := ?_) #[true, true, true, true, true, true, true, true, true, true, true, true, true, true, true, true, false] rfl rfl (by kernel_rfl) (fun _ _ _ h => h) (Or.inr ⟨by rfl, rfl⟩) ?_ ?_
          rotate_left; (focus simp only [Act.put, List.setIfInBounds_toArray, List.set_cons_zero, List.set_cons_succ, i64_w, i32_w]; rfl)
          refine pure_ (i := 16) (N := some 34) (v := ?_) (a' := ?_) #[true, true, true, true, true, true, true, true, true, true, true, true, true, true, true, true, true] rfl rfl (by kernel_rfl) (fun _ _ _ h => h) (Or.inl ⟨by rfl, ?_⟩) ?_ ?_
          rotate_left; (focus intro w'; go_simp; with_reducible rfl); rotate_left; (focus simp only [Act.put, List.setIfInBounds_toArray, List.set_cons_zero, List.set_cons_succ, i64_w, i32_w]; rfl)
          refine done_ (by kernel_rfl) ?_
          try simp only [Exit.then]
          clear hHeld
          go_wp2_with fail
          go_roundg m
          case measure => omega
          case rel => exact ⟨i + 1, _, rfl, ⟨by have := hin.out; have := HI.out; have := HIN.out; have := HN.out; omega⟩, hzl, HS, HR, HB⟩
    · have d1 : decide (i < b) = false := decide_eq_false hi
      rw [if_neg (by have := hin.out; have := HIN.out; omega)] at hs
      subst hs
      clear hi
      go_wp2_with fail
      go_end0
      exact ⟨rfl, HR.out, HB.out⟩
-- A merge where the first stretch is one part.
set_option maxRecDepth 100000 in
set_option maxHeartbeats 8000000 in
theorem sym1_any (g cap : Nat) (gi : Nat) (c : S35 → S35 → Int) (heg : ∀ args w, (callFunc gi args).run Try.prog w = .ok (.enter gi args) w) (hf : ∀ (x y : S35) (W : World), Calls Try.prog gi #[.agg (encP x).toArray, .agg (encP y).toArray] W fun e W' => e = .returned (.int .i64 (c x y)) ∧ Below W.heap.size W W') (xs : List S35) (a m b : Int) (w : World) (hR : RowAt w g xs) (hl : xs.length ≤ 1000000) (ha : 0 ≤ a) (ham : a < m) (hmb : m < b) (hb : b ≤ (xs.length : Int)) (h1 : m - a = 1) (r : List S35) (hr : mvR z35 (bsL (fun h => !(decide (c (xs.getD h z35) (xs.getD a.toNat z35) < 0))) (b.toNat - m.toNat + 1) m.toNat b.toNat) (b.toNat - a.toNat + 1) a.toNat xs = r) :
    Calls Try.prog 38 #[.slice (some ⟨g, 0, none⟩) xs.length cap, .int .i64 a, .int .i64 m, .int .i64 b, .func (.func gi) #[] #[]] w fun e w' => e = .returned (.tuple #[]) ∧ RowAt w' g r ∧ Below g w w' := by
  have HR := Aside0.mk hR
  have HIN := Aside0.mk (show 0 ≤ a ∧ a < m ∧ m < b ∧ b ≤ (xs.length : Int) ∧ xs.length ≤ 1000000 from ⟨ha, ham, hmb, hb, hl⟩)
  have HF := Aside0.mk hf
  have HE := Aside0.mk heg
  have HB : Aside0 (Below g w w) := ⟨Below.refl _ _⟩
  obtain ⟨p, hp⟩ : ∃ p : Nat → Bool, p = (fun h => !(decide (c (xs.getD h z35) (xs.getD a.toNat z35) < 0))) := ⟨_, rfl⟩
  rw [← hp] at hr
  have HP := Aside0.mk (show ∀ h, p h = (fun h => !(decide (c (xs.getD h z35) (xs.getD a.toNat z35) < 0))) h from fun h => by rw [hp])
  clear hp
  generalize hq0 : bsL p (b.toNat - m.toNat + 1) m.toNat b.toNat = q0 at hr
  have H0 := Aside0.mk hq0
  have H1 := Aside0.mk hr
  have e1 : IntKind.i64.wrap (m - a) = 1 := by rw [h1]; rfl
  clear h1 hq0
  obtain ⟨N, hN⟩ : ∃ N, N = xs.length := ⟨_, rfl⟩
  have HN := Aside0.mk hN
  rw [← hN]
  clear hR hr ha ham hmb hb hl hN hf
  go_enter Try.func38, Try.ntmps38
  go_wp2_with fail
  clear e1
  go_loopg [10, 11] (b.toNat - m.toNat + 1) (fun kq v10 v11 wr => ∃ (i j : Int), v10 = .int .i64 i ∧ v11 = .int .i64 j ∧ Aside0 (m ≤ i ∧ i ≤ j ∧ j ≤ b ∧ j - i < (kq : Int)) ∧ Aside0 (bsL p kq i.toNat j.toNat = q0) ∧ Aside0 (RowAt wr g xs) ∧ Aside0 (Below g w wr))
  case atStart => exact ⟨m, b, rfl, rfl, ⟨by have := HIN.out; omega⟩, H0, HR, HB⟩
  case round =>
    clear H0 HR HB
    obtain ⟨i, j, rfl, rfl, hin, HS, HR, HB⟩ := hrel
    cases gk with
    | zero => have := hin.out; exfalso; omega
    | succ f =>
    have hs := HS.out
    simp only [bsL] at hs
    clear HS
    by_cases hij : i < j
    · have d1 : decide (i < j) = true := decide_eq_true hij
      rw [if_pos (by have := hin.out; have := HIN.out; omega)] at hs
      obtain ⟨q, hq⟩ : ∃ q, (i + j) / 2 = q := ⟨_, rfl⟩
      have e1 : IntKind.i64.wrap (i + j) = i + j := IntWalk.i64_in _ (by have := hin.out; have := HIN.out; have := HN.out; omega)
      have e2 : IntKind.u64.wrap (i + j) = i + j := by have := hin.out; have := HIN.out; have := HN.out; unfold IntKind.wrap; simp [go_sem]; omega
      have e3 : wrap64 ((i + j) / 2) = q := by rw [hq]; exact IntWalk.wrap64_in _ (by have := hin.out; have := HIN.out; have := HN.out; omega)
      have HQ := Aside0.mk (show i ≤ q ∧ q < j from by have := hin.out; omega)
      have e4 : IntKind.i64.wrap (q + 1) = q + 1 := IntWalk.i64_in _ (by have := hin.out; have := HIN.out; have := HN.out; omega)
      rw [show (i.toNat + j.toNat) / 2 = q.toNat by have := hin.out; have := HIN.out; omega] at hs
      have p1 : 0 ≤ q := by have := hin.out; have := HIN.out; omega
      have p2 : 0 ≤ a := HIN.out.1
      have q1 : q < (N : Int) := by have := hin.out; have := HIN.out; have := HN.out; omega
      have q2 : a < (N : Int) := by have := HIN.out; have := HN.out; omega
      have HPQ := Aside0.mk (show (0 ≤ q ∧ q < (xs.length : Int)) ∧ (0 ≤ a ∧ a < (xs.length : Int)) from ⟨⟨p1, by rw [← HN.out]; exact q1⟩, p2, by rw [← HN.out]; exact q2⟩)
      obtain ⟨x1, hx1⟩ : ∃ x, rd_T35 xs q = x := ⟨_, rfl⟩
      obtain ⟨y1, hy1⟩ : ∃ x, rd_T35 xs a = x := ⟨_, rfl⟩
      have hg1 : xs.getD q.toNat z35 = x1 := hx1
      have hg2 : xs.getD a.toNat z35 = y1 := hy1
      have hpq : p q.toNat = !(decide (c x1 y1 < 0)) := by rw [HP.out, hg1, hg2]
      rw [hpq] at hs
      have HX1 := Aside0.mk hx1
      have HY1 := Aside0.mk hy1
      replace p1 := eq_true p1
      replace p2 := eq_true p2
      replace q1 := eq_true q1
      replace q2 := eq_true q2
      have HQ2 := Aside0.mk hq
      clear hx1 hy1 hg1 hg2 hij hq hpq
      by_cases hlt : c x1 y1 < 0
      · have d4 : decide (c x1 y1 < 0) = true := decide_eq_true hlt
        rw [if_neg (by rw [d4]; decide)] at hs
        have HS := Aside0.mk (show bsL p f (q + 1).toNat j.toNat = q0 from by rw [← hs, show (q + 1).toNat = q.toNat + 1 by have := hin.out; have := HIN.out; have := HQ.out; omega])
        clear hs hlt
        go_wp2_with fail
        try rw [e3]
        replace HR := Aside0.mk (show RowAt wr.drew g xs from HR.out.below (below_drew1 (Below.refl _ _)))
        replace HB := Aside0.mk (below_drew1 HB.out)
        refine start_ (n := 11) (S := fun w' => RowAt w' g xs) (ds := []) #[false, false, false, false, false, false, false, false, false, false, false] (by kernel_rfl) rfl rfl HR.out (fun hHeld => ?_)
        generalize wr.drew = w8 at HR HB hHeld ⊢
        refine pure_ (i := 0) (N := some 40) (v := ?_) (a' := ?_) #[true, false, false, false, false, false, false, false, false, false, false] rfl rfl (by kernel_rfl) (fun _ _ _ h => h) (Or.inl ⟨by rfl, ?_⟩) ?_ ?_
        rotate_left; (focus intro w'; go_simp; with_reducible rfl); rotate_left; (focus simp only [Act.put, List.setIfInBounds_toArray, List.set_cons_zero, List.set_cons_succ, i64_w, i32_w]; rfl)
        refine pure_ (i := 1) (N := some 41) (v := ?_) (a' := ?_) #[true, true, false, false, false, false, false, false, false, false, false] rfl rfl (by kernel_rfl) (fun _ _ _ h => h) (Or.inl ⟨by rfl, ?_⟩) ?_ ?_
        rotate_left; (focus intro w'; go_simp; with_reducible rfl); rotate_left; (focus simp only [Act.put, List.setIfInBounds_toArray, List.set_cons_zero, List.set_cons_succ, i64_w, i32_w]; rfl)
        refine pure_ (i := 2) (N := some 42) (v := ?_) (a' := ?_) #[true, true, true, false, false, false, false, false, false, false, false] rfl rfl (by kernel_rfl) (fun _ _ _ h => h) (Or.inl ⟨by rfl, ?_⟩) ?_ ?_
        rotate_left; (focus intro w'; go_simp; with_reducible rfl); rotate_left; (focus simp only [Act.put, List.setIfInBounds_toArray, List.set_cons_zero, List.set_cons_succ, i64_w, i32_w]; rfl)
        refine pure_ (i := 3) (N := some 43) (v := ?_) (a' := ?_) #[true, true, true, true, false, false, false, false, false, false, false] rfl rfl (by kernel_rfl) (fun _ _ _ h => h) (Or.inl ⟨by rfl, ?_⟩) ?_ ?_
        rotate_left; (focus intro w'; go_simp; with_reducible rfl); rotate_left; (focus simp only [Act.put, List.setIfInBounds_toArray, List.set_cons_zero, List.set_cons_succ, i64_w, i32_w]; rfl)
        refine pure_ (i := 5) (N := some 45) (v := ?_) (a' := ?_) #[true, true, true, true, false, true, false, false, false, false, false] rfl rfl (by kernel_rfl) (fun _ _ _ h => h) (Or.inl ⟨by rfl, ?_⟩) ?_ ?_
        rotate_left; (focus intro w'; go_simp; with_reducible rfl); rotate_left; (focus simp only [Act.put, List.setIfInBounds_toArray, List.set_cons_zero, List.set_cons_succ, i64_w, i32_w]; rfl)
        refine pure_ (i := 6) (N := some 46) (v := ?_) (a' := ?_) #[true, true, true, true, false, true, true, false, false, false, false] rfl rfl (by kernel_rfl) (fun _ _ _ h => h) (Or.inl ⟨by rfl, ?_⟩) ?_ ?_
        rotate_left; (focus intro w'; go_simp; with_reducible rfl); rotate_left; (focus simp only [Act.put, List.setIfInBounds_toArray, List.set_cons_zero, List.set_cons_succ, i64_w, i32_w]; rfl)
        refine pure_ (i := 7) (N := some 47) (v := ?_) (a' := ?_) #[true, true, true, true, false, true, true, true, false, false, false] rfl rfl (by kernel_rfl) (fun _ _ _ h => h) (Or.inl ⟨by rfl, ?_⟩) ?_ ?_
        rotate_left; (focus intro w'; go_simp; with_reducible rfl); rotate_left; (focus simp only [Act.put, List.setIfInBounds_toArray, List.set_cons_zero, List.set_cons_succ, i64_w, i32_w]; rfl)
        refine take_ (i := 4) (N := some 44) (v := .agg (encP x1).toArray) (a' := ?_) #[true, true, true, true, true, true, true, true, false, false, false] rfl rfl (by kernel_rfl) (fun _ _ _ h => h) (yieldsIf_load_mid (by rfl) 35 (.tmp 43) rfl g _ rfl (encP x1) _ (fun w' hS => hS.range (q := q) HPQ.out.1.1 HPQ.out.1.2 HX1.out) Try.underlying35 rfl part_size) hHeld ?_ ?_
        rotate_left; (focus simp only [Act.put, List.setIfInBounds_toArray, List.set_cons_zero, List.set_cons_succ, i64_w, i32_w]; rfl)
        refine take_ (i := 8) (N := some 48) (v := .agg (encP y1).toArray) (a' := ?_) #[true, true, true, true, true, true, true, true, true, false, false] rfl rfl (by kernel_rfl) (fun _ _ _ h => h) (yieldsIf_load_mid (by rfl) 35 (.tmp 47) rfl g _ rfl (encP y1) _ (fun w' hS => hS.range (q := a) HPQ.out.2.1 HPQ.out.2.2 HY1.out) Try.underlying35 rfl part_size) hHeld ?_ ?_
        rotate_left; (focus simp only [Act.put, List.setIfInBounds_toArray, List.set_cons_zero, List.set_cons_succ, i64_w, i32_w]; rfl)
        refine one_ (i := 9) (N := some 49) #[true, true, true, true, true, true, true, true, true, true, false] rfl rfl (by kernel_rfl) (by decide) (fun K hK => ?_)
        refine call_ gi #[.agg (encP x1).toArray, .agg (encP y1).toArray] (by rfl) rfl (by go_simp; first | exact HE.out _ _ | skip) ?_
        refine (HF.out x1 y1 _).mono ?_
        rintro e_ w9 ⟨rfl, hb9⟩
        refine ⟨_, rfl, ?_⟩
        replace HB := Aside0.mk (HB.out.trans (hb9.mono (Nat.le_of_lt HR.out.1)))
        replace HR := Aside0.mk (HR.out.below hb9)
        clear hb9
        refine hK.out _ _ HR.out (fun hHeld => ?_)
        clear hK K
        refine norm_ (a' := ?_) ?_ ?_
        rotate_left; (focus show Act.put _ (some 49) _ = _; simp only [Act.put, List.setIfInBounds_toArray, List.set_cons_zero, List.set_cons_succ, i64_w, i32_w]; rfl)
        refine pure_ (i := 10) (N := some 50) (v := ?_) (a' := ?_) #[true, true, true, true, true, true, true, true, true, true, true] rfl rfl (by kernel_rfl) (fun _ _ _ h => h) (Or.inl ⟨by rfl, ?_⟩) ?_ ?_
        rotate_left; (focus intro w'; go_simp; with_reducible rfl); rotate_left; (focus simp only [Act.put, List.setIfInBounds_toArray, List.set_cons_zero, List.set_cons_succ, i64_w, i32_w]; rfl)
        refine done_ (by kernel_rfl) ?_
        try simp only [Exit.then]
        clear hHeld
        go_wp2_with fail
        go_roundg f
        case measure => omega
        case rel => exact ⟨q + 1, j, rfl, rfl, ⟨by have := hin.out; have := HQ.out; omega⟩, HS, HR, HB⟩
      · have d4 : decide (c x1 y1 < 0) = false := decide_eq_false hlt
        rw [if_pos (by rw [d4]; rfl)] at hs
        have HS := Aside0.mk hs
        clear hs hlt
        go_wp2_with fail
        try rw [e3]
        replace HR := Aside0.mk (show RowAt wr.drew g xs from HR.out.below (below_drew1 (Below.refl _ _)))
        replace HB := Aside0.mk (below_drew1 HB.out)
        refine start_ (n := 11) (S := fun w' => RowAt w' g xs) (ds := []) #[false, false, false, false, false, false, false, false, false, false, false] (by kernel_rfl) rfl rfl HR.out (fun hHeld => ?_)
        generalize wr.drew = w8 at HR HB hHeld ⊢
        refine pure_ (i := 0) (N := some 40) (v := ?_) (a' := ?_) #[true, false, false, false, false, false, false, false, false, false, false] rfl rfl (by kernel_rfl) (fun _ _ _ h => h) (Or.inl ⟨by rfl, ?_⟩) ?_ ?_
        rotate_left; (focus intro w'; go_simp; with_reducible rfl); rotate_left; (focus simp only [Act.put, List.setIfInBounds_toArray, List.set_cons_zero, List.set_cons_succ, i64_w, i32_w]; rfl)
        refine pure_ (i := 1) (N := some 41) (v := ?_) (a' := ?_) #[true, true, false, false, false, false, false, false, false, false, false] rfl rfl (by kernel_rfl) (fun _ _ _ h => h) (Or.inl ⟨by rfl, ?_⟩) ?_ ?_
        rotate_left; (focus intro w'; go_simp; with_reducible rfl); rotate_left; (focus simp only [Act.put, List.setIfInBounds_toArray, List.set_cons_zero, List.set_cons_succ, i64_w, i32_w]; rfl)
        refine pure_ (i := 2) (N := some 42) (v := ?_) (a' := ?_) #[true, true, true, false, false, false, false, false, false, false, false] rfl rfl (by kernel_rfl) (fun _ _ _ h => h) (Or.inl ⟨by rfl, ?_⟩) ?_ ?_
        rotate_left; (focus intro w'; go_simp; with_reducible rfl); rotate_left; (focus simp only [Act.put, List.setIfInBounds_toArray, List.set_cons_zero, List.set_cons_succ, i64_w, i32_w]; rfl)
        refine pure_ (i := 3) (N := some 43) (v := ?_) (a' := ?_) #[true, true, true, true, false, false, false, false, false, false, false] rfl rfl (by kernel_rfl) (fun _ _ _ h => h) (Or.inl ⟨by rfl, ?_⟩) ?_ ?_
        rotate_left; (focus intro w'; go_simp; with_reducible rfl); rotate_left; (focus simp only [Act.put, List.setIfInBounds_toArray, List.set_cons_zero, List.set_cons_succ, i64_w, i32_w]; rfl)
        refine pure_ (i := 5) (N := some 45) (v := ?_) (a' := ?_) #[true, true, true, true, false, true, false, false, false, false, false] rfl rfl (by kernel_rfl) (fun _ _ _ h => h) (Or.inl ⟨by rfl, ?_⟩) ?_ ?_
        rotate_left; (focus intro w'; go_simp; with_reducible rfl); rotate_left; (focus simp only [Act.put, List.setIfInBounds_toArray, List.set_cons_zero, List.set_cons_succ, i64_w, i32_w]; rfl)
        refine pure_ (i := 6) (N := some 46) (v := ?_) (a' := ?_) #[true, true, true, true, false, true, true, false, false, false, false] rfl rfl (by kernel_rfl) (fun _ _ _ h => h) (Or.inl ⟨by rfl, ?_⟩) ?_ ?_
        rotate_left; (focus intro w'; go_simp; with_reducible rfl); rotate_left; (focus simp only [Act.put, List.setIfInBounds_toArray, List.set_cons_zero, List.set_cons_succ, i64_w, i32_w]; rfl)
        refine pure_ (i := 7) (N := some 47) (v := ?_) (a' := ?_) #[true, true, true, true, false, true, true, true, false, false, false] rfl rfl (by kernel_rfl) (fun _ _ _ h => h) (Or.inl ⟨by rfl, ?_⟩) ?_ ?_
        rotate_left; (focus intro w'; go_simp; with_reducible rfl); rotate_left; (focus simp only [Act.put, List.setIfInBounds_toArray, List.set_cons_zero, List.set_cons_succ, i64_w, i32_w]; rfl)
        refine take_ (i := 4) (N := some 44) (v := .agg (encP x1).toArray) (a' := ?_) #[true, true, true, true, true, true, true, true, false, false, false] rfl rfl (by kernel_rfl) (fun _ _ _ h => h) (yieldsIf_load_mid (by rfl) 35 (.tmp 43) rfl g _ rfl (encP x1) _ (fun w' hS => hS.range (q := q) HPQ.out.1.1 HPQ.out.1.2 HX1.out) Try.underlying35 rfl part_size) hHeld ?_ ?_
        rotate_left; (focus simp only [Act.put, List.setIfInBounds_toArray, List.set_cons_zero, List.set_cons_succ, i64_w, i32_w]; rfl)
        refine take_ (i := 8) (N := some 48) (v := .agg (encP y1).toArray) (a' := ?_) #[true, true, true, true, true, true, true, true, true, false, false] rfl rfl (by kernel_rfl) (fun _ _ _ h => h) (yieldsIf_load_mid (by rfl) 35 (.tmp 47) rfl g _ rfl (encP y1) _ (fun w' hS => hS.range (q := a) HPQ.out.2.1 HPQ.out.2.2 HY1.out) Try.underlying35 rfl part_size) hHeld ?_ ?_
        rotate_left; (focus simp only [Act.put, List.setIfInBounds_toArray, List.set_cons_zero, List.set_cons_succ, i64_w, i32_w]; rfl)
        refine one_ (i := 9) (N := some 49) #[true, true, true, true, true, true, true, true, true, true, false] rfl rfl (by kernel_rfl) (by decide) (fun K hK => ?_)
        refine call_ gi #[.agg (encP x1).toArray, .agg (encP y1).toArray] (by rfl) rfl (by go_simp; first | exact HE.out _ _ | skip) ?_
        refine (HF.out x1 y1 _).mono ?_
        rintro e_ w9 ⟨rfl, hb9⟩
        refine ⟨_, rfl, ?_⟩
        replace HB := Aside0.mk (HB.out.trans (hb9.mono (Nat.le_of_lt HR.out.1)))
        replace HR := Aside0.mk (HR.out.below hb9)
        clear hb9
        refine hK.out _ _ HR.out (fun hHeld => ?_)
        clear hK K
        refine norm_ (a' := ?_) ?_ ?_
        rotate_left; (focus show Act.put _ (some 49) _ = _; simp only [Act.put, List.setIfInBounds_toArray, List.set_cons_zero, List.set_cons_succ, i64_w, i32_w]; rfl)
        refine pure_ (i := 10) (N := some 50) (v := ?_) (a' := ?_) #[true, true, true, true, true, true, true, true, true, true, true] rfl rfl (by kernel_rfl) (fun _ _ _ h => h) (Or.inl ⟨by rfl, ?_⟩) ?_ ?_
        rotate_left; (focus intro w'; go_simp; with_reducible rfl); rotate_left; (focus simp only [Act.put, List.setIfInBounds_toArray, List.set_cons_zero, List.set_cons_succ, i64_w, i32_w]; rfl)
        refine done_ (by kernel_rfl) ?_
        try simp only [Exit.then]
        clear hHeld
        go_wp2_with fail
        go_roundg f
        case measure => omega
        case rel => exact ⟨i, q, rfl, rfl, ⟨by have := hin.out; have := HQ.out; omega⟩, HS, HR, HB⟩
    · have d1 : decide (i < j) = false := decide_eq_false hij
      rw [if_neg (by have := hin.out; have := HIN.out; omega)] at hs
      have HQ0 := Aside0.mk (show q0 = i.toNat ∧ m ≤ i ∧ i ≤ b from ⟨hs.symm, by have := hin.out; omega, by have := hin.out; omega⟩)
      clear hs hij
      obtain ⟨im, him⟩ : ∃ v, i - 1 = v := ⟨_, rfl⟩
      have e5 : IntKind.i64.wrap (i - 1) = im := by rw [← him]; exact IntWalk.i64_in _ (by have := hin.out; have := HIN.out; have := HN.out; omega)
      have HIM := Aside0.mk him
      clear him hin
      go_wp2_with fail
      clear d1
      go_loopg [13] (b.toNat - a.toNat + 1) (fun kq v13 wr => ∃ (k : Int) (ys : List S35), v13 = .int .i64 k ∧ Aside0 (a ≤ k ∧ k < b ∧ b - k < (kq : Int) + 1 ∧ 0 < kq) ∧ Aside0 (ys.length = N) ∧ Aside0 (mvR z35 q0 kq k.toNat ys = r) ∧ Aside0 (RowAt wr g ys) ∧ Aside0 (Below g w wr))
      case atStart => exact ⟨a, xs, rfl, ⟨by have := HIN.out; omega⟩, ⟨HN.out.symm⟩, H1, HR, HB⟩
      case round =>
        clear H1 HR HB
        obtain ⟨k, ys, rfl, hin, hyl, HS, HR, HB⟩ := hrel
        cases gk with
        | zero => have := hin.out; exfalso; omega
        | succ f =>
        have hs := HS.out
        simp only [mvR] at hs
        clear HS
        by_cases hk : k < im
        · have d1 : decide (k < im) = true := decide_eq_true hk
          rw [if_pos (by have := hin.out; have := HIN.out; have := HQ0.out; have := HIM.out; omega)] at hs
          obtain ⟨kp, hkp⟩ : ∃ v, k + 1 = v := ⟨_, rfl⟩
          have e6 : IntKind.i64.wrap (k + 1) = kp := by rw [← hkp]; exact IntWalk.i64_in _ (by have := hin.out; have := HIN.out; have := HN.out; omega)
          have HKP := Aside0.mk (show k + 1 = kp ∧ k < im from ⟨hkp, hk⟩)
          have p1 : 0 ≤ k := by have := hin.out; have := HIN.out; omega
          have p2 : 0 ≤ kp := by omega
          have q1 : k < (N : Int) := by have := hin.out; have := HIN.out; have := HN.out; omega
          have q2 : kp < (N : Int) := by have := hin.out; have := HIN.out; have := HN.out; have := HQ0.out; have := HIM.out; omega
          have HPQ := Aside0.mk (show (0 ≤ k ∧ k < (ys.length : Int)) ∧ (0 ≤ kp ∧ kp < (ys.length : Int)) from ⟨⟨p1, by rw [hyl.out]; exact q1⟩, p2, by rw [hyl.out]; exact q2⟩)
          obtain ⟨x1, hx1⟩ : ∃ x, rd_T35 ys k = x := ⟨_, rfl⟩
          obtain ⟨y1, hy1⟩ : ∃ x, rd_T35 ys kp = x := ⟨_, rfl⟩
          have HS := Aside0.mk (show mvR z35 q0 f kp.toNat ((ys.set k.toNat y1).set kp.toNat x1) = r from by rw [← hs, ← hx1, ← hy1, ← rd_swp, show kp.toNat = k.toNat + 1 by omega])
          have HX1 := Aside0.mk hx1
          have HY1 := Aside0.mk hy1
          replace p1 := eq_true p1
          replace p2 := eq_true p2
          replace q1 := eq_true q1
          replace q2 := eq_true q2
          clear hx1 hy1 hs hk hkp
          go_wp2_with fail
          replace HR := Aside0.mk (show RowAt wr.drew g ys from HR.out.below (below_drew1 (Below.refl _ _)))
          replace HB := Aside0.mk (below_drew1 HB.out)
          refine start_ (n := 18) (S := fun w' => RowAt w' g ys) (ds := [15, 17]) #[false, false, false, false, false, false, false, false, false, false, false, false, false, false, false, false, false, false] (by kernel_rfl) rfl rfl HR.out (fun hHeld => ?_)
          generalize wr.drew = w8 at HR HB hHeld ⊢
          refine pure_ (i := 0) (N := some 61) (v := ?_) (a' := ?_) #[true, false, false, false, false, false, false, false, false, false, false, false, false, false, false, false, false, false] rfl rfl (by kernel_rfl) (fun _ _ _ h => h) (Or.inl ⟨by rfl, ?_⟩) ?_ ?_
          rotate_left; (focus intro w'; go_simp; with_reducible rfl); rotate_left; (focus simp only [Act.put, List.setIfInBounds_toArray, List.set_cons_zero, List.set_cons_succ, i64_w, i32_w]; rfl)
          refine pure_ (i := 1) (N := some 62) (v := ?_) (a' := ?_) #[true, true, false, false, false, false, false, false, false, false, false, false, false, false, false, false, false, false] rfl rfl (by kernel_rfl) (fun _ _ _ h => h) (Or.inl ⟨by rfl, ?_⟩) ?_ ?_
          rotate_left; (focus intro w'; go_simp; with_reducible rfl); rotate_left; (focus simp only [Act.put, List.setIfInBounds_toArray, List.set_cons_zero, List.set_cons_succ, i64_w, i32_w]; rfl)
          refine pure_ (i := 2) (N := some 63) (v := ?_) (a' := ?_) #[true, true, true, false, false, false, false, false, false, false, false, false, false, false, false, false, false, false] rfl rfl (by kernel_rfl) (fun _ _ _ h => h) (Or.inl ⟨by rfl, ?_⟩) ?_ ?_
          rotate_left; (focus intro w'; go_simp; with_reducible rfl); rotate_left; (focus simp only [Act.put, List.setIfInBounds_toArray, List.set_cons_zero, List.set_cons_succ, i64_w, i32_w]; rfl)
          refine pure_ (i := 3) (N := some 64) (v := ?_) (a' := ?_) #[true, true, true, true, false, false, false, false, false, false, false, false, false, false, false, false, false, false] rfl rfl (by kernel_rfl) (fun _ _ _ h => h) (Or.inl ⟨by rfl, ?_⟩) ?_ ?_
          rotate_left; (focus intro w'; go_simp; with_reducible rfl); rotate_left; (focus simp only [Act.put, List.setIfInBounds_toArray, List.set_cons_zero, List.set_cons_succ, i64_w, i32_w]; rfl)
          refine pure_ (i := 4) (N := some 65) (v := ?_) (a' := ?_) #[true, true, true, true, true, false, false, false, false, false, false, false, false, false, false, false, false, false] rfl rfl (by kernel_rfl) (fun _ _ _ h => h) (Or.inl ⟨by rfl, ?_⟩) ?_ ?_
          rotate_left; (focus intro w'; go_simp; with_reducible rfl); rotate_left; (focus simp only [Act.put, List.setIfInBounds_toArray, List.set_cons_zero, List.set_cons_succ, i64_w, i32_w]; rfl)
          refine pure_ (i := 5) (N := some 66) (v := ?_) (a' := ?_) #[true, true, true, true, true, true, false, false, false, false, false, false, false, false, false, false, false, false] rfl rfl (by kernel_rfl) (fun _ _ _ h => h) (Or.inl ⟨by rfl, ?_⟩) ?_ ?_
          rotate_left; (focus intro w'; go_simp; with_reducible rfl); rotate_left; (focus simp only [Act.put, List.setIfInBounds_toArray, List.set_cons_zero, List.set_cons_succ, i64_w, i32_w]; rfl)
          refine pure_ (i := 6) (N := some 67) (v := ?_) (a' := ?_) #[true, true, true, true, true, true, true, false, false, false, false, false, false, false, false, false, false, false] rfl rfl (by kernel_rfl) (fun _ _ _ h => h) (Or.inl ⟨by rfl, ?_⟩) ?_ ?_
          rotate_left; (focus intro w'; go_simp; with_reducible rfl); rotate_left; (focus simp only [Act.put, List.setIfInBounds_toArray, List.set_cons_zero, List.set_cons_succ, i64_w, i32_w]; rfl)
          refine pure_ (i := 7) (N := some 68) (v := ?_) (a' := ?_) #[true, true, true, true, true, true, true, true, false, false, false, false, false, false, false, false, false, false] rfl rfl (by kernel_rfl) (fun _ _ _ h => h) (Or.inl ⟨by rfl, ?_⟩) ?_ ?_
          rotate_left; (focus intro w'; go_simp; with_reducible rfl); rotate_left; (focus simp only [Act.put, List.setIfInBounds_toArray, List.set_cons_zero, List.set_cons_succ, i64_w, i32_w]; rfl)
          refine pure_ (i := 8) (N := some 69) (v := ?_) (a' := ?_) #[true, true, true, true, true, true, true, true, true, false, false, false, false, false, false, false, false, false] rfl rfl (by kernel_rfl) (fun _ _ _ h => h) (Or.inl ⟨by rfl, ?_⟩) ?_ ?_
          rotate_left; (focus intro w'; go_simp; with_reducible rfl); rotate_left; (focus simp only [Act.put, List.setIfInBounds_toArray, List.set_cons_zero, List.set_cons_succ, i64_w, i32_w]; rfl)
          refine pure_ (i := 10) (N := some 71) (v := ?_) (a' := ?_) #[true, true, true, true, true, true, true, true, true, false, true, false, false, false, false, false, false, false] rfl rfl (by kernel_rfl) (fun _ _ _ h => h) (Or.inl ⟨by rfl, ?_⟩) ?_ ?_
          rotate_left; (focus intro w'; go_simp; with_reducible rfl); rotate_left; (focus simp only [Act.put, List.setIfInBounds_toArray, List.set_cons_zero, List.set_cons_succ, i64_w, i32_w]; rfl)
          refine pure_ (i := 11) (N := some 72) (v := ?_) (a' := ?_) #[true, true, true, true, true, true, true, true, true, false, true, true, false, false, false, false, false, false] rfl rfl (by kernel_rfl) (fun _ _ _ h => h) (Or.inl ⟨by rfl, ?_⟩) ?_ ?_
          rotate_left; (focus intro w'; go_simp; with_reducible rfl); rotate_left; (focus simp only [Act.put, List.setIfInBounds_toArray, List.set_cons_zero, List.set_cons_succ, i64_w, i32_w]; rfl)
          refine pure_ (i := 12) (N := some 73) (v := ?_) (a' := ?_) #[true, true, true, true, true, true, true, true, true, false, true, true, true, false, false, false, false, false] rfl rfl (by kernel_rfl) (fun _ _ _ h => h) (Or.inl ⟨by rfl, ?_⟩) ?_ ?_
          rotate_left; (focus intro w'; go_simp; with_reducible rfl); rotate_left; (focus simp only [Act.put, List.setIfInBounds_toArray, List.set_cons_zero, List.set_cons_succ, i64_w, i32_w]; rfl)
          refine take_ (i := 9) (N := some 70) (v := .agg (encP y1).toArray) (a' := ?_) #[true, true, true, true, true, true, true, true, true, true, true, true, true, false, false, false, false, false] rfl rfl (by kernel_rfl) (fun _ _ _ h => h) (yieldsIf_load_mid (by rfl) 35 (.tmp 69) rfl g _ rfl (encP y1) _ (fun w' hS => hS.range (q := kp) HPQ.out.2.1 HPQ.out.2.2 HY1.out) Try.underlying35 rfl part_size) hHeld ?_ ?_
          rotate_left; (focus simp only [Act.put, List.setIfInBounds_toArray, List.set_cons_zero, List.set_cons_succ, i64_w, i32_w]; rfl)
          refine take_ (i := 13) (N := some 74) (v := .agg (encP x1).toArray) (a' := ?_) #[true, true, true, true, true, true, true, true, true, true, true, true, true, true, false, false, false, false] rfl rfl (by kernel_rfl) (fun _ _ _ h => h) (yieldsIf_load_mid (by rfl) 35 (.tmp 73) rfl g _ rfl (encP x1) _ (fun w' hS => hS.range (q := k) HPQ.out.1.1 HPQ.out.1.2 HX1.out) Try.underlying35 rfl part_size) hHeld ?_ ?_
          rotate_left; (focus simp only [Act.put, List.setIfInBounds_toArray, List.set_cons_zero, List.set_cons_succ, i64_w, i32_w]; rfl)
          refine pure_ (i := 14) (N := some 75) (v := ?_) (a' := ?_) #[true, true, true, true, true, true, true, true, true, true, true, true, true, true, true, false, false, false] rfl rfl (by kernel_rfl) (fun _ _ _ h => h) (Or.inl ⟨by rfl, ?_⟩) ?_ ?_
          rotate_left; (focus intro w'; go_simp; with_reducible rfl); rotate_left; (focus simp only [Act.put, List.setIfInBounds_toArray, List.set_cons_zero, List.set_cons_succ, i64_w, i32_w]; rfl)
          refine last_ (i := 15) (N := none) #[true, true, true, true, true, true, true, true, true, true, true, true, true, true, true, true, false, false] rfl rfl (by kernel_rfl) (by decide) (fun K hK => ?_)
          refine skip_ (by rfl) rfl (store_mid_run 35 (.tmp 75) (.tmp 70) rfl g _ (encP y1) rfl rfl (HR.out.there (q := k) HPQ.out.1.1 HPQ.out.1.2) part_size (encP_one y1)) ?_
          refine hK.out _ _ ?_
          clear hK K
          replace HB := Aside0.mk (below_setCellsP (Nat.le_refl g) (encP y1) ((k).toNat * 4) _ HB.out)
          replace HR := Aside0.mk (HR.out.put (q := k) HPQ.out.1.1 HPQ.out.1.2 y1)
          refine pure_ (i := 16) (N := some 76) (v := ?_) (a' := ?_) #[true, true, true, true, true, true, true, true, true, true, true, true, true, true, true, true, true, false] rfl rfl (by kernel_rfl) (fun _ _ _ h => h) (Or.inl ⟨by rfl, ?_⟩) ?_ ?_
          rotate_left; (focus intro w'; go_simp; with_reducible rfl); rotate_left; (focus simp only [Act.put, List.setIfInBounds_toArray, List.set_cons_zero, List.set_cons_succ, i64_w, i32_w]; rfl)
          refine last_ (i := 17) (N := none) #[true, true, true, true, true, true, true, true, true, true, true, true, true, true, true, true, true, true] rfl rfl (by kernel_rfl) (by decide) (fun K hK => ?_)
          refine skip_ (by rfl) rfl (store_mid_run 35 (.tmp 76) (.tmp 74) rfl g _ (encP x1) rfl rfl (HR.out.there (q := kp) HPQ.out.2.1 (by rw [List.length_set]; exact HPQ.out.2.2)) part_size (encP_one x1)) ?_
          refine hK.out _ _ ?_
          clear hK K
          replace HB := Aside0.mk (below_setCellsP (Nat.le_refl g) (encP x1) ((kp).toNat * 4) _ HB.out)
          replace HR := Aside0.mk (HR.out.put (q := kp) HPQ.out.2.1 (by rw [List.length_set]; exact HPQ.out.2.2) x1)
          refine done_ (by kernel_rfl) ?_
          try simp only [Exit.then]
          clear hHeld
          go_wp2_with fail
          go_roundg f
          case measure => omega
          case rel => exact ⟨kp, _, rfl, ⟨by have := hin.out; have := HKP.out; have := HQ0.out; have := HIM.out; omega⟩, ⟨by rw [List.length_set, List.length_set]; exact hyl.out⟩, HS, HR, HB⟩
        · have d1 : decide (k < im) = false := decide_eq_false hk
          rw [if_neg (by have := hin.out; have := HIN.out; have := HQ0.out; have := HIM.out; omega)] at hs
          subst hs
          clear hk
          go_wp2_with fail
          (try simp only [Exit.inBlock, Exit.then]); refine bodyPost_ret (results_none rfl _ _ _) rfl ?_
          exact ⟨rfl, HR.out, HB.out⟩
-- A merge where the second stretch is one part.
set_option maxRecDepth 100000 in
set_option maxHeartbeats 8000000 in
theorem sym2_any (g cap : Nat) (gi : Nat) (c : S35 → S35 → Int) (heg : ∀ args w, (callFunc gi args).run Try.prog w = .ok (.enter gi args) w) (hf : ∀ (x y : S35) (W : World), Calls Try.prog gi #[.agg (encP x).toArray, .agg (encP y).toArray] W fun e W' => e = .returned (.int .i64 (c x y)) ∧ Below W.heap.size W W') (xs : List S35) (a m b : Int) (w : World) (hR : RowAt w g xs) (hl : xs.length ≤ 1000000) (ha : 0 ≤ a) (ham : a < m) (hmb : m < b) (hb : b ≤ (xs.length : Int)) (h0 : m - a ≠ 1) (h1 : b - m = 1) (r : List S35) (hr : mvL z35 (bsL (fun h => decide (c (xs.getD m.toNat z35) (xs.getD h z35) < 0)) (m.toNat - a.toNat + 1) a.toNat m.toNat) (b.toNat - a.toNat + 1) m.toNat xs = r) :
    Calls Try.prog 38 #[.slice (some ⟨g, 0, none⟩) xs.length cap, .int .i64 a, .int .i64 m, .int .i64 b, .func (.func gi) #[] #[]] w fun e w' => e = .returned (.tuple #[]) ∧ RowAt w' g r ∧ Below g w w' := by
  have HR := Aside0.mk hR
  have HIN := Aside0.mk (show 0 ≤ a ∧ a < m ∧ m < b ∧ b ≤ (xs.length : Int) ∧ xs.length ≤ 1000000 from ⟨ha, ham, hmb, hb, hl⟩)
  have HF := Aside0.mk hf
  have HE := Aside0.mk heg
  have HB : Aside0 (Below g w w) := ⟨Below.refl _ _⟩
  obtain ⟨p, hp⟩ : ∃ p : Nat → Bool, p = (fun h => decide (c (xs.getD m.toNat z35) (xs.getD h z35) < 0)) := ⟨_, rfl⟩
  rw [← hp] at hr
  have HP := Aside0.mk (show ∀ h, p h = (fun h => decide (c (xs.getD m.toNat z35) (xs.getD h z35) < 0)) h from fun h => by rw [hp])
  clear hp
  generalize hq0 : bsL p (m.toNat - a.toNat + 1) a.toNat m.toNat = q0 at hr
  have H0 := Aside0.mk hq0
  have H1 := Aside0.mk hr
  obtain ⟨ma, hma⟩ : ∃ v, m - a = v := ⟨_, rfl⟩
  have e0 : IntKind.i64.wrap (m - a) = ma := by rw [← hma]; exact IntWalk.i64_in _ (by omega)
  have d0 : (ma == 1) = false := beq_eq_false_iff_ne.2 (by omega)
  have e1 : IntKind.i64.wrap (b - m) = 1 := by rw [h1]; rfl
  clear h1 hq0 h0 hma
  obtain ⟨N, hN⟩ : ∃ N, N = xs.length := ⟨_, rfl⟩
  have HN := Aside0.mk hN
  rw [← hN]
  clear hR hr ha ham hmb hb hl hN hf
  go_enter Try.func38, Try.ntmps38
  go_wp2_with fail
  clear e1 e0 d0
  go_loopg [14, 15] (m.toNat - a.toNat + 1) (fun kq v14 v15 wr => ∃ (i j : Int), v14 = .int .i64 i ∧ v15 = .int .i64 j ∧ Aside0 (a ≤ i ∧ i ≤ j ∧ j ≤ m ∧ j - i < (kq : Int)) ∧ Aside0 (bsL p kq i.toNat j.toNat = q0) ∧ Aside0 (RowAt wr g xs) ∧ Aside0 (Below g w wr))
  case atStart => exact ⟨a, m, rfl, rfl, ⟨by have := HIN.out; omega⟩, H0, HR, HB⟩
  case round =>
    clear H0 HR HB
    obtain ⟨i, j, rfl, rfl, hin, HS, HR, HB⟩ := hrel
    cases gk with
    | zero => have := hin.out; exfalso; omega
    | succ f =>
    have hs := HS.out
    simp only [bsL] at hs
    clear HS
    by_cases hij : i < j
    · have d1 : decide (i < j) = true := decide_eq_true hij
      rw [if_pos (by have := hin.out; have := HIN.out; omega)] at hs
      obtain ⟨q, hq⟩ : ∃ q, (i + j) / 2 = q := ⟨_, rfl⟩
      have e1 : IntKind.i64.wrap (i + j) = i + j := IntWalk.i64_in _ (by have := hin.out; have := HIN.out; have := HN.out; omega)
      have e2 : IntKind.u64.wrap (i + j) = i + j := by have := hin.out; have := HIN.out; have := HN.out; unfold IntKind.wrap; simp [go_sem]; omega
      have e3 : wrap64 ((i + j) / 2) = q := by rw [hq]; exact IntWalk.wrap64_in _ (by have := hin.out; have := HIN.out; have := HN.out; omega)
      have HQ := Aside0.mk (show i ≤ q ∧ q < j from by have := hin.out; omega)
      have e4 : IntKind.i64.wrap (q + 1) = q + 1 := IntWalk.i64_in _ (by have := hin.out; have := HIN.out; have := HN.out; omega)
      rw [show (i.toNat + j.toNat) / 2 = q.toNat by have := hin.out; have := HIN.out; omega] at hs
      have p1 : 0 ≤ q := by have := hin.out; have := HIN.out; omega
      have p2 : 0 ≤ m := by have := HIN.out; omega
      have q1 : q < (N : Int) := by have := hin.out; have := HIN.out; have := HN.out; omega
      have q2 : m < (N : Int) := by have := HIN.out; have := HN.out; omega
      have HPQ := Aside0.mk (show (0 ≤ q ∧ q < (xs.length : Int)) ∧ (0 ≤ m ∧ m < (xs.length : Int)) from ⟨⟨p1, by rw [← HN.out]; exact q1⟩, p2, by rw [← HN.out]; exact q2⟩)
      obtain ⟨x1, hx1⟩ : ∃ x, rd_T35 xs q = x := ⟨_, rfl⟩
      obtain ⟨y1, hy1⟩ : ∃ x, rd_T35 xs m = x := ⟨_, rfl⟩
      have hg1 : xs.getD q.toNat z35 = x1 := hx1
      have hg2 : xs.getD m.toNat z35 = y1 := hy1
      have hpq : p q.toNat = decide (c y1 x1 < 0) := by rw [HP.out, hg1, hg2]
      rw [hpq] at hs
      have HX1 := Aside0.mk hx1
      have HY1 := Aside0.mk hy1
      replace p1 := eq_true p1
      replace p2 := eq_true p2
      replace q1 := eq_true q1
      replace q2 := eq_true q2
      have HQ2 := Aside0.mk hq
      clear hx1 hy1 hg1 hg2 hij hq hpq
      by_cases hlt : ¬ c y1 x1 < 0
      · have d4 : decide (c y1 x1 < 0) = false := decide_eq_false hlt
        rw [if_neg (by rw [d4]; decide)] at hs
        have HS := Aside0.mk (show bsL p f (q + 1).toNat j.toNat = q0 from by rw [← hs, show (q + 1).toNat = q.toNat + 1 by have := hin.out; have := HIN.out; have := HQ.out; omega])
        clear hs hlt
        go_wp2_with fail
        try rw [e3]
        replace HR := Aside0.mk (show RowAt wr.drew g xs from HR.out.below (below_drew1 (Below.refl _ _)))
        replace HB := Aside0.mk (below_drew1 HB.out)
        refine start_ (n := 12) (S := fun w' => RowAt w' g xs) (ds := []) #[false, false, false, false, false, false, false, false, false, false, false, false] (by kernel_rfl) rfl rfl HR.out (fun hHeld => ?_)
        generalize wr.drew = w8 at HR HB hHeld ⊢
        refine pure_ (i := 0) (N := some 92) (v := ?_) (a' := ?_) #[true, false, false, false, false, false, false, false, false, false, false, false] rfl rfl (by kernel_rfl) (fun _ _ _ h => h) (Or.inl ⟨by rfl, ?_⟩) ?_ ?_
        rotate_left; (focus intro w'; go_simp; with_reducible rfl); rotate_left; (focus simp only [Act.put, List.setIfInBounds_toArray, List.set_cons_zero, List.set_cons_succ, i64_w, i32_w]; rfl)
        refine pure_ (i := 1) (N := some 93) (v := ?_) (a' := ?_) #[true, true, false, false, false, false, false, false, false, false, false, false] rfl rfl (by kernel_rfl) (fun _ _ _ h => h) (Or.inl ⟨by rfl, ?_⟩) ?_ ?_
        rotate_left; (focus intro w'; go_simp; with_reducible rfl); rotate_left; (focus simp only [Act.put, List.setIfInBounds_toArray, List.set_cons_zero, List.set_cons_succ, i64_w, i32_w]; rfl)
        refine pure_ (i := 2) (N := some 94) (v := ?_) (a' := ?_) #[true, true, true, false, false, false, false, false, false, false, false, false] rfl rfl (by kernel_rfl) (fun _ _ _ h => h) (Or.inl ⟨by rfl, ?_⟩) ?_ ?_
        rotate_left; (focus intro w'; go_simp; with_reducible rfl); rotate_left; (focus simp only [Act.put, List.setIfInBounds_toArray, List.set_cons_zero, List.set_cons_succ, i64_w, i32_w]; rfl)
        refine pure_ (i := 3) (N := some 95) (v := ?_) (a' := ?_) #[true, true, true, true, false, false, false, false, false, false, false, false] rfl rfl (by kernel_rfl) (fun _ _ _ h => h) (Or.inl ⟨by rfl, ?_⟩) ?_ ?_
        rotate_left; (focus intro w'; go_simp; with_reducible rfl); rotate_left; (focus simp only [Act.put, List.setIfInBounds_toArray, List.set_cons_zero, List.set_cons_succ, i64_w, i32_w]; rfl)
        refine pure_ (i := 5) (N := some 97) (v := ?_) (a' := ?_) #[true, true, true, true, false, true, false, false, false, false, false, false] rfl rfl (by kernel_rfl) (fun _ _ _ h => h) (Or.inl ⟨by rfl, ?_⟩) ?_ ?_
        rotate_left; (focus intro w'; go_simp; with_reducible rfl); rotate_left; (focus simp only [Act.put, List.setIfInBounds_toArray, List.set_cons_zero, List.set_cons_succ, i64_w, i32_w]; rfl)
        refine pure_ (i := 6) (N := some 98) (v := ?_) (a' := ?_) #[true, true, true, true, false, true, true, false, false, false, false, false] rfl rfl (by kernel_rfl) (fun _ _ _ h => h) (Or.inl ⟨by rfl, ?_⟩) ?_ ?_
        rotate_left; (focus intro w'; go_simp; with_reducible rfl); rotate_left; (focus simp only [Act.put, List.setIfInBounds_toArray, List.set_cons_zero, List.set_cons_succ, i64_w, i32_w]; rfl)
        refine pure_ (i := 7) (N := some 99) (v := ?_) (a' := ?_) #[true, true, true, true, false, true, true, true, false, false, false, false] rfl rfl (by kernel_rfl) (fun _ _ _ h => h) (Or.inl ⟨by rfl, ?_⟩) ?_ ?_
        rotate_left; (focus intro w'; go_simp; with_reducible rfl); rotate_left; (focus simp only [Act.put, List.setIfInBounds_toArray, List.set_cons_zero, List.set_cons_succ, i64_w, i32_w]; rfl)
        refine take_ (i := 4) (N := some 96) (v := .agg (encP y1).toArray) (a' := ?_) #[true, true, true, true, true, true, true, true, false, false, false, false] rfl rfl (by kernel_rfl) (fun _ _ _ h => h) (yieldsIf_load_mid (by rfl) 35 (.tmp 95) rfl g _ rfl (encP y1) _ (fun w' hS => hS.range (q := m) HPQ.out.2.1 HPQ.out.2.2 HY1.out) Try.underlying35 rfl part_size) hHeld ?_ ?_
        rotate_left; (focus simp only [Act.put, List.setIfInBounds_toArray, List.set_cons_zero, List.set_cons_succ, i64_w, i32_w]; rfl)
        refine take_ (i := 8) (N := some 100) (v := .agg (encP x1).toArray) (a' := ?_) #[true, true, true, true, true, true, true, true, true, false, false, false] rfl rfl (by kernel_rfl) (fun _ _ _ h => h) (yieldsIf_load_mid (by rfl) 35 (.tmp 99) rfl g _ rfl (encP x1) _ (fun w' hS => hS.range (q := q) HPQ.out.1.1 HPQ.out.1.2 HX1.out) Try.underlying35 rfl part_size) hHeld ?_ ?_
        rotate_left; (focus simp only [Act.put, List.setIfInBounds_toArray, List.set_cons_zero, List.set_cons_succ, i64_w, i32_w]; rfl)
        refine one_ (i := 9) (N := some 101) #[true, true, true, true, true, true, true, true, true, true, false, false] rfl rfl (by kernel_rfl) (by decide) (fun K hK => ?_)
        refine call_ gi #[.agg (encP y1).toArray, .agg (encP x1).toArray] (by rfl) rfl (by go_simp; first | exact HE.out _ _ | skip) ?_
        refine (HF.out y1 x1 _).mono ?_
        rintro e_ w9 ⟨rfl, hb9⟩
        refine ⟨_, rfl, ?_⟩
        replace HB := Aside0.mk (HB.out.trans (hb9.mono (Nat.le_of_lt HR.out.1)))
        replace HR := Aside0.mk (HR.out.below hb9)
        clear hb9
        refine hK.out _ _ HR.out (fun hHeld => ?_)
        clear hK K
        refine norm_ (a' := ?_) ?_ ?_
        rotate_left; (focus show Act.put _ (some 101) _ = _; simp only [Act.put, List.setIfInBounds_toArray, List.set_cons_zero, List.set_cons_succ, i64_w, i32_w]; rfl)
        refine pure_ (i := 10) (N := some 102) (v := ?_) (a' := ?_) #[true, true, true, true, true, true, true, true, true, true, true, false] rfl rfl (by kernel_rfl) (fun _ _ _ h => h) (Or.inl ⟨by rfl, ?_⟩) ?_ ?_
        rotate_left; (focus intro w'; go_simp; with_reducible rfl); rotate_left; (focus simp only [Act.put, List.setIfInBounds_toArray, List.set_cons_zero, List.set_cons_succ, i64_w, i32_w]; rfl)
        refine pure_ (i := 11) (N := some 103) (v := ?_) (a' := ?_) #[true, true, true, true, true, true, true, true, true, true, true, true] rfl rfl (by kernel_rfl) (fun _ _ _ h => h) (Or.inl ⟨by rfl, ?_⟩) ?_ ?_
        rotate_left; (focus intro w'; go_simp; with_reducible rfl); rotate_left; (focus simp only [Act.put, List.setIfInBounds_toArray, List.set_cons_zero, List.set_cons_succ, i64_w, i32_w]; rfl)
        refine done_ (by kernel_rfl) ?_
        try simp only [Exit.then]
        clear hHeld
        go_wp2_with fail
        go_roundg f
        case measure => omega
        case rel => exact ⟨q + 1, j, rfl, rfl, ⟨by have := hin.out; have := HQ.out; omega⟩, HS, HR, HB⟩
      · have d4 : decide (c y1 x1 < 0) = true := decide_eq_true (Decidable.not_not.1 hlt)
        rw [if_pos d4] at hs
        have HS := Aside0.mk hs
        clear hs hlt
        go_wp2_with fail
        try rw [e3]
        replace HR := Aside0.mk (show RowAt wr.drew g xs from HR.out.below (below_drew1 (Below.refl _ _)))
        replace HB := Aside0.mk (below_drew1 HB.out)
        refine start_ (n := 12) (S := fun w' => RowAt w' g xs) (ds := []) #[false, false, false, false, false, false, false, false, false, false, false, false] (by kernel_rfl) rfl rfl HR.out (fun hHeld => ?_)
        generalize wr.drew = w8 at HR HB hHeld ⊢
        refine pure_ (i := 0) (N := some 92) (v := ?_) (a' := ?_) #[true, false, false, false, false, false, false, false, false, false, false, false] rfl rfl (by kernel_rfl) (fun _ _ _ h => h) (Or.inl ⟨by rfl, ?_⟩) ?_ ?_
        rotate_left; (focus intro w'; go_simp; with_reducible rfl); rotate_left; (focus simp only [Act.put, List.setIfInBounds_toArray, List.set_cons_zero, List.set_cons_succ, i64_w, i32_w]; rfl)
        refine pure_ (i := 1) (N := some 93) (v := ?_) (a' := ?_) #[true, true, false, false, false, false, false, false, false, false, false, false] rfl rfl (by kernel_rfl) (fun _ _ _ h => h) (Or.inl ⟨by rfl, ?_⟩) ?_ ?_
        rotate_left; (focus intro w'; go_simp; with_reducible rfl); rotate_left; (focus simp only [Act.put, List.setIfInBounds_toArray, List.set_cons_zero, List.set_cons_succ, i64_w, i32_w]; rfl)
        refine pure_ (i := 2) (N := some 94) (v := ?_) (a' := ?_) #[true, true, true, false, false, false, false, false, false, false, false, false] rfl rfl (by kernel_rfl) (fun _ _ _ h => h) (Or.inl ⟨by rfl, ?_⟩) ?_ ?_
        rotate_left; (focus intro w'; go_simp; with_reducible rfl); rotate_left; (focus simp only [Act.put, List.setIfInBounds_toArray, List.set_cons_zero, List.set_cons_succ, i64_w, i32_w]; rfl)
        refine pure_ (i := 3) (N := some 95) (v := ?_) (a' := ?_) #[true, true, true, true, false, false, false, false, false, false, false, false] rfl rfl (by kernel_rfl) (fun _ _ _ h => h) (Or.inl ⟨by rfl, ?_⟩) ?_ ?_
        rotate_left; (focus intro w'; go_simp; with_reducible rfl); rotate_left; (focus simp only [Act.put, List.setIfInBounds_toArray, List.set_cons_zero, List.set_cons_succ, i64_w, i32_w]; rfl)
        refine pure_ (i := 5) (N := some 97) (v := ?_) (a' := ?_) #[true, true, true, true, false, true, false, false, false, false, false, false] rfl rfl (by kernel_rfl) (fun _ _ _ h => h) (Or.inl ⟨by rfl, ?_⟩) ?_ ?_
        rotate_left; (focus intro w'; go_simp; with_reducible rfl); rotate_left; (focus simp only [Act.put, List.setIfInBounds_toArray, List.set_cons_zero, List.set_cons_succ, i64_w, i32_w]; rfl)
        refine pure_ (i := 6) (N := some 98) (v := ?_) (a' := ?_) #[true, true, true, true, false, true, true, false, false, false, false, false] rfl rfl (by kernel_rfl) (fun _ _ _ h => h) (Or.inl ⟨by rfl, ?_⟩) ?_ ?_
        rotate_left; (focus intro w'; go_simp; with_reducible rfl); rotate_left; (focus simp only [Act.put, List.setIfInBounds_toArray, List.set_cons_zero, List.set_cons_succ, i64_w, i32_w]; rfl)
        refine pure_ (i := 7) (N := some 99) (v := ?_) (a' := ?_) #[true, true, true, true, false, true, true, true, false, false, false, false] rfl rfl (by kernel_rfl) (fun _ _ _ h => h) (Or.inl ⟨by rfl, ?_⟩) ?_ ?_
        rotate_left; (focus intro w'; go_simp; with_reducible rfl); rotate_left; (focus simp only [Act.put, List.setIfInBounds_toArray, List.set_cons_zero, List.set_cons_succ, i64_w, i32_w]; rfl)
        refine take_ (i := 4) (N := some 96) (v := .agg (encP y1).toArray) (a' := ?_) #[true, true, true, true, true, true, true, true, false, false, false, false] rfl rfl (by kernel_rfl) (fun _ _ _ h => h) (yieldsIf_load_mid (by rfl) 35 (.tmp 95) rfl g _ rfl (encP y1) _ (fun w' hS => hS.range (q := m) HPQ.out.2.1 HPQ.out.2.2 HY1.out) Try.underlying35 rfl part_size) hHeld ?_ ?_
        rotate_left; (focus simp only [Act.put, List.setIfInBounds_toArray, List.set_cons_zero, List.set_cons_succ, i64_w, i32_w]; rfl)
        refine take_ (i := 8) (N := some 100) (v := .agg (encP x1).toArray) (a' := ?_) #[true, true, true, true, true, true, true, true, true, false, false, false] rfl rfl (by kernel_rfl) (fun _ _ _ h => h) (yieldsIf_load_mid (by rfl) 35 (.tmp 99) rfl g _ rfl (encP x1) _ (fun w' hS => hS.range (q := q) HPQ.out.1.1 HPQ.out.1.2 HX1.out) Try.underlying35 rfl part_size) hHeld ?_ ?_
        rotate_left; (focus simp only [Act.put, List.setIfInBounds_toArray, List.set_cons_zero, List.set_cons_succ, i64_w, i32_w]; rfl)
        refine one_ (i := 9) (N := some 101) #[true, true, true, true, true, true, true, true, true, true, false, false] rfl rfl (by kernel_rfl) (by decide) (fun K hK => ?_)
        refine call_ gi #[.agg (encP y1).toArray, .agg (encP x1).toArray] (by rfl) rfl (by go_simp; first | exact HE.out _ _ | skip) ?_
        refine (HF.out y1 x1 _).mono ?_
        rintro e_ w9 ⟨rfl, hb9⟩
        refine ⟨_, rfl, ?_⟩
        replace HB := Aside0.mk (HB.out.trans (hb9.mono (Nat.le_of_lt HR.out.1)))
        replace HR := Aside0.mk (HR.out.below hb9)
        clear hb9
        refine hK.out _ _ HR.out (fun hHeld => ?_)
        clear hK K
        refine norm_ (a' := ?_) ?_ ?_
        rotate_left; (focus show Act.put _ (some 101) _ = _; simp only [Act.put, List.setIfInBounds_toArray, List.set_cons_zero, List.set_cons_succ, i64_w, i32_w]; rfl)
        refine pure_ (i := 10) (N := some 102) (v := ?_) (a' := ?_) #[true, true, true, true, true, true, true, true, true, true, true, false] rfl rfl (by kernel_rfl) (fun _ _ _ h => h) (Or.inl ⟨by rfl, ?_⟩) ?_ ?_
        rotate_left; (focus intro w'; go_simp; with_reducible rfl); rotate_left; (focus simp only [Act.put, List.setIfInBounds_toArray, List.set_cons_zero, List.set_cons_succ, i64_w, i32_w]; rfl)
        refine pure_ (i := 11) (N := some 103) (v := ?_) (a' := ?_) #[true, true, true, true, true, true, true, true, true, true, true, true] rfl rfl (by kernel_rfl) (fun _ _ _ h => h) (Or.inl ⟨by rfl, ?_⟩) ?_ ?_
        rotate_left; (focus intro w'; go_simp; with_reducible rfl); rotate_left; (focus simp only [Act.put, List.setIfInBounds_toArray, List.set_cons_zero, List.set_cons_succ, i64_w, i32_w]; rfl)
        refine done_ (by kernel_rfl) ?_
        try simp only [Exit.then]
        clear hHeld
        go_wp2_with fail
        go_roundg f
        case measure => omega
        case rel => exact ⟨i, q, rfl, rfl, ⟨by have := hin.out; have := HQ.out; omega⟩, HS, HR, HB⟩
    · have d1 : decide (i < j) = false := decide_eq_false hij
      rw [if_neg (by have := hin.out; have := HIN.out; omega)] at hs
      have HQ0 := Aside0.mk (show q0 = i.toNat ∧ a ≤ i ∧ i ≤ m from ⟨hs.symm, by have := hin.out; omega, by have := hin.out; omega⟩)
      clear hs hij
      clear hin
      go_wp2_with fail
      clear d1
      go_loopg [17] (b.toNat - a.toNat + 1) (fun kq v17 wr => ∃ (k : Int) (ys : List S35), v17 = .int .i64 k ∧ Aside0 (i ≤ k ∧ k ≤ m ∧ k - i < (kq : Int)) ∧ Aside0 (ys.length = N) ∧ Aside0 (mvL z35 q0 kq k.toNat ys = r) ∧ Aside0 (RowAt wr g ys) ∧ Aside0 (Below g w wr))
      case atStart => exact ⟨m, xs, rfl, ⟨by have := HIN.out; have := HQ0.out; omega⟩, ⟨HN.out.symm⟩, H1, HR, HB⟩
      case round =>
        clear H1 HR HB
        obtain ⟨k, ys, rfl, hin, hyl, HS, HR, HB⟩ := hrel
        cases gk with
        | zero => have := hin.out; exfalso; omega
        | succ f =>
        have hs := HS.out
        simp only [mvL] at hs
        clear HS
        by_cases hk : i < k
        · have d1 : decide (i < k) = true := decide_eq_true hk
          have d2 : decide (k > i) = true := decide_eq_true hk
          rw [if_pos (by have := hin.out; have := HIN.out; have := HQ0.out; omega)] at hs
          obtain ⟨kp, hkp⟩ : ∃ v, k - 1 = v := ⟨_, rfl⟩
          have e6 : IntKind.i64.wrap (k - 1) = kp := by rw [← hkp]; exact IntWalk.i64_in _ (by have := HQ0.out; have := hin.out; have := HIN.out; have := HN.out; omega)
          have HKP := Aside0.mk (show k - 1 = kp ∧ i < k from ⟨hkp, hk⟩)
          have p1 : 0 ≤ k := by have := hin.out; have := HIN.out; have := HQ0.out; omega
          have p2 : 0 ≤ kp := by have := HIN.out; have := HQ0.out; omega
          have q1 : k < (N : Int) := by have := hin.out; have := HIN.out; have := HN.out; omega
          have q2 : kp < (N : Int) := by have := hin.out; have := HIN.out; have := HN.out; have := HQ0.out; omega
          have HPQ := Aside0.mk (show (0 ≤ k ∧ k < (ys.length : Int)) ∧ (0 ≤ kp ∧ kp < (ys.length : Int)) from ⟨⟨p1, by rw [hyl.out]; exact q1⟩, p2, by rw [hyl.out]; exact q2⟩)
          obtain ⟨x1, hx1⟩ : ∃ x, rd_T35 ys k = x := ⟨_, rfl⟩
          obtain ⟨y1, hy1⟩ : ∃ x, rd_T35 ys kp = x := ⟨_, rfl⟩
          have HS := Aside0.mk (show mvL z35 q0 f kp.toNat ((ys.set k.toNat y1).set kp.toNat x1) = r from by rw [← hs, ← hx1, ← hy1, ← rd_swp, show kp.toNat = k.toNat - 1 by omega])
          have HX1 := Aside0.mk hx1
          have HY1 := Aside0.mk hy1
          replace p1 := eq_true p1
          replace p2 := eq_true p2
          replace q1 := eq_true q1
          replace q2 := eq_true q2
          clear hx1 hy1 hs hk hkp
          go_wp2_with fail
          replace HR := Aside0.mk (show RowAt wr.drew g ys from HR.out.below (below_drew1 (Below.refl _ _)))
          replace HB := Aside0.mk (below_drew1 HB.out)
          refine start_ (n := 18) (S := fun w' => RowAt w' g ys) (ds := [15, 17]) #[false, false, false, false, false, false, false, false, false, false, false, false, false, false, false, false, false, false] (by kernel_rfl) rfl rfl HR.out (fun hHeld => ?_)
          generalize wr.drew = w8 at HR HB hHeld ⊢
          refine pure_ (i := 0) (N := some 113) (v := ?_) (a' := ?_) #[true, false, false, false, false, false, false, false, false, false, false, false, false, false, false, false, false, false] rfl rfl (by kernel_rfl) (fun _ _ _ h => h) (Or.inl ⟨by rfl, ?_⟩) ?_ ?_
          rotate_left; (focus intro w'; go_simp; with_reducible rfl); rotate_left; (focus simp only [Act.put, List.setIfInBounds_toArray, List.set_cons_zero, List.set_cons_succ, i64_w, i32_w]; rfl)
          refine pure_ (i := 1) (N := some 114) (v := ?_) (a' := ?_) #[true, true, false, false, false, false, false, false, false, false, false, false, false, false, false, false, false, false] rfl rfl (by kernel_rfl) (fun _ _ _ h => h) (Or.inl ⟨by rfl, ?_⟩) ?_ ?_
          rotate_left; (focus intro w'; go_simp; with_reducible rfl); rotate_left; (focus simp only [Act.put, List.setIfInBounds_toArray, List.set_cons_zero, List.set_cons_succ, i64_w, i32_w]; rfl)
          refine pure_ (i := 2) (N := some 115) (v := ?_) (a' := ?_) #[true, true, true, false, false, false, false, false, false, false, false, false, false, false, false, false, false, false] rfl rfl (by kernel_rfl) (fun _ _ _ h => h) (Or.inl ⟨by rfl, ?_⟩) ?_ ?_
          rotate_left; (focus intro w'; go_simp; with_reducible rfl); rotate_left; (focus simp only [Act.put, List.setIfInBounds_toArray, List.set_cons_zero, List.set_cons_succ, i64_w, i32_w]; rfl)
          refine pure_ (i := 3) (N := some 116) (v := ?_) (a' := ?_) #[true, true, true, true, false, false, false, false, false, false, false, false, false, false, false, false, false, false] rfl rfl (by kernel_rfl) (fun _ _ _ h => h) (Or.inl ⟨by rfl, ?_⟩) ?_ ?_
          rotate_left; (focus intro w'; go_simp; with_reducible rfl); rotate_left; (focus simp only [Act.put, List.setIfInBounds_toArray, List.set_cons_zero, List.set_cons_succ, i64_w, i32_w]; rfl)
          refine pure_ (i := 4) (N := some 117) (v := ?_) (a' := ?_) #[true, true, true, true, true, false, false, false, false, false, false, false, false, false, false, false, false, false] rfl rfl (by kernel_rfl) (fun _ _ _ h => h) (Or.inl ⟨by rfl, ?_⟩) ?_ ?_
          rotate_left; (focus intro w'; go_simp; with_reducible rfl); rotate_left; (focus simp only [Act.put, List.setIfInBounds_toArray, List.set_cons_zero, List.set_cons_succ, i64_w, i32_w]; rfl)
          refine pure_ (i := 5) (N := some 118) (v := ?_) (a' := ?_) #[true, true, true, true, true, true, false, false, false, false, false, false, false, false, false, false, false, false] rfl rfl (by kernel_rfl) (fun _ _ _ h => h) (Or.inl ⟨by rfl, ?_⟩) ?_ ?_
          rotate_left; (focus intro w'; go_simp; with_reducible rfl); rotate_left; (focus simp only [Act.put, List.setIfInBounds_toArray, List.set_cons_zero, List.set_cons_succ, i64_w, i32_w]; rfl)
          refine pure_ (i := 6) (N := some 119) (v := ?_) (a' := ?_) #[true, true, true, true, true, true, true, false, false, false, false, false, false, false, false, false, false, false] rfl rfl (by kernel_rfl) (fun _ _ _ h => h) (Or.inl ⟨by rfl, ?_⟩) ?_ ?_
          rotate_left; (focus intro w'; go_simp; with_reducible rfl); rotate_left; (focus simp only [Act.put, List.setIfInBounds_toArray, List.set_cons_zero, List.set_cons_succ, i64_w, i32_w]; rfl)
          refine pure_ (i := 7) (N := some 120) (v := ?_) (a' := ?_) #[true, true, true, true, true, true, true, true, false, false, false, false, false, false, false, false, false, false] rfl rfl (by kernel_rfl) (fun _ _ _ h => h) (Or.inl ⟨by rfl, ?_⟩) ?_ ?_
          rotate_left; (focus intro w'; go_simp; with_reducible rfl); rotate_left; (focus simp only [Act.put, List.setIfInBounds_toArray, List.set_cons_zero, List.set_cons_succ, i64_w, i32_w]; rfl)
          refine pure_ (i := 8) (N := some 121) (v := ?_) (a' := ?_) #[true, true, true, true, true, true, true, true, true, false, false, false, false, false, false, false, false, false] rfl rfl (by kernel_rfl) (fun _ _ _ h => h) (Or.inl ⟨by rfl, ?_⟩) ?_ ?_
          rotate_left; (focus intro w'; go_simp; with_reducible rfl); rotate_left; (focus simp only [Act.put, List.setIfInBounds_toArray, List.set_cons_zero, List.set_cons_succ, i64_w, i32_w]; rfl)
          refine pure_ (i := 10) (N := some 123) (v := ?_) (a' := ?_) #[true, true, true, true, true, true, true, true, true, false, true, false, false, false, false, false, false, false] rfl rfl (by kernel_rfl) (fun _ _ _ h => h) (Or.inl ⟨by rfl, ?_⟩) ?_ ?_
          rotate_left; (focus intro w'; go_simp; with_reducible rfl); rotate_left; (focus simp only [Act.put, List.setIfInBounds_toArray, List.set_cons_zero, List.set_cons_succ, i64_w, i32_w]; rfl)
          refine pure_ (i := 11) (N := some 124) (v := ?_) (a' := ?_) #[true, true, true, true, true, true, true, true, true, false, true, true, false, false, false, false, false, false] rfl rfl (by kernel_rfl) (fun _ _ _ h => h) (Or.inl ⟨by rfl, ?_⟩) ?_ ?_
          rotate_left; (focus intro w'; go_simp; with_reducible rfl); rotate_left; (focus simp only [Act.put, List.setIfInBounds_toArray, List.set_cons_zero, List.set_cons_succ, i64_w, i32_w]; rfl)
          refine pure_ (i := 12) (N := some 125) (v := ?_) (a' := ?_) #[true, true, true, true, true, true, true, true, true, false, true, true, true, false, false, false, false, false] rfl rfl (by kernel_rfl) (fun _ _ _ h => h) (Or.inl ⟨by rfl, ?_⟩) ?_ ?_
          rotate_left; (focus intro w'; go_simp; with_reducible rfl); rotate_left; (focus simp only [Act.put, List.setIfInBounds_toArray, List.set_cons_zero, List.set_cons_succ, i64_w, i32_w]; rfl)
          refine take_ (i := 9) (N := some 122) (v := .agg (encP y1).toArray) (a' := ?_) #[true, true, true, true, true, true, true, true, true, true, true, true, true, false, false, false, false, false] rfl rfl (by kernel_rfl) (fun _ _ _ h => h) (yieldsIf_load_mid (by rfl) 35 (.tmp 121) rfl g _ rfl (encP y1) _ (fun w' hS => hS.range (q := kp) HPQ.out.2.1 HPQ.out.2.2 HY1.out) Try.underlying35 rfl part_size) hHeld ?_ ?_
          rotate_left; (focus simp only [Act.put, List.setIfInBounds_toArray, List.set_cons_zero, List.set_cons_succ, i64_w, i32_w]; rfl)
          refine take_ (i := 13) (N := some 126) (v := .agg (encP x1).toArray) (a' := ?_) #[true, true, true, true, true, true, true, true, true, true, true, true, true, true, false, false, false, false] rfl rfl (by kernel_rfl) (fun _ _ _ h => h) (yieldsIf_load_mid (by rfl) 35 (.tmp 125) rfl g _ rfl (encP x1) _ (fun w' hS => hS.range (q := k) HPQ.out.1.1 HPQ.out.1.2 HX1.out) Try.underlying35 rfl part_size) hHeld ?_ ?_
          rotate_left; (focus simp only [Act.put, List.setIfInBounds_toArray, List.set_cons_zero, List.set_cons_succ, i64_w, i32_w]; rfl)
          refine pure_ (i := 14) (N := some 127) (v := ?_) (a' := ?_) #[true, true, true, true, true, true, true, true, true, true, true, true, true, true, true, false, false, false] rfl rfl (by kernel_rfl) (fun _ _ _ h => h) (Or.inl ⟨by rfl, ?_⟩) ?_ ?_
          rotate_left; (focus intro w'; go_simp; with_reducible rfl); rotate_left; (focus simp only [Act.put, List.setIfInBounds_toArray, List.set_cons_zero, List.set_cons_succ, i64_w, i32_w]; rfl)
          refine last_ (i := 15) (N := none) #[true, true, true, true, true, true, true, true, true, true, true, true, true, true, true, true, false, false] rfl rfl (by kernel_rfl) (by decide) (fun K hK => ?_)
          refine skip_ (by rfl) rfl (store_mid_run 35 (.tmp 127) (.tmp 122) rfl g _ (encP y1) rfl rfl (HR.out.there (q := k) HPQ.out.1.1 HPQ.out.1.2) part_size (encP_one y1)) ?_
          refine hK.out _ _ ?_
          clear hK K
          replace HB := Aside0.mk (below_setCellsP (Nat.le_refl g) (encP y1) ((k).toNat * 4) _ HB.out)
          replace HR := Aside0.mk (HR.out.put (q := k) HPQ.out.1.1 HPQ.out.1.2 y1)
          refine pure_ (i := 16) (N := some 128) (v := ?_) (a' := ?_) #[true, true, true, true, true, true, true, true, true, true, true, true, true, true, true, true, true, false] rfl rfl (by kernel_rfl) (fun _ _ _ h => h) (Or.inl ⟨by rfl, ?_⟩) ?_ ?_
          rotate_left; (focus intro w'; go_simp; with_reducible rfl); rotate_left; (focus simp only [Act.put, List.setIfInBounds_toArray, List.set_cons_zero, List.set_cons_succ, i64_w, i32_w]; rfl)
          refine last_ (i := 17) (N := none) #[true, true, true, true, true, true, true, true, true, true, true, true, true, true, true, true, true, true] rfl rfl (by kernel_rfl) (by decide) (fun K hK => ?_)
          refine skip_ (by rfl) rfl (store_mid_run 35 (.tmp 128) (.tmp 126) rfl g _ (encP x1) rfl rfl (HR.out.there (q := kp) HPQ.out.2.1 (by rw [List.length_set]; exact HPQ.out.2.2)) part_size (encP_one x1)) ?_
          refine hK.out _ _ ?_
          clear hK K
          replace HB := Aside0.mk (below_setCellsP (Nat.le_refl g) (encP x1) ((kp).toNat * 4) _ HB.out)
          replace HR := Aside0.mk (HR.out.put (q := kp) HPQ.out.2.1 (by rw [List.length_set]; exact HPQ.out.2.2) x1)
          refine done_ (by kernel_rfl) ?_
          try simp only [Exit.then]
          clear hHeld
          go_wp2_with fail
          go_roundg f
          case measure => omega
          case rel => exact ⟨kp, _, rfl, ⟨by have := hin.out; have := HKP.out; have := HQ0.out; omega⟩, ⟨by rw [List.length_set, List.length_set]; exact hyl.out⟩, HS, HR, HB⟩
        · have d1 : decide (i < k) = false := decide_eq_false hk
          have d2 : decide (k > i) = false := decide_eq_false hk
          rw [if_neg (by have := hin.out; have := HIN.out; have := HQ0.out; omega)] at hs
          subst hs
          clear hk
          go_wp2_with fail
          (try simp only [Exit.inBlock, Exit.then]); refine bodyPost_ret (results_none rfl _ _ _) rfl ?_
          exact ⟨rfl, HR.out, HB.out⟩
-- A merge: what is too great behind the middle, what is too small ahead of it, then each half.
set_option maxRecDepth 100000 in
set_option maxHeartbeats 8000000 in
theorem sym3_any (g cap : Nat) (gi : Nat) (c : S35 → S35 → Int) (heg : ∀ args w, (callFunc gi args).run Try.prog w = .ok (.enter gi args) w) (hf : ∀ (x y : S35) (W : World), Calls Try.prog gi #[.agg (encP x).toArray, .agg (encP y).toArray] W fun e W' => e = .returned (.int .i64 (c x y)) ∧ Below W.heap.size W W') (n : Nat)
    (IH : ∀ (ys : List S35) (a m b : Int) (W : World), RowAt W g ys → ys.length ≤ 1000000 → 0 ≤ a → a < m → m < b → b ≤ (ys.length : Int) → b - a < (n : Int) → Calls Try.prog 38 #[.slice (some ⟨g, 0, none⟩) ys.length cap, .int .i64 a, .int .i64 m, .int .i64 b, .func (.func gi) #[] #[]] W fun e w' => e = .returned (.tuple #[]) ∧ RowAt w' g (symL (fun x y => decide (c x y < 0)) z35 n a.toNat m.toNat b.toNat ys) ∧ Below g W w')
    (xs : List S35) (a m b : Int) (w : World) (hR : RowAt w g xs) (hl : xs.length ≤ 1000000) (ha : 0 ≤ a) (ham : a < m) (hmb : m < b) (hb : b ≤ (xs.length : Int)) (h1 : m - a ≠ 1) (h2 : b - m ≠ 1) (hn : b - a < ((n + 1 : Nat) : Int)) :
    Calls Try.prog 38 #[.slice (some ⟨g, 0, none⟩) xs.length cap, .int .i64 a, .int .i64 m, .int .i64 b, .func (.func gi) #[] #[]] w fun e w' => e = .returned (.tuple #[]) ∧ RowAt w' g (symL (fun x y => decide (c x y < 0)) z35 (n + 1) a.toNat m.toNat b.toNat xs) ∧ Below g w w' := by
  obtain ⟨mid, hmid⟩ : ∃ v, (a + b) / 2 = v := ⟨_, rfl⟩
  obtain ⟨p, hp⟩ : ∃ p : Nat → Bool, p = (fun q => decide (c (xs.getD (mid.toNat + m.toNat - 1 - q) z35) (xs.getD q z35) < 0)) := ⟨_, rfl⟩
  obtain ⟨st, hst⟩ : ∃ st, bsL p (b.toNat - a.toNat + 1) (if m.toNat > mid.toNat then mid.toNat + m.toNat - b.toNat else a.toNat) (if m.toNat > mid.toNat then mid.toNat else m.toNat) = st := ⟨_, rfl⟩
  obtain ⟨en, hen⟩ : ∃ en, mid.toNat + m.toNat - st = en := ⟨_, rfl⟩
  obtain ⟨xs1, hx1⟩ : ∃ ys, (if st < m.toNat ∧ m.toNat < en then rotL z35 st m.toNat en xs else xs) = ys := ⟨_, rfl⟩
  obtain ⟨xs2, hx2⟩ : ∃ ys, (if a.toNat < st ∧ st < mid.toNat then symL (fun x y => decide (c x y < 0)) z35 n a.toNat st mid.toNat xs1 else xs1) = ys := ⟨_, rfl⟩
  rw [symL_far (fun x y => decide (c x y < 0)) z35 n a.toNat m.toNat b.toNat xs (by omega) (by omega) (show (a.toNat + b.toNat) / 2 = mid.toNat by omega) (by rw [← hst, hp]) hen hx1 hx2]
  obtain ⟨r, hr⟩ : ∃ r, (if mid.toNat < en ∧ en < b.toNat then symL (fun x y => decide (c x y < 0)) z35 n mid.toNat en b.toNat xs2 else xs2) = r := ⟨_, rfl⟩
  rw [hr]
  have HR := Aside0.mk hR
  have HIN := Aside0.mk (show 0 ≤ a ∧ a < m ∧ m < b ∧ b ≤ (xs.length : Int) ∧ xs.length ≤ 1000000 ∧ b - a < ((n + 1 : Nat) : Int) ∧ m - a ≠ 1 ∧ b - m ≠ 1 ∧ (a + b) / 2 = mid from ⟨ha, ham, hmb, hb, hl, hn, h1, h2, hmid⟩)
  have HF := Aside0.mk hf
  have HE := Aside0.mk heg
  have HI := Aside0.mk IH
  have HB : Aside0 (Below g w w) := ⟨Below.refl _ _⟩
  have HP := Aside0.mk (show ∀ q, p q = (fun q => decide (c (xs.getD (mid.toNat + m.toNat - 1 - q) z35) (xs.getD q z35) < 0)) q from fun q => by rw [hp])
  have HST := Aside0.mk hst
  have HEN := Aside0.mk hen
  have HX1 := Aside0.mk hx1
  have HX2 := Aside0.mk hx2
  have HRR := Aside0.mk hr
  obtain ⟨N, hN⟩ : ∃ N, N = xs.length := ⟨_, rfl⟩
  have HN := Aside0.mk hN
  have HL1 := Aside0.mk (show xs1.length = N from by rw [hN, ← hx1]; split; exact rotL_len _ _ _ _ _; rfl)
  have HL2 := Aside0.mk (show xs2.length = N from by rw [← HL1.out, ← hx2]; split; exact symL_len _ _ _ _ _ _ _; rfl)
  obtain ⟨ma, hma⟩ : ∃ v, m - a = v := ⟨_, rfl⟩
  have e0 : IntKind.i64.wrap (m - a) = ma := by rw [← hma]; exact IntWalk.i64_in _ (by omega)
  have d0 : (ma == 1) = false := beq_eq_false_iff_ne.2 (by omega)
  obtain ⟨bm, hbm⟩ : ∃ v, b - m = v := ⟨_, rfl⟩
  have e1 : IntKind.i64.wrap (b - m) = bm := by rw [← hbm]; exact IntWalk.i64_in _ (by omega)
  have d1 : (bm == 1) = false := beq_eq_false_iff_ne.2 (by omega)
  have e2 : IntKind.i64.wrap (a + b) = a + b := IntWalk.i64_in _ (by omega)
  have e3 : IntKind.u64.wrap (a + b) = a + b := by unfold IntKind.wrap; simp [go_sem]; omega
  have e4 : wrap64 ((a + b) / 2) = mid := by rw [hmid]; exact IntWalk.wrap64_in _ (by omega)
  have e5 : IntKind.i64.wrap (mid + m) = mid + m := IntWalk.i64_in _ (by omega)
  rw [← hN]
  clear hR hr ha ham hmb hb hl hN hf IH h1 h2 hn hmid hp hst hen hx1 hx2 hma hbm
  go_enter Try.func38, Try.ntmps38
  obtain ⟨bb, hbb⟩ : ∃ B : Bool, decide (m > mid) = B := ⟨_, rfl⟩
  have hbb2 : decide (mid < m) = bb := hbb
  have HBB := Aside0.mk hbb
  go_upto_if 140 with fail
  clear hbb hbb2
  try rw [e4]
  (try simp only [Act.put, List.setIfInBounds_toArray, List.set_cons_zero, List.set_cons_succ])
  go_cut [20, 21] (fun v20 v21 wc => ∃ (lo hi : Int), v20 = .int .i64 lo ∧ v21 = .int .i64 hi ∧ Aside0 ((m > mid ∧ lo = mid + m - b ∧ hi = mid) ∨ (m ≤ mid ∧ lo = a ∧ hi = m)) ∧ Aside0 (RowAt wc g xs) ∧ Aside0 (Below g w wc))
  case first =>
    cases hbv : bb with
    | true =>
      have hm : mid < m := by have := HBB.out; rw [hbv] at this; exact of_decide_eq_true this
      obtain ⟨lo, hlo⟩ : ∃ v, mid + m - b = v := ⟨_, rfl⟩
      have e6 : IntKind.i64.wrap (mid + m - b) = lo := by rw [← hlo]; exact IntWalk.i64_in _ (by have := HIN.out; omega)
      have HLO := Aside0.mk (show mid < m ∧ mid + m - b = lo from ⟨hm, hlo⟩)
      clear hm hlo
      subst hbv
      go_wp2_with fail
      go_meet
      case rel => exact ⟨lo, mid, rfl, rfl, ⟨.inl ⟨HLO.out.1, HLO.out.2.symm, rfl⟩⟩, HR, HB⟩
    | false =>
      have hm : ¬ m > mid := by have := HBB.out; rw [hbv] at this; exact of_decide_eq_false this
      have HLO := Aside0.mk (show m ≤ mid by omega)
      clear hm
      subst hbv
      go_wp2_with fail
      go_meet
      case rel => exact ⟨a, m, rfl, rfl, ⟨.inr ⟨HLO.out, rfl, rfl⟩⟩, HR, HB⟩
  case rest =>
    clear HR HB d0 d1 e0 e1 e2 e3 e4
    obtain ⟨lo, hi, rfl, rfl, hlh, HR, HB⟩ := hcut
    obtain ⟨pq, hpq⟩ : ∃ v, mid + m - 1 = v := ⟨_, rfl⟩
    have e6 : IntKind.i64.wrap (mid + m - 1) = pq := by rw [← hpq]; exact IntWalk.i64_in _ (by have := HIN.out; omega)
    have HPQ0 := Aside0.mk hpq
    have HLH := Aside0.mk (show a ≤ lo ∧ lo ≤ hi ∧ hi ≤ m ∧ (∀ q, lo ≤ q → q < hi → m ≤ pq - q ∧ pq - q < b) ∧ mid + m - lo ≤ b ∧ mid ≤ b from by have := HIN.out; have := hlh.out; exact ⟨by omega, by omega, by omega, fun q _ _ => by omega, by omega, by omega⟩)
    have H0 := Aside0.mk (show bsL p (b.toNat - a.toNat + 1) lo.toNat hi.toNat = st from by
      rw [← HST.out]
      have := HIN.out
      rcases hlh.out with ⟨h1, h2, h3⟩ | ⟨h1, h2, h3⟩
      · rw [if_pos (by omega), if_pos (by omega), h2, h3, show (mid + m - b).toNat = mid.toNat + m.toNat - b.toNat by omega]
      · rw [if_neg (by omega), if_neg (by omega), h2, h3])
    clear hlh hpq
    go_wp2_with fail
    go_loopg [20, 21] (b.toNat - a.toNat + 1) (fun kq v20 v21 wr => ∃ (i j : Int), v20 = .int .i64 i ∧ v21 = .int .i64 j ∧ Aside0 (lo ≤ i ∧ i ≤ j ∧ j ≤ hi ∧ j - i < (kq : Int)) ∧ Aside0 (bsL p kq i.toNat j.toNat = st) ∧ Aside0 (RowAt wr g xs) ∧ Aside0 (Below g w wr))
    case atStart => exact ⟨lo, hi, rfl, rfl, ⟨by have := HIN.out; have := HLH.out; omega⟩, H0, HR, HB⟩
    case round =>
      clear H0 HR HB e6
      obtain ⟨i, j, rfl, rfl, hin, HS, HR, HB⟩ := hrel
      cases gk with
      | zero => have := hin.out; exfalso; omega
      | succ f =>
      have hs := HS.out
      simp only [bsL] at hs
      clear HS
      by_cases hij : i < j
      · have d1 : decide (i < j) = true := decide_eq_true hij
        rw [if_pos (by have := hin.out; have := HIN.out; have := HLH.out; omega)] at hs
        obtain ⟨q, hq⟩ : ∃ q, (i + j) / 2 = q := ⟨_, rfl⟩
        have e1 : IntKind.i64.wrap (i + j) = i + j := IntWalk.i64_in _ (by have := hin.out; have := HIN.out; have := HLH.out; omega)
        have e2 : IntKind.u64.wrap (i + j) = i + j := by have := hin.out; have := HIN.out; have := HLH.out; unfold IntKind.wrap; simp [go_sem]; omega
        have e3 : wrap64 ((i + j) / 2) = q := by rw [hq]; exact IntWalk.wrap64_in _ (by have := hin.out; have := HIN.out; have := HLH.out; omega)
        have HQ := Aside0.mk (show i ≤ q ∧ q < j from by have := hin.out; omega)
        have e4 : IntKind.i64.wrap (q + 1) = q + 1 := IntWalk.i64_in _ (by have := hin.out; have := HIN.out; have := HLH.out; omega)
        rw [show (i.toNat + j.toNat) / 2 = q.toNat by have := hin.out; have := HIN.out; have := HLH.out; omega] at hs
        obtain ⟨u, hu⟩ : ∃ v, pq - q = v := ⟨_, rfl⟩
        have hub := HLH.out.2.2.2.1 q (by have := hin.out; omega) (by have := hin.out; omega)
        have e7 : IntKind.i64.wrap (pq - q) = u := by rw [← hu]; exact IntWalk.i64_in _ (by have := HIN.out; omega)
        have p1 : 0 ≤ u := by have := HIN.out; omega
        have p2 : 0 ≤ q := by have := hin.out; have := HIN.out; have := HLH.out; omega
        have q1 : u < (N : Int) := by have := HIN.out; have := HN.out; omega
        have q2 : q < (N : Int) := by have := hin.out; have := HIN.out; have := HLH.out; have := HN.out; omega
        have HPQ := Aside0.mk (show (0 ≤ u ∧ u < (xs.length : Int)) ∧ (0 ≤ q ∧ q < (xs.length : Int)) from ⟨⟨p1, by rw [← HN.out]; exact q1⟩, p2, by rw [← HN.out]; exact q2⟩)
        obtain ⟨x1, hx1⟩ : ∃ x, rd_T35 xs u = x := ⟨_, rfl⟩
        obtain ⟨y1, hy1⟩ : ∃ x, rd_T35 xs q = x := ⟨_, rfl⟩
        have hg1 : xs.getD (mid.toNat + m.toNat - 1 - q.toNat) z35 = x1 := by rw [← hx1, show mid.toNat + m.toNat - 1 - q.toNat = u.toNat by have := HIN.out; have := HPQ0.out; omega]; rfl
        have hg2 : xs.getD q.toNat z35 = y1 := hy1
        have hpq : p q.toNat = decide (c x1 y1 < 0) := by rw [HP.out, hg1, hg2]
        rw [hpq] at hs
        have HX := Aside0.mk hx1
        have HY := Aside0.mk hy1
        replace p1 := eq_true p1
        replace p2 := eq_true p2
        replace q1 := eq_true q1
        replace q2 := eq_true q2
        clear hx1 hy1 hg1 hg2 hij hq hpq hu hub
        by_cases hlt : ¬ c x1 y1 < 0
        · have d4 : decide (c x1 y1 < 0) = false := decide_eq_false hlt
          rw [if_neg (by rw [d4]; decide)] at hs
          have HS := Aside0.mk (show bsL p f (q + 1).toNat j.toNat = st from by rw [← hs, show (q + 1).toNat = q.toNat + 1 by have := HPQ.out; omega])
          clear hs hlt
          go_wp2_with fail
          try rw [e3]
          replace HR := Aside0.mk (show RowAt wr.drew g xs from HR.out.below (below_drew1 (Below.refl _ _)))
          replace HB := Aside0.mk (below_drew1 HB.out)
          refine start_ (n := 14) (S := fun w' => RowAt w' g xs) (ds := []) #[false, false, false, false, false, false, false, false, false, false, false, false, false, false] (by kernel_rfl) rfl rfl HR.out (fun hHeld => ?_)
          generalize wr.drew = w8 at HR HB hHeld ⊢
          refine pure_ (i := 0) (N := some 158) (v := ?_) (a' := ?_) #[true, false, false, false, false, false, false, false, false, false, false, false, false, false] rfl rfl (by kernel_rfl) (fun _ _ _ h => h) (Or.inl ⟨by rfl, ?_⟩) ?_ ?_
          rotate_left; (focus intro w'; go_simp; with_reducible rfl); rotate_left; (focus simp only [Act.put, List.setIfInBounds_toArray, List.set_cons_zero, List.set_cons_succ, i64_w, i32_w]; rfl)
          refine pure_ (i := 1) (N := some 159) (v := ?_) (a' := ?_) #[true, true, false, false, false, false, false, false, false, false, false, false, false, false] rfl rfl (by kernel_rfl) (fun _ _ _ h => h) (Or.inl ⟨by rfl, ?_⟩) ?_ ?_
          rotate_left; (focus intro w'; go_simp; with_reducible rfl); rotate_left; (focus simp only [Act.put, List.setIfInBounds_toArray, List.set_cons_zero, List.set_cons_succ, i64_w, i32_w]; rfl)
          refine pure_ (i := 2) (N := some 160) (v := ?_) (a' := ?_) #[true, true, true, false, false, false, false, false, false, false, false, false, false, false] rfl rfl (by kernel_rfl) (fun _ _ _ h => h) (Or.inl ⟨by rfl, ?_⟩) ?_ ?_
          rotate_left; (focus intro w'; go_simp; with_reducible rfl); rotate_left; (focus simp only [Act.put, List.setIfInBounds_toArray, List.set_cons_zero, List.set_cons_succ, i64_w, i32_w]; rfl)
          refine pure_ (i := 3) (N := some 161) (v := ?_) (a' := ?_) #[true, true, true, true, false, false, false, false, false, false, false, false, false, false] rfl rfl (by kernel_rfl) (fun _ _ _ h => h) (Or.inl ⟨by rfl, ?_⟩) ?_ ?_
          rotate_left; (focus intro w'; go_simp; with_reducible rfl); rotate_left; (focus simp only [Act.put, List.setIfInBounds_toArray, List.set_cons_zero, List.set_cons_succ, i64_w, i32_w]; rfl)
          refine pure_ (i := 4) (N := some 162) (v := ?_) (a' := ?_) #[true, true, true, true, true, false, false, false, false, false, false, false, false, false] rfl rfl (by kernel_rfl) (fun _ _ _ h => h) (Or.inl ⟨by rfl, ?_⟩) ?_ ?_
          rotate_left; (focus intro w'; go_simp; with_reducible rfl); rotate_left; (focus simp only [Act.put, List.setIfInBounds_toArray, List.set_cons_zero, List.set_cons_succ, i64_w, i32_w]; rfl)
          refine pure_ (i := 5) (N := some 163) (v := ?_) (a' := ?_) #[true, true, true, true, true, true, false, false, false, false, false, false, false, false] rfl rfl (by kernel_rfl) (fun _ _ _ h => h) (Or.inl ⟨by rfl, ?_⟩) ?_ ?_
          rotate_left; (focus intro w'; go_simp; with_reducible rfl); rotate_left; (focus simp only [Act.put, List.setIfInBounds_toArray, List.set_cons_zero, List.set_cons_succ, i64_w, i32_w]; rfl)
          refine pure_ (i := 7) (N := some 165) (v := ?_) (a' := ?_) #[true, true, true, true, true, true, false, true, false, false, false, false, false, false] rfl rfl (by kernel_rfl) (fun _ _ _ h => h) (Or.inl ⟨by rfl, ?_⟩) ?_ ?_
          rotate_left; (focus intro w'; go_simp; with_reducible rfl); rotate_left; (focus simp only [Act.put, List.setIfInBounds_toArray, List.set_cons_zero, List.set_cons_succ, i64_w, i32_w]; rfl)
          refine pure_ (i := 8) (N := some 166) (v := ?_) (a' := ?_) #[true, true, true, true, true, true, false, true, true, false, false, false, false, false] rfl rfl (by kernel_rfl) (fun _ _ _ h => h) (Or.inl ⟨by rfl, ?_⟩) ?_ ?_
          rotate_left; (focus intro w'; go_simp; with_reducible rfl); rotate_left; (focus simp only [Act.put, List.setIfInBounds_toArray, List.set_cons_zero, List.set_cons_succ, i64_w, i32_w]; rfl)
          refine pure_ (i := 9) (N := some 167) (v := ?_) (a' := ?_) #[true, true, true, true, true, true, false, true, true, true, false, false, false, false] rfl rfl (by kernel_rfl) (fun _ _ _ h => h) (Or.inl ⟨by rfl, ?_⟩) ?_ ?_
          rotate_left; (focus intro w'; go_simp; with_reducible rfl); rotate_left; (focus simp only [Act.put, List.setIfInBounds_toArray, List.set_cons_zero, List.set_cons_succ, i64_w, i32_w]; rfl)
          refine take_ (i := 6) (N := some 164) (v := .agg (encP x1).toArray) (a' := ?_) #[true, true, true, true, true, true, true, true, true, true, false, false, false, false] rfl rfl (by kernel_rfl) (fun _ _ _ h => h) (yieldsIf_load_mid (by rfl) 35 (.tmp 163) rfl g _ rfl (encP x1) _ (fun w' hS => hS.range (q := u) HPQ.out.1.1 HPQ.out.1.2 HX.out) Try.underlying35 rfl part_size) hHeld ?_ ?_
          rotate_left; (focus simp only [Act.put, List.setIfInBounds_toArray, List.set_cons_zero, List.set_cons_succ, i64_w, i32_w]; rfl)
          refine take_ (i := 10) (N := some 168) (v := .agg (encP y1).toArray) (a' := ?_) #[true, true, true, true, true, true, true, true, true, true, true, false, false, false] rfl rfl (by kernel_rfl) (fun _ _ _ h => h) (yieldsIf_load_mid (by rfl) 35 (.tmp 167) rfl g _ rfl (encP y1) _ (fun w' hS => hS.range (q := q) HPQ.out.2.1 HPQ.out.2.2 HY.out) Try.underlying35 rfl part_size) hHeld ?_ ?_
          rotate_left; (focus simp only [Act.put, List.setIfInBounds_toArray, List.set_cons_zero, List.set_cons_succ, i64_w, i32_w]; rfl)
          refine one_ (i := 11) (N := some 169) #[true, true, true, true, true, true, true, true, true, true, true, true, false, false] rfl rfl (by kernel_rfl) (by decide) (fun K hK => ?_)
          refine call_ gi #[.agg (encP x1).toArray, .agg (encP y1).toArray] (by rfl) rfl (by go_simp; first | exact HE.out _ _ | skip) ?_
          refine (HF.out x1 y1 _).mono ?_
          rintro e_ w9 ⟨rfl, hb9⟩
          refine ⟨_, rfl, ?_⟩
          replace HB := Aside0.mk (HB.out.trans (hb9.mono (Nat.le_of_lt HR.out.1)))
          replace HR := Aside0.mk (HR.out.below hb9)
          clear hb9
          refine hK.out _ _ HR.out (fun hHeld => ?_)
          clear hK K
          refine norm_ (a' := ?_) ?_ ?_
          rotate_left; (focus show Act.put _ (some 169) _ = _; simp only [Act.put, List.setIfInBounds_toArray, List.set_cons_zero, List.set_cons_succ, i64_w, i32_w]; rfl)
          refine pure_ (i := 12) (N := some 170) (v := ?_) (a' := ?_) #[true, true, true, true, true, true, true, true, true, true, true, true, true, false] rfl rfl (by kernel_rfl) (fun _ _ _ h => h) (Or.inl ⟨by rfl, ?_⟩) ?_ ?_
          rotate_left; (focus intro w'; go_simp; with_reducible rfl); rotate_left; (focus simp only [Act.put, List.setIfInBounds_toArray, List.set_cons_zero, List.set_cons_succ, i64_w, i32_w]; rfl)
          refine pure_ (i := 13) (N := some 171) (v := ?_) (a' := ?_) #[true, true, true, true, true, true, true, true, true, true, true, true, true, true] rfl rfl (by kernel_rfl) (fun _ _ _ h => h) (Or.inl ⟨by rfl, ?_⟩) ?_ ?_
          rotate_left; (focus intro w'; go_simp; with_reducible rfl); rotate_left; (focus simp only [Act.put, List.setIfInBounds_toArray, List.set_cons_zero, List.set_cons_succ, i64_w, i32_w]; rfl)
          refine done_ (by kernel_rfl) ?_
          try simp only [Exit.then]
          clear hHeld
          go_wp2_with fail
          go_roundg f
          case measure => omega
          case rel => exact ⟨q + 1, j, rfl, rfl, ⟨by have := hin.out; have := HQ.out; omega⟩, HS, HR, HB⟩
        · have d4 : decide (c x1 y1 < 0) = true := decide_eq_true (Decidable.not_not.1 hlt)
          rw [if_pos d4] at hs
          have HS := Aside0.mk hs
          clear hs hlt
          go_wp2_with fail
          try rw [e3]
          replace HR := Aside0.mk (show RowAt wr.drew g xs from HR.out.below (below_drew1 (Below.refl _ _)))
          replace HB := Aside0.mk (below_drew1 HB.out)
          refine start_ (n := 14) (S := fun w' => RowAt w' g xs) (ds := []) #[false, false, false, false, false, false, false, false, false, false, false, false, false, false] (by kernel_rfl) rfl rfl HR.out (fun hHeld => ?_)
          generalize wr.drew = w8 at HR HB hHeld ⊢
          refine pure_ (i := 0) (N := some 158) (v := ?_) (a' := ?_) #[true, false, false, false, false, false, false, false, false, false, false, false, false, false] rfl rfl (by kernel_rfl) (fun _ _ _ h => h) (Or.inl ⟨by rfl, ?_⟩) ?_ ?_
          rotate_left; (focus intro w'; go_simp; with_reducible rfl); rotate_left; (focus simp only [Act.put, List.setIfInBounds_toArray, List.set_cons_zero, List.set_cons_succ, i64_w, i32_w]; rfl)
          refine pure_ (i := 1) (N := some 159) (v := ?_) (a' := ?_) #[true, true, false, false, false, false, false, false, false, false, false, false, false, false] rfl rfl (by kernel_rfl) (fun _ _ _ h => h) (Or.inl ⟨by rfl, ?_⟩) ?_ ?_
          rotate_left; (focus intro w'; go_simp; with_reducible rfl); rotate_left; (focus simp only [Act.put, List.setIfInBounds_toArray, List.set_cons_zero, List.set_cons_succ, i64_w, i32_w]; rfl)
          refine pure_ (i := 2) (N := some 160) (v := ?_) (a' := ?_) #[true, true, true, false, false, false, false, false, false, false, false, false, false, false] rfl rfl (by kernel_rfl) (fun _ _ _ h => h) (Or.inl ⟨by rfl, ?_⟩) ?_ ?_
          rotate_left; (focus intro w'; go_simp; with_reducible rfl); rotate_left; (focus simp only [Act.put, List.setIfInBounds_toArray, List.set_cons_zero, List.set_cons_succ, i64_w, i32_w]; rfl)
          refine pure_ (i := 3) (N := some 161) (v := ?_) (a' := ?_) #[true, true, true, true, false, false, false, false, false, false, false, false, false, false] rfl rfl (by kernel_rfl) (fun _ _ _ h => h) (Or.inl ⟨by rfl, ?_⟩) ?_ ?_
          rotate_left; (focus intro w'; go_simp; with_reducible rfl); rotate_left; (focus simp only [Act.put, List.setIfInBounds_toArray, List.set_cons_zero, List.set_cons_succ, i64_w, i32_w]; rfl)
          refine pure_ (i := 4) (N := some 162) (v := ?_) (a' := ?_) #[true, true, true, true, true, false, false, false, false, false, false, false, false, false] rfl rfl (by kernel_rfl) (fun _ _ _ h => h) (Or.inl ⟨by rfl, ?_⟩) ?_ ?_
          rotate_left; (focus intro w'; go_simp; with_reducible rfl); rotate_left; (focus simp only [Act.put, List.setIfInBounds_toArray, List.set_cons_zero, List.set_cons_succ, i64_w, i32_w]; rfl)
          refine pure_ (i := 5) (N := some 163) (v := ?_) (a' := ?_) #[true, true, true, true, true, true, false, false, false, false, false, false, false, false] rfl rfl (by kernel_rfl) (fun _ _ _ h => h) (Or.inl ⟨by rfl, ?_⟩) ?_ ?_
          rotate_left; (focus intro w'; go_simp; with_reducible rfl); rotate_left; (focus simp only [Act.put, List.setIfInBounds_toArray, List.set_cons_zero, List.set_cons_succ, i64_w, i32_w]; rfl)
          refine pure_ (i := 7) (N := some 165) (v := ?_) (a' := ?_) #[true, true, true, true, true, true, false, true, false, false, false, false, false, false] rfl rfl (by kernel_rfl) (fun _ _ _ h => h) (Or.inl ⟨by rfl, ?_⟩) ?_ ?_
          rotate_left; (focus intro w'; go_simp; with_reducible rfl); rotate_left; (focus simp only [Act.put, List.setIfInBounds_toArray, List.set_cons_zero, List.set_cons_succ, i64_w, i32_w]; rfl)
          refine pure_ (i := 8) (N := some 166) (v := ?_) (a' := ?_) #[true, true, true, true, true, true, false, true, true, false, false, false, false, false] rfl rfl (by kernel_rfl) (fun _ _ _ h => h) (Or.inl ⟨by rfl, ?_⟩) ?_ ?_
          rotate_left; (focus intro w'; go_simp; with_reducible rfl); rotate_left; (focus simp only [Act.put, List.setIfInBounds_toArray, List.set_cons_zero, List.set_cons_succ, i64_w, i32_w]; rfl)
          refine pure_ (i := 9) (N := some 167) (v := ?_) (a' := ?_) #[true, true, true, true, true, true, false, true, true, true, false, false, false, false] rfl rfl (by kernel_rfl) (fun _ _ _ h => h) (Or.inl ⟨by rfl, ?_⟩) ?_ ?_
          rotate_left; (focus intro w'; go_simp; with_reducible rfl); rotate_left; (focus simp only [Act.put, List.setIfInBounds_toArray, List.set_cons_zero, List.set_cons_succ, i64_w, i32_w]; rfl)
          refine take_ (i := 6) (N := some 164) (v := .agg (encP x1).toArray) (a' := ?_) #[true, true, true, true, true, true, true, true, true, true, false, false, false, false] rfl rfl (by kernel_rfl) (fun _ _ _ h => h) (yieldsIf_load_mid (by rfl) 35 (.tmp 163) rfl g _ rfl (encP x1) _ (fun w' hS => hS.range (q := u) HPQ.out.1.1 HPQ.out.1.2 HX.out) Try.underlying35 rfl part_size) hHeld ?_ ?_
          rotate_left; (focus simp only [Act.put, List.setIfInBounds_toArray, List.set_cons_zero, List.set_cons_succ, i64_w, i32_w]; rfl)
          refine take_ (i := 10) (N := some 168) (v := .agg (encP y1).toArray) (a' := ?_) #[true, true, true, true, true, true, true, true, true, true, true, false, false, false] rfl rfl (by kernel_rfl) (fun _ _ _ h => h) (yieldsIf_load_mid (by rfl) 35 (.tmp 167) rfl g _ rfl (encP y1) _ (fun w' hS => hS.range (q := q) HPQ.out.2.1 HPQ.out.2.2 HY.out) Try.underlying35 rfl part_size) hHeld ?_ ?_
          rotate_left; (focus simp only [Act.put, List.setIfInBounds_toArray, List.set_cons_zero, List.set_cons_succ, i64_w, i32_w]; rfl)
          refine one_ (i := 11) (N := some 169) #[true, true, true, true, true, true, true, true, true, true, true, true, false, false] rfl rfl (by kernel_rfl) (by decide) (fun K hK => ?_)
          refine call_ gi #[.agg (encP x1).toArray, .agg (encP y1).toArray] (by rfl) rfl (by go_simp; first | exact HE.out _ _ | skip) ?_
          refine (HF.out x1 y1 _).mono ?_
          rintro e_ w9 ⟨rfl, hb9⟩
          refine ⟨_, rfl, ?_⟩
          replace HB := Aside0.mk (HB.out.trans (hb9.mono (Nat.le_of_lt HR.out.1)))
          replace HR := Aside0.mk (HR.out.below hb9)
          clear hb9
          refine hK.out _ _ HR.out (fun hHeld => ?_)
          clear hK K
          refine norm_ (a' := ?_) ?_ ?_
          rotate_left; (focus show Act.put _ (some 169) _ = _; simp only [Act.put, List.setIfInBounds_toArray, List.set_cons_zero, List.set_cons_succ, i64_w, i32_w]; rfl)
          refine pure_ (i := 12) (N := some 170) (v := ?_) (a' := ?_) #[true, true, true, true, true, true, true, true, true, true, true, true, true, false] rfl rfl (by kernel_rfl) (fun _ _ _ h => h) (Or.inl ⟨by rfl, ?_⟩) ?_ ?_
          rotate_left; (focus intro w'; go_simp; with_reducible rfl); rotate_left; (focus simp only [Act.put, List.setIfInBounds_toArray, List.set_cons_zero, List.set_cons_succ, i64_w, i32_w]; rfl)
          refine pure_ (i := 13) (N := some 171) (v := ?_) (a' := ?_) #[true, true, true, true, true, true, true, true, true, true, true, true, true, true] rfl rfl (by kernel_rfl) (fun _ _ _ h => h) (Or.inl ⟨by rfl, ?_⟩) ?_ ?_
          rotate_left; (focus intro w'; go_simp; with_reducible rfl); rotate_left; (focus simp only [Act.put, List.setIfInBounds_toArray, List.set_cons_zero, List.set_cons_succ, i64_w, i32_w]; rfl)
          refine done_ (by kernel_rfl) ?_
          try simp only [Exit.then]
          clear hHeld
          go_wp2_with fail
          go_roundg f
          case measure => omega
          case rel => exact ⟨i, q, rfl, rfl, ⟨by have := hin.out; have := HQ.out; omega⟩, HS, HR, HB⟩
      · have d1 : decide (i < j) = false := decide_eq_false hij
        rw [if_neg (by have := hin.out; have := HIN.out; have := HLH.out; omega)] at hs
        obtain ⟨E, hE⟩ : ∃ v, mid + m - i = v := ⟨_, rfl⟩
        have e1 : IntKind.i64.wrap (mid + m - i) = E := by rw [← hE]; exact IntWalk.i64_in _ (by have := hin.out; have := HIN.out; have := HLH.out; omega)
        have HSE := Aside0.mk (show st = i.toNat ∧ en = E.toNat ∧ a ≤ i ∧ i ≤ m ∧ E ≤ b ∧ mid + m - i = E ∧ 0 ≤ E from by have := hin.out; have := HIN.out; have := HLH.out; have := HEN.out; exact ⟨hs.symm, by omega, by omega, by omega, by omega, hE, by omega⟩)
        clear hs hij hE hin
        go_upto_region 39 with fail
        (try simp only [Act.put, List.setIfInBounds_toArray, List.set_cons_zero, List.set_cons_succ])
        go_cut [185] (fun v185 wc => ∃ B : Bool, v185 = .bool B ∧ Aside0 (B = true ↔ (i < m ∧ m < E)) ∧ Aside0 (RowAt wc g xs) ∧ Aside0 (Below g w wc))
        case first =>
          as_aux_lemma =>
            by_cases hc : i < m
            · have d1 : decide (i < m) = true := decide_eq_true hc
              by_cases hc2 : m < E
              · have d2 : decide (m < E) = true := decide_eq_true hc2
                have HC := Aside0.mk (show (i < m ∧ m < E) from ⟨hc, hc2⟩)
                clear hc hc2
                go_wp2_with fail
                go_meet
                case rel => exact ⟨true, rfl, ⟨⟨fun _ => HC.out, fun _ => rfl⟩⟩, HR, HB⟩
              · have d2 : decide (m < E) = false := decide_eq_false hc2
                have HC := Aside0.mk hc2
                clear hc hc2
                go_wp2_with fail
                go_meet
                case rel => exact ⟨false, rfl, ⟨⟨fun h => (by cases h), fun h => by have := HC.out; exfalso; omega⟩⟩, HR, HB⟩
            · have d1 : decide (i < m) = false := decide_eq_false hc
              have HC := Aside0.mk hc
              clear hc
              go_wp2_with fail
              go_meet
              case rel => exact ⟨false, rfl, ⟨⟨fun h => (by cases h), fun h => by have := HC.out; exfalso; omega⟩⟩, HR, HB⟩
        case rest =>
          as_aux_lemma =>
            clear HR HB e1 d1
            obtain ⟨B, rfl, HC, HR, HB⟩ := hcut
            go_upto_if 185 with fail
            (try simp only [Act.put, List.setIfInBounds_toArray, List.set_cons_zero, List.set_cons_succ])
            go_cut [] (fun wc => Aside0 (RowAt wc g xs1) ∧ Aside0 (Below g w wc))
            case first =>
              as_aux_lemma =>
                cases B with
                | true =>
                  have hc := HC.out.1 rfl
                  have hx := HX1.out
                  rw [if_pos (by have := HSE.out; have := HIN.out; omega)] at hx
                  have hcall := rot_any g cap (.func (.func gi) #[] #[]) xs i m E wc HR.out HIN.out.2.2.2.2.1 (by have := HSE.out; have := HIN.out; omega) hc.1 hc.2 (by have := HSE.out; have := HIN.out; omega)
                  rw [← HN.out, ← HSE.out.1, ← HSE.out.2.1, hx] at hcall
                  have HCC := Aside0.mk hcall
                  clear hc hx hcall
                  go_wp2_with (first | (go_at_call 39; refine HCC.out.mono ?_; rintro e w5 ⟨rfl, hR5, hB5⟩))
                  go_meet
                  case rel => exact ⟨⟨hR5⟩, ⟨HB.out.trans hB5⟩⟩
                | false =>
                  have hx := HX1.out
                  rw [if_neg (fun h => by have := HSE.out; have := HIN.out; have := HC.out.2 (by omega); cases this)] at hx
                  have HCC := Aside0.mk hx
                  clear hx
                  go_wp2_with fail
                  go_meet
                  case rel => exact ⟨⟨by rw [← HCC.out]; exact HR.out⟩, HB⟩
            case rest =>
              as_aux_lemma =>
                clear HR HB HX1 HC
                obtain ⟨HR, HB⟩ := hcut
                go_upto_region 41 with fail
                (try simp only [Act.put, List.setIfInBounds_toArray, List.set_cons_zero, List.set_cons_succ])
                go_cut [199] (fun v199 wc => ∃ B : Bool, v199 = .bool B ∧ Aside0 (B = true ↔ (a < i ∧ i < mid)) ∧ Aside0 (RowAt wc g xs1) ∧ Aside0 (Below g w wc))
                case first =>
                  as_aux_lemma =>
                    by_cases hc : a < i
                    · have d1 : decide (a < i) = true := decide_eq_true hc
                      by_cases hc2 : i < mid
                      · have d2 : decide (i < mid) = true := decide_eq_true hc2
                        have HC := Aside0.mk (show (a < i ∧ i < mid) from ⟨hc, hc2⟩)
                        clear hc hc2
                        go_wp2_with fail
                        go_meet
                        case rel => exact ⟨true, rfl, ⟨⟨fun _ => HC.out, fun _ => rfl⟩⟩, HR, HB⟩
                      · have d2 : decide (i < mid) = false := decide_eq_false hc2
                        have HC := Aside0.mk hc2
                        clear hc hc2
                        go_wp2_with fail
                        go_meet
                        case rel => exact ⟨false, rfl, ⟨⟨fun h => (by cases h), fun h => by have := HC.out; exfalso; omega⟩⟩, HR, HB⟩
                    · have d1 : decide (a < i) = false := decide_eq_false hc
                      have HC := Aside0.mk hc
                      clear hc
                      go_wp2_with fail
                      go_meet
                      case rel => exact ⟨false, rfl, ⟨⟨fun h => (by cases h), fun h => by have := HC.out; exfalso; omega⟩⟩, HR, HB⟩
                case rest =>
                  as_aux_lemma =>
                    clear HR HB
                    obtain ⟨B, rfl, HC, HR, HB⟩ := hcut
                    go_upto_if 199 with fail
                    (try simp only [Act.put, List.setIfInBounds_toArray, List.set_cons_zero, List.set_cons_succ])
                    go_cut [] (fun wc => Aside0 (RowAt wc g xs2) ∧ Aside0 (Below g w wc))
                    case first =>
                      as_aux_lemma =>
                        cases B with
                        | true =>
                          have hc := HC.out.1 rfl
                          have hx := HX2.out
                          rw [if_pos (by have := HSE.out; have := HIN.out; omega)] at hx
                          have hcall := HI.out xs1 a i mid wc HR.out (by rw [HL1.out, HN.out]; exact HIN.out.2.2.2.2.1) HIN.out.1 hc.1 hc.2 (by have := HIN.out; have := HL1.out; have := HN.out; omega) (by have := HIN.out; omega)
                          rw [HL1.out, ← HSE.out.1, hx] at hcall
                          have HCC := Aside0.mk hcall
                          clear hc hx hcall
                          go_wp2_with (first | (go_at_call 38; refine HCC.out.mono ?_; rintro e w5 ⟨rfl, hR5, hB5⟩))
                          go_meet
                          case rel => exact ⟨⟨hR5⟩, ⟨HB.out.trans hB5⟩⟩
                        | false =>
                          have hx := HX2.out
                          rw [if_neg (fun h => by have := HSE.out; have := HIN.out; have := HC.out.2 (by omega); cases this)] at hx
                          have HCC := Aside0.mk hx
                          clear hx
                          go_wp2_with fail
                          go_meet
                          case rel => exact ⟨⟨by rw [← HCC.out]; exact HR.out⟩, HB⟩
                    case rest =>
                      as_aux_lemma =>
                        clear HR HB HX2 HC
                        obtain ⟨HR, HB⟩ := hcut
                        by_cases hc : mid < E
                        · have d1 : decide (mid < E) = true := decide_eq_true hc
                          by_cases hc2 : E < b
                          · have d2 : decide (E < b) = true := decide_eq_true hc2
                            have hx := HRR.out
                            rw [if_pos (by have := HSE.out; have := HIN.out; omega)] at hx
                            have hcall := HI.out xs2 mid E b wc HR.out (by rw [HL2.out, HN.out]; exact HIN.out.2.2.2.2.1) (by have := HIN.out; omega) hc hc2 (by have := HIN.out; have := HL2.out; have := HN.out; omega) (by have := HIN.out; omega)
                            rw [HL2.out, ← HSE.out.2.1, hx] at hcall
                            have HCC := Aside0.mk hcall
                            clear hc hc2 hx hcall
                            go_wp2_with (first | (go_at_call 38; refine HCC.out.mono ?_; rintro e w5 ⟨rfl, hR5, hB5⟩))
                            go_end0
                            exact ⟨rfl, hR5, HB.out.trans hB5⟩
                          · have d2 : decide (E < b) = false := decide_eq_false hc2
                            have hx := HRR.out
                            rw [if_neg (by have := HSE.out; have := HIN.out; omega)] at hx
                            subst hx
                            clear hc hc2
                            go_wp2_with fail
                            go_end0
                            exact ⟨rfl, HR.out, HB.out⟩
                        · have d1 : decide (mid < E) = false := decide_eq_false hc
                          have hx := HRR.out
                          rw [if_neg (by have := HSE.out; have := HIN.out; omega)] at hx
                          subst hx
                          clear hc
                          go_wp2_with fail
                          go_end0
                          exact ⟨rfl, HR.out, HB.out⟩
                
-- A merge, whatever its stretches.
theorem sym_any (g cap : Nat) (gi : Nat) (c : S35 → S35 → Int) (heg : ∀ args w, (callFunc gi args).run Try.prog w = .ok (.enter gi args) w) (hf : ∀ (x y : S35) (W : World), Calls Try.prog gi #[.agg (encP x).toArray, .agg (encP y).toArray] W fun e W' => e = .returned (.int .i64 (c x y)) ∧ Below W.heap.size W W') : ∀ (n : Nat) (xs : List S35) (a m b : Int) (w : World), RowAt w g xs → xs.length ≤ 1000000 → 0 ≤ a → a < m → m < b → b ≤ (xs.length : Int) → b - a < (n : Int) →
    Calls Try.prog 38 #[.slice (some ⟨g, 0, none⟩) xs.length cap, .int .i64 a, .int .i64 m, .int .i64 b, .func (.func gi) #[] #[]] w fun e w' => e = .returned (.tuple #[]) ∧ RowAt w' g (symL (fun x y => decide (c x y < 0)) z35 n a.toNat m.toNat b.toNat xs) ∧ Below g w w'
  | 0, xs, a, m, b, w, _, _, ha, ham, hmb, hb, hn => by omega
  | n + 1, xs, a, m, b, w, hR, hl, ha, ham, hmb, hb, hn => by
    by_cases h1 : m - a = 1
    · refine sym1_any g cap gi c heg hf xs a m b w hR hl ha ham hmb hb h1 _ ?_
      rw [symL, if_pos (by omega)]
    · by_cases h2 : b - m = 1
      · refine sym2_any g cap gi c heg hf xs a m b w hR hl ha ham hmb hb h1 h2 _ ?_
        rw [symL, if_neg (by omega), if_pos (by omega)]
      · exact sym3_any g cap gi c heg hf n (sym_any g cap gi c heg hf n) xs a m b w hR hl ha ham hmb hb h1 h2 hn
theorem stP_len {α : Type} (lt : α → α → Bool) (d : α) (N bs : Nat) : ∀ (f a : Nat) (xs : List α), (stP lt d N bs f a xs).length = xs.length
  | 0, _, _ => rfl
  | f + 1, a, xs => by
    unfold stP
    split
    · rw [stP_len lt d N bs f, symL_len]
    · split
      · rw [symL_len]
      · rfl
theorem stA_len {α : Type} (lt : α → α → Bool) (d : α) (N : Nat) : ∀ (f a : Nat) (xs : List α), (stA lt d N f a xs).length = xs.length
  | 0, _, _ => rfl
  | f + 1, a, xs => by
    unfold stA
    split
    · rw [stA_len lt d N f, insI_len]
    · rw [insI_len]
-- The stable sort of a row that lies.
set_option maxRecDepth 100000 in
set_option maxHeartbeats 8000000 in
theorem stable_any (g cap : Nat) (gi : Nat) (c : S35 → S35 → Int) (heg : ∀ args w, (callFunc gi args).run Try.prog w = .ok (.enter gi args) w) (hf : ∀ (x y : S35) (W : World), Calls Try.prog gi #[.agg (encP x).toArray, .agg (encP y).toArray] W fun e W' => e = .returned (.int .i64 (c x y)) ∧ Below W.heap.size W W') (xs : List S35) (w : World) (hR : RowAt w g xs) (hl : xs.length ≤ 1000000) :
    Calls Try.prog 34 #[.slice (some ⟨g, 0, none⟩) xs.length cap, .int .i64 (xs.length : Int), .func (.func gi) #[] #[]] w fun e w' => e = .returned (.tuple #[]) ∧ RowAt w' g (stableL (fun x y => decide (c x y < 0)) z35 xs) ∧ Below g w w' := by
  generalize hr : stableL (fun x y => decide (c x y < 0)) z35 xs = r
  unfold stableL at hr
  have HR := Aside0.mk hR
  have HB : Aside0 (Below g w w) := ⟨Below.refl _ _⟩
  have HINS := Aside0.mk (ins_any g cap gi c heg hf)
  have HSYM := Aside0.mk (sym_any g cap gi c heg hf)
  obtain ⟨N, hN⟩ : ∃ N, N = xs.length := ⟨_, rfl⟩
  have HN := Aside0.mk (show N = xs.length ∧ N ≤ 1000000 from ⟨hN, by omega⟩)
  rw [← hN] at hr ⊢
  generalize hr1 : stA (fun x y => decide (c x y < 0)) z35 N (N + 1) 0 xs = r1 at hr
  have HL1 := Aside0.mk (show r1.length = N from by rw [← hr1, stA_len]; exact hN.symm)
  have H1 := Aside0.mk hr1
  have H2 := Aside0.mk hr
  clear hR hr hl hN hf hr1
  go_enter Try.func34, Try.ntmps34
  go_wp2_with fail
  go_loopg [7, 8] (N + 1) (fun kq v7 v8 wr => ∃ (a b : Int) (ys : List S35), v7 = .int .i64 a ∧ v8 = .int .i64 b ∧ Aside0 (b = a + 20 ∧ 0 ≤ a ∧ a ≤ (N : Int) ∧ (N : Int) - a < (kq : Int)) ∧ Aside0 (ys.length = N) ∧ Aside0 (stA (fun x y => decide (c x y < 0)) z35 N kq a.toNat ys = r1) ∧ Aside0 (RowAt wr g ys) ∧ Aside0 (Below g w wr))
  case atStart => exact ⟨0, 20, xs, rfl, rfl, ⟨by omega⟩, ⟨HN.out.1.symm⟩, H1, HR, HB⟩
  case round =>
    clear H1 HR HB
    obtain ⟨a, b, ys, rfl, rfl, hin, hyl, HS, HR, HB⟩ := hrel
    cases gk with
    | zero => have := hin.out; exfalso; omega
    | succ f =>
    have hs := HS.out
    simp only [stA] at hs
    clear HS
    by_cases hb : b ≤ (N : Int)
    · have d1 : decide (b ≤ (N : Int)) = true := decide_eq_true hb
      rw [if_pos (by have := hin.out; omega)] at hs
      obtain ⟨b2, hb2⟩ : ∃ v, b + 20 = v := ⟨_, rfl⟩
      have e1 : IntKind.i64.wrap (b + 20) = b2 := by rw [← hb2]; exact IntWalk.i64_in _ (by have := HN.out; have := hin.out; omega)
      have hc := HINS.out ys a b 21 wr HR.out (by rw [hyl.out]; exact HN.out.2) (by have := hin.out; omega) (by have := hin.out; omega) (by rw [hyl.out]; exact hb) (by have := hin.out; omega) (by decide)
      rw [hyl.out, show b.toNat = a.toNat + 20 by have := hin.out; omega, show (a + 1).toNat = a.toNat + 1 by have := hin.out; omega] at hc
      have HC := Aside0.mk hc
      have HS := Aside0.mk (show stA (fun x y => decide (c x y < 0)) z35 N f b.toNat (insI (fun x y => decide (c x y < 0)) z35 a.toNat (a.toNat + 20) 21 (a.toNat + 1) ys) = r1 from by rw [← hs, show b.toNat = a.toNat + 20 by have := hin.out; omega])
      have HB2 := Aside0.mk (show b + 20 = b2 ∧ b ≤ (N : Int) from ⟨hb2, hb⟩)
      clear hs hc hb hb2
      go_wp2_with (first | (go_at_call 37; refine HC.out.mono ?_; rintro e w5 ⟨rfl, hR5, hB5⟩))
      go_roundg f
      case measure => omega
      case rel => exact ⟨b, b2, _, rfl, rfl, ⟨by have := hin.out; have := HB2.out; omega⟩, ⟨by rw [insI_len]; exact hyl.out⟩, HS, ⟨hR5⟩, ⟨HB.out.trans hB5⟩⟩
    · have d1 : decide (b ≤ (N : Int)) = false := decide_eq_false hb
      rw [if_neg (by have := hin.out; omega)] at hs
      have hc := HINS.out ys a N (N - a.toNat + 1) wr HR.out (by rw [hyl.out]; exact HN.out.2) (by have := hin.out; omega) (by have := hin.out; omega) (by rw [hyl.out]; exact Int.le_refl _) (by have := hin.out; omega) (by omega)
      rw [hyl.out, Int.toNat_natCast, show (a + 1).toNat = a.toNat + 1 by have := hin.out; omega, hs] at hc
      have HC := Aside0.mk hc
      clear hs hc hb
      go_wp2_with (first | (go_at_call 37; refine HC.out.mono ?_; rintro e w5 ⟨rfl, hR5, hB5⟩))
      clear d1 HC
      replace HR := Aside0.mk hR5
      replace HB := Aside0.mk (HB.out.trans hB5)
      clear hR5 hB5 hin hyl
      go_loopg [6] (N + 1) (fun kq v6 wr => ∃ (bs : Int) (ys : List S35), v6 = .int .i64 bs ∧ Aside0 (20 ≤ bs ∧ bs ≤ 2000020 ∧ (N : Int) < (kq : Int) + bs) ∧ Aside0 (ys.length = N) ∧ Aside0 (stB (fun x y => decide (c x y < 0)) z35 N kq bs.toNat ys = r) ∧ Aside0 (RowAt wr g ys) ∧ Aside0 (Below g w wr))
      case atStart => exact ⟨20, r1, rfl, ⟨by omega⟩, HL1, H2, HR, HB⟩
      case round =>
        clear H2 HR HB HL1
        obtain ⟨bs, ys, rfl, hin, hyl, HS, HR, HB⟩ := hrel
        cases gk with
        | zero =>
          have d1 : decide (bs < (N : Int)) = false := decide_eq_false (by have := hin.out; omega)
          have hs := HS.out
          simp only [stB] at hs
          subst hs
          clear HS
          go_wp2_with fail
          go_end0
          exact ⟨rfl, HR.out, HB.out⟩
        | succ f =>
        have hs := HS.out
        simp only [stB] at hs
        clear HS
        by_cases hb : bs < (N : Int)
        · have d1 : decide (bs < (N : Int)) = true := decide_eq_true hb
          rw [if_pos (by have := hin.out; omega)] at hs
          obtain ⟨b2, hb2⟩ : ∃ v, 2 * bs = v := ⟨_, rfl⟩
          have e1 : IntKind.i64.wrap (2 * bs) = b2 := by rw [← hb2]; exact IntWalk.i64_in _ (by have := hin.out; omega)
          have e2 : IntKind.i64.wrap (bs * 2) = b2 := by rw [← hb2, Int.mul_comm]; exact IntWalk.i64_in _ (by have := hin.out; omega)
          generalize hr3 : stP (fun x y => decide (c x y < 0)) z35 N bs.toNat (N + 1) 0 ys = r3 at hs
          have HL3 := Aside0.mk (show r3.length = N from by rw [← hr3, stP_len]; exact hyl.out)
          have H3 := Aside0.mk hr3
          have HS := Aside0.mk (show stB (fun x y => decide (c x y < 0)) z35 N f b2.toNat r3 = r from by rw [← hs, show b2.toNat = 2 * bs.toNat by omega])
          have HB2 := Aside0.mk (show 2 * bs = b2 ∧ bs < (N : Int) from ⟨hb2, hb⟩)
          clear hs hr3 hb hb2
          go_wp2_with fail
          clear d1
          go_loopg [7, 8] (N + 1) (fun kq v7 v8 wr => ∃ (a b : Int) (zs : List S35), v7 = .int .i64 a ∧ v8 = .int .i64 b ∧ Aside0 (b = a + b2 ∧ 0 ≤ a ∧ a ≤ (N : Int) ∧ (N : Int) - a < (kq : Int)) ∧ Aside0 (zs.length = N) ∧ Aside0 (stP (fun x y => decide (c x y < 0)) z35 N bs.toNat kq a.toNat zs = r3) ∧ Aside0 (RowAt wr g zs) ∧ Aside0 (Below g w wr))
          case atStart => exact ⟨0, b2, ys, rfl, rfl, ⟨by omega⟩, hyl, H3, HR, HB⟩
          case round =>
            clear H3 HR HB hyl
            obtain ⟨a, b, zs, rfl, rfl, han, hzl, HS3, HR, HB⟩ := hrel
            cases gk with
            | zero => have := han.out; exfalso; omega
            | succ f2 =>
            have hs := HS3.out
            simp only [stP] at hs
            clear HS3
            obtain ⟨mm, hmm⟩ : ∃ v, a + bs = v := ⟨_, rfl⟩
            have e3 : IntKind.i64.wrap (a + bs) = mm := by rw [← hmm]; exact IntWalk.i64_in _ (by have := hin.out; have := han.out; have := HN.out; omega)
            have HMM := Aside0.mk hmm
            clear hmm
            by_cases hc1 : b ≤ (N : Int)
            · have d1 : decide (b ≤ (N : Int)) = true := decide_eq_true hc1
              rw [if_pos (by have := hin.out; have := han.out; have := HB2.out; omega)] at hs
              obtain ⟨b9, hb9⟩ : ∃ v, b + b2 = v := ⟨_, rfl⟩
              have e4 : IntKind.i64.wrap (b + b2) = b9 := by rw [← hb9]; exact IntWalk.i64_in _ (by have := hin.out; have := HB2.out; have := HN.out; have := han.out; omega)
              have hc := HSYM.out (2 * bs.toNat + 1) zs a mm b wr HR.out (by rw [hzl.out]; exact HN.out.2) (by have := han.out; omega) (by have := hin.out; have := HMM.out; omega) (by have := hin.out; have := han.out; have := HMM.out; have := HB2.out; omega) (by rw [hzl.out]; exact hc1) (by have := hin.out; have := han.out; have := HB2.out; omega)
              rw [hzl.out, show mm.toNat = a.toNat + bs.toNat by have := hin.out; have := han.out; have := HMM.out; omega, show b.toNat = a.toNat + 2 * bs.toNat by have := hin.out; have := han.out; have := HB2.out; omega] at hc
              have HC := Aside0.mk hc
              have HS3 := Aside0.mk (show stP (fun x y => decide (c x y < 0)) z35 N bs.toNat f2 b.toNat (symL (fun x y => decide (c x y < 0)) z35 (2 * bs.toNat + 1) a.toNat (a.toNat + bs.toNat) (a.toNat + 2 * bs.toNat) zs) = r3 from by rw [← hs, show b.toNat = a.toNat + 2 * bs.toNat by have := hin.out; have := han.out; have := HB2.out; omega])
              have HB9 := Aside0.mk (show b + b2 = b9 ∧ b ≤ (N : Int) from ⟨hb9, hc1⟩)
              clear hs hc hc1 hb9
              go_wp2_with (first | (go_at_call 38; refine HC.out.mono ?_; rintro e w5 ⟨rfl, hR5, hB5⟩))
              go_roundg f2
              case measure => omega
              case rel => exact ⟨b, b9, _, rfl, rfl, ⟨by have := hin.out; have := han.out; have := HB2.out; have := HB9.out; omega⟩, ⟨by rw [symL_len]; exact hzl.out⟩, HS3, ⟨hR5⟩, ⟨HB.out.trans hB5⟩⟩
            · have d1 : decide (b ≤ (N : Int)) = false := decide_eq_false hc1
              rw [if_neg (by have := hin.out; have := han.out; have := HB2.out; omega)] at hs
              by_cases hc2 : mm < (N : Int)
              · have d2 : decide (mm < (N : Int)) = true := decide_eq_true hc2
                rw [if_pos (by have := hin.out; have := han.out; have := HMM.out; omega)] at hs
                have hc := HSYM.out (N - a.toNat + 1) zs a mm N wr HR.out (by rw [hzl.out]; exact HN.out.2) (by have := han.out; omega) (by have := hin.out; have := HMM.out; omega) hc2 (by rw [hzl.out]; exact Int.le_refl _) (by have := han.out; omega)
                rw [hzl.out, Int.toNat_natCast, show mm.toNat = a.toNat + bs.toNat by have := hin.out; have := han.out; have := HMM.out; omega, hs] at hc
                have HC := Aside0.mk hc
                clear hs hc hc1 hc2
                go_wp2_with (first | (go_at_call 38; refine HC.out.mono ?_; rintro e w5 ⟨rfl, hR5, hB5⟩))
                go_roundg f
                case measure => omega
                case rel => exact ⟨b2, r3, rfl, ⟨by have := hin.out; have := HB2.out; have := HN.out; omega⟩, HL3, HS, ⟨hR5⟩, ⟨HB.out.trans hB5⟩⟩
              · have d2 : decide (mm < (N : Int)) = false := decide_eq_false hc2
                rw [if_neg (by have := hin.out; have := han.out; have := HMM.out; omega)] at hs
                subst hs
                clear hc1 hc2
                go_wp2_with fail
                go_roundg f
                case measure => omega
                case rel => exact ⟨b2, _, rfl, ⟨by have := hin.out; have := HB2.out; have := HN.out; omega⟩, hzl, HS, HR, HB⟩
        · have d1 : decide (bs < (N : Int)) = false := decide_eq_false hb
          rw [if_neg (by have := hin.out; omega)] at hs
          subst hs
          clear hb
          go_wp2_with fail
          go_end0
          exact ⟨rfl, HR.out, HB.out⟩
set_option maxRecDepth 100000 in
set_option maxHeartbeats 4000000 in
theorem sort_any (g cap : Nat) (gi : Nat) (c : S35 → S35 → Int) (heg : ∀ args w, (callFunc gi args).run Try.prog w = .ok (.enter gi args) w) (hf : ∀ (x y : S35) (W : World), Calls Try.prog gi #[.agg (encP x).toArray, .agg (encP y).toArray] W fun e W' => e = .returned (.int .i64 (c x y)) ∧ Below W.heap.size W W') (xs : List S35) (w : World) (hR : RowAt w g xs) (hl : xs.length ≤ 1000000) :
    Calls Try.prog 21 #[.slice (some ⟨g, 0, none⟩) xs.length cap, .func (.func gi) #[] #[]] w fun e w' => e = .returned (.tuple #[]) ∧ RowAt w' g (stableL (fun x y => decide (c x y < 0)) z35 xs) ∧ Below g w w' := by
  have HC := Aside0.mk (stable_any g cap gi c heg hf xs w hR hl)
  obtain ⟨N, hN⟩ : ∃ N, N = xs.length := ⟨_, rfl⟩
  rw [← hN] at HC ⊢
  clear hR hf heg hN
  go_enter Try.func21, Try.ntmps21
  go_wp2_with (first | (go_at_call 34; refine HC.out.mono ?_; rintro e w5 ⟨rfl, hR5, hB5⟩))
  go_end0
  exact ⟨rfl, hR5, hB5⟩
-- Nothing to sort.
set_option maxRecDepth 100000 in
set_option maxHeartbeats 4000000 in
theorem ins_nil (A : Option Addr) (cap : Nat) (fv : Value) (w : World) : Calls Try.prog 37 #[.slice A 0 cap, .int .i64 0, .int .i64 0, fv] w fun e w' => e = .returned (.tuple #[]) ∧ Below w.heap.size w w' := by
  go_enter Try.func37, Try.ntmps37
  go_wp2_with fail
  go_loopg [8] 1 (fun kq v8 wr => v8 = .int .i64 1 ∧ Aside0 (Below w.heap.size w wr))
  case atStart => exact ⟨rfl, ⟨Below.refl _ _⟩⟩
  case round =>
    obtain ⟨rfl, HB⟩ := hrel
    go_wp2_with fail
    go_end0
    exact ⟨rfl, HB.out⟩
set_option maxRecDepth 100000 in
set_option maxHeartbeats 4000000 in
theorem sort_nil (A : Option Addr) (cap : Nat) (fv : Value) (w : World) : Calls Try.prog 21 #[.slice A 0 cap, fv] w fun e w' => e = .returned (.tuple #[]) ∧ Below w.heap.size w w' := by
  have hS : Calls Try.prog 34 #[.slice A 0 cap, .int .i64 0, fv] w fun e w' => e = .returned (.tuple #[]) ∧ Below w.heap.size w w' := by
    go_enter Try.func34, Try.ntmps34
    go_wp2_with fail
    go_loopg [7, 8] 1 (fun kq v7 v8 wr => v7 = .int .i64 0 ∧ v8 = .int .i64 20 ∧ Aside0 (Below w.heap.size w wr))
    case atStart => exact ⟨rfl, rfl, ⟨Below.refl _ _⟩⟩
    case round =>
      obtain ⟨rfl, rfl, HB⟩ := hrel
      go_wp2_with (first | (go_at_call 37; refine (ins_nil A cap fv _).mono ?_; rintro e w5 ⟨rfl, hB5⟩))
      replace HB := Aside0.mk (below_step HB.out hB5)
      clear hB5
      go_loopg [6] 1 (fun kq v6 wr => v6 = .int .i64 20 ∧ Aside0 (Below w.heap.size w wr))
      case atStart => exact ⟨rfl, HB⟩
      case round =>
        clear HB
        obtain ⟨rfl, HB⟩ := hrel
        go_wp2_with fail
        go_end0
        exact ⟨rfl, HB.out⟩
  have HC := Aside0.mk hS
  clear hS
  go_enter Try.func21, Try.ntmps21
  go_wp2_with (first | (go_at_call 34; refine HC.out.mono ?_; rintro e w5 ⟨rfl, hB5⟩))
  go_end0
  exact ⟨rfl, hB5⟩
end
section
open Go.Proofs.Ytfcdljnjhljjgaa.Hand
theorem eqNilS (A : Option Addr) (n c : Nat) (w : World) : (binOp BinOp.eql 24 (.slice A n c) (.slice none 0 0)).run Try.prog w = .ok (.bool A.isNone) w := by
  unfold binOp Op.equal
  rw [show Op.maxDepth = (Op.maxDepth - 1) + 1 from rfl]
  cases A <;> simp [Op.equalIn, run_underlying Try.underlying24, go_sem]
theorem part_info : (Try.prog.info? 35).map (fun i => (i.zero, i.size, i.bytes)) = some (some (.agg #[(.int .i64 0), (.int .i64 0), (.int .i64 0), (.int .u8 0)]), k35.sz, 32) := by kernel_rfl
attribute [local go_sem high] eqNilS
def api_Part_20.f (l0 : List S35) : Option (List S35) := if l0.length ≤ 1000000000000 then some l0 else none
set_option maxRecDepth 100000 in
set_option maxHeartbeats 4000000 in
theorem api_Part_20.calls (A0 : Option Addr) (c0 : Nat) (l0 : List S35) (r : List S35) (w : World) (hr0 : Kd.C k35 w A0 l0.length l0) (hc0 : l0.length ≤ c0) (h : api_Part_20.f l0 = some r) :
    Calls Try.prog 20 #[.slice A0 l0.length c0] w fun e w' => ∃ v0_ : Value, e = .returned (v0_) ∧ Kd.R k35 35 w' w.heap.size (fun _ => True) v0_ r ∧ Below w.heap.size w w' := by
  have hu := Try.underlying35
  have hu2 := Try.underlying24
  have HR0 := Aside0.mk hr0
  have HB := Aside0.mk (Below.refl w.heap.size w)
  unfold api_Part_20.f at h
  by_cases hl : l0.length ≤ 1000000000000
  · rw [if_pos hl] at h
    obtain rfl := Option.some.inj h
    clear h
    cases A0 with
    | none =>
      have hn : l0.length = 0 := by
        rcases Nat.eq_zero_or_pos l0.length with h0 | h0
        · exact h0
        · obtain ⟨ad, h, _⟩ := hr0.2.2 h0
          cases h
      obtain rfl : l0 = [] := List.eq_nil_of_length_eq_zero hn
      clear hr0 HR0
      go_enter Try.func20, Try.ntmps20
      go_wp2_with fail
      go_ret
      exact ⟨_, rfl, Kd.R_nil _ _ _ _ _, HB.out⟩
    | some ad =>
      clear hr0
      go_enter Try.func20, Try.ntmps20
      go_wp2_with (first
        | ((with_reducible refine gate_dst (N := 5) rfl ?_); refine Kd.R_lit k35 _ 35 ?hg (N := 5) ?hd (xs := ([] : List S35)) (inner := []) (ok := fun _ => True) (okp := fun _ => True) ?hr ?hp (fun _ hk => hk) trivial (Below.refl _ _) (Nat.le_refl _) (by simp) ?_; (case hd => rfl); (case hg => rfl); (case hr => first | (go_simp; done) | (go_simp; rfl)); (case hp => exact (Reps.none _ _)); intro v5 w5 ho hb hg_ hnew_; clear hg_ hnew_; have HO5 := Aside0.mk (Kd.R_lower ho (below_size (bw HB))); replace HB := bh HB hb; replace HR0 := Aside0.mk (Kd.C_below HR0.out hb); clear hb ho)
        | ((with_reducible refine gate_builtin (b := .append) (xs := #[.tmp 5, .tmp 6]) rfl ?_); at_builtin; refine Kd.R_append_rows k35 (Rr := k35.K _) (w0 := w) w.heap.size rfl (.tmp 5) (.tmp 6) 24 35 (.agg #[(.int .i64 0), (.int .i64 0), (.int .i64 0), (.int .u8 0)]) 32 rfl Try.underlying24 part_info rfl (by decide) (by omega) v5 [] l0 (some ad) l0.length c0 (fun _ => True) (fun _ => False) rfl rfl HO5.out HR0.out (fun x cs hk => by rw [k35_open hk]; exact k35_mkM _ _ _ x) (fun _ hk => hk.elim) (fun _ _ => trivial) HB.out (below_size HB.out) (by simp; omega) ?_; intro v6 w6 ho hb hg_ hat_; clear hg_ hat_; rw [List.nil_append] at ho; have HO6 := Aside0.mk ho; replace HB := Aside0.mk hb; clear ho hb))
      go_ret
      exact ⟨_, rfl, HO6.out, HB.out⟩
  · rw [if_neg hl] at h; cases h
end

end Go.Proofs.Ytfcdljnjhljjgaa.HSpan
