/- General laws: what an argument reads as, told of numbers, texts, lists and records: for rows of laws over structs and slices of structs. No condition of its own. -/
import Derived.Test.YtfcdljnjhljjgaaWWords
import Derived.Deep.Slices
import Derived.SizedLaws
namespace Go.Proofs.Ytfcdljnjhljjgaa.Hand
open Go Go.RowKit Go.Deep Go.Proofs.YtfcdljnjhljjgaaW.PrintWords

/-- Whatever reads at type t reads as the kind d tells; W: what is known of it. -/
def RdB {α : Type} (P : Program) (t : TypeId) (d : Kd α) (W : α → Prop) : Prop :=
  ∀ {H : Type} {enc : TypeId × Value → H} {w : World} {base : Nat} {spare : Nat → Bool} {held : Bool} {fuel : Nat} {cs : List Value} {x : DataW H × List MemPlace},
    DataW.trod enc P w base spare held fuel t cs = some x → (∀ n ∈ x.1.weights P t, n ≤ reachBytes) → ∃ y : α, d.K w y cs ∧ W y

theorem RdB.int {P : Program} {t : TypeId} {k : IntKind} (ht : P.underlying t = some (.int k)) : RdB P t (Kd.int k) (fun n => (Lit.int k n).wf = true) := by
  intro H enc w base spare held fuel cs x h _
  obtain ⟨n, rfl, _, hw⟩ := DataW.trod_int ht h
  exact ⟨n, rfl, hw⟩
theorem RdB.bool {P : Program} {t : TypeId} (ht : P.underlying t = some .bool) : RdB P t Kd.bool (fun _ => True) := by
  intro H enc w base spare held fuel cs x h _
  obtain ⟨b, rfl, _⟩ := DataW.trod_bool ht h
  exact ⟨b, rfl, trivial⟩
theorem RdB.string {P : Program} {t : TypeId} (ht : P.underlying t = some .string) : RdB P t Kd.string (fun s => s.size ≤ 140737488351232) := by
  intro H enc w base spare held fuel cs x h hw
  obtain ⟨s, rfl, rfl, _⟩ := DataW.trod_string ht h
  refine ⟨s, rfl, ?_⟩
  have := hw s.data.toList.length (by simp [DataW.weights])
  rw [Array.length_toList] at this
  exact this

theorem cells_at {w : World} {base : Nat} {a : Addr} {n : Nat} {cs : List Value} (h : w.cells? base a n = some cs) : cs.length = n ∧ ∀ i u, cs[i]? = some u → w.cell? (a.add i) = some u := by
  unfold World.cells? at h
  split at h
  · refine ⟨by simpa using mapM_some_length h, fun i u hu => ?_⟩
    have hi : i < cs.length := (List.getElem?_eq_some_iff.1 hu).1
    have hl := mapM_some_length h
    simp only [List.length_range] at hl
    have hlr : (List.range n)[i]? = some i := List.getElem?_range (by omega)
    have := mapM_some_get h i i hlr
    rw [this, hu]
  · cases h

theorem weights_all {H : Type} {P : Program} {e : TypeId} : ∀ {l : List (DataW H)} {d : DataW H}, d ∈ l → ∀ n ∈ d.weights P e, n ∈ DataW.weightsAll P e l
  | d0 :: l, d, hd, n, hn => by
    simp only [DataW.weightsAll, List.mem_append]
    rcases List.mem_cons.1 hd with rfl | hd
    · exact .inl hn
    · exact .inr (weights_all hd n hn)

theorem RdB.slice {α : Type} {P : Program} {t e : TypeId} {d : Kd α} {W : α → Prop} (B : Nat) (ht : P.underlying t = some (.slice e)) (hc : P.cellsOf e = d.sz) (hB : P.bytesOf e = B) (he : RdB P e d W) :
    RdB P t (Kd.slice e d) (fun xs => xs.length ≤ 9223372036854775807 ∧ xs.length * B ≤ 140737488351232 ∧ ∀ x ∈ xs, W x) := by
  intro H enc w base spare held fuel cs x h hw
  rcases open_slice ht h with ⟨rfl, rfl⟩ | ⟨a, len, cap, m, n, D, Pl, rfl, _, hl, hm, hmm, rfl, hx⟩
  · exact ⟨[], ⟨none, 0, rfl, Nat.le_refl _, rfl, by simp, fun h0 => absurd h0 (by simp)⟩, by simp, by simp, by simp⟩
  · have hlen : len ≤ m := by rw [hmm]; split <;> omega
    have hwt : ∀ n' ∈ (DataW.slice ((List.range len).map D) ((List.range (m - len)).map fun j => D (len + j))).weights P t, n' ≤ reachBytes := hw
    simp only [DataW.weights, ht, List.mem_cons, List.mem_append] at hwt
    have h1 := hwt _ (.inl rfl)
    have hel : ∀ i, i < len → ∃ y : α, ∃ c, c.length = d.sz ∧ d.K w y c ∧ W y ∧ ∀ j u, c[j]? = some u → w.cell? (a.add (i * d.sz + j)) = some u := fun i hi => by
      obtain ⟨c, hcc, htr⟩ := hx i (by omega)
      obtain ⟨y, hK, hWy⟩ := he htr (fun n' hn' => hwt n' (.inr (.inl (weights_all (List.mem_map.2 ⟨i, by simpa using hi, rfl⟩) n' hn'))))
      obtain ⟨hcl, hat⟩ := cells_at hcc
      rw [hc] at hcl hat
      exact ⟨y, c, hcl, hK, hWy, fun j u hu => by have := hat j u hu; rwa [Go.Deep.add_add] at this⟩
    have hex : ∃ xs : List α, xs.length = len ∧ ∀ i y, xs[i]? = some y → ∃ c, c.length = d.sz ∧ d.K w y c ∧ W y ∧ ∀ j u, c[j]? = some u → w.cell? (a.add (i * d.sz + j)) = some u := by
      clear hwt h1 hx hw h
      have : ∀ k, k ≤ len → ∃ xs : List α, xs.length = k ∧ ∀ i y, xs[i]? = some y → ∃ c, c.length = d.sz ∧ d.K w y c ∧ W y ∧ ∀ j u, c[j]? = some u → w.cell? (a.add (i * d.sz + j)) = some u := by
        intro k
        induction k with
        | zero => exact fun _ => ⟨[], rfl, fun i y hy => by simp at hy⟩
        | succ k ih =>
          intro hk
          obtain ⟨xs, hxl, hxs⟩ := ih (by omega)
          obtain ⟨y, c, h1, h2, h3, h4⟩ := hel k (by omega)
          refine ⟨xs ++ [y], by simp [hxl], fun i z hz => ?_⟩
          rcases Nat.lt_or_ge i xs.length with hi | hi
          · rw [List.getElem?_append_left hi] at hz
            exact hxs i z hz
          · rw [List.getElem?_append_right hi] at hz
            have hi0 : i - xs.length = 0 := by
              have := (List.getElem?_eq_some_iff.1 hz).1
              simp at this
              omega
            rw [hi0] at hz
            simp only [List.getElem?_cons_zero, Option.some.injEq] at hz
            subst hz
            obtain rfl : i = k := by omega
            exact ⟨c, h1, h2, h3, h4⟩
      exact this len (Nat.le_refl _)
    obtain ⟨xs, hxl, hxs⟩ := hex
    subst hxl
    refine ⟨xs, ⟨some a, cap, rfl, hl, rfl, by unfold maxLen at hm; omega, fun _ => ⟨a, rfl, fun j p hp => ?_⟩⟩, by unfold maxLen at hm; omega, ?_, fun x hxm => ?_⟩
    · obtain ⟨c, h1, h2, _, h4⟩ := hxs j p hp
      exact ⟨c, h1, h2, h4⟩
    · rw [hB] at h1
      simp only [List.length_map, List.length_range] at h1
      have h2 : xs.length * B ≤ (xs.length + (m - xs.length)) * B := Nat.mul_le_mul_right _ (by omega)
      have h3 : reachBytes = 140737488351232 := by decide
      omega
    · obtain ⟨i, hi⟩ := List.getElem?_of_mem hxm
      obtain ⟨_, _, _, h3, _⟩ := hxs i x hi
      exact h3

/-- Where field number i begins. -/
def offs (P : Program) : List TypeId → Nat → Nat
  | _, 0 => 0
  | [], _ => 0
  | t :: ts, i + 1 => P.cellsOf t + offs P ts i

/-- The fields ts, from cell o on, read as d tells. -/
def RdF {β : Type} (P : Program) (ts : List TypeId) (d : Kd β) (W : β → Prop) : Prop :=
  ∀ {H : Type} {enc : TypeId × Value → H} {w : World} {base : Nat} {spare : Nat → Bool} {held : Bool} {n : Nat} (cs : List Value) (xs : List (DataW H × List MemPlace)),
    cs.length = d.sz → xs.length = ts.length → (∀ i t, ts[i]? = some t → DataW.trod enc P w base spare held n t ((cs.drop (offs P ts i)).take (P.cellsOf t)) = xs[i]?) →
    (∀ (i : Nat) (t : TypeId) (x : DataW H × List MemPlace), ts[i]? = some t → xs[i]? = some x → ∀ m ∈ x.1.weights P t, m ≤ reachBytes) → ∃ y, d.K w y cs ∧ W y

theorem RdF.one {α : Type} {P : Program} {t : TypeId} {d : Kd α} {W : α → Prop} (hc : P.cellsOf t = d.sz) (h : RdB P t d W) : RdF P [t] d W := by
  intro H enc w base spare held n cs xs hl hxl htr hwt
  have h0 := htr 0 t rfl
  have hx : xs[0]? = some (xs[0]'(by simp at hxl; omega)) := List.getElem?_eq_getElem _
  simp only [offs, List.drop_zero] at h0
  rw [hc, ← hl, List.take_length, hx] at h0
  exact h h0 (hwt 0 t _ rfl hx)

theorem RdF.cons {α β : Type} {P : Program} {t : TypeId} {ts : List TypeId} {d : Kd α} {d' : Kd β} {W : α → Prop} {W' : β → Prop} (hc : P.cellsOf t = d.sz) (h : RdB P t d W) (h' : RdF P ts d' W') :
    RdF P (t :: ts) (Kd.pair d d') (fun x => W x.1 ∧ W' x.2) := by
  intro H enc w base spare held n cs xs hl hxl htr hwt
  have hl' : cs.length = d.sz + d'.sz := hl
  cases xs with
  | nil => simp at hxl
  | cons x xs =>
    have h0 := htr 0 t rfl
    simp only [offs, List.drop_zero, List.getElem?_cons_zero] at h0
    rw [hc] at h0
    obtain ⟨y, hK, hW⟩ := h h0 (hwt 0 t x rfl rfl)
    obtain ⟨y', hK', hW'⟩ := h' (cs.drop d.sz) xs (by simp; omega) (by simpa using hxl) (fun i u hu => by
      have := htr (i + 1) u (by simpa using hu)
      simp only [offs, List.getElem?_cons_succ] at this
      rw [hc] at this
      rw [List.drop_drop]
      exact this) (fun i u z hu hz => hwt (i + 1) u z (by simpa using hu) (by simpa using hz))
    exact ⟨(y, y'), ⟨cs.take d.sz, cs.drop d.sz, (List.take_append_drop _ _).symm, hK, hK'⟩, hW, hW'⟩

theorem RdB.struct {β γ : Type} {P : Program} {t : TypeId} {fs : Array Field} {ts : List TypeId} {d : Kd β} {W : β → Prop} (f : γ → β) (g : β → γ) (ht : P.underlying t = some (.struct fs)) (hts : fs.toList.map (·.type) = ts)
    (hof : fs.toList.map (·.offset) = (List.range ts.length).map (offs P ts)) (hsz : P.cellsOf t = d.sz) (hfg : ∀ y, f (g y) = y) (hF : RdF P ts d W) : RdB P t (Kd.iso d f) (fun x => W (f x)) := by
  intro H enc w base spare held fuel cs x h hw
  obtain ⟨xs, n, _, rfl, hl, hxl, hall⟩ := DataW.trod_struct ht h
  have hlen : ts.length = fs.size := by rw [← hts]; simp
  obtain ⟨y, hK, hW⟩ := hF (enc := enc) (w := w) (base := base) (spare := spare) (held := held) (n := n) cs xs (hl.trans hsz) (hxl.trans hlen.symm) (fun i u hu => by
      have hi : i < ts.length := (List.getElem?_eq_some_iff.1 hu).1
      have hfi : fs[i]? = some (fs[i]'(by omega)) := by simp
      have h1 := hall i _ hfi
      have e1 : (fs[i]'(by omega)).type = u := by
        have h2 : (fs.toList.map (·.type))[i]? = some u := by rw [hts]; exact hu
        simp only [List.getElem?_map, Array.getElem?_toList, hfi, Option.map_some, Option.some.injEq] at h2
        exact h2
      have e2 : (fs[i]'(by omega)).offset = offs P ts i := by
        have h2 : (fs.toList.map (·.offset))[i]? = ((List.range ts.length).map (offs P ts))[i]? := by rw [hof]
        simp only [List.getElem?_map, Array.getElem?_toList, hfi, Option.map_some, List.getElem?_range hi, Option.some.injEq] at h2
        exact h2
      rw [e1, e2] at h1
      exact h1) (fun i u z hu hz m hm => by
      refine hw m ?_
      simp only [DataW.weights, ht]
      rw [hts]
      exact DataW.weights_mem_each hu (by simp [hz]) m hm)
  exact ⟨g y, by show d.K w (f (g y)) cs; rw [hfg]; exact hK, by show W (f (g y)); rw [hfg]; exact hW⟩
theorem offs_same (P : Program) (e : TypeId) : ∀ n i, i < n → offs P (List.replicate n e) i = i * P.cellsOf e
  | _, 0, _ => by simp [offs]
  | 0, i + 1, h => by omega
  | n + 1, i + 1, h => by
    have ih := offs_same P e n i (by omega)
    show P.cellsOf e + offs P (List.replicate n e) i = _
    rw [ih, Nat.succ_mul, Nat.add_comm]

theorem weights_all' {H : Type} {P : Program} {e : TypeId} {l : List (DataW H)} {i : Nat} {d : DataW H} (hd : l[i]? = some d) : ∀ n ∈ d.weights P e, n ∈ DataW.weightsAll P e l :=
  weights_all (List.mem_of_getElem? hd)

/-- A small array, told as a record of its elements. -/
theorem RdB.array {β γ : Type} {P : Program} {t e : TypeId} {d : Kd β} {W : β → Prop} (m : Nat) (f : γ → β) (g : β → γ) (ht : P.underlying t = some (.array m e)) (hsz : P.cellsOf t = d.sz) (hfg : ∀ y, f (g y) = y) (hF : RdF P (List.replicate m e) d W) : RdB P t (Kd.iso d f) (fun x => W (f x)) := by
  intro H enc w base spare held fuel cs x h hw
  cases fuel with
  | zero => simp [DataW.trod] at h
  | succ n =>
    unfold DataW.trod at h
    rw [ht] at h
    have h' : ∃ xs : List (DataW H × List MemPlace), cs.length = P.cellsOf t ∧ ((List.range m).mapM fun i => DataW.trod enc P w base spare held n e ((cs.drop (i * P.cellsOf e)).take (P.cellsOf e))) = some xs ∧ x = (.agg (xs.map (·.1)), xs.flatMap (·.2)) := by
      revert h
      split <;> intro h <;> first | (simp at h; done) | skip
      all_goals (try simp_all)
      all_goals (try (obtain ⟨hl, xs, hp, hd⟩ := h; exact ⟨xs, hp, hd.symm⟩))
    obtain ⟨xs, hl, hp, rfl⟩ := h'
    have hxl : xs.length = m := by simpa using mapM_some_length hp
    obtain ⟨y, hK, hW⟩ := hF (enc := enc) (w := w) (base := base) (spare := spare) (held := held) (n := n) cs xs (hl.trans hsz) (by simp [hxl]) (fun i u hu => by
        have hi : i < m := by have := (List.getElem?_eq_some_iff.1 hu).1; simpa using this
        have hu' : u = e := by rw [List.getElem?_replicate] at hu; simp [hi] at hu; exact hu.symm
        subst hu'
        have := mapM_some_get hp i i (List.getElem?_range hi)
        rw [offs_same P u m i hi]
        exact this) (fun i u z hu hz k hk => by
        have hi : i < m := by have := (List.getElem?_eq_some_iff.1 hu).1; simpa using this
        have hu' : u = e := by rw [List.getElem?_replicate] at hu; simp [hi] at hu; exact hu.symm
        subst hu'
        refine hw k ?_
        simp only [DataW.weights, ht]
        exact weights_all' (i := i) (by simp [hz]) k hk)
    exact ⟨g y, by show d.K w (f (g y)) cs; rw [hfg]; exact hK, by show W (f (g y)); rw [hfg]; exact hW⟩

theorem sized_at {H : Type} {P : Program} {ts : List TypeId} {ds : List (DataW H)} {j : Nat} {t : TypeId} {d : DataW H} (hsz : (DataW.weightsEach P ts ds).all (· ≤ reachBytes) = true) (ht : ts[j]? = some t) (hd : ds[j]? = some d) :
    ∀ n ∈ d.weights P t, n ≤ reachBytes := fun n hn => by
  have := List.all_eq_true.1 hsz _ (DataW.weights_mem_each ht hd n hn)
  simpa using this
/-- An argument that is a slice. -/
theorem arg_slice {α H : Type} {enc : TypeId × Value → H} {P : Program} {W : World} {base : Nat} {spare : Nat → Bool} {held : Bool} {t e : TypeId} {d : Kd α} {V : List α → Prop} {a : Option Addr} {len cap : Nat} {x : DataW H} {ps : List MemPlace}
    (hr : RdB P t (Kd.slice e d) V) (h : DataW.Trod enc P W base spare held t (.slice a len cap) x ps) (hw : ∀ n ∈ x.weights P t, n ≤ reachBytes) : ∃ l, len = l.length ∧ l.length ≤ cap ∧ Kd.C d W a l.length l ∧ V l := by
  obtain ⟨fuel, hf⟩ := h
  obtain ⟨l, ⟨A, c, he, hc, hC⟩, hV⟩ := hr hf hw
  have he' : [Value.slice a len cap] = [.slice A l.length c] := he
  injection he' with he' _
  injection he' with h1 h2 h3
  subst h1 h2 h3
  exact ⟨l, rfl, hc, hC, hV⟩
/-- An argument that is a record. -/
theorem arg_struct {α H : Type} {enc : TypeId × Value → H} {P : Program} {W : World} {base : Nat} {spare : Nat → Bool} {held : Bool} {t : TypeId} {d : Kd α} {V : α → Prop} {cs : Array Value} {x : DataW H} {ps : List MemPlace}
    (hr : RdB P t d V) (h : DataW.Trod enc P W base spare held t (.agg cs) x ps) (hw : ∀ n ∈ x.weights P t, n ≤ reachBytes) : ∃ y, d.K W y cs.toList ∧ V y := by
  obtain ⟨fuel, hf⟩ := h
  exact hr hf hw
theorem okWide_array {P : Program} {w : World} {r : Reach} {base : Nat} {t n e : Nat} {v : Value} (ht : P.underlying t = some (.array n e)) (h : Value.okWide P w r base t v) : ∃ cs, v = .agg cs ∧ cs.size = P.cellsOf t := by
  simp only [Value.okWide, ht] at h
  obtain ⟨cs, h1, h2, _⟩ := h
  exact ⟨cs, h1, h2⟩
end Go.Proofs.Ytfcdljnjhljjgaa.Hand
