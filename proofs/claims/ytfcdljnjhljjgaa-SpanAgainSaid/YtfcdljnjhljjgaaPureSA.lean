/- Plain laws of chapter 20: a stable sort is one; what the interval is. No condition of its own. -/
import Derived.Test.YtfcdljnjhljjgaaHSpanx2
import Derived.Test.YtfcdljnjhljjgaaHSpanx3
import Derived.Test.YtfcdljnjhljjgaaHSpanx5
import Derived.Test.YtfcdljnjhljjgaaHSpanx7
import Derived.Test.YtfcdljnjhljjgaaSaySpan
import Derived.Test.YtfcdljnjhljjgaaHand6
namespace Go.Proofs.Ytfcdljnjhljjgaa.PureF
set_option linter.unusedVariables false
set_option linter.unusedSimpArgs false
open Go.RowKit Go.Proofs.YtfcdljnjhljjgaaW.PrintWords Go.Proofs.YtfcdljnjhljjgaaW.PrintLast Go.Proofs.YtfcdljnjhljjgaaW.PrintMore Go.Proofs.Ytfcdljnjhljjgaa.Hand Go.Proofs.Ytfcdljnjhljjgaa.HSpan
/-! #### What it is: in order, and things that are alike stay in theirs -/
section
variable {α : Type} (k : α → Int)
def St (A B : List α) : Prop := ∀ h : Int, A.filter (fun x => decide (k x = h)) = B.filter (fun x => decide (k x = h))
def So (A : List α) : Prop := A.Pairwise (fun x y => k x ≤ k y)
def ltK (x y : α) : Bool := decide (k x < k y)
variable {k}
theorem St.rfl_ (A : List α) : St k A A := fun _ => rfl
theorem St.trans {A B C : List α} (h1 : St k A B) (h2 : St k B C) : St k A C := fun h => (h1 h).trans (h2 h)
theorem St.symm {A B : List α} (h1 : St k A B) : St k B A := fun h => (h1 h).symm
theorem St.app {A A' B B' : List α} (h1 : St k A A') (h2 : St k B B') : St k (A ++ B) (A' ++ B') := fun h => by rw [List.filter_append, List.filter_append, h1 h, h2 h]
theorem St.swap {A B : List α} (hd : ∀ x ∈ A, ∀ y ∈ B, k x ≠ k y) : St k (A ++ B) (B ++ A) := fun h => by
  rw [List.filter_append, List.filter_append]
  by_cases hA : A.filter (fun x => decide (k x = h)) = []
  · rw [hA, List.nil_append, List.append_nil]
  · have hB : B.filter (fun x => decide (k x = h)) = [] := by
      obtain ⟨x, hx⟩ := List.exists_mem_of_ne_nil _ hA
      have hx := List.mem_filter.1 hx
      refine List.filter_eq_nil_iff.2 fun y hy => ?_
      have h1 := hd x hx.1 y hy
      have h2 := of_decide_eq_true hx.2
      simp only [decide_eq_true_eq]
      omega
    rw [hB, List.nil_append, List.append_nil]
theorem St.mem {A B : List α} (h : St k A B) {x : α} (hx : x ∈ A) : x ∈ B := by
  have h1 : x ∈ A.filter (fun y => decide (k y = k x)) := List.mem_filter.2 ⟨hx, by simp⟩
  rw [h (k x)] at h1
  exact (List.mem_filter.1 h1).1
theorem So.app {A B : List α} (h1 : So k A) (h2 : So k B) (h3 : ∀ x ∈ A, ∀ y ∈ B, k x ≤ k y) : So k (A ++ B) := List.pairwise_append.2 ⟨h1, h2, h3⟩
theorem So.left {A B : List α} (h : So k (A ++ B)) : So k A := (List.pairwise_append.1 h).1
theorem So.right {A B : List α} (h : So k (A ++ B)) : So k B := (List.pairwise_append.1 h).2.1
theorem So.le {A B : List α} (h : So k (A ++ B)) : ∀ x ∈ A, ∀ y ∈ B, k x ≤ k y := (List.pairwise_append.1 h).2.2
theorem So.one (x : α) : So k [x] := List.pairwise_singleton _ _
/-- From things to the same in order. -/
def Sorts (k : α → Int) (A B : List α) : Prop := So k B ∧ St k A B ∧ B.length = A.length
variable {d : α}
theorem get_mid (P : List α) (x : α) (S : List α) : (P ++ x :: S).getD P.length d = x := by simp [List.getD]
theorem set_mid2 (P : List α) (x y : α) (S : List α) : (P ++ x :: S).set P.length y = P ++ y :: S := by simp
theorem get_at {P : List α} {x : α} {S xs : List α} {i : Nat} (he : xs = P ++ x :: S) (hi : i = P.length) : xs.getD i d = x := by rw [he, hi, get_mid]
theorem swp_mid (P M S : List α) (x y : α) : swpL d (P ++ x :: (M ++ y :: S)) P.length (P.length + 1 + M.length) = P ++ y :: (M ++ x :: S) := by
  unfold swpL
  have e : P ++ x :: (M ++ y :: S) = (P ++ x :: M) ++ y :: S := by simp
  have e2 : P.length + 1 + M.length = (P ++ x :: M).length := by simp <;> omega
  have h1 : (P ++ x :: (M ++ y :: S)).getD (P.length + 1 + M.length) d = y := by rw [e, e2, get_mid]
  rw [h1, get_mid, set_mid2]
  have e3 : P ++ y :: (M ++ y :: S) = (P ++ y :: M) ++ y :: S := by simp
  have e4 : P.length + 1 + M.length = (P ++ y :: M).length := by simp <;> omega
  rw [e3, e4, set_mid2]
  simp
theorem swp_mid' (P M S : List α) (x y : α) : swpL d (P ++ x :: (M ++ y :: S)) (P.length + 1 + M.length) P.length = P ++ y :: (M ++ x :: S) := by
  unfold swpL
  have e : P ++ x :: (M ++ y :: S) = (P ++ x :: M) ++ y :: S := by simp
  have e2 : P.length + 1 + M.length = (P ++ x :: M).length := by simp <;> omega
  have h1 : (P ++ x :: (M ++ y :: S)).getD (P.length + 1 + M.length) d = y := by rw [e, e2, get_mid]
  rw [h1, get_mid]
  have h2 : (P ++ x :: (M ++ y :: S)).set (P.length + 1 + M.length) x = P ++ x :: (M ++ x :: S) := by rw [e, e2, set_mid2]; simp
  rw [h2, set_mid2]
theorem swp_len (xs : List α) (i j : Nat) : (swpL d xs i j).length = xs.length := by unfold swpL; simp
/-- The inner loop of an insertion sort. -/
theorem insJ_spec (P : List α) : ∀ (n : Nat) (A : List α) (x : α) (S : List α), A.length < n → So k A → ∃ A', insJ (ltK k) d P.length n (P.length + A.length) (P ++ (A ++ x :: S)) = P ++ (A' ++ S) ∧ Sorts k (A ++ [x]) A'
  | 0, A, x, S, h, _ => by omega
  | n + 1, A, x, S, h, hs => by
    rcases List.eq_nil_or_concat A with rfl | ⟨A0, y, rfl⟩
    · refine ⟨[x], ?_, So.one x, St.rfl_ _, rfl⟩
      simp [insJ]
    · rw [List.concat_eq_append] at hs h ⊢
      have hlen : (A0 ++ [y]).length = A0.length + 1 := by simp
      have hx : (P ++ (A0 ++ [y] ++ x :: S)).getD (P.length + (A0 ++ [y]).length) d = x := get_at (P := P ++ (A0 ++ [y])) (x := x) (S := S) (by simp) (by simp)
      have hy : (P ++ (A0 ++ [y] ++ x :: S)).getD (P.length + (A0 ++ [y]).length - 1) d = y := get_at (P := P ++ A0) (x := y) (S := x :: S) (by simp) (by simp <;> omega)
      unfold insJ
      rw [if_pos (by rw [hlen]; omega), hx, hy]
      unfold ltK
      by_cases hlt : k x < k y
      · rw [if_pos (decide_eq_true hlt)]
        have hsw : swpL d (P ++ (A0 ++ [y] ++ x :: S)) (P.length + (A0 ++ [y]).length) (P.length + (A0 ++ [y]).length - 1) = P ++ (A0 ++ x :: (y :: S)) := by
          have := swp_mid' (d := d) (P ++ A0) [] S y x
          have e1 : P.length + (A0 ++ [y]).length = (P ++ A0).length + 1 + ([] : List α).length := by simp <;> omega
          have e2 : P.length + (A0 ++ [y]).length - 1 = (P ++ A0).length := by simp <;> omega
          rw [e2, e1]
          simpa using this
        rw [hsw, show P.length + (A0 ++ [y]).length - 1 = P.length + A0.length by rw [hlen]; omega]
        obtain ⟨A', e, h1, h2, h3⟩ := insJ_spec P n A0 x (y :: S) (by rw [hlen] at h; omega) hs.left
        unfold ltK at e
        refine ⟨A' ++ [y], by rw [e]; simp, h1.app (So.one y) (fun z hz y' hy' => ?_), ?_, by simp [h3]⟩
        · rw [List.mem_singleton.1 hy']
          have := h2.symm.mem hz
          rcases List.mem_append.1 this with h4 | h4
          · exact hs.le z h4 y (List.mem_singleton.2 rfl)
          · rw [List.mem_singleton.1 h4]; omega
        · have e1 : St k (A0 ++ ([y] ++ [x])) (A0 ++ ([x] ++ [y])) := (St.rfl_ A0).app (St.swap (fun a ha b hb => by rw [List.mem_singleton.1 ha, List.mem_singleton.1 hb]; omega))
          have e2 : St k ((A0 ++ [x]) ++ [y]) (A' ++ [y]) := h2.app (St.rfl_ _)
          rw [List.append_assoc] at e2 ⊢
          exact e1.trans e2
      · rw [if_neg (by simpa using hlt)]
        refine ⟨A0 ++ [y] ++ [x], by simp, hs.app (So.one x) (fun z hz x' hx' => ?_), St.rfl_ _, rfl⟩
        rw [List.mem_singleton.1 hx']
        rcases List.mem_append.1 hz with h4 | h4
        · have := hs.le z h4 y (List.mem_singleton.2 rfl); omega
        · rw [List.mem_singleton.1 h4]; omega
theorem insI_spec (P : List α) : ∀ (n : Nat) (A B S : List α), B.length < n → So k A → ∃ A', insI (ltK k) d P.length (P.length + A.length + B.length) n (P.length + A.length) (P ++ (A ++ (B ++ S))) = P ++ (A' ++ S) ∧ Sorts k (A ++ B) A'
  | 0, A, B, S, h, _ => by omega
  | n + 1, A, [], S, h, hs => ⟨A, by unfold insI; rw [if_neg (by simp)]; simp, hs, by rw [List.append_nil]; exact St.rfl_ _, by simp⟩
  | n + 1, A, x :: B, S, h, hs => by
    unfold insI
    rw [if_pos (by simp only [List.length_cons]; omega)]
    obtain ⟨A1, e1, h1, h2, h3⟩ := insJ_spec (k := k) (d := d) P (P.length + A.length + 1) A x (B ++ S) (by omega) hs
    rw [show P ++ (A ++ (x :: B ++ S)) = P ++ (A ++ x :: (B ++ S)) by simp, e1]
    obtain ⟨A', e2, h4, h5, h6⟩ := insI_spec P n A1 B S (by simp only [List.length_cons] at h; omega) h1
    simp only [List.length_append, List.length_singleton] at h3
    rw [h3] at e2
    refine ⟨A', ?_, h4, ?_, ?_⟩
    · rw [← e2]
      simp only [List.length_cons]
      congr 1 <;> omega
    · have e3 : St k ((A ++ [x]) ++ B) (A1 ++ B) := h2.app (St.rfl_ _)
      rw [List.append_assoc] at e3
      exact e3.trans h5
    · rw [h6]; simp [h3]; omega
/-- By halves: the first of which something is so. -/
theorem bs_spec (p : Nat → Bool) (lo hi : Nat) (hm : ∀ a b, lo ≤ a → a ≤ b → b < hi → p a = true → p b = true) : ∀ (n i j : Nat), lo ≤ i → i ≤ j → j ≤ hi → j - i < n → (∀ q, lo ≤ q → q < i → p q = false) → (∀ q, j ≤ q → q < hi → p q = true) →
    lo ≤ bsL p n i j ∧ bsL p n i j ≤ hi ∧ (∀ q, lo ≤ q → q < bsL p n i j → p q = false) ∧ (∀ q, bsL p n i j ≤ q → q < hi → p q = true)
  | 0, i, j, h0, h1, h2, h3, _, _ => by omega
  | n + 1, i, j, h0, h1, h2, h3, h4, h5 => by
    unfold bsL
    by_cases hij : i < j
    · rw [if_pos hij]
      cases hp : p ((i + j) / 2) with
      | true =>
        rw [if_pos rfl]
        exact bs_spec p lo hi hm n i ((i + j) / 2) h0 (by omega) (by omega) (by omega) h4 (fun q h6 h7 => hm _ q (by omega) h6 h7 hp)
      | false =>
        rw [if_neg (by decide)]
        refine bs_spec p lo hi hm n ((i + j) / 2 + 1) j (by omega) (by omega) h2 (by omega) (fun q h6 h7 => ?_) h5
        cases hq : p q with
        | false => rfl
        | true =>
          have := hm q ((i + j) / 2) h6 (by omega) (by omega) hq
          rw [hp] at this
          cases this
    · rw [if_neg hij]
      obtain rfl : i = j := by omega
      exact ⟨h0, h2, h4, h5⟩
theorem bs_all (p : Nat → Bool) (lo hi n : Nat) (hm : ∀ a b, lo ≤ a → a ≤ b → b < hi → p a = true → p b = true) (hle : lo ≤ hi) (hn : hi - lo < n) : lo ≤ bsL p n lo hi ∧ bsL p n lo hi ≤ hi ∧ (∀ q, lo ≤ q → q < bsL p n lo hi → p q = false) ∧ (∀ q, bsL p n lo hi ≤ q → q < hi → p q = true) :=
  bs_spec p lo hi hm n lo hi (Nat.le_refl _) hle (Nat.le_refl _) hn (fun q h1 h2 => by omega) (fun q h1 h2 => by omega)
theorem mvR_spec (P S : List α) (x : α) : ∀ (n : Nat) (B1 B2 : List α), B2.length < n → mvR d (P.length + B1.length + B2.length + 1) n (P.length + B1.length) (P ++ (B1 ++ x :: (B2 ++ S))) = P ++ (B1 ++ (B2 ++ x :: S))
  | 0, _, _, h => by omega
  | n + 1, B1, [], h => by
    unfold mvR
    rw [if_neg (by simp)]
    simp
  | n + 1, B1, y :: B2, h => by
    unfold mvR
    rw [if_pos (by simp only [List.length_cons]; omega)]
    have hsw : swpL d (P ++ (B1 ++ x :: (y :: B2 ++ S))) (P.length + B1.length) (P.length + B1.length + 1) = P ++ ((B1 ++ [y]) ++ x :: (B2 ++ S)) := by
      have := swp_mid (d := d) (P ++ B1) [] (B2 ++ S) x y
      simpa using this
    rw [hsw]
    have := mvR_spec P S x n (B1 ++ [y]) B2 (by simp only [List.length_cons] at h; omega)
    simp only [List.length_append, List.length_singleton, List.append_assoc, List.singleton_append, List.length_cons, List.cons_append, List.nil_append, List.length_nil, Nat.zero_add] at this ⊢
    rw [← this]
    congr 1 <;> omega
theorem mvL_spec (P S : List α) (y : α) : ∀ (n : Nat) (A2 : List α) (S2 : List α), A2.length < n → mvL d P.length n (P.length + A2.length) (P ++ (A2 ++ y :: S2)) = P ++ y :: (A2 ++ S2)
  | 0, _, _, h => by omega
  | n + 1, A2, S2, h => by
    rcases List.eq_nil_or_concat A2 with rfl | ⟨A0, z, rfl⟩
    · unfold mvL
      rw [if_neg (by simp)]
      simp
    · rw [List.concat_eq_append] at h ⊢
      unfold mvL
      rw [if_pos (by simp)]
      have hsw : swpL d (P ++ (A0 ++ [z] ++ y :: S2)) (P.length + (A0 ++ [z]).length) (P.length + (A0 ++ [z]).length - 1) = P ++ (A0 ++ y :: (z :: S2)) := by
        have := swp_mid' (d := d) (P ++ A0) [] S2 z y
        have e1 : P.length + (A0 ++ [z]).length = (P ++ A0).length + 1 + ([] : List α).length := by simp <;> omega
        have e2 : P.length + (A0 ++ [z]).length - 1 = (P ++ A0).length := by simp <;> omega
        rw [e2, e1]
        simpa using this
      rw [hsw, show P.length + (A0 ++ [z]).length - 1 = P.length + A0.length by simp <;> omega]
      rw [mvL_spec P S y n A0 (z :: S2) (by simp at h; omega)]
      simp
theorem swr_spec (P M S : List α) : ∀ (f : Nat) (U1 V1 U V : List α), U.length = V.length → U1.length = V1.length → U.length < f →
    swrL d P.length (P.length + (V1.length + U.length) + M.length) (V1.length + U.length) f V1.length (P ++ (V1 ++ (U ++ (M ++ (U1 ++ (V ++ S)))))) = P ++ (V1 ++ (V ++ (M ++ (U1 ++ (U ++ S)))))
  | 0, _, _, _, _, _, _, h => by omega
  | f + 1, U1, V1, [], V, h1, h2, h => by
    have : V = [] := List.eq_nil_of_length_eq_zero (by simpa using h1.symm)
    subst this
    unfold swrL
    rw [if_neg (by simp)]
  | f + 1, U1, V1, x :: U, [], h1, h2, h => by simp at h1
  | f + 1, U1, V1, x :: U, y :: V, h1, h2, h => by
    unfold swrL
    rw [if_pos (by simp only [List.length_cons]; omega)]
    have hsw : swpL d (P ++ (V1 ++ (x :: U ++ (M ++ (U1 ++ (y :: V ++ S)))))) (P.length + V1.length) (P.length + (V1.length + (x :: U).length) + M.length + V1.length) = P ++ ((V1 ++ [y]) ++ (U ++ (M ++ ((U1 ++ [x]) ++ (V ++ S))))) := by
      have := swp_mid (d := d) (P ++ V1) (U ++ (M ++ U1)) (V ++ S) x y
      have e1 : P.length + V1.length = (P ++ V1).length := by simp
      have e2 : P.length + (V1.length + (x :: U).length) + M.length + V1.length = (P ++ V1).length + 1 + (U ++ (M ++ U1)).length := by simp <;> omega
      rw [e1, e2]
      simpa using this
    rw [hsw]
    have := swr_spec P M S f (U1 ++ [x]) (V1 ++ [y]) U V (by simpa using h1) (by simpa using h2) (by simp at h; omega)
    simp only [List.length_append, List.length_singleton, List.append_assoc, List.singleton_append, List.length_cons, List.cons_append, List.nil_append, List.length_nil, Nat.zero_add] at this ⊢
    rw [← this]
    congr 1 <;> omega
theorem swr_all (P U M V S : List α) (f : Nat) (h : U.length = V.length) (hf : U.length < f) : swrL d P.length (P.length + U.length + M.length) U.length f 0 (P ++ (U ++ (M ++ (V ++ S)))) = P ++ (V ++ (M ++ (U ++ S))) := by
  have := swr_spec (d := d) P M S f [] [] U V h rfl hf
  simpa using this
theorem split_at (U : List α) (n : Nat) (h : n ≤ U.length) : ∃ U1 U2, U = U1 ++ U2 ∧ U1.length = n := ⟨U.take n, U.drop n, (List.take_append_drop n U).symm, by rw [List.length_take]; omega⟩
theorem rotJ_spec : ∀ (f : Nat) (P U V S : List α), 0 < U.length → 0 < V.length → U.length + V.length < f → rotJ d (P.length + U.length) f U.length V.length (P ++ (U ++ (V ++ S))) = P ++ (V ++ (U ++ S))
  | 0, _, _, _, _, _, _, h => by omega
  | f + 1, P, U, V, S, hu, hv, h => by
    unfold rotJ
    by_cases he : U.length = V.length
    · rw [if_pos he, show P.length + U.length - U.length = P.length by omega]
      have := swr_all (d := d) P U [] V S (U.length + 1) he (by omega)
      simpa using this
    · rw [if_neg he]
      by_cases hlt : V.length < U.length
      · rw [if_pos hlt, show P.length + U.length - U.length = P.length by omega]
        obtain ⟨U1, U2, rfl, h1⟩ := split_at U V.length (by omega)
        have := swr_all (d := d) P U1 U2 V S (V.length + 1) h1 (by omega)
        rw [h1] at this
        rw [List.length_append] at hlt h ⊢
        rw [h1] at h hlt ⊢
        rw [show P.length + (V.length + U2.length) = P.length + V.length + U2.length by omega, List.append_assoc, this]
        have h2 := rotJ_spec f (P ++ V) U2 U1 S (by omega) (by omega) (by omega)
        rw [List.length_append, h1] at h2
        rw [show V.length + U2.length - V.length = U2.length by omega]
        simpa using h2
      · rw [if_neg hlt, show P.length + U.length - U.length = P.length by omega]
        obtain ⟨V1, V2, rfl, h1⟩ := split_at V (V.length - U.length) (by omega)
        rw [List.length_append] at h1 hlt h ⊢
        have hV2 : U.length = V2.length := by omega
        have := swr_all (d := d) P U V1 V2 S (U.length + 1) hV2 (by omega)
        rw [show P.length + U.length + (V1.length + V2.length) - U.length = P.length + U.length + V1.length by omega, List.append_assoc, this]
        have h2 := rotJ_spec f P V2 V1 (U ++ S) (by omega) (by rw [List.length_append] at he; omega) (by omega)
        rw [← hV2] at h2
        rw [show V1.length + V2.length - U.length = V1.length by omega, h2]
        simp
theorem rotL_spec (P U V S : List α) (hu : 0 < U.length) (hv : 0 < V.length) : rotL d P.length (P.length + U.length) (P.length + U.length + V.length) (P ++ (U ++ (V ++ S))) = P ++ (V ++ (U ++ S)) := by
  unfold rotL
  rw [show P.length + U.length - P.length = U.length by omega, show P.length + U.length + V.length - (P.length + U.length) = V.length by omega]
  exact rotJ_spec _ P U V S hu hv (by omega)
end
section
variable {α : Type} {k : α → Int} {d : α}
theorem so_get {B : List α} (h : So k B) {i j : Nat} (hij : i ≤ j) (hj : j < B.length) : k (B.getD i d) ≤ k (B.getD j d) := by
  rw [List.getD_eq_getElem?_getD, List.getD_eq_getElem?_getD, List.getElem?_eq_getElem hj, List.getElem?_eq_getElem (by omega)]
  by_cases he : i = j
  · subst he; exact Int.le_refl _
  · exact List.pairwise_iff_getElem.1 h i j (by omega) hj (by omega)
theorem get_seg (P B S : List α) {q : Nat} (h0 : P.length ≤ q) (h1 : q < P.length + B.length) : (P ++ (B ++ S)).getD q d = B.getD (q - P.length) d := by
  rw [List.getD_eq_getElem?_getD, List.getD_eq_getElem?_getD, List.getElem?_append_right h0, List.getElem?_append_left (by omega)]
theorem seg_split (B : List α) (t : Nat) (ht : t ≤ B.length) (Q R : α → Prop) (h1 : ∀ q, q < t → Q (B.getD q d)) (h2 : ∀ q, t ≤ q → q < B.length → R (B.getD q d)) :
    ∃ B1 B2, B = B1 ++ B2 ∧ B1.length = t ∧ (∀ y ∈ B1, Q y) ∧ (∀ y ∈ B2, R y) := by
  obtain ⟨B1, B2, rfl, hl⟩ := split_at B t ht
  refine ⟨B1, B2, rfl, hl, fun y hy => ?_, fun y hy => ?_⟩
  · obtain ⟨q, hq, rfl⟩ := List.mem_iff_getElem.1 hy
    have := h1 q (by omega)
    rw [List.getD_eq_getElem?_getD, List.getElem?_append_left hq, List.getElem?_eq_getElem hq] at this
    exact this
  · obtain ⟨q, hq, rfl⟩ := List.mem_iff_getElem.1 hy
    have := h2 (t + q) (by omega) (by rw [List.length_append]; omega)
    rw [List.getD_eq_getElem?_getD, List.getElem?_append_right (by omega), show t + q - B1.length = q by omega, List.getElem?_eq_getElem hq] at this
    exact this
theorem sorts_none {A B : List α} (hA : So k A) (hB : So k B) (h : A = [] ∨ B = []) : Sorts k (A ++ B) (A ++ B) := by
  rcases h with rfl | rfl
  · exact ⟨by simpa using hB, St.rfl_ _, rfl⟩
  · exact ⟨by simpa using hA, St.rfl_ _, rfl⟩
theorem sym_one1 (P : List α) (x : α) (B S : List α) (n : Nat) (hB : So k B) (hn : B.length < n) :
    ∃ C, mvR d (bsL (fun h => !(ltK k ((P ++ ([x] ++ (B ++ S))).getD h d) ((P ++ ([x] ++ (B ++ S))).getD P.length d))) (B.length + 1) (P.length + 1) (P.length + 1 + B.length)) n P.length (P ++ ([x] ++ (B ++ S))) = P ++ (C ++ S) ∧ Sorts k ([x] ++ B) C := by
  have hx : (P ++ ([x] ++ (B ++ S))).getD P.length d = x := get_at (P := P) (x := x) (S := B ++ S) rfl rfl
  have hb : ∀ h, P.length + 1 ≤ h → h < P.length + 1 + B.length → (P ++ ([x] ++ (B ++ S))).getD h d = B.getD (h - (P.length + 1)) d := fun h h0 h1 => by
    have := get_seg (d := d) (P ++ [x]) B S (q := h) (by simp; omega) (by simp; omega)
    rw [← List.append_assoc, this]
    simp
  have hs := bs_all (fun h => !(ltK k ((P ++ ([x] ++ (B ++ S))).getD h d) ((P ++ ([x] ++ (B ++ S))).getD P.length d))) (P.length + 1) (P.length + 1 + B.length) (B.length + 1) (fun u v h0 h1 h2 h3 => by
    simp only [hx, hb u h0 (by omega), hb v (by omega) h2, ltK, Bool.not_eq_true', decide_eq_false_iff_not] at h3 ⊢
    have := so_get (d := d) hB (i := u - (P.length + 1)) (j := v - (P.length + 1)) (by omega) (by omega)
    omega) (by omega) (by omega)
  generalize bsL (fun h => !(ltK k ((P ++ ([x] ++ (B ++ S))).getD h d) ((P ++ ([x] ++ (B ++ S))).getD P.length d))) (B.length + 1) (P.length + 1) (P.length + 1 + B.length) = i at hs ⊢
  obtain ⟨i0, i1, i2, i3⟩ := hs
  obtain ⟨B1, B2, rfl, hl, h1, h2⟩ := seg_split (d := d) B (i - (P.length + 1)) (by omega) (fun y => k y < k x) (fun y => k x ≤ k y) (fun q hq => by
    have := i2 (q + (P.length + 1)) (by omega) (by omega)
    simp only [hx, hb (q + (P.length + 1)) (by omega) (by omega), ltK, Bool.not_eq_false', decide_eq_true_eq, Nat.add_sub_cancel] at this
    exact this) (fun q hq hq2 => by
    have := i3 (q + (P.length + 1)) (by omega) (by omega)
    simp only [hx, hb (q + (P.length + 1)) (by omega) (by omega), ltK, Bool.not_eq_true', decide_eq_false_iff_not, Nat.add_sub_cancel] at this
    omega)
  have := mvR_spec (d := d) P (B2 ++ S) x n [] B1 (by rw [List.length_append] at hn; omega)
  refine ⟨B1 ++ x :: B2, ?_, ?_, ?_, ?_⟩
  · rw [show i = P.length + ([] : List α).length + B1.length + 1 by simp; omega]
    simpa using this
  · have e : So k (B1 ++ ([x] ++ B2)) := hB.left.app ((So.one x).app hB.right (fun z hz y hy => by rw [List.mem_singleton.1 hz]; exact h2 y hy)) (fun z hz y hy => by
      rcases List.mem_append.1 hy with h | h
      · rw [List.mem_singleton.1 h]; have := h1 z hz; omega
      · have := h1 z hz; have := h2 y h; omega)
    simpa using e
  · have e : St k (([x] ++ B1) ++ B2) ((B1 ++ [x]) ++ B2) := (St.swap (fun z hz y hy => by rw [List.mem_singleton.1 hz]; have := h1 y hy; omega)).app (St.rfl_ _)
    simpa using e
  · simp <;> omega
theorem sym_one2 (P A : List α) (y : α) (S : List α) (n : Nat) (hA : So k A) (hn : A.length < n) :
    ∃ C, mvL d (bsL (fun h => ltK k ((P ++ (A ++ ([y] ++ S))).getD (P.length + A.length) d) ((P ++ (A ++ ([y] ++ S))).getD h d)) (A.length + 1) P.length (P.length + A.length)) n (P.length + A.length) (P ++ (A ++ ([y] ++ S))) = P ++ (C ++ S) ∧ Sorts k (A ++ [y]) C := by
  have hy : (P ++ (A ++ ([y] ++ S))).getD (P.length + A.length) d = y := get_at (P := P ++ A) (x := y) (S := S) (by simp) (by simp)
  have ha : ∀ h, P.length ≤ h → h < P.length + A.length → (P ++ (A ++ ([y] ++ S))).getD h d = A.getD (h - P.length) d := fun h h0 h1 => get_seg (d := d) P A ([y] ++ S) h0 h1
  have hs := bs_all (fun h => ltK k ((P ++ (A ++ ([y] ++ S))).getD (P.length + A.length) d) ((P ++ (A ++ ([y] ++ S))).getD h d)) P.length (P.length + A.length) (A.length + 1) (fun u v h0 h1 h2 h3 => by
    simp only [hy, ha u h0 (by omega), ha v (by omega) h2, ltK, decide_eq_true_eq] at h3 ⊢
    have := so_get (d := d) hA (i := u - P.length) (j := v - P.length) (by omega) (by omega)
    omega) (by omega) (by omega)
  generalize bsL (fun h => ltK k ((P ++ (A ++ ([y] ++ S))).getD (P.length + A.length) d) ((P ++ (A ++ ([y] ++ S))).getD h d)) (A.length + 1) P.length (P.length + A.length) = i at hs ⊢
  obtain ⟨i0, i1, i2, i3⟩ := hs
  obtain ⟨A1, A2, rfl, hl, h1, h2⟩ := seg_split (d := d) A (i - P.length) (by omega) (fun z => k z ≤ k y) (fun z => k y < k z) (fun q hq => by
    have := i2 (q + P.length) (by omega) (by omega)
    simp only [hy, ha (q + P.length) (by omega) (by omega), ltK, decide_eq_false_iff_not, Nat.add_sub_cancel] at this
    omega) (fun q hq hq2 => by
    have := i3 (q + P.length) (by omega) (by omega)
    simp only [hy, ha (q + P.length) (by omega) (by omega), ltK, decide_eq_true_eq, Nat.add_sub_cancel] at this
    exact this)
  have := mvL_spec (d := d) (P ++ A1) S y n A2 S (by rw [List.length_append] at hn; omega)
  refine ⟨A1 ++ y :: A2, ?_, ?_, ?_, ?_⟩
  · rw [show i = (P ++ A1).length by simp; omega, show P.length + (A1 ++ A2).length = (P ++ A1).length + A2.length by simp; omega]
    simpa using this
  · have e : So k (A1 ++ ([y] ++ A2)) := hA.left.app ((So.one y).app hA.right (fun z hz z2 hz2 => by rw [List.mem_singleton.1 hz]; have := h2 z2 hz2; omega)) (fun z hz z2 hz2 => by
      rcases List.mem_append.1 hz2 with h | h
      · rw [List.mem_singleton.1 h]; exact h1 z hz
      · have := h1 z hz; have := h2 z2 h; omega)
    simpa using e
  · have e : St k (A1 ++ (A2 ++ [y])) (A1 ++ ([y] ++ A2)) := (St.rfl_ A1).app (St.swap (fun z hz y2 hy2 => by rw [List.mem_singleton.1 hy2]; have := h2 z hz; omega))
    simpa using e
  · simp <;> omega
theorem symL_spec : ∀ (n : Nat) (P A B S : List α), 0 < A.length → 0 < B.length → A.length + B.length < n → So k A → So k B →
    ∃ C, symL (ltK k) d n P.length (P.length + A.length) (P.length + A.length + B.length) (P ++ (A ++ (B ++ S))) = P ++ (C ++ S) ∧ Sorts k (A ++ B) C
  | 0, _, _, _, _, _, _, h, _, _ => by omega
  | n + 1, P, A, B, S, ha, hb, h, hA, hB => by
    unfold symL
    by_cases h1 : P.length + A.length - P.length = 1
    · rw [if_pos h1]
      obtain ⟨x, rfl⟩ := List.length_eq_one_iff.1 (show A.length = 1 by omega)
      have := sym_one1 (d := d) P x B S (P.length + [x].length + B.length - P.length + 1) hB (by simp; omega)
      simp only [List.length_singleton] at this ⊢
      rw [show P.length + 1 + B.length - (P.length + 1) + 1 = B.length + 1 by omega]
      exact this
    rw [if_neg h1]
    by_cases h2 : P.length + A.length + B.length - (P.length + A.length) = 1
    · rw [if_pos h2]
      obtain ⟨y, rfl⟩ := List.length_eq_one_iff.1 (show B.length = 1 by omega)
      have := sym_one2 (d := d) P A y S (P.length + A.length + [y].length - P.length + 1) hA (by simp; omega)
      rw [show P.length + A.length - P.length + 1 = A.length + 1 by omega]
      exact this
    rw [if_neg h2]
    obtain ⟨mid, hmid⟩ : ∃ mid, (P.length + (P.length + A.length + B.length)) / 2 = mid := ⟨_, rfl⟩
    obtain ⟨lo, hlo⟩ : ∃ lo, (if P.length + A.length > mid then mid + (P.length + A.length) - (P.length + A.length + B.length) else P.length) = lo := ⟨_, rfl⟩
    obtain ⟨hi, hhi⟩ : ∃ hi, (if P.length + A.length > mid then mid else P.length + A.length) = hi := ⟨_, rfl⟩
    simp only [hmid, hlo, hhi]
    have hl : (P.length + A.length > mid ∧ lo = mid + (P.length + A.length) - (P.length + A.length + B.length) ∧ hi = mid) ∨ (¬ P.length + A.length > mid ∧ lo = P.length ∧ hi = P.length + A.length) := by
      by_cases hm : P.length + A.length > mid
      · rw [if_pos hm] at hlo hhi; exact .inl ⟨hm, hlo.symm, hhi.symm⟩
      · rw [if_neg hm] at hlo hhi; exact .inr ⟨hm, hlo.symm, hhi.symm⟩
    clear hlo hhi
    have hga : ∀ c, P.length ≤ c → c < P.length + A.length → (P ++ (A ++ (B ++ S))).getD c d = A.getD (c - P.length) d := fun c h0 h1 => get_seg P A (B ++ S) h0 h1
    have hgb : ∀ c, P.length + A.length ≤ c → c < P.length + A.length + B.length → (P ++ (A ++ (B ++ S))).getD c d = B.getD (c - (P.length + A.length)) d := fun c h0 h1 => by
      have := get_seg (d := d) (P ++ A) B S (q := c) (by simp; omega) (by simp; omega)
      rw [← List.append_assoc, this]
      simp
    have hs := bs_all (fun c => ltK k ((P ++ (A ++ (B ++ S))).getD (mid + (P.length + A.length) - 1 - c) d) ((P ++ (A ++ (B ++ S))).getD c d)) lo hi (P.length + A.length + B.length - P.length + 1) (fun u v h0 h1 h2 h3 => by
      simp only [hga u (by omega) (by omega), hga v (by omega) (by omega), hgb (mid + (P.length + A.length) - 1 - u) (by omega) (by omega), hgb (mid + (P.length + A.length) - 1 - v) (by omega) (by omega), ltK, decide_eq_true_eq] at h3 ⊢
      have a1 := so_get (d := d) hA (i := u - P.length) (j := v - P.length) (by omega) (by omega)
      have a2 := so_get (d := d) hB (i := mid + (P.length + A.length) - 1 - v - (P.length + A.length)) (j := mid + (P.length + A.length) - 1 - u - (P.length + A.length)) (by omega) (by omega)
      omega) (by omega) (by omega)
    generalize bsL (fun c => ltK k ((P ++ (A ++ (B ++ S))).getD (mid + (P.length + A.length) - 1 - c) d) ((P ++ (A ++ (B ++ S))).getD c d)) (P.length + A.length + B.length - P.length + 1) lo hi = st at hs ⊢
    obtain ⟨i0, i1, i2, i3⟩ := hs
    obtain ⟨A1, A2, eA, hA1⟩ := split_at A (st - P.length) (by omega)
    obtain ⟨B1, B2, eB, hB1⟩ := split_at B (mid + (P.length + A.length) - st - (P.length + A.length)) (by omega)
    have hAl : A.length = A1.length + A2.length := by rw [eA, List.length_append]
    have hBl : B.length = B1.length + B2.length := by rw [eB, List.length_append]
    have F1 : ∀ x ∈ A1, ∀ y ∈ B2, k x ≤ k y := fun x hx y hy => by
      obtain ⟨q, hq, ex⟩ := List.mem_iff_getElem.1 hx
      obtain ⟨r, hr, ey⟩ := List.mem_iff_getElem.1 hy
      have gx : A.getD q d = x := by rw [eA, List.getD_eq_getElem?_getD, List.getElem?_append_left hq, List.getElem?_eq_getElem hq]; exact ex
      have gy : B.getD (B1.length + r) d = y := by rw [eB, List.getD_eq_getElem?_getD, List.getElem?_append_right (by omega), show B1.length + r - B1.length = r by omega, List.getElem?_eq_getElem hr]; exact ey
      have hp := i2 (st - 1) (by omega) (by omega)
      simp only [hga (st - 1) (by omega) (by omega), hgb (mid + (P.length + A.length) - 1 - (st - 1)) (by omega) (by omega), ltK, decide_eq_false_iff_not] at hp
      have a1 := so_get (d := d) hA (i := q) (j := st - 1 - P.length) (by omega) (by omega)
      have a2 := so_get (d := d) hB (i := mid + (P.length + A.length) - 1 - (st - 1) - (P.length + A.length)) (j := B1.length + r) (by omega) (by omega)
      rw [gx] at a1
      rw [gy] at a2
      omega
    have F2 : ∀ x ∈ A2, ∀ y ∈ B1, k y < k x := fun x hx y hy => by
      obtain ⟨q, hq, ex⟩ := List.mem_iff_getElem.1 hx
      obtain ⟨r, hr, ey⟩ := List.mem_iff_getElem.1 hy
      have gy : B.getD r d = y := by rw [eB, List.getD_eq_getElem?_getD, List.getElem?_append_left hr, List.getElem?_eq_getElem hr]; exact ey
      have gx : A.getD (A1.length + q) d = x := by rw [eA, List.getD_eq_getElem?_getD, List.getElem?_append_right (by omega), show A1.length + q - A1.length = q by omega, List.getElem?_eq_getElem hq]; exact ex
      have hp := i3 st (by omega) (by omega)
      simp only [hga st (by omega) (by omega), hgb (mid + (P.length + A.length) - 1 - st) (by omega) (by omega), ltK, decide_eq_true_eq] at hp
      have a1 := so_get (d := d) hA (i := st - P.length) (j := A1.length + q) (by omega) (by omega)
      have a2 := so_get (d := d) hB (i := r) (j := mid + (P.length + A.length) - 1 - st - (P.length + A.length)) (by omega) (by omega)
      rw [gx] at a1
      rw [gy] at a2
      omega
    have hx1 : (if st < P.length + A.length ∧ P.length + A.length < mid + (P.length + A.length) - st then rotL d st (P.length + A.length) (mid + (P.length + A.length) - st) (P ++ (A ++ (B ++ S))) else P ++ (A ++ (B ++ S))) = P ++ (A1 ++ (B1 ++ (A2 ++ (B2 ++ S)))) := by
      by_cases hc : st < P.length + A.length ∧ P.length + A.length < mid + (P.length + A.length) - st
      · rw [if_pos hc]
        have := rotL_spec (d := d) (P ++ A1) A2 B1 (B2 ++ S) (by omega) (by omega)
        rw [show st = (P ++ A1).length by simp; omega, show P.length + A.length = (P ++ A1).length + A2.length by simp; omega, show mid + ((P ++ A1).length + A2.length) - (P ++ A1).length = (P ++ A1).length + A2.length + B1.length by simp; omega, eA, eB]
        simpa using this
      · rw [if_neg hc]
        rcases Nat.eq_zero_or_pos A2.length with h3 | h3
        · rw [eA, eB, List.eq_nil_of_length_eq_zero h3]; simp
        · rw [eA, eB, List.eq_nil_of_length_eq_zero (show B1.length = 0 by omega)]; simp
    rw [hx1]
    rw [eA] at hA
    rw [eB] at hB
    obtain ⟨C1, hC1, s1, s2, s3⟩ : ∃ C1, (if P.length < st ∧ st < mid then symL (ltK k) d n P.length st mid (P ++ (A1 ++ (B1 ++ (A2 ++ (B2 ++ S))))) else P ++ (A1 ++ (B1 ++ (A2 ++ (B2 ++ S))))) = P ++ (C1 ++ (A2 ++ (B2 ++ S))) ∧ Sorts k (A1 ++ B1) C1 := by
      by_cases hc : P.length < st ∧ st < mid
      · rw [if_pos hc]
        have := symL_spec n P A1 B1 (A2 ++ (B2 ++ S)) (by omega) (by omega) (by omega) hA.left hB.left
        rw [show st = P.length + A1.length by omega, show mid = P.length + A1.length + B1.length by omega]
        exact this
      · rw [if_neg hc]
        refine ⟨A1 ++ B1, by simp, sorts_none hA.left hB.left ?_⟩
        rcases Nat.eq_zero_or_pos A1.length with h3 | h3
        · exact .inl (List.eq_nil_of_length_eq_zero h3)
        · exact .inr (List.eq_nil_of_length_eq_zero (by omega))
    rw [hC1]
    obtain ⟨C2, hC2, t1, t2, t3⟩ : ∃ C2, (if mid < mid + (P.length + A.length) - st ∧ mid + (P.length + A.length) - st < P.length + A.length + B.length then symL (ltK k) d n mid (mid + (P.length + A.length) - st) (P.length + A.length + B.length) (P ++ (C1 ++ (A2 ++ (B2 ++ S)))) else P ++ (C1 ++ (A2 ++ (B2 ++ S)))) = P ++ (C1 ++ (C2 ++ S)) ∧ Sorts k (A2 ++ B2) C2 := by
      rw [List.length_append] at s3
      by_cases hc : mid < mid + (P.length + A.length) - st ∧ mid + (P.length + A.length) - st < P.length + A.length + B.length
      · rw [if_pos hc]
        obtain ⟨C2, e, hC⟩ := symL_spec n (P ++ C1) A2 B2 S (by omega) (by omega) (by omega) hA.right hB.right
        refine ⟨C2, ?_, hC⟩
        rw [show mid + (P.length + A.length) - st = (P ++ C1).length + A2.length by simp; omega, show P.length + A.length + B.length = (P ++ C1).length + A2.length + B2.length by simp; omega]
        rw [show mid = (P ++ C1).length by simp; omega]
        simpa using e
      · rw [if_neg hc]
        refine ⟨A2 ++ B2, by simp, sorts_none hA.right hB.right ?_⟩
        rcases Nat.eq_zero_or_pos A2.length with h3 | h3
        · exact .inl (List.eq_nil_of_length_eq_zero h3)
        · exact .inr (List.eq_nil_of_length_eq_zero (by omega))
    rw [hC2, eA, eB]
    refine ⟨C1 ++ C2, by simp, s1.app t1 (fun x hx y hy => ?_), ?_, by simp at s3 t3 ⊢; omega⟩
    · rcases List.mem_append.1 (s2.symm.mem hx) with h3 | h3
      · rcases List.mem_append.1 (t2.symm.mem hy) with h4 | h4
        · exact hA.le x h3 y h4
        · exact F1 x h3 y h4
      · rcases List.mem_append.1 (t2.symm.mem hy) with h4 | h4
        · have := F2 y h4 x h3; omega
        · exact hB.le x h3 y h4
    · have e1 : St k (A1 ++ ((A2 ++ B1) ++ B2)) (A1 ++ ((B1 ++ A2) ++ B2)) := (St.rfl_ A1).app ((St.swap (fun x hx y hy => by have := F2 x hx y hy; omega)).app (St.rfl_ B2))
      have e2 : St k ((A1 ++ B1) ++ (A2 ++ B2)) (C1 ++ C2) := s2.app t2
      simp only [List.append_assoc] at e1 e2 ⊢
      exact e1.trans e2
/-- Parts that are each in order, all but the last as long. -/
inductive Done (k : α → Int) (bs : Nat) : List α → Prop
  | last (xs : List α) : xs.length ≤ bs → So k xs → Done k bs xs
  | cons (c xs : List α) : c.length = bs → So k c → Done k bs xs → Done k bs (c ++ xs)
theorem done_so {bs : Nat} {xs : List α} (h : Done k bs xs) (hl : xs.length ≤ bs) : So k xs := by
  cases h with
  | last _ _ h => exact h
  | cons c ys h1 h2 h3 =>
    have : ys = [] := List.eq_nil_of_length_eq_zero (by rw [List.length_append] at hl; omega)
    rw [this, List.append_nil]
    exact h2
theorem stA_spec : ∀ (f : Nat) (P Y : List α), Y.length < f → ∃ Y', stA (ltK k) d (P.length + Y.length) f P.length (P ++ Y) = P ++ Y' ∧ Done k 20 Y' ∧ St k Y Y' ∧ Y'.length = Y.length
  | 0, _, _, h => by omega
  | f + 1, P, Y, h => by
    unfold stA
    by_cases hc : P.length + 20 ≤ P.length + Y.length
    · rw [if_pos hc]
      obtain ⟨c, Y2, rfl, hcl⟩ := split_at Y 20 (by omega)
      cases c with
      | nil => simp at hcl
      | cons x c =>
        obtain ⟨A', e, s1, s2, s3⟩ := insI_spec (k := k) (d := d) P 21 [x] c Y2 (by simp at hcl; omega) (So.one x)
        have hc19 : c.length = 19 := by simpa using hcl
        rw [hc19] at e
        rw [show P ++ (x :: c ++ Y2) = P ++ ([x] ++ (c ++ Y2)) by simp, show P.length + 20 = P.length + [x].length + 19 by simp, show P.length + 1 = P.length + [x].length by simp, e]
        have hA' : A'.length = 20 := by rw [s3]; simp; omega
        obtain ⟨Y', e2, d1, d2, d3⟩ := stA_spec f (P ++ A') Y2 (by simp at h; omega)
        refine ⟨A' ++ Y', ?_, Done.cons A' Y' hA' s1 d1, ?_, by simp at s3 ⊢; omega⟩
        · rw [show P.length + (x :: c ++ Y2).length = (P ++ A').length + Y2.length by simp; omega, show P.length + [x].length + 19 = (P ++ A').length by simp; omega]
          simpa using e2
        · have := s2.app d2
          simpa using this
    · rw [if_neg hc]
      cases Y with
      | nil =>
        refine ⟨[], ?_, Done.last [] (by simp) List.Pairwise.nil, St.rfl_ _, rfl⟩
        simp [insI]
        intro h
        omega
      | cons x c =>
        obtain ⟨A', e, s1, s2, s3⟩ := insI_spec (k := k) (d := d) P (P.length + (x :: c).length - P.length + 1) [x] c [] (by simp; omega) (So.one x)
        refine ⟨A', ?_, Done.last A' (by rw [s3]; simp at hc ⊢; omega) s1, by simpa using s2, by rw [s3]; simp⟩
        rw [show P.length + (x :: c).length = P.length + [x].length + c.length by simp; omega] at e ⊢
        simpa using e
theorem stP_spec {bs : Nat} (hbs : 0 < bs) : ∀ (f : Nat) (P Y : List α), Y.length < f → Done k bs Y → ∃ Y', stP (ltK k) d (P.length + Y.length) bs f P.length (P ++ Y) = P ++ Y' ∧ Done k (2 * bs) Y' ∧ St k Y Y' ∧ Y'.length = Y.length
  | 0, _, _, h, _ => by omega
  | f + 1, P, Y, h, hd => by
    unfold stP
    cases hd with
    | last _ h1 h2 =>
      rw [if_neg (by omega), if_neg (by omega)]
      exact ⟨Y, rfl, Done.last Y (by omega) h2, St.rfl_ _, rfl⟩
    | cons c1 Y1 h1 h2 h3 =>
      rw [List.length_append, h1]
      rw [List.length_append, h1] at h
      -- one more pair of parts, and what is behind it
      have pair : ∀ c2 Y2 : List α, Y1 = c2 ++ Y2 → c2.length = bs → So k c2 → Done k bs Y2 → ∃ Y', stP (ltK k) d (P.length + (bs + Y1.length)) bs f (P.length + 2 * bs) (symL (ltK k) d (2 * bs + 1) P.length (P.length + bs) (P.length + 2 * bs) (P ++ (c1 ++ Y1))) = P ++ Y' ∧ Done k (2 * bs) Y' ∧ St k (c1 ++ Y1) Y' ∧ Y'.length = bs + Y1.length := by
        rintro c2 Y2 rfl k1 k2 k3
        obtain ⟨C, e, s1, s2, s3⟩ := symL_spec (k := k) (d := d) (2 * bs + 1) P c1 c2 Y2 (by omega) (by omega) (by omega) h2 k2
        rw [h1, k1, show P.length + bs + bs = P.length + 2 * bs by omega] at e
        rw [e]
        have hC : C.length = 2 * bs := by rw [s3, List.length_append]; omega
        rw [List.length_append] at h ⊢
        obtain ⟨Y', e2, d1, d2, d3⟩ := stP_spec hbs f (P ++ C) Y2 (by omega) k3
        refine ⟨C ++ Y', ?_, Done.cons C Y' hC s1 d1, ?_, by rw [List.length_append]; omega⟩
        · rw [show P.length + (bs + (c2.length + Y2.length)) = (P ++ C).length + Y2.length by simp; omega, show P.length + 2 * bs = (P ++ C).length by simp; omega]
          simpa using e2
        · have := s2.app d2
          simpa using this
      cases h3 with
      | last _ k1 k2 =>
        by_cases hc : P.length + 2 * bs ≤ P.length + (bs + Y1.length)
        · rw [if_pos hc]
          have := pair Y1 [] (by simp) (by omega) k2 (Done.last [] (by simp) List.Pairwise.nil)
          exact this
        · rw [if_neg hc]
          by_cases hc2 : P.length + bs < P.length + (bs + Y1.length)
          · rw [if_pos hc2]
            obtain ⟨C, e, s1, s2, s3⟩ := symL_spec (k := k) (d := d) (P.length + (bs + Y1.length) - P.length + 1) P c1 Y1 [] (by omega) (by omega) (by omega) h2 k2
            rw [h1] at e
            refine ⟨C, ?_, Done.last C (by rw [s3, List.length_append]; omega) s1, s2, by rw [s3, List.length_append]; omega⟩
            rw [show P.length + (bs + Y1.length) = P.length + bs + Y1.length by omega] at e ⊢
            simpa using e
          · rw [if_neg hc2]
            have : Y1 = [] := List.eq_nil_of_length_eq_zero (by omega)
            subst this
            exact ⟨c1 ++ [], rfl, Done.last _ (by simp; omega) (by simpa using h2), St.rfl_ _, by simp; omega⟩
      | cons c2 Y2 k1 k2 k3 =>
        rw [if_pos (by rw [List.length_append]; omega)]
        exact pair c2 Y2 rfl k1 k2 k3
theorem stB_spec : ∀ (f bs : Nat) (Y : List α), 0 < bs → Y.length < f + bs → Done k bs Y → Sorts k Y (stB (ltK k) d Y.length f bs Y)
  | 0, bs, Y, h0, h, hd => show Sorts k Y Y from ⟨done_so hd (by omega), St.rfl_ _, rfl⟩
  | f + 1, bs, Y, h0, h, hd => by
    unfold stB
    by_cases hc : bs < Y.length
    · rw [if_pos hc]
      obtain ⟨Y', e, d1, d2, d3⟩ := stP_spec (d := d) h0 (Y.length + 1) [] Y (by omega) hd
      simp only [List.length_nil, Nat.zero_add, List.nil_append] at e
      rw [e]
      obtain ⟨s1, s2, s3⟩ := stB_spec f (2 * bs) Y' (by omega) (by omega) d1
      rw [d3] at s1 s2 s3
      exact ⟨s1, d2.trans s2, s3⟩
    · rw [if_neg hc]
      exact ⟨done_so hd (by omega), St.rfl_ _, rfl⟩
/-- The sort is a sort, and leaves what is alike in its order. -/
theorem stable_spec (xs : List α) : Sorts k xs (stableL (ltK k) d xs) := by
  unfold stableL
  obtain ⟨Y', e, d1, d2, d3⟩ := stA_spec (k := k) (d := d) (xs.length + 1) [] xs (by omega)
  simp only [List.length_nil, Nat.zero_add, List.nil_append] at e
  rw [e]
  obtain ⟨s1, s2, s3⟩ := stB_spec (d := d) (xs.length + 1) 20 Y' (by omega) (by omega) d1
  rw [d3] at s1 s2 s3
  exact ⟨s1, d2.trans s2, s3⟩
end

theorem ws {x : Int} (h1 : -9223372036854775808 ≤ x) (h2 : x ≤ 9223372036854775807) : wrap64 x = x := by
  unfold wrap64
  omega
theorem w1 {n : Nat} (h : n ≤ 1000000000) : wrap64 ((n : Int) + 1) = ((n + 1 : Nat) : Int) := by rw [ws (by omega) (by omega)]; rfl
/-- A number that may be. -/
def near (x : Int) : Prop := -1099511627776 ≤ x ∧ x ≤ 1099511627776
theorem near_of {x : Int} (h : farB x = false) : near x := by
  unfold farB at h
  simp only [Bool.or_eq_false_iff, decide_eq_false_iff_not] at h
  unfold near
  omega
def nearP (x : S35) : Prop := near x.f0.f0 ∧ near x.f0.f1 ∧ near x.f1
theorem nearP_of {x : S35} (h : farP x = false) : nearP x := by
  unfold farP at h
  simp only [List.any_cons, List.any_nil, Bool.or_eq_false_iff] at h
  exact ⟨near_of h.1, near_of h.2.1, near_of h.2.2.1⟩
/-- How high a part is. -/
def hz (x : S35) : Int := x.f0.f0 + x.f0.f1
theorem high_eq {x : S35} (h : nearP x) : highP x = hz x := by
  obtain ⟨h1, h2, h3⟩ := h
  unfold near at h1 h2
  unfold highP hz
  exact ws (by omega) (by omega)
theorem free_iff (x : S35) : freeB x = true ↔ x.f2 ≠ 1 ∧ x.f2 ≠ 2 := by
  unfold freeB
  by_cases h : x.f2 = 1
  · rw [if_pos h]; simp [h]
  · rw [if_neg h]; simp [h]
/-- An interval between what may be. -/
def mid (t : Int) : Prop := -4398046511104 ≤ t ∧ t ≤ 4398046511104
theorem hasF_eq {x : S35} (h : nearP x) (t0 t1 : Int) : hasF x t0 t1 = (mx t0 (x.f1 + x.f0.f0), mx t1 (x.f0.f1 - x.f1)) := by
  obtain ⟨h1, h2, h3⟩ := h
  unfold near at h1 h2 h3
  unfold hasF
  rw [ws (by omega) (by omega), ws (by omega) (by omega)]
theorem mx_or (a b : Int) : (mx a b = a ∧ b ≤ a) ∨ (mx a b = b ∧ a ≤ b) := by
  unfold mx
  split
  · exact .inr ⟨rfl, by omega⟩
  · exact .inl ⟨rfl, by omega⟩
/-- What a line has of the parts that stand by no edge: it is the least that has them all. -/
theorem has_spec : ∀ (l : List S35) (t : Int × Int), (∀ x ∈ l, nearP x) → mid t.1 → mid t.2 →
    mid (eachF hasF true l t).1 ∧ mid (eachF hasF true l t).2 ∧ t.1 ≤ (eachF hasF true l t).1 ∧ t.2 ≤ (eachF hasF true l t).2 ∧
    (∀ x ∈ l, freeB x = true → x.f1 + x.f0.f0 ≤ (eachF hasF true l t).1 ∧ x.f0.f1 - x.f1 ≤ (eachF hasF true l t).2) ∧
    ((eachF hasF true l t).1 = t.1 ∨ ∃ x ∈ l, freeB x = true ∧ x.f1 + x.f0.f0 = (eachF hasF true l t).1) ∧
    ((eachF hasF true l t).2 = t.2 ∨ ∃ x ∈ l, freeB x = true ∧ x.f0.f1 - x.f1 = (eachF hasF true l t).2)
  | [], t, _, h1, h2 => ⟨h1, h2, Int.le_refl _, Int.le_refl _, fun x hx => (by cases hx), .inl rfl, .inl rfl⟩
  | x :: l, t, hn, h1, h2 => by
    have hx := hn x (List.mem_cons_self ..)
    have hl : ∀ y ∈ l, nearP y := fun y hy => hn y (List.mem_cons_of_mem _ hy)
    unfold eachF
    by_cases hf : freeB x = true
    · rw [if_pos hf, hasF_eq hx]
      obtain ⟨n1, n2, n3⟩ := hx
      unfold near at n1 n2 n3
      unfold mid at h1 h2
      have m1 := mx_or t.1 (x.f1 + x.f0.f0)
      have m2 := mx_or t.2 (x.f0.f1 - x.f1)
      obtain ⟨a1, a2, a3, a4, a5, a6, a7⟩ := has_spec l (mx t.1 (x.f1 + x.f0.f0), mx t.2 (x.f0.f1 - x.f1)) hl (by unfold mid; omega) (by unfold mid; omega)
      generalize eachF hasF true l (mx t.1 (x.f1 + x.f0.f0), mx t.2 (x.f0.f1 - x.f1)) = u at a1 a2 a3 a4 a5 a6 a7 ⊢
      simp only at a3 a4 a6 a7
      have c1 : t.1 ≤ u.1 ∧ t.2 ≤ u.2 ∧ x.f1 + x.f0.f0 ≤ u.1 ∧ x.f0.f1 - x.f1 ≤ u.2 := by clear a5 a6 a7; omega
      refine ⟨a1, a2, c1.1, c1.2.1, fun y hy hfy => ?_, ?_, ?_⟩
      · rcases List.mem_cons.1 hy with rfl | hy
        · exact c1.2.2
        · exact a5 y hy hfy
      · rcases a6 with a6 | ⟨y, hy, hfy, e⟩
        · rcases m1 with ⟨m1, _⟩ | ⟨m1, _⟩
          · exact .inl (by rw [a6, m1])
          · exact .inr ⟨x, List.mem_cons_self .., hf, by rw [a6, m1]⟩
        · exact .inr ⟨y, List.mem_cons_of_mem _ hy, hfy, e⟩
      · rcases a7 with a7 | ⟨y, hy, hfy, e⟩
        · rcases m2 with ⟨m2, _⟩ | ⟨m2, _⟩
          · exact .inl (by rw [a7, m2])
          · exact .inr ⟨x, List.mem_cons_self .., hf, by rw [a7, m2]⟩
        · exact .inr ⟨y, List.mem_cons_of_mem _ hy, hfy, e⟩
    · rw [if_neg hf]
      obtain ⟨a1, a2, a3, a4, a5, a6, a7⟩ := has_spec l t hl h1 h2
      refine ⟨a1, a2, a3, a4, fun y hy hfy => ?_, ?_, ?_⟩
      · rcases List.mem_cons.1 hy with rfl | hy
        · exact absurd hfy hf
        · exact a5 y hy hfy
      · rcases a6 with a6 | ⟨y, hy, hfy, e⟩
        · exact .inl a6
        · exact .inr ⟨y, List.mem_cons_of_mem _ hy, hfy, e⟩
      · rcases a7 with a7 | ⟨y, hy, hfy, e⟩
        · exact .inl a7
        · exact .inr ⟨y, List.mem_cons_of_mem _ hy, hfy, e⟩
/-- How an interval is made longer for a part by an edge. -/
def hangZ (x : S35) (t : Int × Int) : Int × Int := if x.f2 = 1 then (t.1, t.2 + mx (hz x - (t.1 + t.2)) 0) else (t.1 + mx (hz x - (t.1 + t.2)) 0, t.2)
def big (t : Int) : Prop := -70368744177664 ≤ t ∧ t ≤ 70368744177664
theorem hang_eq {x : S35} (h : nearP x) {t : Int × Int} (h1 : big t.1) (h2 : big t.2) : hangF x t.1 t.2 = hangZ x t := by
  have hh := high_eq h
  obtain ⟨n1, n2, n3⟩ := h
  unfold near at n1 n2 n3
  unfold big at h1 h2
  have hb : hz x = x.f0.f0 + x.f0.f1 := rfl
  have e1 : wrap64 (t.1 + t.2) = t.1 + t.2 := ws (by omega) (by omega)
  have e2 : wrap64 (hz x - (t.1 + t.2)) = hz x - (t.1 + t.2) := ws (by omega) (by omega)
  unfold hangF hangZ moreP
  rw [hh, e1, e2]
  have m := mx_or (hz x - (t.1 + t.2)) 0
  rw [ws (by omega) (by omega), ws (by omega) (by omega)]
theorem hangZ_sum (x : S35) (t : Int × Int) : (hangZ x t).1 + (hangZ x t).2 = mx (hz x) (t.1 + t.2) ∧ t.1 ≤ (hangZ x t).1 ∧ t.2 ≤ (hangZ x t).2 := by
  have m := mx_or (hz x - (t.1 + t.2)) 0
  have m2 := mx_or (hz x) (t.1 + t.2)
  unfold hangZ
  split
  · simp only; omega
  · simp only; omega
theorem hangZ_same {x : S35} {t : Int × Int} (h : hz x ≤ t.1 + t.2) : hangZ x t = t := by
  have m := mx_or (hz x - (t.1 + t.2)) 0
  have e : mx (hz x - (t.1 + t.2)) 0 = 0 := by omega
  unfold hangZ
  rw [e]
  split
  · rw [Int.add_zero]
  · rw [Int.add_zero]
/-- Where the interval is high enough for all, nothing is made longer. -/
theorem hang_none : ∀ (s : List S35) (t : Int × Int), (∀ x ∈ s, nearP x) → big t.1 → big t.2 → (∀ x ∈ s, freeB x = false → hz x ≤ t.1 + t.2) → eachF hangF false s t = t
  | [], _, _, _, _, _ => rfl
  | x :: s, t, hn, h1, h2, h => by
    unfold eachF
    have hi := hang_none s t (fun y hy => hn y (List.mem_cons_of_mem _ hy)) h1 h2 (fun y hy => h y (List.mem_cons_of_mem _ hy))
    by_cases hf : freeB x = false
    · rw [if_pos hf, hang_eq (hn x (List.mem_cons_self ..)) h1 h2, hangZ_same (h x (List.mem_cons_self ..) hf)]
      exact hi
    · rw [if_neg hf]
      exact hi
/-- In order, the first part by an edge is the one that counts. -/
theorem hang_first : ∀ (s : List S35) (t : Int × Int), (∀ x ∈ s, nearP x) → mid t.1 → mid t.2 → So (fun x => -highP x) s →
    eachF hangF false s t = (match s.find? (fun x => !freeB x) with | none => t | some e => hangZ e t)
  | [], _, _, _, _, _ => rfl
  | x :: s, t, hn, h1, h2, hs => by
    have hx := hn x (List.mem_cons_self ..)
    have hl : ∀ y ∈ s, nearP y := fun y hy => hn y (List.mem_cons_of_mem _ hy)
    have hs' : So (fun x => -highP x) s := (List.pairwise_cons.1 hs).2
    unfold eachF
    cases hf : freeB x with
    | false =>
      rw [if_pos rfl, List.find?_cons_of_pos (by simp [hf])]
      have hb : hz x = x.f0.f0 + x.f0.f1 := rfl
      obtain ⟨n1, n2, n3⟩ := id hx
      unfold near at n1 n2 n3
      have h1' := h1
      have h2' := h2
      unfold mid at h1' h2'
      rw [hang_eq hx (by unfold big; omega) (by unfold big; omega)]
      have hz1 := hangZ_sum x t
      have m2 := mx_or (hz x) (t.1 + t.2)
      refine hang_none s (hangZ x t) hl (by unfold big; omega) (by unfold big; omega) fun y hy _ => ?_
      have := (List.pairwise_cons.1 hs).1 y hy
      have e1 := high_eq hx
      have e2 := high_eq (hl y hy)
      simp only at this
      omega
    | true =>
      rw [if_neg (by decide), List.find?_cons_of_neg (by simp [hf])]
      exact hang_first s t hl h1 h2 hs'
theorem sort_spec (l : List S35) : Sorts (fun x => -highP x) l (sortP l) := by
  have e : (fun x y : S35 => decide (cmpP x y < 0)) = ltK (fun x => -highP x) := by
    funext x y
    unfold cmpP cmpI ltK
    show decide ((if highP y < highP x then (-1 : Int) else if highP y > highP x then 1 else 0) < 0) = decide (-highP x < -highP y)
    by_cases h : highP y < highP x
    · rw [if_pos h, decide_eq_true (by decide : (-1 : Int) < 0), decide_eq_true (by omega)]
    · rw [if_neg h, decide_eq_false (show ¬ -highP x < -highP y by omega)]
      split <;> decide
  unfold sortP
  rw [e]
  exact stable_spec l
/-- The part by an edge that counts: the first of the highest. -/
def topE (l : List S35) : Option S35 := (sortP l).find? (fun x => !freeB x)
theorem find_filter {α : Type} (p : α → Bool) (k : α → Int) : ∀ (s : List α) (e : α), So k s → s.find? p = some e → (∀ x ∈ s, p x = true → k e ≤ k x) ∧ (s.filter (fun x => decide (k x = k e))).find? p = some e
  | [], e, _, h => by cases h
  | x :: s, e, hs, h => by
    by_cases hp : p x = true
    · rw [List.find?_cons_of_pos hp] at h
      injection h with h
      subst h
      refine ⟨fun y hy _ => ?_, ?_⟩
      · rcases List.mem_cons.1 hy with rfl | hy
        · exact Int.le_refl _
        · exact (List.pairwise_cons.1 hs).1 y hy
      · rw [List.filter_cons_of_pos (by simp), List.find?_cons_of_pos hp]
    · rw [List.find?_cons_of_neg hp] at h
      obtain ⟨h1, h2⟩ := find_filter p k s e (List.pairwise_cons.1 hs).2 h
      refine ⟨fun y hy hpy => ?_, ?_⟩
      · rcases List.mem_cons.1 hy with rfl | hy
        · exact absurd hpy hp
        · exact h1 y hy hpy
      · by_cases hk : k x = k e
        · rw [List.filter_cons_of_pos (by simp [hk]), List.find?_cons_of_neg hp]
          exact h2
        · rw [List.filter_cons_of_neg (by simp [hk])]
          exact h2
theorem topE_none {l : List S35} (h : topE l = none) : ∀ x ∈ l, freeB x = true := fun x hx => by
  have := List.find?_eq_none.1 h x ((sort_spec l).2.1.mem hx)
  simpa using this
theorem topE_some {l : List S35} {e : S35} (h : topE l = some e) : e ∈ l ∧ freeB e = false ∧ (∀ x ∈ l, freeB x = false → highP x ≤ highP e) ∧ (l.filter (fun x => decide (-highP x = -highP e))).find? (fun x => !freeB x) = some e := by
  have hs := sort_spec l
  obtain ⟨h1, h2⟩ := find_filter (fun x => !freeB x) (fun x => -highP x) (sortP l) e hs.1 h
  have hm := List.mem_of_find?_eq_some h
  have hp := List.find?_some h
  refine ⟨hs.2.1.symm.mem hm, by simpa using hp, fun x hx hf => ?_, ?_⟩
  · have := h1 x (hs.2.1.mem hx) (by simp [hf])
    omega
  · rw [hs.2.1]
    exact h2
/-- Numbers that may be, all of them. -/
def Fine (a0 a1 : Int) (l : List S35) : Prop := near a0 ∧ near a1 ∧ ∀ x ∈ l, nearP x
theorem fine_of {a0 a1 : Int} {l : List S35} (h2 : farL a0 a1 = false) (h3 : l.any farP = false) : Fine a0 a1 l := by
  unfold farL at h2
  simp only [List.any_cons, List.any_nil, Bool.or_eq_false_iff] at h2
  refine ⟨near_of h2.1, near_of h2.2.1, fun x hx => nearP_of ?_⟩
  cases hq : farP x with
  | false => rfl
  | true => rw [List.any_eq_true.2 ⟨x, hx, hq⟩] at h3; cases h3
def freeU (a0 a1 : Int) (l : List S35) : Int × Int := eachF hasF true l (a0, a1)
theorem line_eq {a0 a1 : Int} {l : List S35} (h : Fine a0 a1 l) : lineS a0 a1 l = (match topE l with | none => freeU a0 a1 l | some e => hangZ e (freeU a0 a1 l)) := by
  obtain ⟨h1, h2, h3⟩ := h
  unfold near at h1 h2
  have hs := has_spec l (a0, a1) h3 (by unfold mid; simp only; omega) (by unfold mid; simp only; omega)
  exact hang_first (sortP l) (freeU a0 a1 l) (fun x hx => h3 x ((sort_spec l).2.1.symm.mem hx)) hs.1 hs.2.1 (sort_spec l).1
/-- What the interval is, in all that is asked of it. -/
theorem line_spec {a0 a1 : Int} {l : List S35} (h : Fine a0 a1 l) : ∃ u : Int × Int, freeU a0 a1 l = u ∧ mid u.1 ∧ mid u.2 ∧ a0 ≤ u.1 ∧ a1 ≤ u.2 ∧
    (∀ x ∈ l, freeB x = true → x.f1 + x.f0.f0 ≤ u.1 ∧ x.f0.f1 - x.f1 ≤ u.2) ∧ (u.1 = a0 ∨ ∃ x ∈ l, freeB x = true ∧ x.f1 + x.f0.f0 = u.1) ∧ (u.2 = a1 ∨ ∃ x ∈ l, freeB x = true ∧ x.f0.f1 - x.f1 = u.2) ∧
    u.1 ≤ (lineS a0 a1 l).1 ∧ u.2 ≤ (lineS a0 a1 l).2 ∧ big (lineS a0 a1 l).1 ∧ big (lineS a0 a1 l).2 ∧
    (∀ x ∈ l, freeB x = false → hz x ≤ (lineS a0 a1 l).1 + (lineS a0 a1 l).2) ∧
    (lineS a0 a1 l = u ∨ ∃ e ∈ l, freeB e = false ∧ hz e = (lineS a0 a1 l).1 + (lineS a0 a1 l).2) := by
  have hl0 := line_eq h
  obtain ⟨h1, h2, h3⟩ := h
  unfold near at h1 h2
  obtain ⟨s1, s2, s3, s4, s5, s6, s7⟩ := has_spec l (a0, a1) h3 (by unfold mid; simp only; omega) (by unfold mid; simp only; omega)
  refine ⟨freeU a0 a1 l, rfl, s1, s2, s3, s4, s5, s6, s7, ?_⟩
  have g1 : -4398046511104 ≤ (freeU a0 a1 l).1 ∧ (freeU a0 a1 l).1 ≤ 4398046511104 := s1
  have g2 : -4398046511104 ≤ (freeU a0 a1 l).2 ∧ (freeU a0 a1 l).2 ≤ 4398046511104 := s2
  clear s1 s2 s3 s4 s5 s6 s7 h1 h2
  cases ht : topE l with
  | none =>
    have hn := topE_none ht
    have he : lineS a0 a1 l = freeU a0 a1 l := by rw [hl0, ht]
    rw [he]
    exact ⟨Int.le_refl _, Int.le_refl _, by unfold big; omega, by unfold big; omega, fun x hx hf => (by rw [hn x hx] at hf; cases hf), .inl rfl⟩
  | some e =>
    obtain ⟨t1, t2, t3, _⟩ := topE_some ht
    have he : lineS a0 a1 l = hangZ e (freeU a0 a1 l) := by rw [hl0, ht]
    rw [he]
    have hz1 := hangZ_sum e (freeU a0 a1 l)
    have m2 := mx_or (hz e) ((freeU a0 a1 l).1 + (freeU a0 a1 l).2)
    have hb : hz e = e.f0.f0 + e.f0.f1 := rfl
    obtain ⟨n1, n2, n3⟩ := h3 e t1
    unfold near at n1 n2 n3
    refine ⟨hz1.2.1, hz1.2.2, by unfold big; omega, by unfold big; omega, fun x hx hf => ?_, ?_⟩
    · have := t3 x hx hf
      rw [high_eq (h3 x hx), high_eq (h3 e t1)] at this
      omega
    · by_cases hle : hz e ≤ (freeU a0 a1 l).1 + (freeU a0 a1 l).2
      · exact .inl (hangZ_same hle)
      · exact .inr ⟨e, t1, t2, by omega⟩
end Go.Proofs.Ytfcdljnjhljjgaa.PureF
