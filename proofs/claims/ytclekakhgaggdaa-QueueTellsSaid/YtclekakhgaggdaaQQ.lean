/- Sorted items: what is put in, taken out, turned and found, without the program. -/
import Derived.Test.YtclekakhgaggdaaQY
namespace Go.Proofs.Ytclekakhgaggdaa.HeapC
open Go.RowKit Go.Proofs.Ytclekakhgaggdaa.HeapT Go.Proofs.Ytclekakhgaggdaa.HeapM
set_option linter.unusedVariables false
set_option linter.unusedSimpArgs false

theorem SortedOf.idx {C : Int → Option Int} {xs : List Itm} (h : SortedOf C xs) {i j : Nat} (hij : i < j) (hj : j < xs.length) : (it xs i).1 < (it xs j).1 := by
  have := List.pairwise_iff_getElem.1 h.lt i j (by omega) hj hij
  rw [it_get, it_get] at this
  exact this
theorem SortedOf.at {C : Int → Option Int} {xs : List Itm} (h : SortedOf C xs) {i : Nat} (hi : i < xs.length) : C (it xs i).1 = some (it xs i).2 := (h.mem _ _).1 (it_mem hi)
theorem SortedOf.find {C : Int → Option Int} {xs : List Itm} (h : SortedOf C xs) (k : Int) : ∃ i0, i0 ≤ xs.length ∧ (∀ j, j < i0 → (it xs j).1 ≠ k) ∧ (i0 < xs.length → (it xs i0).1 = k) ∧ (i0 < xs.length → C k = some (it xs i0).2) ∧ (i0 = xs.length → C k = none) := by
  cases hc : C k with
  | none =>
    refine ⟨xs.length, Nat.le_refl _, fun j hj e => ?_, fun e => absurd e (by omega), fun e => absurd e (by omega), fun _ => rfl⟩
    have := h.at hj
    rw [e, hc] at this; cases this
  | some p =>
    obtain ⟨i, hi, e⟩ := mem_it ((h.mem k p).2 hc)
    refine ⟨i, Nat.le_of_lt hi, fun j hj e2 => ?_, fun _ => by rw [e], fun _ => by rw [e], fun e2 => by omega⟩
    have := h.idx hj hi
    rw [e2, e] at this
    simp at this
theorem SortedOf.none_of {C : Int → Option Int} {xs : List Itm} (h : SortedOf C xs) (hl : xs.length = 0) (k : Int) : C k = none := by
  cases hc : C k with
  | none => rfl
  | some p => obtain ⟨i, hi, e⟩ := mem_it ((h.mem k p).2 hc); omega
theorem SortedOf.start : SortedOf (fun _ => none) [] := ⟨List.Pairwise.nil, fun k p => by simp, fun q h => absurd h (by simp)⟩

theorem SortedOf.cut {C : Int → Option Int} {xs : List Itm} (h : SortedOf C xs) (k : Int) (hk : C k = none) : ∃ c, c ≤ xs.length ∧ (∀ j, j < c → (it xs j).1 < k) ∧ ∀ j, c ≤ j → j < xs.length → k < (it xs j).1 := by
  have key : ∀ m, m ≤ xs.length → ∃ c, c ≤ m ∧ (∀ j, j < c → (it xs j).1 < k) ∧ ∀ j, c ≤ j → j < m → k < (it xs j).1 := by
    intro m
    induction m with
    | zero => intro _; exact ⟨0, Nat.le_refl _, fun j hj => absurd hj (by omega), fun j _ hj => absurd hj (by omega)⟩
    | succ m ih =>
      intro hm
      obtain ⟨c, h1, h2, h3⟩ := ih (by omega)
      by_cases hc : c = m
      · by_cases hlt : (it xs m).1 < k
        · refine ⟨m + 1, Nat.le_refl _, fun j hj => ?_, fun j hj hj2 => absurd hj (by omega)⟩
          by_cases e : j = m
          · rw [e]; exact hlt
          · exact h2 j (by omega)
        · refine ⟨m, by omega, by rw [← hc]; exact h2, fun j hj hj2 => ?_⟩
          have e : j = m := by omega
          rw [e]
          have hne : (it xs m).1 ≠ k := fun e2 => by have := h.at (i := m) (by omega); rw [e2, hk] at this; cases this
          omega
      · refine ⟨c, by omega, h2, fun j hj hj2 => ?_⟩
        by_cases e : j = m
        · rw [e]
          have := h.idx (i := c) (j := m) (by omega) (by omega)
          have := h3 c (Nat.le_refl _) (by omega)
          omega
        · exact h3 j hj (by omega)
  exact key xs.length (Nat.le_refl _)

theorem it_append_ge (xs ys : List Itm) (k : Nat) (h : xs.length ≤ k) : it (xs ++ ys) k = it ys (k - xs.length) := by
  unfold it; simp [List.getD, List.getElem?_append_right h]
theorem it_drop (xs : List Itm) (n k : Nat) : it (xs.drop n) k = it xs (n + k) := by
  unfold it; simp [List.getD, List.getElem?_drop]
theorem it_cons_zero (x : Itm) (xs : List Itm) : it (x :: xs) 0 = x := rfl
theorem it_cons_succ (x : Itm) (xs : List Itm) (k : Nat) : it (x :: xs) (k + 1) = it xs k := rfl

theorem SortedOf.ins {C : Int → Option Int} {xs : List Itm} (h : SortedOf C xs) (k p : Int) (hk : C k = none) (hw : (Lit.int .i64 k).wf = true) (c : Nat) (hc : c ≤ xs.length) (h1 : ∀ j, j < c → (it xs j).1 < k) (h2 : ∀ j, c ≤ j → j < xs.length → k < (it xs j).1) :
    SortedOf (upd C k (some p)) (xs.take c ++ (k, p) :: xs.drop c) := by
  have htl : (xs.take c).length = c := by rw [List.length_take]; omega
  refine ⟨?_, fun q r => ?_, fun q hq => ?_⟩
  · rw [List.pairwise_append]
    refine ⟨h.lt.sublist (List.take_sublist _ _), ?_, ?_⟩
    · rw [List.pairwise_cons]
      refine ⟨fun y hy => ?_, h.lt.sublist (List.drop_sublist _ _)⟩
      obtain ⟨i, hi, e⟩ := mem_it hy
      rw [it_drop] at e
      rw [List.length_drop] at hi
      rw [← e]
      exact h2 (c + i) (by omega) (by omega)
    · intro x hx y hy
      obtain ⟨i, hi, e⟩ := mem_it hx
      rw [htl] at hi
      rw [it_take _ _ _ hi] at e
      have hxk := h1 i hi
      rw [e] at hxk
      rcases List.mem_cons.1 hy with rfl | hy
      · exact hxk
      · obtain ⟨j, hj, e2⟩ := mem_it hy
        rw [it_drop] at e2
        rw [List.length_drop] at hj
        have := h2 (c + j) (by omega) (by omega)
        rw [e2] at this
        omega
  · have hperm : ∀ y, y ∈ xs.take c ++ (k, p) :: xs.drop c ↔ y = (k, p) ∨ y ∈ xs := by
      intro y
      rw [List.mem_append, List.mem_cons]
      have : y ∈ xs ↔ y ∈ xs.take c ∨ y ∈ xs.drop c := by rw [← List.mem_append, List.take_append_drop]
      rw [this]
      constructor
      · rintro (a | a | a)
        · exact .inr (.inl a)
        · exact .inl a
        · exact .inr (.inr a)
      · rintro (a | a | a)
        · exact .inr (.inl a)
        · exact .inl a
        · exact .inr (.inr a)
    rw [hperm, h.mem]
    unfold upd
    by_cases e : q = k
    · subst e
      rw [if_pos rfl, hk]
      constructor
      · rintro (a | a)
        · injection a with a b; rw [b]
        · cases a
      · intro a; injection a with a; exact .inl (by rw [a])
    · rw [if_neg e]
      constructor
      · rintro (a | a)
        · injection a with a b; exact absurd a e
        · exact a
      · exact fun a => .inr a
  · by_cases hq1 : q < c
    · rw [it_append_lt _ _ _ (by omega), it_take _ _ _ hq1]; exact h.wf q (by omega)
    · rw [it_append_ge _ _ _ (by omega), htl]
      cases hqc : q - c with
      | zero => exact hw
      | succ m =>
        rw [it_cons_succ, it_drop]
        refine h.wf _ ?_
        simp at hq
        omega

theorem SortedOf.del {C : Int → Option Int} {xs : List Itm} (h : SortedOf C xs) (k : Int) (i0 : Nat) (h0 : i0 ≤ xs.length) (hf : ∀ j, j < i0 → (it xs j).1 ≠ k) (he : i0 < xs.length → (it xs i0).1 = k) : SortedOf (upd C k none) (xs.eraseIdx i0) := by
  by_cases hi : i0 < xs.length
  · have hsub := List.eraseIdx_sublist xs i0
    refine ⟨h.lt.sublist hsub, fun q r => ?_, fun q hq => ?_⟩
    · rw [List.mem_eraseIdx_iff_getElem?]
      unfold upd
      constructor
      · rintro ⟨i, hne, e⟩
        have hil : i < xs.length := (List.getElem?_eq_some_iff.1 e).1
        rw [List.getElem?_eq_getElem hil, it_get hil] at e
        have e' := Option.some.inj e
        have hC := h.at hil
        rw [e'] at hC
        have hqk : q ≠ k := fun e2 => by
          rcases Nat.lt_or_gt_of_ne hne with l | l
          · exact hf i l (by rw [e']; exact e2)
          · have := h.idx l hil
            rw [he hi, e'] at this
            simp at this; omega
        rw [if_neg hqk]; exact hC
      · intro e
        by_cases e2 : q = k
        · rw [if_pos e2] at e; cases e
        · rw [if_neg e2] at e
          obtain ⟨i, hil, e3⟩ := mem_it ((h.mem q r).2 e)
          refine ⟨i, fun e4 => e2 ?_, ?_⟩
          · subst e4
            have := he hi
            rw [e3] at this; exact this
          · rw [List.getElem?_eq_getElem hil, it_get hil, e3]
    · have hm := hsub.subset (it_mem hq)
      obtain ⟨i, hil, e⟩ := mem_it hm
      rw [← e]; exact h.wf i hil
  · have e0 : i0 = xs.length := by omega
    have hk : C k = none := by
      cases hc : C k with
      | none => rfl
      | some p =>
        obtain ⟨i, hi2, e⟩ := mem_it ((h.mem k p).2 hc)
        exact absurd (by rw [e]) (hf i (by omega))
    rw [List.eraseIdx_of_length_le (by omega), upd_none hk]
    exact h

theorem SortedOf.turn {C : Int → Option Int} {xs : List Itm} (h : SortedOf C xs) (k p : Int) (i0 : Nat) (hi : i0 < xs.length) (he : (it xs i0).1 = k) : SortedOf (chg C k p) (xs.set i0 (k, p)) := by
  have hC := h.at hi
  rw [he] at hC
  have hne : C k ≠ none := by rw [hC]; simp
  refine ⟨?_, fun q r => ?_, fun q hq => ?_⟩
  · rw [List.pairwise_iff_getElem]
    intro i j hi2 hj hij
    rw [it_get hi2, it_get hj]
    rw [List.length_set] at hi2 hj
    have := h.idx hij hj
    rw [it_set _ _ _ _ hi, it_set _ _ _ _ hi]
    by_cases e1 : i = i0
    · rw [if_pos e1, if_neg (by omega)]
      rw [e1, he] at this; exact this
    · rw [if_neg e1]
      by_cases e2 : j = i0
      · rw [if_pos e2]; rw [e2, he] at this; exact this
      · rw [if_neg e2]; exact this
  · unfold chg
    constructor
    · intro hm
      obtain ⟨i, hi2, e⟩ := mem_it hm
      rw [List.length_set] at hi2
      rw [it_set _ _ _ _ hi] at e
      by_cases e1 : i = i0
      · rw [if_pos e1] at e
        injection e with a b
        rw [if_pos ⟨a.symm, hne⟩, b]
      · rw [if_neg e1] at e
        have hCi := h.at hi2
        rw [e] at hCi
        have hqk : q ≠ k := fun e2 => by
          rcases Nat.lt_or_gt_of_ne e1 with l | l
          · have := h.idx l hi; rw [he, e] at this; simp at this; omega
          · have := h.idx l hi2; rw [he, e] at this; simp at this; omega
        rw [if_neg (fun x => hqk x.1)]; exact hCi
    · intro e
      by_cases e1 : q = k
      · rw [if_pos ⟨e1, hne⟩] at e
        injection e with e
        have : it (xs.set i0 (k, p)) i0 = (k, p) := by rw [it_set _ _ _ _ hi, if_pos rfl]
        have hm := it_mem (xs := xs.set i0 (k, p)) (i := i0) (by rw [List.length_set]; exact hi)
        rw [this] at hm
        rw [e1, ← e]; exact hm
      · rw [if_neg (fun x => e1 x.1)] at e
        obtain ⟨i, hi2, e3⟩ := mem_it ((h.mem q r).2 e)
        have hne2 : i ≠ i0 := fun e4 => e1 (by subst e4; rw [e3] at he; exact he)
        have : it (xs.set i0 (k, p)) i = (q, r) := by rw [it_set _ _ _ _ hi, if_neg hne2, e3]
        have hm := it_mem (xs := xs.set i0 (k, p)) (i := i) (by rw [List.length_set]; exact hi2)
        rw [this] at hm
        exact hm
  · rw [List.length_set] at hq
    rw [it_set _ _ _ _ hi]
    by_cases e1 : q = i0
    · rw [if_pos e1]; rw [← he]; exact h.wf i0 hi
    · rw [if_neg e1]; exact h.wf q hq

/-- The first one of the greatest urgency. -/
theorem SortedOf.top {C : Int → Option Int} {xs : List Itm} (h : SortedOf C xs) (b : Nat) (hb : b < xs.length) (h1 : ∀ j, j < xs.length → (it xs j).2 ≤ (it xs b).2) (h2 : ∀ j, j < b → (it xs j).2 < (it xs b).2) : TopIs C xs.length (it xs b).1 (it xs b).2 true := by
  refine .inr ⟨by omega, ⟨h.at hb, fun k' p' e => ?_⟩, rfl⟩
  obtain ⟨i, hi, e2⟩ := mem_it ((h.mem k' p').2 e)
  have g1 := h1 i hi
  rw [e2] at g1
  unfold Ahead
  simp only
  rintro (a | ⟨a, a'⟩)
  · omega
  · rcases Nat.lt_trichotomy i b with l | l | l
    · have := h2 i l; rw [e2] at this; simp at this; omega
    · subst l; rw [e2] at a'; simp at a'
    · have := h.idx l hi; rw [e2] at this; simp at this; omega
theorem SortedOf.length_del {xs : List Itm} (i0 : Nat) : (xs.eraseIdx i0).length = if i0 < xs.length then xs.length - 1 else xs.length := List.length_eraseIdx
end Go.Proofs.Ytclekakhgaggdaa.HeapC
