/- Plain facts on heaps in a list: what a swap, a rise, a fall do. No program in sight. -/
import Derived.RowKit
namespace Go.Proofs.Ytclekakhgaggdaa.HeapT
set_option linter.unusedVariables false
set_option linter.unusedSimpArgs false

abbrev Itm := Int × Int
/-- One item is more urgent than another one (a key, an urgency). -/
def Ahead (a b : Itm) : Prop := b.2 < a.2 ∨ (a.2 = b.2 ∧ a.1 < b.1)
instance (a b : Itm) : Decidable (Ahead a b) := by unfold Ahead; infer_instance
def it (xs : List Itm) (i : Nat) : Itm := xs.getD i (0, 0)
def par (i : Nat) : Nat := (i - 1) / 2

theorem not_ahead_trans {a b c : Itm} (h : ¬ Ahead a b) (g : ¬ Ahead b c) : ¬ Ahead a c := by
  unfold Ahead at *; omega
theorem ahead_not {a b : Itm} (h : Ahead a b) : ¬ Ahead b a := by unfold Ahead at *; omega
theorem not_ahead_self (a : Itm) : ¬ Ahead a a := by unfold Ahead; omega
theorem ahead_or {a b : Itm} (h : ¬ Ahead a b) : Ahead b a ∨ a = b := by
  unfold Ahead at *
  by_cases e : a.2 = b.2
  · by_cases f : a.1 = b.1
    · exact .inr (Prod.ext f e)
    · exact .inl (by omega)
  · exact .inl (by omega)

theorem it_set (xs : List Itm) (i : Nat) (v : Itm) (k : Nat) (hi : i < xs.length) : it (xs.set i v) k = if k = i then v else it xs k := by
  unfold it
  by_cases h : k = i
  · subst h; rw [if_pos rfl]; simp [List.getD, hi]
  · rw [if_neg h]; simp [List.getD, List.getElem?_set_ne (Ne.symm h)]
theorem it_set_ne (xs : List Itm) (i : Nat) (v : Itm) (k : Nat) (h : k ≠ i) : it (xs.set i v) k = it xs k := by
  unfold it; simp [List.getD, List.getElem?_set_ne (Ne.symm h)]
theorem it_take (xs : List Itm) (n k : Nat) (h : k < n) : it (xs.take n) k = it xs k := by
  unfold it; simp [List.getD, List.getElem?_take, h]
theorem it_append_lt (xs ys : List Itm) (k : Nat) (h : k < xs.length) : it (xs ++ ys) k = it xs k := by
  unfold it; simp [List.getD, List.getElem?_append_left h]
theorem it_append_last (xs : List Itm) (x : Itm) : it (xs ++ [x]) xs.length = x := by
  unfold it; simp [List.getD]

def swp (xs : List Itm) (i j : Nat) : List Itm := (xs.set i (it xs j)).set j (it xs i)
theorem length_swp (xs : List Itm) (i j : Nat) : (swp xs i j).length = xs.length := by simp [swp]
theorem it_swp (xs : List Itm) (i j k : Nat) (hi : i < xs.length) (hj : j < xs.length) : it (swp xs i j) k = if k = j then it xs i else if k = i then it xs j else it xs k := by
  unfold swp
  rw [it_set _ _ _ _ (by simpa using hj), it_set _ _ _ _ hi]

def Ok (xs : List Itm) (j : Nat) : Prop := ¬ Ahead (it xs j) (it xs (par j))
def Heaped (xs : List Itm) : Prop := ∀ j, 0 < j → j < xs.length → Ok xs j
/-- All edges that do not touch i are right, and what is below i is not ahead of what is above it. -/
def Exc (xs : List Itm) (i : Nat) : Prop := (∀ j, 0 < j → j < xs.length → j ≠ i → par j ≠ i → Ok xs j) ∧ (0 < i → ∀ c, 0 < c → c < xs.length → par c = i → ¬ Ahead (it xs c) (it xs (par i)))
def UpI (xs : List Itm) (i : Nat) : Prop := Exc xs i ∧ ∀ c, 0 < c → c < xs.length → par c = i → Ok xs c
def DownI (xs : List Itm) (i : Nat) : Prop := Exc xs i ∧ (0 < i → i < xs.length → Ok xs i)

theorem par_lt {i : Nat} (h : 0 < i) : par i < i := by unfold par; omega

theorem up_step {xs : List Itm} {i : Nat} (h : Exc xs i) (hi : 0 < i) (hn : i < xs.length) (ha : Ahead (it xs i) (it xs (par i))) : UpI (swp xs i (par i)) (par i) := by
  have hp := par_lt hi
  have hpn : par i < xs.length := by omega
  have e := fun k => it_swp xs i (par i) k hn hpn
  have hl := length_swp xs i (par i)
  obtain ⟨h1, h2⟩ := h
  have hq : ∀ c, 0 < c → c < xs.length → par c = par i → c ≠ i → ¬ Ahead (it xs c) (it xs i) := by
    intro c hc hcn hpc hne
    have := h1 c hc hcn hne (by rw [hpc]; omega)
    unfold Ok at this; rw [hpc] at this
    exact not_ahead_trans this (ahead_not ha)
  refine ⟨⟨?_, ?_⟩, ?_⟩
  · intro j hj hjn hne hpne
    rw [hl] at hjn
    unfold Ok; rw [e j, e (par j), if_neg hne]
    rw [if_neg hpne]
    by_cases c1 : j = i
    · subst c1; exact absurd rfl hpne
    · rw [if_neg c1]
      by_cases c2 : par j = i
      · rw [if_pos c2]; exact h2 hi j hj hjn c2
      · rw [if_neg c2]; exact h1 j hj hjn c1 c2
  · intro hpi c hc hcn hpc
    rw [hl] at hcn
    have hpp := par_lt hpi
    rw [e c, e (par (par i)), if_neg (show par (par i) ≠ par i by omega), if_neg (show par (par i) ≠ i by omega)]
    have k1 : ¬ Ahead (it xs (par i)) (it xs (par (par i))) := h1 (par i) hpi hpn (by omega) (by omega)
    by_cases c1 : c = par i
    · have := par_lt hc; omega
    · rw [if_neg c1]
      by_cases c2 : c = i
      · rw [if_pos c2]; exact k1
      · rw [if_neg c2]
        have k2 : ¬ Ahead (it xs c) (it xs (par i)) := by
          have := h1 c hc hcn c2 (by rw [hpc]; omega)
          unfold Ok at this; rwa [hpc] at this
        exact not_ahead_trans k2 k1
  · intro c hc hcn hpc
    rw [hl] at hcn
    have := par_lt hc
    unfold Ok; rw [e c, e (par c), hpc, if_pos rfl, if_neg (show c ≠ par i by omega)]
    by_cases c2 : c = i
    · rw [if_pos c2]; exact ahead_not ha
    · rw [if_neg c2]; exact hq c hc hcn hpc c2

theorem up_exit {xs : List Itm} {i : Nat} (h : UpI xs i) (hx : 0 < i → i < xs.length → ¬ Ahead (it xs i) (it xs (par i))) : Heaped xs := by
  intro j hj hjn
  by_cases c1 : j = i
  · subst c1; exact hx hj hjn
  · by_cases c2 : par j = i
    · exact h.2 j hj hjn c2
    · exact h.1.1 j hj hjn c1 c2

theorem exc_exit {xs : List Itm} {i : Nat} (h : Exc xs i) (hx : 0 < i → i < xs.length → ¬ Ahead (it xs i) (it xs (par i))) : DownI xs i := ⟨h, hx⟩

theorem heaped_downI {xs : List Itm} (h : Heaped xs) (i : Nat) : DownI xs i := by
  refine ⟨⟨fun j hj hjn _ _ => h j hj hjn, fun hi c hc hcn hpc => ?_⟩, fun hi hn => h i hi hn⟩
  have := par_lt hc
  have k1 := h c hc hcn
  have k2 := h i hi (by omega)
  unfold Ok at k1 k2; rw [hpc] at k1
  exact not_ahead_trans k1 k2

theorem down_step {xs : List Itm} {i f : Nat} (h : DownI xs i) (hf : f < xs.length) (hf0 : 0 < f) (hp : par f = i) (ha : Ahead (it xs f) (it xs i)) (hm : ∀ c, 0 < c → c < xs.length → par c = i → ¬ Ahead (it xs c) (it xs f)) : DownI (swp xs i f) f := by
  obtain ⟨⟨h1, h2⟩, h3⟩ := h
  have hpf := par_lt hf0
  have hin : i < xs.length := by omega
  have e := fun k => it_swp xs i f k hin hf
  have hl := length_swp xs i f
  have hif : i ≠ f := by omega
  refine ⟨⟨?_, ?_⟩, ?_⟩
  · intro j hj hjn hne hpne
    rw [hl] at hjn
    unfold Ok; rw [e j, e (par j), if_neg hne, if_neg hpne]
    by_cases c1 : j = i
    · rw [if_pos c1]
      have hpi : par i < i := par_lt (by omega)
      rw [c1, if_neg (show par i ≠ i by omega)]
      exact h2 (by omega) f hf0 hf hp
    · rw [if_neg c1]
      by_cases c2 : par j = i
      · rw [if_pos c2]; exact hm j hj hjn c2
      · rw [if_neg c2]; exact h1 j hj hjn c1 c2
  · intro _ c hc hcn hpc
    rw [hl] at hcn
    have := par_lt hc
    rw [e c, e (par f), hp, if_neg (show c ≠ f by omega), if_neg (show c ≠ i by omega), if_neg hif, if_pos rfl]
    have := h1 c hc hcn (by omega) (by omega)
    unfold Ok at this; rwa [hpc] at this
  · intro _ _
    unfold Ok; rw [e f, e (par f), hp, if_pos rfl, if_neg hif, if_pos rfl]
    exact ahead_not ha

theorem down_exit {xs : List Itm} {i : Nat} (h : DownI xs i) (hm : ∀ c, 0 < c → c < xs.length → par c = i → ¬ Ahead (it xs c) (it xs i)) : Heaped xs := by
  intro j hj hjn
  by_cases c1 : j = i
  · subst c1; exact h.2 hj hjn
  · by_cases c2 : par j = i
    · have := hm j hj hjn c2; unfold Ok; rwa [c2]
    · exact h.1.1 j hj hjn c1 c2

theorem top_most {xs : List Itm} (h : Heaped xs) : ∀ (n j : Nat), j ≤ n → j < xs.length → ¬ Ahead (it xs j) (it xs 0) := by
  intro n
  induction n with
  | zero => intro j hj _; rw [show j = 0 by omega]; exact not_ahead_self _
  | succ n ih =>
    intro j hj hjn
    by_cases c : j = 0
    · rw [c]; exact not_ahead_self _
    · have hp := par_lt (show 0 < j by omega)
      exact not_ahead_trans (h j (by omega) hjn) (ih (par j) (by omega) (by omega))

/-- Changing what stands at i. -/
theorem set_exc {xs : List Itm} (h : Heaped xs) (i : Nat) (v : Itm) (hi : i < xs.length) : Exc (xs.set i v) i := by
  have hl : (xs.set i v).length = xs.length := by simp
  refine ⟨fun j hj hjn hne hpne => ?_, fun h0 c hc hcn hpc => ?_⟩
  · rw [hl] at hjn
    unfold Ok; rw [it_set_ne _ _ _ _ hne, it_set_ne _ _ _ _ hpne]; exact h j hj hjn
  · rw [hl] at hcn
    have := par_lt hc; have := par_lt h0
    rw [it_set_ne _ _ _ _ (by omega), it_set_ne _ _ _ _ (by omega)]
    have k1 := h c hc hcn; have k2 := h i h0 hi
    unfold Ok at k1 k2; rw [hpc] at k1
    exact not_ahead_trans k1 k2

/-- Putting one behind all. -/
theorem append_upI {xs : List Itm} (h : Heaped xs) (x : Itm) : UpI (xs ++ [x]) xs.length := by
  have hl : (xs ++ [x]).length = xs.length + 1 := by simp
  refine ⟨⟨fun j hj hjn hne hpne => ?_, fun h0 c hc hcn hpc => ?_⟩, fun c hc hcn hpc => ?_⟩
  · rw [hl] at hjn
    have := par_lt hj
    unfold Ok; rw [it_append_lt _ _ _ (by omega), it_append_lt _ _ _ (by omega)]; exact h j hj (by omega)
  · rw [hl] at hcn; have := par_lt hc; omega
  · rw [hl] at hcn; have := par_lt hc; omega

/-- Taking out the one at i: the last one in its place. -/
theorem take_exc {xs : List Itm} (h : Heaped xs) (i : Nat) (hi : i < xs.length - 1) : Exc ((swp xs i (xs.length - 1)).take (xs.length - 1)) i := by
  have hl : ((swp xs i (xs.length - 1)).take (xs.length - 1)).length = xs.length - 1 := by rw [List.length_take, length_swp]; omega
  have e : ∀ k, k < xs.length - 1 → k ≠ i → it ((swp xs i (xs.length - 1)).take (xs.length - 1)) k = it xs k := by
    intro k hk hne
    rw [it_take _ _ _ hk, it_swp _ _ _ _ (by omega) (by omega), if_neg (by omega), if_neg hne]
  refine ⟨fun j hj hjn hne hpne => ?_, fun h0 c hc hcn hpc => ?_⟩
  · rw [hl] at hjn
    have := par_lt hj
    unfold Ok; rw [e _ hjn hne, e _ (by omega) hpne]; exact h j hj (by omega)
  · rw [hl] at hcn
    have := par_lt hc; have := par_lt h0
    rw [e _ hcn (by omega), e _ (by omega) (by omega)]
    have k1 := h c hc (by omega); have k2 := h i h0 (by omega)
    unfold Ok at k1 k2; rw [hpc] at k1
    exact not_ahead_trans k1 k2
theorem take_heaped {xs : List Itm} (h : Heaped xs) (n : Nat) : Heaped (xs.take n) := by
  intro j hj hjn
  rw [List.length_take] at hjn
  have := par_lt hj
  unfold Ok; rw [it_take _ _ _ (by omega), it_take _ _ _ (by omega)]; exact h j hj (by omega)
theorem swp_self (xs : List Itm) (i : Nat) (hi : i < xs.length) : swp xs i i = xs := by
  unfold swp it
  have : (xs.getD i (0, 0)) = xs[i] := by simp [List.getD, hi]
  rw [this]; simp

/-! Places. -/
def Places (M : Int → Option Nat) (xs : List Itm) : Prop := ∀ k i, M k = some i ↔ i < xs.length ∧ (it xs i).1 = k
def upd {α : Type} (M : Int → Option α) (k : Int) (v : Option α) : Int → Option α := fun x => if x = k then v else M x
theorem upd_same {α : Type} (M : Int → Option α) (k : Int) (v : Option α) : upd M k v k = v := if_pos rfl
theorem upd_other {α : Type} (M : Int → Option α) (k x : Int) (v : Option α) (h : x ≠ k) : upd M k v x = M x := if_neg h

theorem places_key {M : Int → Option Nat} {xs : List Itm} (h : Places M xs) {i j : Nat} (hi : i < xs.length) (hj : j < xs.length) (e : (it xs i).1 = (it xs j).1) : i = j := by
  have a := (h (it xs j).1 i).2 ⟨hi, e⟩
  have b := (h (it xs j).1 j).2 ⟨hj, rfl⟩
  rw [a] at b; exact Option.some.inj b

theorem places_swp {M : Int → Option Nat} {xs : List Itm} (h : Places M xs) {i j : Nat} (hi : i < xs.length) (hj : j < xs.length) :
    Places (upd (upd M (it xs j).1 (some i)) (it xs i).1 (some j)) (swp xs i j) := by
  intro k q
  have e := it_swp xs i j q hi hj
  rw [length_swp, e]
  unfold upd
  by_cases c1 : k = (it xs i).1
  · rw [if_pos c1]
    constructor
    · intro g; obtain rfl := Option.some.inj g; exact ⟨hj, by rw [if_pos rfl, c1]⟩
    · rintro ⟨g1, g2⟩
      by_cases d1 : q = j
      · rw [d1]
      · rw [if_neg d1] at g2
        by_cases d2 : q = i
        · rw [if_pos d2] at g2
          have := places_key h hj hi (by rw [g2, c1]); rw [d2, ← this]
        · rw [if_neg d2] at g2
          exact absurd (places_key h g1 hi (by rw [g2, c1])) d2
  · rw [if_neg c1]
    by_cases c2 : k = (it xs j).1
    · rw [if_pos c2]
      constructor
      · intro g; obtain rfl := Option.some.inj g
        refine ⟨hi, ?_⟩
        by_cases d1 : i = j
        · exact absurd (by rw [c2, d1]) c1
        · rw [if_neg d1, if_pos rfl, c2]
      · rintro ⟨g1, g2⟩
        by_cases d1 : q = j
        · rw [if_pos d1] at g2; exact absurd g2.symm c1
        · rw [if_neg d1] at g2
          by_cases d2 : q = i
          · rw [d2]
          · rw [if_neg d2] at g2
            exact absurd (places_key h g1 hj (by rw [g2, c2])) d1
    · rw [if_neg c2, h k q]
      constructor
      · rintro ⟨g1, g2⟩
        refine ⟨g1, ?_⟩
        rw [if_neg (fun e => c2 (by rw [← g2, e])), if_neg (fun e => c1 (by rw [← g2, e]))]
        exact g2
      · rintro ⟨g1, g2⟩
        refine ⟨g1, ?_⟩
        by_cases d1 : q = j
        · rw [if_pos d1] at g2; exact absurd g2.symm c1
        · rw [if_neg d1] at g2
          by_cases d2 : q = i
          · rw [if_pos d2] at g2; exact absurd g2.symm c2
          · rw [if_neg d2] at g2; exact g2

theorem places_append {M : Int → Option Nat} {xs : List Itm} (h : Places M xs) (x : Itm) (hx : M x.1 = none) : Places (upd M x.1 (some xs.length)) (xs ++ [x]) := by
  intro k q
  have hl : (xs ++ [x]).length = xs.length + 1 := by simp
  rw [hl]
  unfold upd
  by_cases c1 : k = x.1
  · rw [if_pos c1]
    constructor
    · intro g; obtain rfl := Option.some.inj g; exact ⟨by omega, by rw [it_append_last, c1]⟩
    · rintro ⟨g1, g2⟩
      by_cases d1 : q = xs.length
      · rw [d1]
      · rw [it_append_lt _ _ _ (by omega)] at g2
        have := (h k q).2 ⟨by omega, g2⟩
        rw [c1, hx] at this; cases this
  · rw [if_neg c1, h k q]
    constructor
    · rintro ⟨g1, g2⟩; exact ⟨by omega, by rw [it_append_lt _ _ _ g1]; exact g2⟩
    · rintro ⟨g1, g2⟩
      by_cases d1 : q = xs.length
      · rw [d1, it_append_last] at g2; exact absurd g2.symm c1
      · rw [it_append_lt _ _ _ (by omega)] at g2; exact ⟨by omega, g2⟩

/-- The last one goes. -/
theorem places_take {M : Int → Option Nat} {xs : List Itm} (h : Places M xs) (hn : 0 < xs.length) : Places (upd M (it xs (xs.length - 1)).1 none) (xs.take (xs.length - 1)) := by
  intro k q
  have hl : (xs.take (xs.length - 1)).length = xs.length - 1 := by rw [List.length_take]; omega
  rw [hl]
  unfold upd
  by_cases c1 : k = (it xs (xs.length - 1)).1
  · rw [if_pos c1]
    constructor
    · intro g; cases g
    · rintro ⟨g1, g2⟩
      rw [it_take _ _ _ g1] at g2
      have := places_key h (show q < xs.length by omega) (show xs.length - 1 < xs.length by omega) (by rw [g2, c1])
      omega
  · rw [if_neg c1, h k q]
    constructor
    · rintro ⟨g1, g2⟩
      have : q ≠ xs.length - 1 := fun e => c1 (by rw [← g2, e])
      exact ⟨by omega, by rw [it_take _ _ _ (by omega)]; exact g2⟩
    · rintro ⟨g1, g2⟩
      rw [it_take _ _ _ g1] at g2; exact ⟨by omega, g2⟩

theorem places_set {M : Int → Option Nat} {xs : List Itm} (h : Places M xs) (i : Nat) (hi : i < xs.length) (p : Int) : Places M (xs.set i ((it xs i).1, p)) := by
  intro k q
  rw [h k q, List.length_set, it_set _ _ _ _ hi]
  by_cases c : q = i
  · subst c; rw [if_pos rfl]
  · rw [if_neg c]

/-! What is there. -/
def Cont (M : Int → Option Nat) (xs : List Itm) : Int → Option Int := fun k => (M k).map fun i => (it xs i).2
theorem cont_some {M : Int → Option Nat} {xs : List Itm} (h : Places M xs) {k p : Int} : Cont M xs k = some p ↔ ∃ i, i < xs.length ∧ it xs i = (k, p) := by
  unfold Cont
  constructor
  · intro e
    cases hm : M k with
    | none => rw [hm] at e; cases e
    | some i =>
      rw [hm] at e
      obtain ⟨g1, g2⟩ := (h k i).1 hm
      exact ⟨i, g1, Prod.ext g2 (Option.some.inj e)⟩
  · rintro ⟨i, g1, g2⟩
    have := (h k i).2 ⟨g1, by rw [g2]⟩
    rw [this]; simp [g2]
theorem cont_none {M : Int → Option Nat} {xs : List Itm} {k : Int} : Cont M xs k = none ↔ M k = none := by unfold Cont; simp
theorem cont_ext {M M' : Int → Option Nat} {xs ys : List Itm} (h : Places M xs) (h' : Places M' ys) (e : ∀ x, (∃ i, i < xs.length ∧ it xs i = x) ↔ ∃ i, i < ys.length ∧ it ys i = x) : Cont M xs = Cont M' ys := by
  funext k
  cases c : Cont M xs k with
  | some p => exact ((cont_some h').2 ((e _).1 ((cont_some h).1 c))).symm
  | none =>
    cases c' : Cont M' ys k with
    | none => rfl
    | some p => rw [(cont_some h).2 ((e _).2 ((cont_some h').1 c'))] at c; cases c
theorem cont_swp {M : Int → Option Nat} {xs : List Itm} (h : Places M xs) {i j : Nat} (hi : i < xs.length) (hj : j < xs.length) :
    Cont (upd (upd M (it xs j).1 (some i)) (it xs i).1 (some j)) (swp xs i j) = Cont M xs := by
  refine cont_ext (places_swp h hi hj) h fun x => ?_
  rw [length_swp]
  constructor
  · rintro ⟨q, g1, g2⟩
    rw [it_swp _ _ _ _ hi hj] at g2
    by_cases d1 : q = j
    · rw [if_pos d1] at g2; exact ⟨i, hi, g2⟩
    · rw [if_neg d1] at g2
      by_cases d2 : q = i
      · rw [if_pos d2] at g2; exact ⟨j, hj, g2⟩
      · rw [if_neg d2] at g2; exact ⟨q, g1, g2⟩
  · rintro ⟨q, g1, g2⟩
    by_cases d1 : q = i
    · refine ⟨j, hj, ?_⟩; rw [it_swp _ _ _ _ hi hj, if_pos rfl, ← d1]; exact g2
    · by_cases d2 : q = j
      · refine ⟨i, hi, ?_⟩
        rw [it_swp _ _ _ _ hi hj, if_neg (fun e => d1 (by rw [d2, e])), if_pos rfl, ← d2]; exact g2
      · refine ⟨q, g1, ?_⟩; rw [it_swp _ _ _ _ hi hj, if_neg d2, if_neg d1]; exact g2
theorem cont_append {M : Int → Option Nat} {xs : List Itm} (h : Places M xs) (x : Itm) (hx : M x.1 = none) : Cont (upd M x.1 (some xs.length)) (xs ++ [x]) = upd (Cont M xs) x.1 (some x.2) := by
  funext k
  unfold Cont upd
  by_cases c : k = x.1
  · rw [if_pos c, if_pos c]; simp [it_append_last]
  · rw [if_neg c, if_neg c]
    show _ = (M k).map _
    cases hm : M k with
    | none => rfl
    | some i => simp only [Option.map_some]; rw [it_append_lt _ _ _ ((h k i).1 hm).1]
theorem cont_take {M : Int → Option Nat} {xs : List Itm} (h : Places M xs) (hn : 0 < xs.length) : Cont (upd M (it xs (xs.length - 1)).1 none) (xs.take (xs.length - 1)) = upd (Cont M xs) (it xs (xs.length - 1)).1 none := by
  funext k
  unfold Cont upd
  by_cases c : k = (it xs (xs.length - 1)).1
  · rw [if_pos c, if_pos c]; rfl
  · rw [if_neg c, if_neg c]
    show _ = (M k).map _
    cases hm : M k with
    | none => rfl
    | some i =>
      obtain ⟨g1, g2⟩ := (h k i).1 hm
      have : i ≠ xs.length - 1 := fun e => c (by rw [← g2, e])
      simp only [Option.map_some]; rw [it_take _ _ _ (by omega)]
theorem cont_set {M : Int → Option Nat} {xs : List Itm} (h : Places M xs) (i : Nat) (hi : i < xs.length) (p : Int) : Cont M (xs.set i ((it xs i).1, p)) = upd (Cont M xs) (it xs i).1 (some p) := by
  funext k
  unfold Cont upd
  by_cases c : k = (it xs i).1
  · rw [if_pos c, (h k i).2 ⟨hi, c.symm⟩]
    simp only [Option.map_some]; rw [it_set _ _ _ _ hi, if_pos rfl]
  · rw [if_neg c]
    show _ = (M k).map _
    cases hm : M k with
    | none => rfl
    | some q =>
      obtain ⟨g1, g2⟩ := (h k q).1 hm
      simp only [Option.map_some]; rw [it_set _ _ _ _ hi, if_neg (fun e => c (by rw [← g2, e]))]

end Go.Proofs.Ytclekakhgaggdaa.HeapT
