/- The document's mark, without the program. -/
import Derived.Test.YtclekakhgaggdaaQV
namespace Go.Proofs.Ytclekakhgaggdaa.HeapC
open Go.RowKit Go.Proofs.Ytclekakhgaggdaa.HeapT Go.Proofs.Ytclekakhgaggdaa.HeapM Go.Proofs.Ytclekakhgaggdaa.QueueM
set_option linter.unusedVariables false
set_option linter.unusedSimpArgs false
/-- One step of the document's mark: what was put out, whether k was put in, whether it was met. -/
def mkStep (k : Int) (is : Bool) (s : List Int × Bool × Bool) (y : Int) : List Int × Bool × Bool :=
  if y = k then (s.1, s.2.1, true) else if (is && !s.2.1 && decide (k < y)) = true then (s.1 ++ [k] ++ [y], true, s.2.2) else (s.1 ++ [y], s.2)
def mkAll (k : Int) (is : Bool) (ys : List Int) : List Int × Bool × Bool := ys.foldl (mkStep k is) ([], false, false)
def mkEnd (k : Int) (is : Bool) (ys : List Int) : List Int := if (is && !(mkAll k is ys).2.1) = true then (mkAll k is ys).1 ++ [k] else (mkAll k is ys).1
theorem mkAll_snoc (k : Int) (is : Bool) (ys : List Int) (y : Int) : mkAll k is (ys ++ [y]) = mkStep k is (mkAll k is ys) y := by
  unfold mkAll; rw [List.foldl_append]; rfl
theorem snocInd {P : List Int → Prop} (base : P []) (step : ∀ ys y, P ys → P (ys ++ [y])) (ys : List Int) : P ys := by
  rw [← List.reverse_reverse ys]
  induction ys.reverse with
  | nil => exact base
  | cons y l ih => rw [List.reverse_cons]; exact step _ _ ih
theorem mkAll_take (k : Int) (is : Bool) (ys : List Int) (i : Nat) (h : i < ys.length) : mkAll k is (ys.take (i + 1)) = mkStep k is (mkAll k is (ys.take i)) (ys.getD i 0) := by
  rw [List.take_add_one, List.getElem?_eq_getElem h, List.getD_eq_getElem?_getD, List.getElem?_eq_getElem h]
  exact mkAll_snoc k is _ _
theorem mkStep_met {k : Int} {is : Bool} {L : List Int} {d u : Bool} {y : Int} (h : y = k) : mkStep k is (L, d, u) y = (L, d, true) := by
  unfold mkStep; rw [if_pos h]
theorem mkStep_ins {k : Int} {L : List Int} {u : Bool} {y : Int} (h : ¬ y = k) (hk : k < y) : mkStep k true (L, false, u) y = ((L ++ [k]) ++ [y], true, u) := by
  unfold mkStep; rw [if_neg h, if_pos (by simp [hk])]
theorem mkStep_on {k : Int} {is : Bool} {L : List Int} {d u : Bool} {y : Int} (h : ¬ y = k) (hc : (is && !d && decide (k < y)) = false) : mkStep k is (L, d, u) y = (L ++ [y], d, u) := by
  unfold mkStep; rw [if_neg h, if_neg (by rw [hc]; simp)]
theorem mkAll_len (k : Int) (is : Bool) (ys : List Int) : (mkAll k is ys).1.length ≤ 2 * ys.length := by
  induction ys using snocInd with
  | base => simp [mkAll]
  | step ys y ih =>
    rw [mkAll_snoc]; unfold mkStep; split
    · simp; omega
    · split <;> simp <;> omega
structure MkOk (k : Int) (is : Bool) (ys : List Int) (s : List Int × Bool × Bool) : Prop where
  mem : ∀ x, x ∈ s.1 ↔ (x ∈ ys ∧ x ≠ k) ∨ (s.2.1 = true ∧ x = k)
  srt : s.1.Pairwise (· < ·)
  done : s.2.1 = true → is = true ∧ ∃ y ∈ ys, k < y
  undone : is = true → s.2.1 = false → ∀ y ∈ ys, y ≤ k
  was : s.2.2 = true ↔ k ∈ ys
theorem mk_ok (k : Int) (is : Bool) (ys : List Int) (hs : ys.Pairwise (· < ·)) : MkOk k is ys (mkAll k is ys) := by
  induction ys using snocInd with
  | base => exact ⟨by simp [mkAll], by simp [mkAll], by simp [mkAll], by simp, by simp [mkAll]⟩
  | step ys y ih =>
    rw [List.pairwise_append] at hs
    obtain ⟨h1, _, h2⟩ := hs
    have hlt : ∀ x ∈ ys, x < y := fun x hx => h2 x hx y (by simp)
    obtain ⟨m, st, d, u, wa⟩ := ih h1
    rw [mkAll_snoc]
    generalize mkAll k is ys = s at *
    unfold mkStep
    by_cases e : y = k
    · rw [if_pos e]
      refine ⟨fun x => ?_, st, fun h => ?_, fun i h z hz => ?_, by simp [e]⟩
      · rw [m x]; simp only [List.mem_append, List.mem_singleton]
        constructor
        · rintro (⟨a, b⟩ | h)
          · exact .inl ⟨.inl a, b⟩
          · exact .inr h
        · rintro (⟨a | a, b⟩ | h)
          · exact .inl ⟨a, b⟩
          · omega
          · exact .inr h
      · obtain ⟨a, z, b, c⟩ := d h; exact ⟨a, z, by simp [b], c⟩
      · simp only [List.mem_append, List.mem_singleton] at hz
        rcases hz with hz | hz
        · exact u i h z hz
        · omega
    · rw [if_neg e]
      split
      · rename_i hc
        simp only [Bool.and_eq_true, Bool.not_eq_true', decide_eq_true_eq] at hc
        obtain ⟨⟨hi, hd⟩, hk⟩ := hc
        have hle := u hi hd
        refine ⟨fun x => ?_, ?_, fun _ => ⟨hi, y, by simp, hk⟩, fun _ h => (by simp at h), by simp [wa, Ne.symm e]⟩
        · simp only [List.mem_append, List.mem_singleton, m x, hd]
          by_cases e1 : x = k
          · subst e1; simp
          · by_cases e2 : x = y
            · subst e2; simp [e1]
            · simp [e1, e2]
        · have hin : ∀ x ∈ s.1, x < k := fun x hx => by
            rcases (m x).1 hx with ⟨a, b⟩ | ⟨a, b⟩
            · have := hle x a; omega
            · rw [hd] at a; cases a
          rw [List.append_assoc, List.pairwise_append]
          refine ⟨st, by simp [hk], fun a ha b hb => ?_⟩
          have := hin a ha
          simp at hb
          rcases hb with hb | hb <;> omega
      · rename_i hc
        refine ⟨fun x => ?_, ?_, fun h => ?_, fun i h z hz => ?_, by simp [wa, Ne.symm e]⟩
        · simp only [List.mem_append, List.mem_singleton, m x]
          constructor
          · rintro ((⟨a, b⟩ | h) | h)
            · exact .inl ⟨.inl a, b⟩
            · exact .inr h
            · exact .inl ⟨.inr h, by omega⟩
          · rintro (⟨a | a, b⟩ | h)
            · exact .inl (.inl ⟨a, b⟩)
            · exact .inr a
            · exact .inl (.inr h)
        · rw [List.pairwise_append]
          refine ⟨st, by simp, fun a ha b hb => ?_⟩
          simp at hb; subst hb
          rcases (m a).1 ha with ⟨a1, _⟩ | ⟨a1, a2⟩
          · exact hlt a a1
          · obtain ⟨_, z, b1, b2⟩ := d a1; have := hlt z b1; omega
        · obtain ⟨a, z, b, c⟩ := d h; exact ⟨a, z, by simp [b], c⟩
        · simp only [List.mem_append, List.mem_singleton] at hz
          rcases hz with hz | hz
          · exact u i h z hz
          · simp only [Bool.and_eq_true, Bool.not_eq_true', decide_eq_true_eq, not_and] at hc
            have := hc ⟨i, h⟩; omega
theorem mk_set {S : Int → Bool} {ys : List Int} (h : SetOf S ys) (k : Int) (is : Bool) : SetOf (sadd S k is) (mkEnd k is ys) ∧ (mkAll k is ys).2.2 = S k := by
  obtain ⟨m, st, d, u, wa⟩ := mk_ok k is ys h.srt
  refine ⟨?_, ?_⟩
  · unfold mkEnd
    generalize mkAll k is ys = s at *
    split
    · rename_i hc
      simp only [Bool.and_eq_true, Bool.not_eq_true'] at hc
      obtain ⟨hi, hd⟩ := hc
      refine ⟨?_, fun x => ?_⟩
      · rw [List.pairwise_append]
        refine ⟨st, by simp, fun a ha b hb => ?_⟩
        simp at hb; subst hb
        rcases (m a).1 ha with ⟨a1, a2⟩ | ⟨a1, a2⟩
        · have := u hi hd a a1; omega
        · rw [hd] at a1; cases a1
      · simp only [List.mem_append, List.mem_singleton, m x, hd, h.mem x]
        unfold sadd
        by_cases e : x = k
        · rw [if_pos e]; simp [e, hi]
        · rw [if_neg e]; simp [e]
    · rename_i hc
      refine ⟨st, fun x => ?_⟩
      rw [m x, h.mem x]
      unfold sadd
      by_cases e : x = k
      · rw [if_pos e]
        simp only [Bool.and_eq_true, Bool.not_eq_true'] at hc
        constructor
        · rintro (⟨_, b⟩ | ⟨a, _⟩)
          · exact absurd e b
          · exact (d a).1
        · intro hi
          refine .inr ⟨?_, e⟩
          cases hd : s.2.1 with
          | true => rfl
          | false => exact absurd ⟨hi, hd⟩ hc
      · rw [if_neg e]; simp [e]
  · have := h.mem k
    cases hw : (mkAll k is ys).2.2 <;> cases hS : S k <;> simp_all
theorem mkEnd_len (k : Int) (is : Bool) (ys : List Int) : (mkEnd k is ys).length ≤ 2 * ys.length + 1 := by
  have := mkAll_len k is ys
  unfold mkEnd; split
  · rw [List.length_append, List.length_singleton]; omega
  · omega
end Go.Proofs.Ytclekakhgaggdaa.HeapC
/- The document's queue in memory; mark. -/
namespace Go.Proofs.Ytclekakhgaggdaa.HeapC
open Go.RowKit Go.Proofs.Ytclekakhgaggdaa.HeapT Go.Proofs.Ytclekakhgaggdaa.HeapM Go.Proofs.Ytclekakhgaggdaa.QueueM Go.Proofs.YtclekakhgaggdaaW.PrintWords Go.Proofs.YtclekakhgaggdaaW.PrintLast Go.Proofs.YtclekakhgaggdaaW.PrintMore
set_option linter.unusedVariables false
set_option linter.unusedSimpArgs false
/-- Ints that are read at v (it may begin within its block), in blocks of H. -/
def IntsAt (w : World) (H : Nat → Prop) (v : Value) (ys : List Int) : Prop :=
  ∃ a cap, v = .slice a ys.length cap ∧ ys.length ≤ cap ∧ ∀ i, i < ys.length → ∃ b off, a = some ⟨b, off, none⟩ ∧ H b ∧ b < w.heap.size ∧ w.cell? ⟨b, off + i, none⟩ = some (.int .i64 (ys.getD i 0))
theorem IntsAt.keep {w w' : World} {H S : Nat → Prop} {v : Value} {ys : List Int} (h : IntsAt w H v ys) (c : Chg w w' S) (d : ∀ k, S k → ¬ H k) : IntsAt w' H v ys := by
  obtain ⟨a, cap, h1, h2, h3⟩ := h
  refine ⟨a, cap, h1, h2, fun i hi => ?_⟩
  obtain ⟨b, off, e, hb, hl, hc⟩ := h3 i hi
  exact ⟨b, off, e, hb, Nat.lt_of_lt_of_le hl c.size, (c.cell hl (fun s => d b s hb) (off + i)).trans hc⟩
theorem IntsAt.mono {w : World} {H H' : Nat → Prop} {v : Value} {ys : List Int} (h : IntsAt w H v ys) (hH : ∀ k, H k → H' k) : IntsAt w H' v ys := by
  obtain ⟨a, cap, h1, h2, h3⟩ := h
  refine ⟨a, cap, h1, h2, fun i hi => ?_⟩
  obtain ⟨b, off, e, hb, hl, hc⟩ := h3 i hi
  exact ⟨b, off, e, hH b hb, hl, hc⟩
theorem NRow.ints {w : World} {B : Nat} {v : Value} {ys : List Int} (h : NRow w B v ys) : IntsAt w (fun k => B ≤ k ∧ k < w.heap.size) v ys := by
  have hc0 : ∀ a n cap, v = .slice a n cap → n = ys.length → n ≤ cap := by
    intro a n cap e e2
    rcases h.2 with ⟨h1, h2⟩ | ⟨b, cap', cur, h1, h2, h3, h4, h5⟩
    · omega
    · rw [h1] at e; injection e with _ _ e3; omega
  obtain ⟨a, cap, rfl, _, hc⟩ := h.nums
  refine ⟨a, cap, rfl, hc0 _ _ _ rfl rfl, fun i hi => ?_⟩
  obtain ⟨b, rfl, e2, e3, e4⟩ := hc i hi
  exact ⟨b, 0, rfl, ⟨(World.ownsRow.lt h b e2).1, e3⟩, e3, by rw [Nat.zero_add]; exact e4⟩
/-- The other cells of the document's queue. -/
def kap (age : Int) (dv : Value) : TypeId × List Value := (34, [.int .i64 age, dv])
/-- The document's queue lies at r: what waits is xs, what is dirty is ys; its blocks are G. -/
def RQ (w : World) (r : Nat) (xs : List Itm) (most age : Int) (ys : List Int) (G : Nat → Prop) : Prop :=
  ∃ dv E, IsRef (kap age dv) w r xs most E ∧ IntsAt w (fun k => G k ∧ ¬ E k) dv ys ∧ (∀ k, E k → G k) ∧ ∀ k, G k → k < w.heap.size
/-- What a step of the document's queue leaves. -/
def QPost (w w' : World) (r : Nat) (xs : List Itm) (most age : Int) (ys : List Int) (G : Nat → Prop) : Prop :=
  ∃ G', RQ w' r xs most age ys G' ∧ Chg w w' G ∧ ∀ k, G' k → G k ∨ (w.heap.size ≤ k ∧ k < w'.heap.size)
theorem RQ.below {w w' : World} {r : Nat} {xs : List Itm} {most age : Int} {ys : List Int} {G : Nat → Prop} (h : RQ w r xs most age ys G) (b : Below w.heap.size w w') : RQ w' r xs most age ys G := by
  obtain ⟨dv, E, h1, h2, h3, h4⟩ := h
  exact ⟨dv, E, h1.below b, h2.keep (Chg.of_below b (fun _ => False)) (fun _ e => e.elim), h3, fun k e => Nat.lt_of_lt_of_le (h4 k e) b.size⟩
theorem RQ.keep {w w' : World} {r : Nat} {xs : List Itm} {most age : Int} {ys : List Int} {G S : Nat → Prop} (h : RQ w r xs most age ys G) (c : Chg w w' S) (d : ∀ k, S k → ¬ G k) : RQ w' r xs most age ys G := by
  obtain ⟨dv, E, h1, h2, h3, h4⟩ := h
  exact ⟨dv, E, h1.keep c (fun k s e => d k s (h3 k e)), h2.keep c (fun k s e => d k s e.1), h3, fun k e => Nat.lt_of_lt_of_le (h4 k e) c.size⟩
/-- A step of the heap within. -/
theorem rq_heap {w w' : World} {r : Nat} {xs' : List Itm} {most age : Int} {ys : List Int} {dv : Value} {E G : Nat → Prop} (hd : IntsAt w (fun k => G k ∧ ¬ E k) dv ys) (hE : ∀ k, E k → G k) (hG : ∀ k, G k → k < w.heap.size) (hp : RPost (kap age dv) w w' r xs' most E) : QPost w w' r xs' most age ys G := by
  obtain ⟨E', h1, h2, h3⟩ := hp
  refine ⟨fun k => E' k ∨ (G k ∧ ¬ E k), ⟨dv, E', h1, (hd.keep h2 (fun k e f => f.2 e)).mono (fun k e => ⟨.inr e, fun f => ?_⟩), fun k e => .inl e, ?_⟩, ?_, ?_⟩
  · rcases h3 k f with x | x
    · exact e.2 x
    · have := hG k e.1; omega
  · rintro k (e | e)
    · exact h1.lt k e
    · exact Nat.lt_of_lt_of_le (hG k e.1) h2.size
  · exact h2.mono (fun k e => .inl (hE k e))
  · rintro k (e | e)
    · exact (h3 k e).imp (hE k) id
    · exact .inl e.1
theorem QPost.trans {w w1 w2 : World} {r : Nat} {xs xs' : List Itm} {most age : Int} {ys ys' : List Int} {G : Nat → Prop} (h : QPost w w1 r xs most age ys G) (g : ∀ G', RQ w1 r xs most age ys G' → QPost w1 w2 r xs' most age ys' G') : QPost w w2 r xs' most age ys' G := by
  obtain ⟨G1, h1, h2, h3⟩ := h
  obtain ⟨G2, g1, g2, g3⟩ := g G1 h1
  refine ⟨G2, g1, ?_, fun k e => ?_⟩
  · exact h2.trans g2 (fun k e => (h3 k e).imp id And.left)
  · rcases g3 k e with x | x
    · rcases h3 k x with y | y
      · exact .inl y
      · exact .inr ⟨y.1, Nat.lt_of_lt_of_le y.2 g2.size⟩
    · exact .inr ⟨Nat.le_trans h2.size x.1, x.2⟩
theorem QPost.of_below {w w' : World} {r : Nat} {xs : List Itm} {most age : Int} {ys : List Int} {G : Nat → Prop} (h : RQ w r xs most age ys G) (b : Below w.heap.size w w') : QPost w w' r xs most age ys G :=
  ⟨G, h.below b, Chg.of_below b G, fun k e => .inl e⟩
/-- The dirty ones are stored anew. -/
theorem rq_stored {w w1 : World} {r : Nat} {v dv dv' : Value} {xs : List Itm} {most age : Int} {ys : List Int} {E G : Nat → Prop} (hm : RMem (kap age dv) w r v xs most) (hE : ∀ k, (k = r ∨ v.ownBlock = some k) → E k) (hEl : ∀ k, E k → k < w.heap.size) (hEG : ∀ k, E k → G k) (hG : ∀ k, G k → k < w.heap.size) (hb : Below w.heap.size w w1) (hr : NRow w1 w.heap.size dv' ys) :
    QPost w (w1.setCell ⟨r, 3, none⟩ dv') r xs most age ys G := by
  have hrl := HeapM.blk_lt hm.head
  have c : Chg w1 (w1.setCell ⟨r, 3, none⟩ dv') (fun q => q = r) := (Chg.refl w1 (fun q => q = r)).setCell (.inl rfl) _
  have hh : (w1.setCell ⟨r, 3, none⟩ dv').heap[r]? = some (.cells (v :: .int .i64 most :: (kap age dv').2).toArray (kap age dv').1 (0, 0)) := by
    have h := HeapM.blk_set_same ((hb.block r hrl).trans hm.head) 3 dv' (by simp [kap])
    rw [show (v :: .int .i64 most :: (kap age dv).2).toArray.setIfInBounds 3 dv' = (v :: .int .i64 most :: (kap age dv').2).toArray by simp [kap]] at h
    exact h
  have hm1 : RMem (kap age dv') (w1.setCell ⟨r, 3, none⟩ dv') r v xs most := ⟨hh, row_keep c (row_keep (Chg.of_below hb (fun _ => False)) hm.row (fun _ e => e.elim)) (fun q e => by subst e; exact hm.vr), hm.vr⟩
  have sz : (w1.setCell ⟨r, 3, none⟩ dv').heap.size = w1.heap.size := by simp [World.setCell]
  have hs := hb.size
  refine ⟨fun k => E k ∨ (w.heap.size ≤ k ∧ k < w1.heap.size), ⟨dv', E, ⟨v, hm1, hE, fun k e => by rw [sz]; exact Nat.lt_of_lt_of_le (hEl k e) hs⟩, ?_, fun k e => .inl e, ?_⟩, ?_, ?_⟩
  · refine (hr.ints.keep c (fun k e f => by subst e; omega)).mono (fun k e => ⟨.inr e, fun f => by have := hEl k f; omega⟩)
  · rintro k (e | e)
    · rw [sz]; exact Nat.lt_of_lt_of_le (hEl k e) hs
    · rw [sz]; exact e.2
  · exact (Chg.of_below hb G).setCell (.inl (hEG r (hE r (.inl rfl)))) dv'
  · rintro k (e | e)
    · exact .inl (hEG k e)
    · exact .inr ⟨e.1, by rw [sz]; exact e.2⟩
set_option maxHeartbeats 4000000 in
set_option maxRecDepth 20000 in
theorem rmark (w : World) (r : Nat) (xs : List Itm) (most age : Int) (ys : List Int) (G : Nat → Prop) (h : RQ w r xs most age ys G) (hy : ys.length ≤ 10000) (k : Int) (is : Bool) :
    Calls Try.prog 30 #[.pointer (some ⟨r, 0, none⟩), .int .i64 k, .bool is] w fun e w' => e = .returned (.bool (mkAll k is ys).2.2) ∧ QPost w w' r xs most age (mkEnd k is ys) G := by
  obtain ⟨dv, E, ⟨v, hm, h2, h3⟩, hd, hE, hG⟩ := h
  have HST := Aside0.mk (fun w1 dv' zs (hb : Below w.heap.size w w1) hr => rq_stored (dv' := dv') (ys := zs) hm h2 h3 hE hG hb hr)
  obtain ⟨a, cap, rfl, hcap, hcells⟩ := hd
  have HM := Aside0.mk hm
  have hrl := HeapM.blk_lt hm.head
  obtain ⟨inf, hi0, hi1, hi2, hi3⟩ := info_int
  have hinf := Aside0.mk (And.intro hi0 (And.intro hi1 (And.intro hi2 hi3)))
  obtain ⟨len, hle⟩ : ∃ len, len = ys.length := ⟨_, rfl⟩
  have HLE := Aside0.mk hle
  have HC := Aside0.mk hcells
  rw [← hle] at hy
  have BB := Aside0.mk (Below.refl w.heap.size w)
  clear hm h2 h3 hE hG hcells hle hi0 hi1 hi2 hi3
  go_enter Try.func30, Try.ntmps30
  go_wp2_with fail
  go_loopw [7, 8, 9, 10] (fun vo vd vu vi wx => ∃ (i : Nat) (L : List Int) (d u : Bool), vi = .int .i64 i ∧ vd = .bool d ∧ vu = .bool u ∧ i ≤ len ∧ Aside0 (mkAll k is (ys.take i) = (L, d, u)) ∧ Aside0 (NRow wx w.heap.size vo L) ∧ Aside0 (Below w.heap.size w wx)) (fun _ _ _ vi _ => len - (intOf vi).toNat)
  case atStart => exact ⟨0, [], false, false, rfl, rfl, rfl, by omega, ⟨by simp [mkAll]⟩, ⟨by simp [NRow]; exact World.ownsRow_nil _ _ _ _⟩, BB⟩
  case round =>
    clear BB
    obtain ⟨i, L, d, u, rfl, rfl, rfl, hil, HS, HR2, HK2⟩ := hrel
    have c3 : wr.cell? ⟨r, 3, none⟩ = some (.slice a len cap) := by rw [HLE.out]; exact (HeapM.blk_cell (HM.out.below HK2.out).head 3).trans rfl
    have hLl : L.length ≤ 20000 := by
      have h := mkAll_len k is (ys.take i)
      rw [HS.out, List.length_take] at h
      simp only at h
      omega
    by_cases hlt : i < len
    · have hw1 : wrap64 ((i : Int) + 1) = (i : Int) + 1 := by unfold wrap64; omega
      obtain ⟨b, off, ea, -, hbl, q0⟩ := HC.out i (by have := HLE.out; omega)
      subst ea
      obtain ⟨x, hx⟩ : ∃ x, ys.getD i 0 = x := ⟨_, rfl⟩
      have q1 : wr.cell? ⟨b, off + i, none⟩ = some (.int .i64 x) := by rw [← hx]; exact (HK2.out.cell (p := ⟨b, off + i, none⟩) hbl).trans q0
      have HQ0 : Aside0 (w.cell? ⟨b, off + i, none⟩ = some (.int .i64 x)) := ⟨by rw [← hx]; exact q0⟩
      have HT : Aside0 (mkAll k is (ys.take (i + 1)) = mkStep k is (L, d, u) x) := ⟨by rw [mkAll_take k is ys i (by have := HLE.out; omega), HS.out, hx]⟩
      have li : ((len : Int) ≤ (i : Int)) = False := eq_false (by omega)
      have hlt' := Aside0.mk hlt
      clear hx q0
      by_cases xk : x = k
      · have bx : (x == k) = true := beq_iff_eq.2 xk
        have HXK := Aside0.mk xk
        clear xk
        go_wp2_with fail
        go_roundw
        case rel => exact ⟨i + 1, L, d, true, rfl, rfl, rfl, by have := hlt'.out; omega, ⟨by rw [HT.out]; exact mkStep_met HXK.out⟩, HR2, HK2⟩
        case measure => simp [intOf]; have := hlt'.out; omega
      · have bx : (x == k) = false := beq_eq_false_iff_ne.2 xk
        have HXK := Aside0.mk xk
        clear xk
        by_cases hc : (is && !d && decide (k < x)) = true
        · simp only [Bool.and_eq_true, Bool.not_eq_true', decide_eq_true_eq] at hc
          obtain ⟨⟨rfl, rfl⟩, hkx⟩ := hc
          have dk : decide (k < x) = true := decide_eq_true hkx
          have HKX := Aside0.mk hkx
          clear hkx
          have hown : (wr.alloc (.cells #[.int .i64 k] 3)).ownsRow w.heap.size 3 1 _ L.length (L.map (Value.int .i64)) := HR2.out.below (by apply below_alloc; exact Below.refl _ _)
          have hnews := World.news_of_block (show (wr.alloc (.cells #[.int .i64 k] 3 (0, 0))).heap[wr.heap.size]? = some (.cells #[.int .i64 k] 3 (0, 0)) from HeapM.blk_new wr (.cells #[.int .i64 k] 3 (0, 0)))
          have hgx : (wr.alloc (.cells #[.int .i64 k] 3)).heap.size = wr.heap.size + 1 := by simp
          have hwB : w.heap.size ≤ (wr.alloc (.cells #[.int .i64 k] 3)).heap.size := by rw [hgx]; have := HK2.out.size; omega
          have hLm : L.length + 1 ≤ maxLen := by unfold maxLen; omega
          have hLb : (L.length + 1) * 8 ≤ 140737488355328 := by omega
          obtain ⟨hi0, hi1, hi2, hi3⟩ := hinf.out
          have hown' := Lib.hid hown
          have hnews' := Lib.hid hnews
          have hgx' := Lib.hid hgx
          have hi0' := Lib.hid hi0
          have hi1' := Lib.hid hi1
          have hi2' := Lib.hid hi2
          have hi3' := Lib.hid hi3
          have BA : Below w.heap.size w (wr.alloc (.cells #[.int .i64 k] 3)) := by apply below_alloc; exact HK2.out
          have BA' := Aside0.mk BA
          clear hown hnews hgx hi0 hi1 hi2 hi3 BA
          go_wp2_with (first | (at_builtin; go_loud (refine wpList_append_lies _ rfl _ _ 32 rfl w.heap.size 3 inf (.int .i64 0) 1 8 Try.underlying32 hi0'.out hi1'.out hi2'.out hi3'.out rfl (by decide) _ L.length (L.map (Value.int .i64)) rfl hown'.out ⟨wr.heap.size, 0, none⟩ 1 1 [.int .i64 k] rfl rfl hnews'.out ?c1 (by decide) hLm hLb hwB (wr.heap.size + 1) hgx'.out ?_)))
          case c1 => first | rfl | exact ⟨rfl, rfl⟩
          intro g2 cap2 w2 hown2 hgr2 hat2 hlt2
          obtain ⟨R2, B2⟩ := nrow_app BA'.out hown'.out hown2 hgr2
          have R2' := Aside0.mk R2
          have B2' := Aside0.mk B2
          clear hown2 hgr2 hat2 hlt2 R2 B2 hown' hnews' hgx' hi0' hi1' hi2' hi3' hwB hLm hLb
          have c3b : w2.cell? ⟨r, 3, none⟩ = some (.slice (some ⟨b, off, none⟩) len cap) := by rw [HLE.out]; exact (HeapM.blk_cell (HM.out.below B2'.out).head 3).trans rfl
          have q1b : w2.cell? ⟨b, off + i, none⟩ = some (.int .i64 x) := (B2'.out.cell (p := ⟨b, off + i, none⟩) hbl).trans HQ0.out
          obtain ⟨L2, hL2⟩ : ∃ M, M = L ++ [k] := ⟨_, rfl⟩
          rw [← hL2] at R2'
          have hLe : L.length + 1 = L2.length := by rw [hL2, List.length_append, List.length_singleton]
          have hLl2 : L2.length ≤ 20001 := by omega
          have HL2 := Aside0.mk hL2
          rw [hLe] at R2' ⊢
          obtain ⟨w2b, hw2⟩ : ∃ W, w2 = W := ⟨_, rfl⟩
          obtain ⟨vL, hvL⟩ : ∃ v, (Value.slice (some ⟨g2, 0, none⟩) L2.length cap2) = v := ⟨_, rfl⟩
          rw [hvL] at R2' ⊢
          rw [hw2] at R2' B2' c3b q1b ⊢
          clear HR2 HK2 hL2 hLl hLe hw2 hvL c3 q1
          have HR2 := R2'
          have HK2 := B2'
          clear R2' B2'
          have hown : (w2b.alloc (.cells #[.int .i64 x] 3)).ownsRow w.heap.size 3 1 _ L2.length (L2.map (Value.int .i64)) := HR2.out.below (by apply below_alloc; exact Below.refl _ _)
          have hnews := World.news_of_block (show (w2b.alloc (.cells #[.int .i64 x] 3 (0, 0))).heap[w2b.heap.size]? = some (.cells #[.int .i64 x] 3 (0, 0)) from HeapM.blk_new w2b (.cells #[.int .i64 x] 3 (0, 0)))
          have hgx : (w2b.alloc (.cells #[.int .i64 x] 3)).heap.size = w2b.heap.size + 1 := by simp
          have hwB : w.heap.size ≤ (w2b.alloc (.cells #[.int .i64 x] 3)).heap.size := by rw [hgx]; have := HK2.out.size; omega
          have hLm : L2.length + 1 ≤ maxLen := by unfold maxLen; omega
          have hLb : (L2.length + 1) * 8 ≤ 140737488355328 := by omega
          obtain ⟨hi0, hi1, hi2, hi3⟩ := hinf.out
          have hown' := Lib.hid hown
          have hnews' := Lib.hid hnews
          have hgx' := Lib.hid hgx
          have hi0' := Lib.hid hi0
          have hi1' := Lib.hid hi1
          have hi2' := Lib.hid hi2
          have hi3' := Lib.hid hi3
          have BA : Below w.heap.size w (w2b.alloc (.cells #[.int .i64 x] 3)) := by apply below_alloc; exact HK2.out
          have BA' := Aside0.mk BA
          clear hown hnews hgx hi0 hi1 hi2 hi3 BA
          go_wp2_with (first | (at_builtin; go_loud (refine wpList_append_lies _ rfl _ _ 32 rfl w.heap.size 3 inf (.int .i64 0) 1 8 Try.underlying32 hi0'.out hi1'.out hi2'.out hi3'.out rfl (by decide) _ L2.length (L2.map (Value.int .i64)) rfl hown'.out ⟨w2b.heap.size, 0, none⟩ 1 1 [.int .i64 x] rfl rfl hnews'.out ?c1 (by decide) hLm hLb hwB (w2b.heap.size + 1) hgx'.out ?_)))
          case c1 => first | rfl | exact ⟨rfl, rfl⟩
          intro g2 cap2 w2 hown2 hgr2 hat2 hlt2
          obtain ⟨R2, B2⟩ := nrow_app BA'.out hown'.out hown2 hgr2
          have R2' := Aside0.mk R2
          have B2' := Aside0.mk B2
          clear hown2 hgr2 hat2 hlt2 R2 B2 hown' hnews' hgx' hi0' hi1' hi2' hi3' hwB hLm hLb
          go_wp2_with fail
          go_roundw
          case rel => exact ⟨i + 1, L2 ++ [x], true, u, rfl, rfl, rfl, by have := hlt'.out; omega, ⟨by rw [HT.out, HL2.out]; exact mkStep_ins HXK.out HKX.out⟩, R2', B2'⟩
          case measure => simp [intOf]; have := hlt'.out; omega
        · have hcf : (is && !d && decide (k < x)) = false := by simpa using hc
          have HCF := Aside0.mk hcf
          have HRW : Aside0 (mkAll k is (ys.take (i + 1)) = (L ++ [x], d, u)) := ⟨by rw [HT.out]; exact mkStep_on HXK.out hcf⟩
          clear hc hcf HT HXK
          cases is with
          | false =>
            have hown : (wr.alloc (.cells #[.int .i64 x] 3)).ownsRow w.heap.size 3 1 _ L.length (L.map (Value.int .i64)) := HR2.out.below (by apply below_alloc; exact Below.refl _ _)
            have hnews := World.news_of_block (show (wr.alloc (.cells #[.int .i64 x] 3 (0, 0))).heap[wr.heap.size]? = some (.cells #[.int .i64 x] 3 (0, 0)) from HeapM.blk_new wr (.cells #[.int .i64 x] 3 (0, 0)))
            have hgx : (wr.alloc (.cells #[.int .i64 x] 3)).heap.size = wr.heap.size + 1 := by simp
            have hwB : w.heap.size ≤ (wr.alloc (.cells #[.int .i64 x] 3)).heap.size := by rw [hgx]; have := HK2.out.size; omega
            have hLm : L.length + 1 ≤ maxLen := by unfold maxLen; omega
            have hLb : (L.length + 1) * 8 ≤ 140737488355328 := by omega
            obtain ⟨hi0, hi1, hi2, hi3⟩ := hinf.out
            have hown' := Lib.hid hown
            have hnews' := Lib.hid hnews
            have hgx' := Lib.hid hgx
            have hi0' := Lib.hid hi0
            have hi1' := Lib.hid hi1
            have hi2' := Lib.hid hi2
            have hi3' := Lib.hid hi3
            have BA : Below w.heap.size w (wr.alloc (.cells #[.int .i64 x] 3)) := by apply below_alloc; exact HK2.out
            have BA' := Aside0.mk BA
            clear hown hnews hgx hi0 hi1 hi2 hi3 BA
            go_wp2_with (first | (at_builtin; go_loud (refine wpList_append_lies _ rfl _ _ 32 rfl w.heap.size 3 inf (.int .i64 0) 1 8 Try.underlying32 hi0'.out hi1'.out hi2'.out hi3'.out rfl (by decide) _ L.length (L.map (Value.int .i64)) rfl hown'.out ⟨wr.heap.size, 0, none⟩ 1 1 [.int .i64 x] rfl rfl hnews'.out ?c1 (by decide) hLm hLb hwB (wr.heap.size + 1) hgx'.out ?_)))
            case c1 => first | rfl | exact ⟨rfl, rfl⟩
            intro g2 cap2 w2 hown2 hgr2 hat2 hlt2
            obtain ⟨R2, B2⟩ := nrow_app BA'.out hown'.out hown2 hgr2
            have R2' := Aside0.mk R2
            have B2' := Aside0.mk B2
            clear hown2 hgr2 hat2 hlt2 R2 B2 hown' hnews' hgx' hi0' hi1' hi2' hi3' hwB hLm hLb
            go_wp2_with fail
            go_roundw
            case rel => exact ⟨i + 1, L ++ [x], d, u, rfl, rfl, rfl, by have := hlt'.out; omega, HRW, R2', B2'⟩
            case measure => simp [intOf]; have := hlt'.out; omega
          | true =>
            cases d with
            | true =>
              have hown : (wr.alloc (.cells #[.int .i64 x] 3)).ownsRow w.heap.size 3 1 _ L.length (L.map (Value.int .i64)) := HR2.out.below (by apply below_alloc; exact Below.refl _ _)
              have hnews := World.news_of_block (show (wr.alloc (.cells #[.int .i64 x] 3 (0, 0))).heap[wr.heap.size]? = some (.cells #[.int .i64 x] 3 (0, 0)) from HeapM.blk_new wr (.cells #[.int .i64 x] 3 (0, 0)))
              have hgx : (wr.alloc (.cells #[.int .i64 x] 3)).heap.size = wr.heap.size + 1 := by simp
              have hwB : w.heap.size ≤ (wr.alloc (.cells #[.int .i64 x] 3)).heap.size := by rw [hgx]; have := HK2.out.size; omega
              have hLm : L.length + 1 ≤ maxLen := by unfold maxLen; omega
              have hLb : (L.length + 1) * 8 ≤ 140737488355328 := by omega
              obtain ⟨hi0, hi1, hi2, hi3⟩ := hinf.out
              have hown' := Lib.hid hown
              have hnews' := Lib.hid hnews
              have hgx' := Lib.hid hgx
              have hi0' := Lib.hid hi0
              have hi1' := Lib.hid hi1
              have hi2' := Lib.hid hi2
              have hi3' := Lib.hid hi3
              have BA : Below w.heap.size w (wr.alloc (.cells #[.int .i64 x] 3)) := by apply below_alloc; exact HK2.out
              have BA' := Aside0.mk BA
              clear hown hnews hgx hi0 hi1 hi2 hi3 BA
              go_wp2_with (first | (at_builtin; go_loud (refine wpList_append_lies _ rfl _ _ 32 rfl w.heap.size 3 inf (.int .i64 0) 1 8 Try.underlying32 hi0'.out hi1'.out hi2'.out hi3'.out rfl (by decide) _ L.length (L.map (Value.int .i64)) rfl hown'.out ⟨wr.heap.size, 0, none⟩ 1 1 [.int .i64 x] rfl rfl hnews'.out ?c1 (by decide) hLm hLb hwB (wr.heap.size + 1) hgx'.out ?_)))
              case c1 => first | rfl | exact ⟨rfl, rfl⟩
              intro g2 cap2 w2 hown2 hgr2 hat2 hlt2
              obtain ⟨R2, B2⟩ := nrow_app BA'.out hown'.out hown2 hgr2
              have R2' := Aside0.mk R2
              have B2' := Aside0.mk B2
              clear hown2 hgr2 hat2 hlt2 R2 B2 hown' hnews' hgx' hi0' hi1' hi2' hi3' hwB hLm hLb
              go_wp2_with fail
              go_roundw
              case rel => exact ⟨i + 1, L ++ [x], true, u, rfl, rfl, rfl, by have := hlt'.out; omega, HRW, R2', B2'⟩
              case measure => simp [intOf]; have := hlt'.out; omega
            | false =>
              by_cases hkx : k < x
              · exact absurd HCF.out (by simp [hkx])
              · have dk : decide (k < x) = false := decide_eq_false hkx
                clear hkx
                have hown : (wr.alloc (.cells #[.int .i64 x] 3)).ownsRow w.heap.size 3 1 _ L.length (L.map (Value.int .i64)) := HR2.out.below (by apply below_alloc; exact Below.refl _ _)
                have hnews := World.news_of_block (show (wr.alloc (.cells #[.int .i64 x] 3 (0, 0))).heap[wr.heap.size]? = some (.cells #[.int .i64 x] 3 (0, 0)) from HeapM.blk_new wr (.cells #[.int .i64 x] 3 (0, 0)))
                have hgx : (wr.alloc (.cells #[.int .i64 x] 3)).heap.size = wr.heap.size + 1 := by simp
                have hwB : w.heap.size ≤ (wr.alloc (.cells #[.int .i64 x] 3)).heap.size := by rw [hgx]; have := HK2.out.size; omega
                have hLm : L.length + 1 ≤ maxLen := by unfold maxLen; omega
                have hLb : (L.length + 1) * 8 ≤ 140737488355328 := by omega
                obtain ⟨hi0, hi1, hi2, hi3⟩ := hinf.out
                have hown' := Lib.hid hown
                have hnews' := Lib.hid hnews
                have hgx' := Lib.hid hgx
                have hi0' := Lib.hid hi0
                have hi1' := Lib.hid hi1
                have hi2' := Lib.hid hi2
                have hi3' := Lib.hid hi3
                have BA : Below w.heap.size w (wr.alloc (.cells #[.int .i64 x] 3)) := by apply below_alloc; exact HK2.out
                have BA' := Aside0.mk BA
                clear hown hnews hgx hi0 hi1 hi2 hi3 BA
                go_wp2_with (first | (at_builtin; go_loud (refine wpList_append_lies _ rfl _ _ 32 rfl w.heap.size 3 inf (.int .i64 0) 1 8 Try.underlying32 hi0'.out hi1'.out hi2'.out hi3'.out rfl (by decide) _ L.length (L.map (Value.int .i64)) rfl hown'.out ⟨wr.heap.size, 0, none⟩ 1 1 [.int .i64 x] rfl rfl hnews'.out ?c1 (by decide) hLm hLb hwB (wr.heap.size + 1) hgx'.out ?_)))
                case c1 => first | rfl | exact ⟨rfl, rfl⟩
                intro g2 cap2 w2 hown2 hgr2 hat2 hlt2
                obtain ⟨R2, B2⟩ := nrow_app BA'.out hown'.out hown2 hgr2
                have R2' := Aside0.mk R2
                have B2' := Aside0.mk B2
                clear hown2 hgr2 hat2 hlt2 R2 B2 hown' hnews' hgx' hi0' hi1' hi2' hi3' hwB hLm hLb
                go_wp2_with fail
                go_roundw
                case rel => exact ⟨i + 1, L ++ [x], false, u, rfl, rfl, rfl, by have := hlt'.out; omega, HRW, R2', B2'⟩
                case measure => simp [intOf]; have := hlt'.out; omega
    · obtain rfl : i = len := by omega
      have hlast : Aside0 (mkAll k is ys = (L, d, u)) := ⟨by
        have h := HS.out
        rw [show ys.take i = ys by rw [HLE.out]; exact List.take_length] at h
        exact h⟩
      by_cases hc : (is && !d) = true
      · simp only [Bool.and_eq_true, Bool.not_eq_true'] at hc
        obtain ⟨rfl, rfl⟩ := hc
        have HE : Aside0 (mkEnd k true ys = L ++ [k] ∧ (mkAll k true ys).2.2 = u) := ⟨by unfold mkEnd; rw [hlast.out]; exact ⟨rfl, rfl⟩⟩
        have hown : (wr.alloc (.cells #[.int .i64 k] 3)).ownsRow w.heap.size 3 1 _ L.length (L.map (Value.int .i64)) := HR2.out.below (by apply below_alloc; exact Below.refl _ _)
        have hnews := World.news_of_block (show (wr.alloc (.cells #[.int .i64 k] 3 (0, 0))).heap[wr.heap.size]? = some (.cells #[.int .i64 k] 3 (0, 0)) from HeapM.blk_new wr (.cells #[.int .i64 k] 3 (0, 0)))
        have hgx : (wr.alloc (.cells #[.int .i64 k] 3)).heap.size = wr.heap.size + 1 := by simp
        have hwB : w.heap.size ≤ (wr.alloc (.cells #[.int .i64 k] 3)).heap.size := by rw [hgx]; have := HK2.out.size; omega
        have hLm : L.length + 1 ≤ maxLen := by unfold maxLen; omega
        have hLb : (L.length + 1) * 8 ≤ 140737488355328 := by omega
        obtain ⟨hi0, hi1, hi2, hi3⟩ := hinf.out
        have hown' := Lib.hid hown
        have hnews' := Lib.hid hnews
        have hgx' := Lib.hid hgx
        have hi0' := Lib.hid hi0
        have hi1' := Lib.hid hi1
        have hi2' := Lib.hid hi2
        have hi3' := Lib.hid hi3
        have BA : Below w.heap.size w (wr.alloc (.cells #[.int .i64 k] 3)) := by apply below_alloc; exact HK2.out
        have BA' := Aside0.mk BA
        clear hown hnews hgx hi0 hi1 hi2 hi3 BA
        go_wp2_with (first | (at_builtin; go_loud (refine wpList_append_lies _ rfl _ _ 32 rfl w.heap.size 3 inf (.int .i64 0) 1 8 Try.underlying32 hi0'.out hi1'.out hi2'.out hi3'.out rfl (by decide) _ L.length (L.map (Value.int .i64)) rfl hown'.out ⟨wr.heap.size, 0, none⟩ 1 1 [.int .i64 k] rfl rfl hnews'.out ?c1 (by decide) hLm hLb hwB (wr.heap.size + 1) hgx'.out ?_)))
        case c1 => first | rfl | exact ⟨rfl, rfl⟩
        intro g2 cap2 w2 hown2 hgr2 hat2 hlt2
        obtain ⟨R2, B2⟩ := nrow_app BA'.out hown'.out hown2 hgr2
        have R2' := Aside0.mk R2
        have B2' := Aside0.mk B2
        clear hown2 hgr2 hat2 hlt2 R2 B2 hown' hnews' hgx' hi0' hi1' hi2' hi3' hwB hLm hLb
        have HF := Aside0.mk (HST.out w2 _ _ B2'.out R2'.out)
        have c3b : w2.cell? ⟨r, 3, none⟩ = some (.slice a i cap) := by rw [HLE.out]; exact (HeapM.blk_cell (HM.out.below B2'.out).head 3).trans rfl
        have f3b : w2.frozen? ⟨r, 3, none⟩ = false := HeapM.blk_free (HM.out.below B2'.out).head 3
        go_wp2_with fail
        go_ret
        rw [HE.out.1, HE.out.2]
        exact ⟨rfl, HF.out⟩
      · have hcf : (is && !d) = false := by simpa using hc
        have HE : Aside0 (mkEnd k is ys = L ∧ (mkAll k is ys).2.2 = u) := ⟨by unfold mkEnd; rw [hlast.out]; exact ⟨if_neg (by rw [hcf]; simp), rfl⟩⟩
        clear hc
        obtain ⟨oa, oc, rfl⟩ := HR2.out.val
        have HF := Aside0.mk (HST.out wr _ _ HK2.out HR2.out)
        have f3 : wr.frozen? ⟨r, 3, none⟩ = false := HeapM.blk_free (HM.out.below HK2.out).head 3
        cases is with
        | false =>
          go_wp2_with fail
          go_ret
          rw [HE.out.1, HE.out.2]
          exact ⟨rfl, HF.out⟩
        | true =>
          cases d with
          | true =>
            go_wp2_with fail
            go_ret
            rw [HE.out.1, HE.out.2]
            exact ⟨rfl, HF.out⟩
          | false => simp at hcf
end Go.Proofs.Ytclekakhgaggdaa.HeapC
