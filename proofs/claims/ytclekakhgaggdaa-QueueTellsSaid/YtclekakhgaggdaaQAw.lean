/- First calls, whose answers are fixed. -/
import Derived.Test.YtclekakhgaggdaaQK
namespace Go.Proofs.Ytclekakhgaggdaa.HeapC
open Go.RowKit Go.Proofs.Ytclekakhgaggdaa.HeapT Go.Proofs.Ytclekakhgaggdaa.HeapM Go.Proofs.Ytclekakhgaggdaa.QueueM Go.Proofs.YtclekakhgaggdaaW.PrintWords Go.Proofs.YtclekakhgaggdaaW.PrintLast Go.Proofs.YtclekakhgaggdaaW.PrintMore
set_option linter.unusedVariables false
set_option linter.unusedSimpArgs false
section
variable {w : World} {q g mb : Nat} {C : Int → Option Int} {S : Int → Bool} {age most : Int} {n N : Nat} {D : Nat → Prop}
/-- Others' blocks, more of them: new ones. -/
theorem QOk.wide {w' : World} (h : QOk w q g mb C S age most n N D) (b : Below w.heap.size w w') (E : Nat → Prop) (hE : ∀ k, E k → w.heap.size ≤ k ∧ k < w'.heap.size) : QOk w' q g mb C S age most n N (fun k => D k ∨ E k) := by
  have H1 := h.held.below b
  have l := h.held.lt
  refine ⟨?_, h.sr, h.sc, h.ag, h.mo, h.nm⟩
  obtain ⟨F, f1, f2, f3⟩ := h.held.heap
  refine ⟨H1.head, ⟨F, f1.below b, ?_, ?_⟩, H1.set, ?_, ?_, H1.qm⟩
  · rintro k fk ((d | d) | d | d)
    · exact f2 k fk (.inl d)
    · have := f1.lt k fk; have := (hE k d).1; omega
    · exact f2 k fk (.inr (.inl d))
    · exact f2 k fk (.inr (.inr d))
  · rintro k ((d | d) | d | d)
    · exact H1.lt.1 k d
    · exact (hE k d).2
    · rw [d]; exact H1.lt.2.1
    · rw [d]; exact H1.lt.2.2
  · rintro (d | d)
    · exact H1.nq d
    · have := (hE _ d).1; have := l.2.1; omega
  · rintro (d | d)
    · exact H1.nm d
    · have := (hE _ d).1; have := l.2.2; omega
/-- A row of our own, read on. -/
theorem NRow.nums {B : Nat} {v : Value} {xs : List Int} (h : NRow w B v xs) : Nums w (fun k => v.ownBlock = some k) v xs := nums_of h
theorem QOk.row {w' : World} {v : Value} {xs : List Int} (h : QOk w q g mb C S age most n N D) (r : NRow w' w.heap.size v xs) (b : Below w.heap.size w w') :
    QOk w' q g mb C S age most n N (fun k => D k ∨ v.ownBlock = some k) ∧ Nums w' (fun k => D k ∨ v.ownBlock = some k) v xs :=
  ⟨h.wide b _ (fun k e => by have := World.ownsRow.lt r k e; omega), r.nums.mono (fun k e => .inr e)⟩
end
theorem SetOf.one {S : Int → Bool} {ys : List Int} (h : SetOf S ys) (zs : List Int) (hz : zs.Pairwise (· < ·)) (hm : ∀ x, x ∈ zs ↔ S x = true) : ys = zs :=
  SetOf.unique h.srt hz (fun x => (h.mem x).trans (hm x).symm)
theorem Nums.one {w : World} {D : Nat → Prop} {v : Value} {x : Int} (h : Nums w D v [x]) : ∃ b cap, v = .slice (some ⟨b, 0, none⟩) 1 cap ∧ D b ∧ b < w.heap.size ∧ w.cell? ⟨b, 0, none⟩ = some (.int .i64 x) := by
  obtain ⟨a, cap, rfl, _, h3⟩ := h
  obtain ⟨b, rfl, e2, e3, e4⟩ := h3 0 (by simp)
  exact ⟨b, cap, rfl, e2, e3, e4⟩
def none0 : Int → Option Int := fun _ => none
def no0 : Int → Bool := fun _ => false
set_option maxHeartbeats 2000000 in
set_option maxRecDepth 20000 in
theorem awake_calls (w : World) : Calls Try.prog 8 #[] w fun e w' => e = .returned (.bool true) ∧ Below w.heap.size w w' := by
  go_enter Try.func8, Try.ntmps8
  go_wp2_with fail
  refine (qok_new 1 10 w (by decide) (by decide) (by decide) (by decide) (fun k => k < w.heap.size) (fun k d => d)).mono ?_
  rintro e w1 ⟨q, g, mb, rfl, H1, K1⟩
  have Q1 := Aside0.mk H1
  have B1 := Aside0.mk K1
  clear H1 K1
  go_wp2_with fail
  refine (Q1.out.want (by decide) 3 0 1 (by unfold WOk; decide)).mono ?_
  rintro e w2 ⟨r2, C2, S2, n2, N2, rfl, t2, H2, K2, hN2⟩
  obtain ⟨rfl, rfl, rfl, rfl⟩ : r2 = 0 ∧ C2 = upd (fun _ => none) 3 (some (0 * 10 - 1)) ∧ S2 = sadd (fun _ => false) 3 false ∧ n2 = 0 + 1 := by
    rcases t2 with ⟨old, e, _⟩ | ⟨_, _, e1, e2, e3, e4⟩ | ⟨_, e, _⟩
    · cases e
    · exact ⟨e1, e2, e3, e4⟩
    · exact absurd e (by decide)
  have Q2 := Aside0.mk H2
  have B2 := Aside0.mk (B1.out.trans K2)
  clear H2 K2 t2 Q1 B1
  go_wp2_with fail
  refine (Q2.out.want (by omega) 5 9 1 (by unfold WOk; decide)).mono ?_
  rintro e w3 ⟨r3, C3, S3, n3, N3, rfl, t3, H3, K3, hN3⟩
  obtain ⟨rfl, rfl, hS3, rfl⟩ : r3 = 50 ∧ C3 = upd (fun _ => none) 3 (some (0 * 10 - 1)) ∧ S3 = sadd (sadd (fun _ => false) 3 false) 5 true ∧ n3 = 0 + 1 := by
    rcases t3 with ⟨old, e, _⟩ | ⟨_, e, _⟩ | ⟨_, _, e1, e2, e3, e4⟩
    · exact absurd e (by unfold upd; rw [if_neg (by decide)]; simp)
    · exact absurd e (by decide)
    · exact ⟨e1, e2, e3, e4⟩
  have s3 : ∀ x, S3 x = true ↔ x = 5 := fun x => by
    rw [hS3]; unfold sadd
    by_cases e : x = 5
    · simp [e]
    · simp [e]
  have Q3 := Aside0.mk H3
  have B3 := Aside0.mk (B2.out.trans K3)
  clear H3 K3 t3 Q2 B2 hS3
  go_wp2_with fail
  refine (Q3.out.dirty (by omega)).mono ?_
  rintro e w4 ⟨v4, ys4, rfl, hs4, hr4, b4⟩
  obtain rfl : ys4 = [5] := hs4.one [5] (by simp) (fun x => by rw [s3 x]; simp)
  obtain ⟨H4, hn4⟩ := Q3.out.row hr4 b4
  obtain ⟨x4, cap4, rfl, _, l4, c4⟩ := hn4.one
  have Q4 := Aside0.mk H4
  have B4 := Aside0.mk (B3.out.trans (Kept.of_below b4))
  have X4 := Aside0.mk (And.intro l4 c4)
  clear hs4 hr4 b4 H4 hn4 l4 c4 Q3 B3
  go_wp2_with fail
  refine (Q4.out.next (by omega) 2).mono ?_
  rintro e w5 ⟨k5, p5, b5, C5, S5, n5, N5, rfl, t5, H5, K5, hN5⟩
  obtain ⟨ht5, ys5, m5, hw5, hn5⟩ := t5
  obtain ⟨rfl, rfl⟩ : k5 = 3 ∧ b5 = true := by
    rcases ht5 with ⟨e, _⟩ | ⟨_, hm, e⟩
    · exact absurd e (by decide)
    · refine ⟨?_, e⟩
      have := hm.1
      unfold upd at this
      split at this
      · assumption
      · cases this
  obtain rfl : ys5 = [5] := hw5.set.one [5] (by simp) (fun x => by rw [s3 x]; simp)
  obtain rfl : m5 = 1 := hw5.much.trans (by decide)
  have c5 : ∀ x, C5 x = if x = 5 then some (-(clampT 2)) else none := fun x => by
    rw [hw5.cont x]
    by_cases e : x = 5
    · simp [e]
    · simp [e, upd]
  have s5 : ∀ x, S5 x = false := fun x => by
    rw [hw5.dirt x]
    by_cases e : x = 5
    · simp [e]
    · have : S3 x = false := by
        cases h : S3 x with
        | false => rfl
        | true => exact absurd ((s3 x).1 h) e
      rw [this]; rfl
  obtain rfl : n5 = 1 := hn5
  have Q5 := Aside0.mk H5
  have B5 := Aside0.mk (B4.out.trans (K5.mono (fun k d => .inl d)))
  have X5 := Aside0.mk (show x4 < w5.heap.size ∧ w5.cell? ⟨x4, 0, none⟩ = some (.int .i64 5) from ⟨Nat.lt_of_lt_of_le X4.out.1 K5.size, (K5.cell X4.out.1 (.inr rfl) 0).trans X4.out.2⟩)
  clear ht5 hw5 H5 K5 s3 X4 Q4 B4
  go_wp2_with fail
  refine (Q5.out.waiting).mono ?_
  rintro e w6 ⟨v6, ks6, rfl, hs6, hl6, hr6, b6⟩
  obtain rfl : ks6 = [5] := hs6.one [5] (by simp) (fun x => by rw [c5 x]; by_cases e : x = 5 <;> simp [e])
  obtain ⟨H6, hn6⟩ := Q5.out.row hr6 b6
  obtain ⟨x6, cap6, rfl, _, l6, c6⟩ := hn6.one
  have Q6 := Aside0.mk H6
  have B6 := Aside0.mk (B5.out.trans (Kept.of_below b6))
  have X6 := Aside0.mk (And.intro l6 c6)
  have X7 := Aside0.mk (show x4 < w6.heap.size ∧ w6.cell? ⟨x4, 0, none⟩ = some (.int .i64 5) from ⟨Nat.lt_of_lt_of_le X5.out.1 b6.size, (b6.cell (p := ⟨x4, 0, none⟩) X5.out.1).trans X5.out.2⟩)
  clear hs6 hl6 hr6 b6 H6 hn6 l6 c6 X5 Q5 B5
  go_wp2_with fail
  refine (Q6.out.next (by omega) 3).mono ?_
  rintro e w7 ⟨k7, p7, b7, C7, S7, n7, N7, rfl, t7, H7, K7, hN7⟩
  obtain ⟨ht7, ys7, m7, hw7, hn7⟩ := t7
  obtain ⟨rfl, rfl⟩ : k7 = 5 ∧ b7 = true := by
    rcases ht7 with ⟨e, _⟩ | ⟨_, hm, e⟩
    · exact absurd e (by decide)
    · refine ⟨?_, e⟩
      have := hm.1
      rw [c5] at this
      split at this
      · assumption
      · cases this
  obtain rfl : ys7 = [] := hw7.set.one [] (by simp) (fun x => by rw [s5 x]; simp)
  obtain rfl : m7 = 0 := hw7.much.trans (by decide)
  have c7 : ∀ x, C7 x = none := fun x => by
    rw [hw7.cont x]
    by_cases e : x = 5
    · simp [e, upd]
    · simp [e, upd, c5]
  have s7 : ∀ x, S7 x = false := fun x => by rw [hw7.dirt x, s5 x]; rfl
  obtain rfl : n7 = 0 := hn7
  have Q7 := Aside0.mk H7
  have B7 := Aside0.mk (B6.out.trans (K7.mono (fun k d => .inl (.inl d))))
  have X8 := Aside0.mk (show x4 < w7.heap.size ∧ w7.cell? ⟨x4, 0, none⟩ = some (.int .i64 5) from ⟨Nat.lt_of_lt_of_le X7.out.1 K7.size, (K7.cell X7.out.1 (.inl (.inr rfl)) 0).trans X7.out.2⟩)
  have X9 := Aside0.mk (show x6 < w7.heap.size ∧ w7.cell? ⟨x6, 0, none⟩ = some (.int .i64 5) from ⟨Nat.lt_of_lt_of_le X6.out.1 K7.size, (K7.cell X6.out.1 (.inr rfl) 0).trans X6.out.2⟩)
  clear ht7 hw7 H7 K7 c5 s5 X6 X7 Q6 B6
  go_wp2_with fail
  refine (Q7.out.next (by omega) 4).mono ?_
  rintro e w8 ⟨k8, p8, b8, C8, S8, n8, N8, rfl, t8, H8, K8, hN8⟩
  obtain ⟨ht8, ys8, m8, hw8, hn8⟩ := t8
  obtain rfl : b8 = false := by
    rcases ht8 with ⟨_, _, _, e⟩ | ⟨e, _⟩
    · exact e
    · omega
  obtain rfl : ys8 = [] := hw8.set.one [] (by simp) (fun x => by rw [s7 x]; simp)
  have c8 : ∀ x, C8 x = none := fun x => by rw [hw8.cont x]; simp [c7]
  have s8 : ∀ x, S8 x = false := fun x => by rw [hw8.dirt x, s7 x]; rfl
  have Q8 := Aside0.mk H8
  have B8 := Aside0.mk (B7.out.trans (K8.mono (fun k d => .inl (.inl d))))
  have y4 : w8.cell? ⟨x4, 0, none⟩ = some (.int .i64 5) := (K8.cell X8.out.1 (.inl (.inr rfl)) 0).trans X8.out.2
  have y6 : w8.cell? ⟨x6, 0, none⟩ = some (.int .i64 5) := (K8.cell X9.out.1 (.inr rfl) 0).trans X9.out.2
  clear ht8 hw8 hn8 H8 K8 c7 s7 X8 X9 Q7 B7
  go_wp2_with fail
  refine (want_bad (some ⟨q, 0, none⟩) (-1) 0 0 (.inr (by unfold WOk; decide))).mono ?_
  rintro e w9 ⟨rfl, rfl⟩
  clear y4 y6
  go_wp2_with fail
  refine (qnew_no 0 1 _ (.inl (by decide))).mono ?_
  rintro e w9 ⟨rfl, b9⟩
  have Q9 := Aside0.mk (Q8.out.below b9)
  have B9 := Aside0.mk (B8.out.trans (Kept.of_below b9))
  clear b9 Q8 B8
  go_wp2_with fail
  refine (qnew_no 1 0 _ (.inr (.inr (.inl (by decide))))).mono ?_
  rintro e w10 ⟨rfl, b10⟩
  have Q10 := Aside0.mk (Q9.out.below b10)
  have B10 := Aside0.mk (B9.out.trans (Kept.of_below b10))
  clear b10 Q9 B9
  go_wp2_with fail
  refine (Q10.out.drop (by omega) 7 (by decide)).mono ?_
  rintro e w11 ⟨n11, N11, rfl, H11, K11, _⟩
  have B11 := Aside0.mk (B10.out.trans (K11.mono (fun k d => .inl (.inl d))))
  rw [c8 7, s8 7]
  clear H11 K11 c8 s8 Q10 B10
  go_wp2_with fail
  go_ret
  exact ⟨rfl, B11.out.below (Nat.le_refl _) (fun k d => d)⟩
end Go.Proofs.Ytclekakhgaggdaa.HeapC
