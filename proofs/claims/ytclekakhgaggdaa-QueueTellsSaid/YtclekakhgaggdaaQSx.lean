/- The document's queue: Want and Drop. -/
import Derived.Test.YtclekakhgaggdaaQS
namespace Go.Proofs.Ytclekakhgaggdaa.HeapC
open Go.RowKit Go.Proofs.Ytclekakhgaggdaa.HeapT Go.Proofs.Ytclekakhgaggdaa.HeapM Go.Proofs.Ytclekakhgaggdaa.QueueM Go.Proofs.YtclekakhgaggdaaW.PrintWords Go.Proofs.YtclekakhgaggdaaW.PrintLast Go.Proofs.YtclekakhgaggdaaW.PrintMore
attribute [local go_sem] max2_int min2_int max_two min_two
set_option linter.unusedVariables false
set_option linter.unusedSimpArgs false
theorem QPost.join {w w1 w2 : World} {r : Nat} {xs : List Itm} {most age : Int} {ys : List Int} {G G1 : Nat → Prop} (h2 : Chg w w1 G) (h3 : ∀ k, G1 k → G k ∨ (w.heap.size ≤ k ∧ k < w1.heap.size)) (hp : QPost w1 w2 r xs most age ys G1) : QPost w w2 r xs most age ys G := by
  obtain ⟨G2, g1, g2, g3⟩ := hp
  refine ⟨G2, g1, h2.trans g2 (fun k e => (h3 k e).imp id And.left), fun k e => ?_⟩
  rcases g3 k e with x | x
  · rcases h3 k x with y | y
    · exact .inl y
    · exact .inr ⟨y.1, Nat.lt_of_lt_of_le y.2 g2.size⟩
  · exact .inr ⟨Nat.le_trans h2.size x.1, x.2⟩
theorem sorted_small {a b : Int} : ∀ (ys : List Int), ys.Pairwise (· < ·) → (∀ x ∈ ys, a ≤ x ∧ x < b) → (ys.length : Int) ≤ max 0 (b - a)
  | [], _, _ => by simp; omega
  | y :: ys, h, hr => by
    rw [List.pairwise_cons] at h
    have h1 := hr y (by simp)
    have ih := sorted_small (a := y + 1) (b := b) ys h.2 (fun x hx => ⟨by have := h.1 x hx; omega, (hr x (by simp [hx])).2⟩)
    rw [List.length_cons]
    push_cast
    omega
section
variable {w : World} {r : Nat} {xs : List Itm} {C : Int → Option Int} {S : Int → Bool} {age most : Int} {ys : List Int} {G : Nat → Prop}
set_option maxHeartbeats 1000000 in
set_option maxRecDepth 20000 in
theorem rwant_there (h : RQ w r xs most age ys G) (hl : xs.length ≤ 1000000) (hs : SortedOf C xs) (ha0 : 1 ≤ age) (ha1 : age ≤ 1000) (s p t : Int) (hw : WOk s p t) (old : Int) (hc : C s = some old) :
    Calls Try.prog 13 #[.pointer (some ⟨r, 0, none⟩), .int .i64 s, .int .i64 p, .int .i64 t] w fun e w' => ∃ xs', e = .returned (.int .i64 0) ∧ SortedOf (upd C s (some (max old (p * age - t)))) xs' ∧ QPost w w' r xs' most age ys G := by
  have HC := Aside0.mk hc
  clear hc
  obtain ⟨dv, E, hI, hd, hE, hG⟩ := h
  have hp0 : 0 ≤ p * age := Int.mul_nonneg hw.2.2.1 (by omega)
  have hp1 : p * age ≤ 1000000 := Int.le_trans (Int.mul_le_mul hw.2.2.2.1 ha1 (by omega) (by omega)) (by omega)
  have e1 : wrap64 (p * age) = p * age := by generalize p * age = m at hp0 hp1; unfold wrap64; omega
  have e2 : wrap64 (p * age - t) = p * age - t := by
    obtain ⟨_, _, _, _, h5, h6⟩ := hw
    generalize p * age = m at hp0 hp1; unfold wrap64; omega
  obtain ⟨m, hm⟩ : ∃ m, p * age - t = m := ⟨_, rfl⟩
  (try rw [hm])
  have HE := Lib.hid (And.intro e1 (And.intro e2 hm))
  clear hm
  have hk := Aside0.mk (wf_small (k := s) (by unfold WOk at hw; omega) (by unfold WOk at hw; omega))
  obtain ⟨g1, g2, g3, g4, g5, g6⟩ := hw
  have d0 : decide (age < 1) = false := decide_eq_false (by omega)
  have d1 : decide (s < 0) = false := decide_eq_false (by omega)
  have d2 : decide (999 < s) = false := decide_eq_false (by omega)
  have d3 : decide (p < 0) = false := decide_eq_false (by omega)
  have d4 : decide (1000 < p) = false := decide_eq_false (by omega)
  have d5 : decide (t < 0) = false := decide_eq_false (by omega)
  have d6 : decide (1099511627776 < t) = false := decide_eq_false (by omega)
  have HI := Aside0.mk hI
  have HL := Aside0.mk hl
  have HS := Aside0.mk hs
  have HQ := Aside0.mk (fun w' xs' (hp : RPost (kap age dv) w w' r xs' most E) => rq_heap hd hE hG hp)
  have c2 : w.cell? ⟨r, 2, none⟩ = some (.int .i64 age) := by
    obtain ⟨v, hv, -, -⟩ := hI
    exact (HeapM.blk_cell hv.head 2).trans rfl
  clear e1 e2 g1 g2 g3 g4 g5 g6 hp0 hp1 ha0 ha1 hI hd hE hG hl hs
  go_enter Try.func13, Try.ntmps13
  go_wp2_with fail
  obtain ⟨e1, e2, e3⟩ := HE.out
  rw [e1, e2, e3]
  clear e1 e2 e3
  refine (rprio_calls w r xs most E HI.out HL.out C HS.out s).mono ?_
  rintro e w1 ⟨rfl, rfl⟩
  rw [HC.out]
  go_wp2_with fail
  · have hx : max old m = m := by omega
    refine (rchange_calls w r xs most E HI.out HL.out C HS.out s m).mono ?_
    rintro e w2 ⟨xs', rfl, hs', hp'⟩
    have HH := Aside0.mk (And.intro hs' (HQ.out w2 xs' hp'))
    clear hs' hp'
    go_wp2_with fail
    go_ret
    rw [hx]
    obtain ⟨h1, h2⟩ := HH.out
    rw [chg_some (by rw [HC.out]; exact Option.some_ne_none _)] at h1
    exact ⟨xs', rfl, h1, h2⟩
  · have hx : max old m = old := by omega
    refine (rchange_calls w r xs most E HI.out HL.out C HS.out s old).mono ?_
    rintro e w2 ⟨xs', rfl, hs', hp'⟩
    have HH := Aside0.mk (And.intro hs' (HQ.out w2 xs' hp'))
    clear hs' hp'
    go_wp2_with fail
    go_ret
    rw [hx]
    obtain ⟨h1, h2⟩ := HH.out
    rw [chg_some (by rw [HC.out]; exact Option.some_ne_none _)] at h1
    exact ⟨xs', rfl, h1, h2⟩
set_option maxHeartbeats 1000000 in
set_option maxRecDepth 20000 in
theorem rwant_push (h : RQ w r xs most age ys G) (hl : xs.length ≤ 1000000) (hy : ys.length ≤ 10000) (hs : SortedOf C xs) (ha0 : 1 ≤ age) (ha1 : age ≤ 1000) (s p t : Int) (hw : WOk s p t) (hc : C s = none) (hr : (xs.length : Int) < most) :
    Calls Try.prog 13 #[.pointer (some ⟨r, 0, none⟩), .int .i64 s, .int .i64 p, .int .i64 t] w fun e w' => ∃ xs', e = .returned (.int .i64 0) ∧ SortedOf (upd C s (some (p * age - t))) xs' ∧ QPost w w' r xs' most age (mkEnd s false ys) G := by
  have HC := Aside0.mk hc
  have HR := Aside0.mk hr
  have HY := Aside0.mk hy
  clear hc hr hy
  obtain ⟨dv, E, hI, hd, hE, hG⟩ := h
  have hp0 : 0 ≤ p * age := Int.mul_nonneg hw.2.2.1 (by omega)
  have hp1 : p * age ≤ 1000000 := Int.le_trans (Int.mul_le_mul hw.2.2.2.1 ha1 (by omega) (by omega)) (by omega)
  have e1 : wrap64 (p * age) = p * age := by generalize p * age = m at hp0 hp1; unfold wrap64; omega
  have e2 : wrap64 (p * age - t) = p * age - t := by
    obtain ⟨_, _, _, _, h5, h6⟩ := hw
    generalize p * age = m at hp0 hp1; unfold wrap64; omega
  obtain ⟨m, hm⟩ : ∃ m, p * age - t = m := ⟨_, rfl⟩
  (try rw [hm])
  have HE := Lib.hid (And.intro e1 (And.intro e2 hm))
  clear hm
  have hk := Aside0.mk (wf_small (k := s) (by unfold WOk at hw; omega) (by unfold WOk at hw; omega))
  obtain ⟨g1, g2, g3, g4, g5, g6⟩ := hw
  have d0 : decide (age < 1) = false := decide_eq_false (by omega)
  have d1 : decide (s < 0) = false := decide_eq_false (by omega)
  have d2 : decide (999 < s) = false := decide_eq_false (by omega)
  have d3 : decide (p < 0) = false := decide_eq_false (by omega)
  have d4 : decide (1000 < p) = false := decide_eq_false (by omega)
  have d5 : decide (t < 0) = false := decide_eq_false (by omega)
  have d6 : decide (1099511627776 < t) = false := decide_eq_false (by omega)
  have HI := Aside0.mk hI
  have HL := Aside0.mk hl
  have HS := Aside0.mk hs
  have HQ := Aside0.mk (fun w' xs' (hp : RPost (kap age dv) w w' r xs' most E) => rq_heap hd hE hG hp)
  have c2 : w.cell? ⟨r, 2, none⟩ = some (.int .i64 age) := by
    obtain ⟨v, hv, -, -⟩ := hI
    exact (HeapM.blk_cell hv.head 2).trans rfl
  clear e1 e2 g1 g2 g3 g4 g5 g6 hp0 hp1 ha0 ha1 hI hd hE hG hl hs
  go_enter Try.func13, Try.ntmps13
  go_wp2_with fail
  obtain ⟨e1, e2, e3⟩ := HE.out
  rw [e1, e2, e3]
  clear e1 e2 e3
  refine (rprio_calls w r xs most E HI.out HL.out C HS.out s).mono ?_
  rintro e w1 ⟨rfl, rfl⟩
  rw [HC.out]
  go_wp2_with fail
  refine (rpush_ok w r xs most E HI.out HL.out C HS.out s m hk.out HC.out HR.out).mono ?_
  rintro e w2 ⟨xs', rfl, hs', hp'⟩
  obtain ⟨G1, q1, q2, q3⟩ := HQ.out w2 xs' hp'
  have HM := Lib.hid (rmark w2 r xs' most age ys G1 q1 HY.out s false)
  have HH := Aside0.mk (And.intro hs' (And.intro q2 q3))
  clear hs' hp' q1 q2 q3 c2
  go_wp2_with fail
  refine HM.out.mono ?_
  rintro e w3 ⟨rfl, hp3⟩
  obtain ⟨h1, h2, h3⟩ := HH.out
  have HF := Aside0.mk (And.intro h1 (QPost.join h2 h3 hp3))
  clear h1 h2 h3 hp3
  go_wp2_with fail
  go_ret
  exact ⟨xs', rfl, HF.out⟩
set_option maxHeartbeats 1000000 in
set_option maxRecDepth 20000 in
theorem rwant_full (h : RQ w r xs most age ys G) (hl : xs.length ≤ 1000000) (hy : ys.length ≤ 10000) (hs : SortedOf C xs) (ha0 : 1 ≤ age) (ha1 : age ≤ 1000) (s p t : Int) (hw : WOk s p t) (hc : C s = none) (hr : most ≤ xs.length) :
    Calls Try.prog 13 #[.pointer (some ⟨r, 0, none⟩), .int .i64 s, .int .i64 p, .int .i64 t] w fun e w' => e = .returned (.int .i64 50) ∧ QPost w w' r xs most age (mkEnd s true ys) G := by
  have HC := Aside0.mk hc
  have HR := Aside0.mk hr
  have HY := Aside0.mk hy
  have HH0 := Aside0.mk h
  clear hc hr hy
  obtain ⟨dv, E, hI, hd, hE, hG⟩ := h
  have hp0 : 0 ≤ p * age := Int.mul_nonneg hw.2.2.1 (by omega)
  have hp1 : p * age ≤ 1000000 := Int.le_trans (Int.mul_le_mul hw.2.2.2.1 ha1 (by omega) (by omega)) (by omega)
  have e1 : wrap64 (p * age) = p * age := by generalize p * age = m at hp0 hp1; unfold wrap64; omega
  have e2 : wrap64 (p * age - t) = p * age - t := by
    obtain ⟨_, _, _, _, h5, h6⟩ := hw
    generalize p * age = m at hp0 hp1; unfold wrap64; omega
  obtain ⟨m, hm⟩ : ∃ m, p * age - t = m := ⟨_, rfl⟩
  (try rw [hm])
  have HE := Lib.hid (And.intro e1 (And.intro e2 hm))
  clear hm
  have hk := Aside0.mk (wf_small (k := s) (by unfold WOk at hw; omega) (by unfold WOk at hw; omega))
  obtain ⟨g1, g2, g3, g4, g5, g6⟩ := hw
  have d0 : decide (age < 1) = false := decide_eq_false (by omega)
  have d1 : decide (s < 0) = false := decide_eq_false (by omega)
  have d2 : decide (999 < s) = false := decide_eq_false (by omega)
  have d3 : decide (p < 0) = false := decide_eq_false (by omega)
  have d4 : decide (1000 < p) = false := decide_eq_false (by omega)
  have d5 : decide (t < 0) = false := decide_eq_false (by omega)
  have d6 : decide (1099511627776 < t) = false := decide_eq_false (by omega)
  have HI := Aside0.mk hI
  have HL := Aside0.mk hl
  have HS := Aside0.mk hs
  have HQ := Aside0.mk (fun w' xs' (hp : RPost (kap age dv) w w' r xs' most E) => rq_heap hd hE hG hp)
  have c2 : w.cell? ⟨r, 2, none⟩ = some (.int .i64 age) := by
    obtain ⟨v, hv, -, -⟩ := hI
    exact (HeapM.blk_cell hv.head 2).trans rfl
  clear e1 e2 g1 g2 g3 g4 g5 g6 hp0 hp1 ha0 ha1 hI hd hE hG hl hs
  go_enter Try.func13, Try.ntmps13
  go_wp2_with fail
  obtain ⟨e1, e2, e3⟩ := HE.out
  rw [e1, e2, e3]
  clear e1 e2 e3
  refine (rprio_calls w r xs most E HI.out HL.out C HS.out s).mono ?_
  rintro e w1 ⟨rfl, rfl⟩
  rw [HC.out]
  go_wp2_with fail
  refine (rpush_full w r xs most E HI.out HL.out C HS.out s m HC.out HR.out).mono ?_
  rintro e w2 ⟨rfl, b⟩
  have HM := Lib.hid (rmark w2 r xs most age ys G (HH0.out.below b) HY.out s true)
  have HB := Aside0.mk b
  clear b c2
  go_wp2_with fail
  refine HM.out.mono ?_
  rintro e w3 ⟨rfl, hp3⟩
  have HF := Aside0.mk (QPost.join (Chg.of_below HB.out G) (fun k e => .inl e) hp3)
  clear hp3
  go_wp2_with fail
  go_ret
  exact ⟨rfl, HF.out⟩
/-- What may not be asked for. -/
theorem rwant_bad (h : RQ w r xs most age ys G) (s p t : Int) (hw : age < 1 ∨ ¬ WOk s p t) :
    Calls Try.prog 13 #[.pointer (some ⟨r, 0, none⟩), .int .i64 s, .int .i64 p, .int .i64 t] w fun e w' => e = .returned (.int .i64 1) ∧ w = w' := by
  have c2 : w.cell? ⟨r, 2, none⟩ = some (.int .i64 age) := by
    obtain ⟨dv, E, ⟨v, hv, -, -⟩, -, -, -⟩ := h
    exact (HeapM.blk_cell hv.head 2).trans rfl
  clear h
  by_cases c0 : age < 1
  · have d0 : decide (age < 1) = true := decide_eq_true c0
    clear hw
    go_enter Try.func13, Try.ntmps13
    go_wp2_with fail
    go_ret
    exact ⟨rfl, rfl⟩
  have hw' : ¬ WOk s p t := hw.resolve_left c0
  have d0 : decide (age < 1) = false := decide_eq_false c0
  unfold WOk at hw'
  clear hw c0
  by_cases c1 : s < 0
  · have d1 : decide (s < 0) = true := decide_eq_true c1
    clear hw'
    go_enter Try.func13, Try.ntmps13
    go_wp2_with fail
    go_ret
    exact ⟨rfl, rfl⟩
  have d1 : decide (s < 0) = false := decide_eq_false c1
  by_cases e2 : 999 < s
  · have d2 : decide (999 < s) = true := decide_eq_true e2
    clear hw' c1
    go_enter Try.func13, Try.ntmps13
    go_wp2_with fail
    go_ret
    exact ⟨rfl, rfl⟩
  have d2 : decide (999 < s) = false := decide_eq_false e2
  by_cases c3 : p < 0
  · have d3 : decide (p < 0) = true := decide_eq_true c3
    clear hw' c1 e2
    go_enter Try.func13, Try.ntmps13
    go_wp2_with fail
    go_ret
    exact ⟨rfl, rfl⟩
  have d3 : decide (p < 0) = false := decide_eq_false c3
  by_cases c4 : 1000 < p
  · have d4 : decide (1000 < p) = true := decide_eq_true c4
    clear hw' c1 e2 c3
    go_enter Try.func13, Try.ntmps13
    go_wp2_with fail
    go_ret
    exact ⟨rfl, rfl⟩
  have d4 : decide (1000 < p) = false := decide_eq_false c4
  by_cases c5 : t < 0
  · have d5 : decide (t < 0) = true := decide_eq_true c5
    clear hw' c1 e2 c3 c4
    go_enter Try.func13, Try.ntmps13
    go_wp2_with fail
    go_ret
    exact ⟨rfl, rfl⟩
  have d5 : decide (t < 0) = false := decide_eq_false c5
  have d6 : decide (1099511627776 < t) = true := decide_eq_true (by omega)
  clear hw' c1 e2 c3 c4 c5
  go_enter Try.func13, Try.ntmps13
  go_wp2_with fail
  go_ret
  exact ⟨rfl, rfl⟩
set_option maxHeartbeats 1000000 in
set_option maxRecDepth 20000 in
theorem rdrop_calls (h : RQ w r xs most age ys G) (hl : xs.length ≤ 1000000) (hy : ys.length ≤ 10000) (hs : SortedOf C xs) (k : Int) :
    Calls Try.prog 17 #[.pointer (some ⟨r, 0, none⟩), .int .i64 k] w fun e w' => ∃ xs', e = .returned (.bool ((C k).isSome || (mkAll k false ys).2.2)) ∧ SortedOf (upd C k none) xs' ∧ QPost w w' r xs' most age (mkEnd k false ys) G := by
  obtain ⟨dv, E, hI, hd, hE, hG⟩ := h
  have HI := Aside0.mk hI
  have HL := Aside0.mk hl
  have HY := Aside0.mk hy
  have HS := Aside0.mk hs
  have HQ := Aside0.mk (fun w' xs' (hp : RPost (kap age dv) w w' r xs' most E) => rq_heap hd hE hG hp)
  clear hI hd hE hG hl hs hy
  go_enter Try.func17, Try.ntmps17
  go_wp2_with fail
  refine (rremove_calls w r xs most E HI.out HL.out C HS.out k).mono ?_
  rintro e w2 ⟨xs', rfl, hs', hp'⟩
  obtain ⟨G1, q1, q2, q3⟩ := HQ.out w2 xs' hp'
  have HM := Lib.hid (rmark w2 r xs' most age ys G1 q1 HY.out k false)
  have HH := Aside0.mk (And.intro hs' (And.intro q2 q3))
  clear hs' hp' q1 q2 q3
  go_wp2_with fail
  refine HM.out.mono ?_
  rintro e w3 ⟨rfl, hp3⟩
  obtain ⟨h1, h2, h3⟩ := HH.out
  have HF := Aside0.mk (And.intro h1 (QPost.join h2 h3 hp3))
  clear h1 h2 h3 hp3
  obtain ⟨u, hu⟩ : ∃ u, (mkAll k false ys).2.2 = u := ⟨_, rfl⟩
  rw [hu]
  have HU := Aside0.mk hu
  clear hu
  cases hc : (C k).isSome
  · have HCC := Aside0.mk hc
    clear hc
    go_wp2_with fail
    go_ret
    exact ⟨xs', by rw [HU.out, HCC.out]; rfl, HF.out⟩
  · have HCC := Aside0.mk hc
    clear hc
    go_wp2_with fail
    go_ret
    exact ⟨xs', by rw [HU.out, HCC.out]; rfl, HF.out⟩
end
end Go.Proofs.Ytclekakhgaggdaa.HeapC
/- The document's queue: Next. -/
namespace Go.Proofs.Ytclekakhgaggdaa.HeapC
open Go.RowKit Go.Proofs.Ytclekakhgaggdaa.HeapT Go.Proofs.Ytclekakhgaggdaa.HeapM Go.Proofs.Ytclekakhgaggdaa.QueueM Go.Proofs.YtclekakhgaggdaaW.PrintWords Go.Proofs.YtclekakhgaggdaaW.PrintLast Go.Proofs.YtclekakhgaggdaaW.PrintMore
set_option linter.unusedVariables false
set_option linter.unusedSimpArgs false
/-- Lengths of sorted lists. -/
theorem len_ins {C : Int → Option Int} {xs ys : List Itm} {k p : Int} (h : SortedOf C xs) (hk : C k = none) (hw : (Lit.int .i64 k).wf = true) (g : SortedOf (upd C k (some p)) ys) : ys.length = xs.length + 1 := by
  obtain ⟨c, hc, h1, h2⟩ := h.cut k hk
  rw [SortedOf.unique g (h.ins k p hk hw c hc h1 h2)]
  simp; omega
theorem len_del {C : Int → Option Int} {xs ys : List Itm} {k : Int} (h : SortedOf C xs) (g : SortedOf (upd C k none) ys) : (C k ≠ none → ys.length + 1 = xs.length) ∧ (C k = none → ys.length = xs.length) := by
  obtain ⟨i0, h0, hf, he, hS, hN⟩ := h.find k
  rw [SortedOf.unique g (h.del k i0 h0 hf he), List.length_eraseIdx]
  refine ⟨fun e => ?_, fun e => ?_⟩
  · have hi : i0 < xs.length := by
      by_cases x : i0 = xs.length
      · exact absurd (hN x) e
      · omega
    rw [if_pos hi]; omega
  · rw [if_neg (fun x => by have := hS x; rw [e] at this; cases this)]
theorem len_turn {C : Int → Option Int} {xs ys : List Itm} {k p : Int} (h : SortedOf C xs) (g : SortedOf (chg C k p) ys) : ys.length = xs.length := by
  obtain ⟨i0, h0, hf, he, hS, hN⟩ := h.find k
  by_cases hi : i0 < xs.length
  · rw [SortedOf.unique g (h.turn k p i0 hi (he hi)), List.length_set]
  · rw [chg_none (hN (by omega))] at g
    rw [SortedOf.unique g h]
/-- The greater and the lesser of two, not to be split. -/
def imax (x y : Int) : Int := if x < y then y else x
def imin (x y : Int) : Int := if y < x then y else x
theorem max2_keep (k k' : IntKind) (x y : Int) : Builtin.max2 (.int k x) (.int k' y) = pure (.int k (imax x y)) := by rw [max2_int]; rfl
theorem min2_keep (k k' : IntKind) (x y : Int) : Builtin.min2 (.int k x) (.int k' y) = pure (.int k (imin x y)) := by rw [min2_int]; rfl
theorem clamp_keep (t : Int) : imax 0 (imin t 1099511627776) = clampT t := by
  unfold imax imin clampT
  split <;> split <;> omega
theorem ints_cut {w : World} {H : Nat → Prop} {a : Option Addr} {n cap : Nat} {y : Int} {ys : List Int} (h : IntsAt w H (.slice a n cap) (y :: ys)) : IntsAt w H (.slice (if cap = 1 then a else a.map (·.add 1)) (n - 1) (cap - 1)) ys := by
  obtain ⟨a', cap', e, hc, hi⟩ := h
  injection e with e1 e2 e3
  subst e1; subst e3
  rw [List.length_cons] at e2 hc hi
  refine ⟨_, _, by rw [show n - 1 = ys.length by omega], by omega, fun i hl => ?_⟩
  obtain ⟨b, off, rfl, hb, hbl, q⟩ := hi (i + 1) (by omega)
  by_cases h1 : cap = 1
  · omega
  · rw [if_neg h1]
    refine ⟨b, off + 1, rfl, hb, hbl, ?_⟩
    rw [show off + 1 + i = off + (i + 1) by omega, q]
    rfl
/-- The dirty ones are stored anew. -/
theorem rq_put {w : World} {r : Nat} {v dv dv' : Value} {xs : List Itm} {most age : Int} {ys : List Int} {E G : Nat → Prop} (hm : RMem (kap age dv) w r v xs most) (hE : ∀ k, (k = r ∨ v.ownBlock = some k) → E k) (hEl : ∀ k, E k → k < w.heap.size) (hEG : ∀ k, E k → G k) (hG : ∀ k, G k → k < w.heap.size) (hd : IntsAt w (fun k => G k ∧ ¬ E k) dv' ys) :
    QPost w (w.setCell ⟨r, 3, none⟩ dv') r xs most age ys G := by
  have c : Chg w (w.setCell ⟨r, 3, none⟩ dv') (fun q => q = r) := (Chg.refl w (fun q => q = r)).setCell (.inl rfl) _
  have hh : (w.setCell ⟨r, 3, none⟩ dv').heap[r]? = some (.cells (v :: .int .i64 most :: (kap age dv').2).toArray (kap age dv').1 (0, 0)) := by
    have h := HeapM.blk_set_same hm.head 3 dv' (by simp [kap])
    rw [show (v :: .int .i64 most :: (kap age dv).2).toArray.setIfInBounds 3 dv' = (v :: .int .i64 most :: (kap age dv').2).toArray by simp [kap]] at h
    exact h
  have hm1 : RMem (kap age dv') (w.setCell ⟨r, 3, none⟩ dv') r v xs most := ⟨hh, row_keep c hm.row (fun q e => by subst e; exact hm.vr), hm.vr⟩
  have sz : (w.setCell ⟨r, 3, none⟩ dv').heap.size = w.heap.size := by simp [World.setCell]
  exact ⟨G, ⟨dv', E, ⟨v, hm1, hE, fun k e => by rw [sz]; exact hEl k e⟩, hd.keep c (fun k e f => by subst e; exact f.2 (hE _ (.inl rfl))), hEG, fun k e => by rw [sz]; exact hG k e⟩, c.mono (fun k e => by subst e; exact .inl (hEG _ (hE _ (.inl rfl)))), fun k e => .inl e⟩
/-- How long the slice of the dirty ones is. -/
def dlen (w : World) (r : Nat) : Nat := match w.cell? ⟨r, 3, none⟩ with | some (.slice _ n _) => n | _ => 0
theorem RQ.dirty {w : World} {r : Nat} {xs : List Itm} {most age : Int} {ys : List Int} {G : Nat → Prop} (h : RQ w r xs most age ys G) : ∃ a cap, w.cell? ⟨r, 3, none⟩ = some (.slice a ys.length cap) ∧ (∀ i, i < ys.length → ∃ b off, a = some ⟨b, off, none⟩ ∧ G b ∧ b < w.heap.size ∧ w.cell? ⟨b, off + i, none⟩ = some (.int .i64 (ys.getD i 0))) ∧ r < w.heap.size ∧ w.frozen? ⟨r, 3, none⟩ = false ∧
    ∀ y zs, ys = y :: zs → QPost w (w.setCell ⟨r, 3, none⟩ (.slice (if cap = 1 then a else a.map (·.add 1)) (ys.length - 1) (cap - 1))) r xs most age zs G := by
  obtain ⟨dv, E, ⟨v, hv, h2, h3⟩, hd, hE, hG⟩ := h
  obtain ⟨a, cap, rfl, hc, hi⟩ := hd
  refine ⟨a, cap, (HeapM.blk_cell hv.head 3).trans rfl, fun i hl => ?_, HeapM.blk_lt hv.head, HeapM.blk_free hv.head 3, ?_⟩
  · obtain ⟨b, off, e, hb, q1, q2⟩ := hi i hl
    exact ⟨b, off, e, hb.1, q1, q2⟩
  · rintro y zs rfl
    exact rq_put hv h2 h3 hE hG (ints_cut ⟨a, cap, rfl, hc, hi⟩)
theorem RQ.push {w : World} {r : Nat} {xs : List Itm} {most age : Int} {ys : List Int} {G : Nat → Prop} (h : RQ w r xs most age ys G) (hl : xs.length ≤ 1000000) {C : Int → Option Int} (hs : SortedOf C xs) (k p : Int) (hk : (Lit.int .i64 k).wf = true) (hc : C k = none) (hn : (xs.length : Int) < most) :
    Calls Try.prog 29 #[.pointer (some ⟨r, 0, none⟩), .int .i64 k, .int .i64 p] w fun e w' => ∃ xs', e = .returned (.int .i64 0) ∧ SortedOf (upd C k (some p)) xs' ∧ QPost w w' r xs' most age ys G := by
  obtain ⟨dv, E, hI, hd, hE, hG⟩ := h
  refine (rpush_ok w r xs most E hI hl C hs k p hk hc hn).mono ?_
  rintro e w' ⟨xs', h1, h2, h3⟩
  exact ⟨xs', h1, h2, rq_heap hd hE hG h3⟩
theorem RQ.full {w : World} {r : Nat} {xs : List Itm} {most age : Int} {ys : List Int} {G : Nat → Prop} (h : RQ w r xs most age ys G) (hl : xs.length ≤ 1000000) {C : Int → Option Int} (hs : SortedOf C xs) (k p : Int) (hc : C k = none) (hn : most ≤ xs.length) :
    Calls Try.prog 29 #[.pointer (some ⟨r, 0, none⟩), .int .i64 k, .int .i64 p] w fun e w' => e = .returned (.int .i64 50) ∧ QPost w w' r xs most age ys G := by
  have h0 := h
  obtain ⟨dv, E, hI, hd, hE, hG⟩ := h
  refine (rpush_full w r xs most E hI hl C hs k p hc hn).mono ?_
  rintro e w' ⟨h1, h2⟩
  exact ⟨h1, QPost.of_below h0 h2⟩
/-- How far the document's Next is in sweeping. -/
def RSw (V wx : World) (r : Nat) (C1 : Int → Option Int) (n1 : Nat) (most age : Int) (ys : List Int) (t : Int) (G1 : Nat → Prop) (m : Nat) (xs' : List Itm) : Prop :=
  xs'.length = n1 + m ∧ SortedOf (fun x => if x ∈ ys.take m then some t else C1 x) xs' ∧ QPost V wx r xs' most age (ys.drop m) G1
section
variable {w : World} {r : Nat} {xs : List Itm} {C : Int → Option Int} {S : Int → Bool} {age most : Int} {ys : List Int} {G : Nat → Prop}
attribute [local go_sem] max2_keep min2_keep max_two min_two
set_option maxHeartbeats 4000000 in
set_option maxRecDepth 20000 in
theorem rnext_calls (h : RQ w r xs most age ys G) (hl : xs.length ≤ 1000) (hm1 : most ≤ 1000) (hs : SortedOf C xs) (hset : SetOf S ys) (hS : ∀ x, S x = true → 0 ≤ x ∧ x < 1000) (hC : ∀ x, S x = true → C x = none) (now : Int) :
    Calls Try.prog 15 #[.pointer (some ⟨r, 0, none⟩), .int .i64 now] w fun e w' => ∃ k p b m C' S' xs' ys', e = .returned (.tuple #[.int .i64 k, .bool b]) ∧ TopIs C xs.length k p b ∧ Swept (if b then upd C k none else C) S (xs.length - 1) most (-(clampT now)) ys m C' S' ∧ xs'.length = xs.length - 1 + m ∧ SortedOf C' xs' ∧ ys' = ys.drop m ∧ QPost w w' r xs' most age ys' G := by
  obtain ⟨dv, E, hI, hd, hE, hG⟩ := h
  have HI := Aside0.mk hI
  have HL := Aside0.mk hl
  have HSO := Aside0.mk hs
  have HM1 := Aside0.mk hm1
  have HSET := Aside0.mk hset
  have HS := Aside0.mk hS
  have HC := Aside0.mk hC
  have HQ := Aside0.mk (fun w' xs' (hp : RPost (kap age dv) w w' r xs' most E) => rq_heap hd hE hG hp)
  obtain ⟨t, ht⟩ : ∃ t, t = -(clampT now) := ⟨_, rfl⟩
  have htw := clamp_range now
  have e1 : wrap64 (-(clampT now)) = t := by rw [ht]; generalize clampT now = c at htw; unfold wrap64; omega
  have HT := Aside0.mk e1
  have HTT := Aside0.mk ht
  clear hI hd hE hG hl hs hm1 hset hS hC e1 ht htw
  go_enter Try.func15, Try.ntmps15
  go_wp2_with fail
  refine (rpop_calls w r xs most E HI.out (by have := HL.out; omega) C HSO.out).mono ?_
  rintro e w1 ⟨k, p, b, xs1, rfl, htop, hs1, hp1⟩
  obtain ⟨G1, q1, q2, q3⟩ := HQ.out w1 xs1 hp1
  have hn1 : xs1.length = xs.length - 1 := by
    rcases htop with ⟨e0, e1, e2, e3⟩ | ⟨e0, e1, e3⟩
    · subst e3
      rw [if_neg (by simp)] at hs1
      rw [SortedOf.unique hs1 HSO.out]; omega
    · subst e3
      rw [if_pos rfl] at hs1
      have := (len_del HSO.out hs1).1 (by rw [e1.1]; exact Option.some_ne_none _)
      omega
  obtain ⟨C1, hC1⟩ : ∃ C1, (if b then upd C k none else C) = C1 := ⟨_, rfl⟩
  rw [hC1] at hs1
  have hCn : ∀ x, S x = true → C1 x = none := fun x hx => by
    rw [← hC1]
    split
    · unfold upd; split
      · rfl
      · exact HC.out x hx
    · exact HC.out x hx
  have BA : Below w1.heap.size w1 (w1.alloc (.cells #[.int .i64 k, .int .i64 p] 63)) := by apply below_alloc; exact Below.refl _ _
  have hq1 := q1.below BA
  have hX := Aside0.mk (HeapM.blk_new w1 (.cells #[.int .i64 k, .int .i64 p] 63))
  have hGX : ¬ G1 w1.heap.size := fun e => by obtain ⟨_, _, _, _, _, hlt⟩ := q1; have := hlt _ e; omega
  obtain ⟨n1, hnn⟩ : ∃ n1, xs.length - 1 = n1 := ⟨_, rfl⟩
  have hst : Aside0 (RSw (w1.alloc (.cells #[.int .i64 k, .int .i64 p] 63)) (w1.alloc (.cells #[.int .i64 k, .int .i64 p] 63)) r C1 n1 most age ys t G1 0 xs1) := ⟨by
    refine ⟨by omega, ?_, QPost.of_below hq1 (Below.refl _ _)⟩
    have e1 : (fun x => if x ∈ ys.take 0 then some t else C1 x) = C1 := by funext x; simp
    rw [e1]; exact hs1⟩
  have HPO := Aside0.mk (fun (w2 : World) (xs2 : List Itm) (ys2 : List Int) (hp : QPost (w1.alloc (.cells #[.int .i64 k, .int .i64 p] 63)) w2 r xs2 most age ys2 G1) => QPost.join (q2.trans (Chg.of_below BA G) (fun k e => .inl e)) (fun k e => (q3 k e).imp id (fun x => ⟨x.1, by have := BA.size; omega⟩)) hp)
  have HTOP := Aside0.mk htop
  have HC1 := Aside0.mk hC1
  have HCN := Aside0.mk hCn
  have HNN := Aside0.mk hnn
  have HXG := Aside0.mk hGX
  have HN1 : n1 ≤ 1000 := by have := HL.out; omega
  clear htop hs1 hp1 q1 q2 q3 hn1 hC1 hCn BA hq1 hGX hnn
  go_wp2_with fail
  rw [clamp_keep]
  obtain ⟨X, hXe⟩ : ∃ X, w1.heap.size = X := ⟨_, rfl⟩
  obtain ⟨V, hV⟩ : ∃ W, (w1.alloc (.cells #[.int .i64 k, .int .i64 p] 63)) = W := ⟨_, rfl⟩
  obtain ⟨c, hc⟩ : ∃ c, clampT now = c := ⟨_, rfl⟩
  rw [hXe] at hX HXG ⊢
  rw [hV] at hst hX HPO ⊢
  rw [hc] at HT HTT ⊢
  have HCC := Aside0.mk hc
  obtain ⟨len, hle⟩ : ∃ len, len = ys.length := ⟨_, rfl⟩
  have HLE := Aside0.mk hle
  clear hXe hV hc hle
  go_loopw [] (fun wx => ∃ (m : Nat) (xs' : List Itm), m ≤ len ∧ m ≤ (most - n1).toNat ∧ Aside0 (RSw V wx r C1 n1 most age ys t G1 m xs')) (fun wx => dlen wx r)
  case atStart => exact ⟨0, xs1, by omega, by omega, hst⟩
  case round =>
    obtain ⟨m, xs', hm, hmm, HR⟩ := hrel
    obtain ⟨R1, R2, G2, R3, R4, R5⟩ := HR.out
    obtain ⟨a2, cap2, c3, hcells, hrl, f3, -⟩ := R3.dirty
    obtain ⟨l, hl⟩ : ∃ l, (ys.drop m).length = l := ⟨_, rfl⟩
    have hlm : l + m = len := by rw [← hl, List.length_drop, HLE.out]; have := HLE.out; omega
    rw [hl] at c3 hcells
    have hdl : dlen wr r = l := by unfold dlen; rw [c3]
    have HDL := Aside0.mk hdl
    have y0 : wr.cell? ⟨X, 0, none⟩ = some (.int .i64 k) := (R4.cell (HeapM.blk_lt hX.out) HXG.out 0).trans ((HeapM.blk_cell hX.out 0).trans rfl)
    by_cases hlt : m < len
    · have hyl : m < ys.length := by have := HLE.out; omega
      obtain ⟨y, hy⟩ : ∃ y, ys.getD m 0 = y := ⟨_, rfl⟩
      have hdrop : ys.drop m = y :: ys.drop (m + 1) := by
        rw [← hy, List.getD_eq_getElem?_getD, List.getElem?_eq_getElem hyl]
        exact List.drop_eq_getElem_cons hyl
      have hym : y ∈ ys := by rw [← hy, List.getD_eq_getElem?_getD, List.getElem?_eq_getElem hyl]; exact List.getElem_mem hyl
      have hyS : S y = true := (HSET.out.mem y).1 hym
      have hyr := HS.out y hyS
      have hyn : y ∉ ys.take m := by rw [← hy]; exact not_taken HSET.out.srt m hyl
      have hk := Aside0.mk (wf_small (k := y) (by omega) (by omega))
      have hcn := Aside0.mk (show (fun x => if x ∈ ys.take m then some t else C1 x) y = none by simp only; rw [if_neg hyn]; exact HCN.out y hyS)
      obtain ⟨b2, off2, ea, -, -, q0⟩ := hcells 0 (by omega)
      subst ea
      rw [hdrop, Nat.add_zero, List.getD_cons_zero] at q0
      have HY := Aside0.mk hy
      have HYL := Aside0.mk hyl
      have HDR := Aside0.mk hdrop
      have HR1 := Aside0.mk R1
      have HR2 := Aside0.mk R2
      have HR3 := Aside0.mk R3
      have HR4 := Aside0.mk (And.intro R4 R5)
      have HF3 := Aside0.mk f3
      have HLL := Aside0.mk hl
      have HLM := Aside0.mk hlm
      have l0 : decide ((0 : Int) < (l : Int)) = true := decide_eq_true (by omega)
      have l1 : ((l : Int) ≤ 0) = False := eq_false (by omega)
      have l2 : 0 < l := by omega
      clear R1 R2 R3 R4 R5 hcells hyn hyS hyr hym hy hyl hdrop hl hdl f3 HR hst
      by_cases hr : ((n1 : Int) + m) < most
      · have HRR := Aside0.mk hr
        have HP := Aside0.mk (fun (w' : World) (e : w' = wr.drew) => show Calls Try.prog 29 #[.pointer (some ⟨r, 0, none⟩), .int .i64 y, .int .i64 (wrap64 (-c))] w' (fun e w3 => ∃ xs'', e = .returned (.int .i64 0) ∧ SortedOf (upd (fun x => if x ∈ ys.take m then some t else C1 x) y (some t)) xs'' ∧ QPost w' w3 r xs'' most age (ys.drop m) G2) from by
          rw [HT.out, e]
          exact (HR3.out.below (below_drew1 (Below.refl _ _))).push (by have := HR1.out; have := HM1.out; omega) HR2.out y t hk.out hcn.out (by have := HR1.out; omega))
        clear hr
        go_wp2_with fail
        refine start_ (n := 21) (S := fun w' => w'.cell? ⟨r, 3, none⟩ = some (.slice (some ⟨b2, off2, none⟩) l cap2) ∧ w'.cell? ⟨b2, off2, none⟩ = some (.int .i64 y) ∧ w' = wr.drew) (ds := [18]) #[false, false, false, false, false, false, false, false, false, false, false, false, false, false, false, false, false, false, false, false, false] (by kernel_rfl) rfl rfl ⟨c3, q0, rfl⟩ (fun hHeld => ?_)
        refine pure_ (i := 0) (N := some 19) (v := ?_) (a' := ?_) #[true, false, false, false, false, false, false, false, false, false, false, false, false, false, false, false, false, false, false, false, false] rfl rfl (by kernel_rfl) (fun _ _ _ h => h) (Or.inl ⟨by rfl, ?_⟩) ?_ ?_
        rotate_left
        · intro w'
          go_simp
          with_reducible rfl
        rotate_left
        · simp only [Act.put, List.setIfInBounds_toArray, List.set_cons_zero, List.set_cons_succ, i64_w, i32_w]
          rfl
        refine pure_ (i := 1) (N := some 20) (v := ?_) (a' := ?_) #[true, true, false, false, false, false, false, false, false, false, false, false, false, false, false, false, false, false, false, false, false] rfl rfl (by kernel_rfl) (fun _ _ _ h => h) (Or.inl ⟨by rfl, ?_⟩) ?_ ?_
        rotate_left
        · intro w'
          go_simp
          with_reducible rfl
        rotate_left
        · simp only [Act.put, List.setIfInBounds_toArray, List.set_cons_zero, List.set_cons_succ, i64_w, i32_w]
          rfl
        refine pure_ (i := 2) (N := some 21) (v := ?_) (a' := ?_) #[true, true, true, false, false, false, false, false, false, false, false, false, false, false, false, false, false, false, false, false, false] rfl rfl (by kernel_rfl) (fun _ _ _ h => h) (Or.inl ⟨by rfl, ?_⟩) ?_ ?_
        rotate_left
        · intro w'
          go_simp
          with_reducible rfl
        rotate_left
        · simp only [Act.put, List.setIfInBounds_toArray, List.set_cons_zero, List.set_cons_succ, i64_w, i32_w]
          rfl
        refine take_ (i := 3) (N := some 22) (v := ?_) (a' := ?_) #[true, true, true, true, false, false, false, false, false, false, false, false, false, false, false, false, false, false, false, false, false] rfl rfl (by kernel_rfl) (fun _ _ _ h => h) (Or.inl ⟨by rfl, ?_⟩) hHeld ?_ ?_
        rotate_left
        · rintro w' ⟨s0, s1, s2⟩
          go_simp
          with_reducible rfl
        rotate_left
        · simp only [Act.put, List.setIfInBounds_toArray, List.set_cons_zero, List.set_cons_succ, i64_w, i32_w]
          rfl
        refine pure_ (i := 4) (N := some 23) (v := ?_) (a' := ?_) #[true, true, true, true, true, false, false, false, false, false, false, false, false, false, false, false, false, false, false, false, false] rfl rfl (by kernel_rfl) (fun _ _ _ h => h) (Or.inl ⟨by rfl, ?_⟩) ?_ ?_
        rotate_left
        · intro w'
          go_simp
          with_reducible rfl
        rotate_left
        · simp only [Act.put, List.setIfInBounds_toArray, List.set_cons_zero, List.set_cons_succ, i64_w, i32_w]
          rfl
        refine pure_ (i := 5) (N := some 24) (v := ?_) (a' := ?_) #[true, true, true, true, true, true, false, false, false, false, false, false, false, false, false, false, false, false, false, false, false] rfl rfl (by kernel_rfl) (fun _ _ _ h => h) (Or.inl ⟨by rfl, ?_⟩) ?_ ?_
        rotate_left
        · intro w'
          go_simp
          with_reducible rfl
        rotate_left
        · simp only [Act.put, List.setIfInBounds_toArray, List.set_cons_zero, List.set_cons_succ, i64_w, i32_w]
          rfl
        refine pure_ (i := 6) (N := some 25) (v := ?_) (a' := ?_) #[true, true, true, true, true, true, true, false, false, false, false, false, false, false, false, false, false, false, false, false, false] rfl rfl (by kernel_rfl) (fun _ _ _ h => h) (Or.inl ⟨by rfl, ?_⟩) ?_ ?_
        rotate_left
        · intro w'
          go_simp
          with_reducible rfl
        rotate_left
        · simp only [Act.put, List.setIfInBounds_toArray, List.set_cons_zero, List.set_cons_succ, i64_w, i32_w]
          rfl
        refine pure_ (i := 7) (N := some 26) (v := ?_) (a' := ?_) #[true, true, true, true, true, true, true, true, false, false, false, false, false, false, false, false, false, false, false, false, false] rfl rfl (by kernel_rfl) (fun _ _ _ h => h) (Or.inl ⟨by rfl, ?_⟩) ?_ ?_
        rotate_left
        · intro w'
          go_simp
          with_reducible rfl
        rotate_left
        · simp only [Act.put, List.setIfInBounds_toArray, List.set_cons_zero, List.set_cons_succ, i64_w, i32_w]
          rfl
        refine pure_ (i := 8) (N := some 27) (v := ?_) (a' := ?_) #[true, true, true, true, true, true, true, true, true, false, false, false, false, false, false, false, false, false, false, false, false] rfl rfl (by kernel_rfl) (fun _ _ _ h => h) (Or.inl ⟨by rfl, ?_⟩) ?_ ?_
        rotate_left
        · intro w'
          go_simp
          with_reducible rfl
        rotate_left
        · simp only [Act.put, List.setIfInBounds_toArray, List.set_cons_zero, List.set_cons_succ, i64_w, i32_w]
          rfl
        refine pure_ (i := 9) (N := some 28) (v := ?_) (a' := ?_) #[true, true, true, true, true, true, true, true, true, true, false, false, false, false, false, false, false, false, false, false, false] rfl rfl (by kernel_rfl) (fun _ _ _ h => h) (Or.inl ⟨by rfl, ?_⟩) ?_ ?_
        rotate_left
        · intro w'
          go_simp
          with_reducible rfl
        rotate_left
        · simp only [Act.put, List.setIfInBounds_toArray, List.set_cons_zero, List.set_cons_succ, i64_w, i32_w]
          rfl
        refine pure_ (i := 10) (N := some 29) (v := ?_) (a' := ?_) #[true, true, true, true, true, true, true, true, true, true, true, false, false, false, false, false, false, false, false, false, false] rfl rfl (by kernel_rfl) (fun _ _ _ h => h) (Or.inl ⟨by rfl, ?_⟩) ?_ ?_
        rotate_left
        · intro w'
          go_simp
          with_reducible rfl
        rotate_left
        · simp only [Act.put, List.setIfInBounds_toArray, List.set_cons_zero, List.set_cons_succ, i64_w, i32_w]
          rfl
        refine pure_ (i := 11) (N := some 30) (v := ?_) (a' := ?_) #[true, true, true, true, true, true, true, true, true, true, true, true, false, false, false, false, false, false, false, false, false] rfl rfl (by kernel_rfl) (fun _ _ _ h => h) (Or.inl ⟨by rfl, ?_⟩) ?_ ?_
        rotate_left
        · intro w'
          go_simp
          with_reducible rfl
        rotate_left
        · simp only [Act.put, List.setIfInBounds_toArray, List.set_cons_zero, List.set_cons_succ, i64_w, i32_w]
          rfl
        refine pure_ (i := 12) (N := some 31) (v := ?_) (a' := ?_) #[true, true, true, true, true, true, true, true, true, true, true, true, true, false, false, false, false, false, false, false, false] rfl rfl (by kernel_rfl) (fun _ _ _ h => h) (Or.inl ⟨by rfl, ?_⟩) ?_ ?_
        rotate_left
        · intro w'
          go_simp
          with_reducible rfl
        rotate_left
        · simp only [Act.put, List.setIfInBounds_toArray, List.set_cons_zero, List.set_cons_succ, i64_w, i32_w]
          rfl
        refine pure_ (i := 16) (N := some 35) (v := ?_) (a' := ?_) #[true, true, true, true, true, true, true, true, true, true, true, true, true, false, false, false, true, false, false, false, false] rfl rfl (by kernel_rfl) (fun _ _ _ h => h) (Or.inl ⟨by rfl, ?_⟩) ?_ ?_
        rotate_left
        · intro w'
          go_simp
          with_reducible rfl
        rotate_left
        · simp only [Act.put, List.setIfInBounds_toArray, List.set_cons_zero, List.set_cons_succ, i64_w, i32_w]
          rfl
        refine pure_ (i := 17) (N := some 36) (v := ?_) (a' := ?_) #[true, true, true, true, true, true, true, true, true, true, true, true, true, false, false, false, true, true, false, false, false] rfl rfl (by kernel_rfl) (fun _ _ _ h => h) (Or.inl ⟨by rfl, ?_⟩) ?_ ?_
        rotate_left
        · intro w'
          go_simp
          with_reducible rfl
        rotate_left
        · simp only [Act.put, List.setIfInBounds_toArray, List.set_cons_zero, List.set_cons_succ, i64_w, i32_w]
          rfl
        refine take_ (i := 13) (N := some 32) (v := ?_) (a' := ?_) #[true, true, true, true, true, true, true, true, true, true, true, true, true, true, false, false, true, true, false, false, false] rfl rfl (by kernel_rfl) (fun _ _ _ h => h) (Or.inl ⟨by rfl, ?_⟩) hHeld ?_ ?_
        rotate_left
        · rintro w' ⟨s0, s1, s2⟩
          go_simp
          with_reducible rfl
        rotate_left
        · simp only [Act.put, List.setIfInBounds_toArray, List.set_cons_zero, List.set_cons_succ, i64_w, i32_w]
          rfl
        refine pure_ (i := 14) (N := some 33) (v := ?_) (a' := ?_) #[true, true, true, true, true, true, true, true, true, true, true, true, true, true, true, false, true, true, false, false, false] rfl rfl (by kernel_rfl) (fun _ _ _ h => h) (Or.inl ⟨by rfl, ?_⟩) ?_ ?_
        rotate_left
        · intro w'
          go_simp
          with_reducible rfl
        rotate_left
        · simp only [Act.put, List.setIfInBounds_toArray, List.set_cons_zero, List.set_cons_succ, i64_w, i32_w]
          rfl
        refine take_ (i := 15) (N := some 34) (v := ?_) (a' := ?_) #[true, true, true, true, true, true, true, true, true, true, true, true, true, true, true, true, true, true, false, false, false] rfl rfl (by kernel_rfl) (fun _ _ _ h => h) (Or.inl ⟨by rfl, ?_⟩) hHeld ?_ ?_
        rotate_left
        · rintro w' ⟨s0, s1, s2⟩
          go_simp
          with_reducible rfl
        rotate_left
        · simp only [Act.put, List.setIfInBounds_toArray, List.set_cons_zero, List.set_cons_succ, i64_w, i32_w]
          rfl
        refine last_ (i := 18) (N := some 37) #[true, true, true, true, true, true, true, true, true, true, true, true, true, true, true, true, true, true, true, false, false] rfl rfl (by kernel_rfl) (by decide) (fun K hK => ?_)
        refine goes_ Try.func29 (by kernel_rfl) rfl #[.pointer (some ⟨r, 0, none⟩), .int .i64 y, .int .i64 (wrap64 (-c))] (by rfl) rfl rfl (by simp only [List.map_toArray, List.map_cons, List.map_nil]; rfl) ?_
        with_reducible refine (HP.out _ hHeld.2.2).mono ?_
        rintro e w3 ⟨xs2, rfl, hs2, hp2⟩
        refine ⟨_, rfl, ?_⟩
        refine hK.out _ _ ?_
        clear hK K
        refine norm_ (a' := ?_) ?_ ?_
        rotate_left
        · show Act.put _ (some 37) _ = _
          simp only [Act.put, List.setIfInBounds_toArray, List.set_cons_zero, List.set_cons_succ, i64_w, i32_w]
          rfl
        refine pure_ (i := 19) (N := some 38) (v := ?_) (a' := ?_) #[true, true, true, true, true, true, true, true, true, true, true, true, true, true, true, true, true, true, true, true, false] rfl rfl (by kernel_rfl) (fun _ _ _ h => h) (Or.inl ⟨by rfl, ?_⟩) ?_ ?_
        rotate_left
        · intro w'
          go_simp
          with_reducible rfl
        rotate_left
        · simp only [Act.put, List.setIfInBounds_toArray, List.set_cons_zero, List.set_cons_succ, i64_w, i32_w]
          rfl
        refine pure_ (i := 20) (N := some 39) (v := ?_) (a' := ?_) #[true, true, true, true, true, true, true, true, true, true, true, true, true, true, true, true, true, true, true, true, true] rfl rfl (by kernel_rfl) (fun _ _ _ h => h) (Or.inl ⟨by rfl, ?_⟩) ?_ ?_
        rotate_left
        · intro w'
          go_simp
          with_reducible rfl
        rotate_left
        · simp only [Act.put, List.setIfInBounds_toArray, List.set_cons_zero, List.set_cons_succ, i64_w, i32_w]
          rfl
        refine done_ (by kernel_rfl) ?_

        rw [hHeld.2.2] at hp2
        clear hHeld c3 q0 y0
        obtain ⟨G3, S3, S4, S5⟩ := hp2
        have hQ3 : QPost V w3 r xs2 most age (ys.drop m) G1 := QPost.join HR4.out.1 HR4.out.2 (QPost.join (Chg.of_below (below_drew1 (Below.refl _ _)) G2) (fun k e => .inl e) ⟨G3, S3, S4, S5⟩)
        obtain ⟨G4, T3, T4, T5⟩ := hQ3
        obtain ⟨a3, cap3, c3, hcells3, hrl3, f3, hcut3⟩ := T3.dirty
        have hfin := QPost.join T4 T5 (hcut3 y (ys.drop (m + 1)) HDR.out)
        rw [HLL.out] at c3 hfin
        have hd : dlen (w3.setCell ⟨r, 3, none⟩ (.slice (if cap3 = 1 then a3 else a3.map (·.add 1)) (l - 1) (cap3 - 1))) r = l - 1 := by
          obtain ⟨_, h1, _, _⟩ := hfin
          obtain ⟨a4, cap4, c4, _⟩ := h1.dirty
          unfold dlen
          rw [c4]
          show (ys.drop (m + 1)).length = l - 1
          rw [List.length_drop]
          have := HLM.out; have := HLE.out; omega
        have hI : Aside0 (RSw V (w3.setCell ⟨r, 3, none⟩ (.slice (if cap3 = 1 then a3 else a3.map (·.add 1)) (l - 1) (cap3 - 1))) r C1 n1 most age ys t G1 (m + 1) xs2) := ⟨by
          refine ⟨?_, ?_, hfin⟩
          · have := len_ins HR2.out hcn.out hk.out hs2
            have := HR1.out
            omega
          · have e1 : (fun x => if x ∈ ys.take (m + 1) then some t else C1 x) = upd (fun x => if x ∈ ys.take m then some t else C1 x) y (some t) := by
              funext x
              unfold upd
              rw [take_one ys m HYL.out, HY.out]
              by_cases hx : x = y
              · subst hx; simp
              · simp [hx]
            rw [e1]; exact hs2⟩
        have HDD := Aside0.mk hd
        clear hs2 S3 S4 S5 T3 T4 T5 hcells3 hcut3 hfin hd
        have hrun : ∀ w0 : World, (Instr.slice 32 (.slice a3 l cap3) (some (.int .i64 1)) none none).run Try.prog w0 = .ok (.slice (if cap3 = 1 then a3 else a3.map (·.add 1)) (l - 1) (cap3 - 1)) w0 := by
          intro w0
          rw [run_slice_l w0 32 a3 l cap3 (by kernel_rfl) .i64 1 (by omega) (by omega), show (sizeOf (Try.prog.elem 32)).run Try.prog w0 = .ok 1 w0 from by kernel_rfl]
          rfl
        obtain ⟨a4, ha4⟩ : ∃ v, (if cap3 = 1 then a3 else a3.map (·.add 1)) = v := ⟨_, rfl⟩
        obtain ⟨cap4, hc4⟩ : ∃ v, cap3 - 1 = v := ⟨_, rfl⟩
        obtain ⟨l4, hl4⟩ : ∃ v, l - 1 = v := ⟨_, rfl⟩
        rw [ha4, hc4, hl4] at hI HDD hrun
        have hl5 : l4 < l := by omega
        clear ha4 hc4 hl4
        go_wp2_with fail
        go_roundw
        case rel => exact ⟨m + 1, xs2, by omega, by have := HRR.out; omega, hI⟩
        case measure => rw [HDD.out, HDL.out]; exact hl5
      · have HRR := Aside0.mk hr
        have HP := Aside0.mk (fun (w' : World) (e : w' = wr.drew) => show Calls Try.prog 29 #[.pointer (some ⟨r, 0, none⟩), .int .i64 y, .int .i64 (wrap64 (-c))] w' (fun e w3 => e = .returned (.int .i64 50) ∧ QPost w' w3 r xs' most age (ys.drop m) G2) from by
          rw [HT.out, e]
          exact (HR3.out.below (below_drew1 (Below.refl _ _))).full (by have := HR1.out; have := HM1.out; omega) HR2.out y t hcn.out (by have := HR1.out; omega))
        clear hr
        go_wp2_with fail
        refine start_ (n := 21) (S := fun w' => w'.cell? ⟨r, 3, none⟩ = some (.slice (some ⟨b2, off2, none⟩) l cap2) ∧ w'.cell? ⟨b2, off2, none⟩ = some (.int .i64 y) ∧ w' = wr.drew) (ds := [18]) #[false, false, false, false, false, false, false, false, false, false, false, false, false, false, false, false, false, false, false, false, false] (by kernel_rfl) rfl rfl ⟨c3, q0, rfl⟩ (fun hHeld => ?_)
        refine pure_ (i := 0) (N := some 19) (v := ?_) (a' := ?_) #[true, false, false, false, false, false, false, false, false, false, false, false, false, false, false, false, false, false, false, false, false] rfl rfl (by kernel_rfl) (fun _ _ _ h => h) (Or.inl ⟨by rfl, ?_⟩) ?_ ?_
        rotate_left
        · intro w'
          go_simp
          with_reducible rfl
        rotate_left
        · simp only [Act.put, List.setIfInBounds_toArray, List.set_cons_zero, List.set_cons_succ, i64_w, i32_w]
          rfl
        refine pure_ (i := 1) (N := some 20) (v := ?_) (a' := ?_) #[true, true, false, false, false, false, false, false, false, false, false, false, false, false, false, false, false, false, false, false, false] rfl rfl (by kernel_rfl) (fun _ _ _ h => h) (Or.inl ⟨by rfl, ?_⟩) ?_ ?_
        rotate_left
        · intro w'
          go_simp
          with_reducible rfl
        rotate_left
        · simp only [Act.put, List.setIfInBounds_toArray, List.set_cons_zero, List.set_cons_succ, i64_w, i32_w]
          rfl
        refine pure_ (i := 2) (N := some 21) (v := ?_) (a' := ?_) #[true, true, true, false, false, false, false, false, false, false, false, false, false, false, false, false, false, false, false, false, false] rfl rfl (by kernel_rfl) (fun _ _ _ h => h) (Or.inl ⟨by rfl, ?_⟩) ?_ ?_
        rotate_left
        · intro w'
          go_simp
          with_reducible rfl
        rotate_left
        · simp only [Act.put, List.setIfInBounds_toArray, List.set_cons_zero, List.set_cons_succ, i64_w, i32_w]
          rfl
        refine take_ (i := 3) (N := some 22) (v := ?_) (a' := ?_) #[true, true, true, true, false, false, false, false, false, false, false, false, false, false, false, false, false, false, false, false, false] rfl rfl (by kernel_rfl) (fun _ _ _ h => h) (Or.inl ⟨by rfl, ?_⟩) hHeld ?_ ?_
        rotate_left
        · rintro w' ⟨s0, s1, s2⟩
          go_simp
          with_reducible rfl
        rotate_left
        · simp only [Act.put, List.setIfInBounds_toArray, List.set_cons_zero, List.set_cons_succ, i64_w, i32_w]
          rfl
        refine pure_ (i := 4) (N := some 23) (v := ?_) (a' := ?_) #[true, true, true, true, true, false, false, false, false, false, false, false, false, false, false, false, false, false, false, false, false] rfl rfl (by kernel_rfl) (fun _ _ _ h => h) (Or.inl ⟨by rfl, ?_⟩) ?_ ?_
        rotate_left
        · intro w'
          go_simp
          with_reducible rfl
        rotate_left
        · simp only [Act.put, List.setIfInBounds_toArray, List.set_cons_zero, List.set_cons_succ, i64_w, i32_w]
          rfl
        refine pure_ (i := 5) (N := some 24) (v := ?_) (a' := ?_) #[true, true, true, true, true, true, false, false, false, false, false, false, false, false, false, false, false, false, false, false, false] rfl rfl (by kernel_rfl) (fun _ _ _ h => h) (Or.inl ⟨by rfl, ?_⟩) ?_ ?_
        rotate_left
        · intro w'
          go_simp
          with_reducible rfl
        rotate_left
        · simp only [Act.put, List.setIfInBounds_toArray, List.set_cons_zero, List.set_cons_succ, i64_w, i32_w]
          rfl
        refine pure_ (i := 6) (N := some 25) (v := ?_) (a' := ?_) #[true, true, true, true, true, true, true, false, false, false, false, false, false, false, false, false, false, false, false, false, false] rfl rfl (by kernel_rfl) (fun _ _ _ h => h) (Or.inl ⟨by rfl, ?_⟩) ?_ ?_
        rotate_left
        · intro w'
          go_simp
          with_reducible rfl
        rotate_left
        · simp only [Act.put, List.setIfInBounds_toArray, List.set_cons_zero, List.set_cons_succ, i64_w, i32_w]
          rfl
        refine pure_ (i := 7) (N := some 26) (v := ?_) (a' := ?_) #[true, true, true, true, true, true, true, true, false, false, false, false, false, false, false, false, false, false, false, false, false] rfl rfl (by kernel_rfl) (fun _ _ _ h => h) (Or.inl ⟨by rfl, ?_⟩) ?_ ?_
        rotate_left
        · intro w'
          go_simp
          with_reducible rfl
        rotate_left
        · simp only [Act.put, List.setIfInBounds_toArray, List.set_cons_zero, List.set_cons_succ, i64_w, i32_w]
          rfl
        refine pure_ (i := 8) (N := some 27) (v := ?_) (a' := ?_) #[true, true, true, true, true, true, true, true, true, false, false, false, false, false, false, false, false, false, false, false, false] rfl rfl (by kernel_rfl) (fun _ _ _ h => h) (Or.inl ⟨by rfl, ?_⟩) ?_ ?_
        rotate_left
        · intro w'
          go_simp
          with_reducible rfl
        rotate_left
        · simp only [Act.put, List.setIfInBounds_toArray, List.set_cons_zero, List.set_cons_succ, i64_w, i32_w]
          rfl
        refine pure_ (i := 9) (N := some 28) (v := ?_) (a' := ?_) #[true, true, true, true, true, true, true, true, true, true, false, false, false, false, false, false, false, false, false, false, false] rfl rfl (by kernel_rfl) (fun _ _ _ h => h) (Or.inl ⟨by rfl, ?_⟩) ?_ ?_
        rotate_left
        · intro w'
          go_simp
          with_reducible rfl
        rotate_left
        · simp only [Act.put, List.setIfInBounds_toArray, List.set_cons_zero, List.set_cons_succ, i64_w, i32_w]
          rfl
        refine pure_ (i := 10) (N := some 29) (v := ?_) (a' := ?_) #[true, true, true, true, true, true, true, true, true, true, true, false, false, false, false, false, false, false, false, false, false] rfl rfl (by kernel_rfl) (fun _ _ _ h => h) (Or.inl ⟨by rfl, ?_⟩) ?_ ?_
        rotate_left
        · intro w'
          go_simp
          with_reducible rfl
        rotate_left
        · simp only [Act.put, List.setIfInBounds_toArray, List.set_cons_zero, List.set_cons_succ, i64_w, i32_w]
          rfl
        refine pure_ (i := 11) (N := some 30) (v := ?_) (a' := ?_) #[true, true, true, true, true, true, true, true, true, true, true, true, false, false, false, false, false, false, false, false, false] rfl rfl (by kernel_rfl) (fun _ _ _ h => h) (Or.inl ⟨by rfl, ?_⟩) ?_ ?_
        rotate_left
        · intro w'
          go_simp
          with_reducible rfl
        rotate_left
        · simp only [Act.put, List.setIfInBounds_toArray, List.set_cons_zero, List.set_cons_succ, i64_w, i32_w]
          rfl
        refine pure_ (i := 12) (N := some 31) (v := ?_) (a' := ?_) #[true, true, true, true, true, true, true, true, true, true, true, true, true, false, false, false, false, false, false, false, false] rfl rfl (by kernel_rfl) (fun _ _ _ h => h) (Or.inl ⟨by rfl, ?_⟩) ?_ ?_
        rotate_left
        · intro w'
          go_simp
          with_reducible rfl
        rotate_left
        · simp only [Act.put, List.setIfInBounds_toArray, List.set_cons_zero, List.set_cons_succ, i64_w, i32_w]
          rfl
        refine pure_ (i := 16) (N := some 35) (v := ?_) (a' := ?_) #[true, true, true, true, true, true, true, true, true, true, true, true, true, false, false, false, true, false, false, false, false] rfl rfl (by kernel_rfl) (fun _ _ _ h => h) (Or.inl ⟨by rfl, ?_⟩) ?_ ?_
        rotate_left
        · intro w'
          go_simp
          with_reducible rfl
        rotate_left
        · simp only [Act.put, List.setIfInBounds_toArray, List.set_cons_zero, List.set_cons_succ, i64_w, i32_w]
          rfl
        refine pure_ (i := 17) (N := some 36) (v := ?_) (a' := ?_) #[true, true, true, true, true, true, true, true, true, true, true, true, true, false, false, false, true, true, false, false, false] rfl rfl (by kernel_rfl) (fun _ _ _ h => h) (Or.inl ⟨by rfl, ?_⟩) ?_ ?_
        rotate_left
        · intro w'
          go_simp
          with_reducible rfl
        rotate_left
        · simp only [Act.put, List.setIfInBounds_toArray, List.set_cons_zero, List.set_cons_succ, i64_w, i32_w]
          rfl
        refine take_ (i := 13) (N := some 32) (v := ?_) (a' := ?_) #[true, true, true, true, true, true, true, true, true, true, true, true, true, true, false, false, true, true, false, false, false] rfl rfl (by kernel_rfl) (fun _ _ _ h => h) (Or.inl ⟨by rfl, ?_⟩) hHeld ?_ ?_
        rotate_left
        · rintro w' ⟨s0, s1, s2⟩
          go_simp
          with_reducible rfl
        rotate_left
        · simp only [Act.put, List.setIfInBounds_toArray, List.set_cons_zero, List.set_cons_succ, i64_w, i32_w]
          rfl
        refine pure_ (i := 14) (N := some 33) (v := ?_) (a' := ?_) #[true, true, true, true, true, true, true, true, true, true, true, true, true, true, true, false, true, true, false, false, false] rfl rfl (by kernel_rfl) (fun _ _ _ h => h) (Or.inl ⟨by rfl, ?_⟩) ?_ ?_
        rotate_left
        · intro w'
          go_simp
          with_reducible rfl
        rotate_left
        · simp only [Act.put, List.setIfInBounds_toArray, List.set_cons_zero, List.set_cons_succ, i64_w, i32_w]
          rfl
        refine take_ (i := 15) (N := some 34) (v := ?_) (a' := ?_) #[true, true, true, true, true, true, true, true, true, true, true, true, true, true, true, true, true, true, false, false, false] rfl rfl (by kernel_rfl) (fun _ _ _ h => h) (Or.inl ⟨by rfl, ?_⟩) hHeld ?_ ?_
        rotate_left
        · rintro w' ⟨s0, s1, s2⟩
          go_simp
          with_reducible rfl
        rotate_left
        · simp only [Act.put, List.setIfInBounds_toArray, List.set_cons_zero, List.set_cons_succ, i64_w, i32_w]
          rfl
        refine last_ (i := 18) (N := some 37) #[true, true, true, true, true, true, true, true, true, true, true, true, true, true, true, true, true, true, true, false, false] rfl rfl (by kernel_rfl) (by decide) (fun K hK => ?_)
        refine goes_ Try.func29 (by kernel_rfl) rfl #[.pointer (some ⟨r, 0, none⟩), .int .i64 y, .int .i64 (wrap64 (-c))] (by rfl) rfl rfl (by simp only [List.map_toArray, List.map_cons, List.map_nil]; rfl) ?_
        with_reducible refine (HP.out _ hHeld.2.2).mono ?_
        rintro e w3 ⟨rfl, hp2⟩
        refine ⟨_, rfl, ?_⟩
        refine hK.out _ _ ?_
        clear hK K
        refine norm_ (a' := ?_) ?_ ?_
        rotate_left
        · show Act.put _ (some 37) _ = _
          simp only [Act.put, List.setIfInBounds_toArray, List.set_cons_zero, List.set_cons_succ, i64_w, i32_w]
          rfl
        refine pure_ (i := 19) (N := some 38) (v := ?_) (a' := ?_) #[true, true, true, true, true, true, true, true, true, true, true, true, true, true, true, true, true, true, true, true, false] rfl rfl (by kernel_rfl) (fun _ _ _ h => h) (Or.inl ⟨by rfl, ?_⟩) ?_ ?_
        rotate_left
        · intro w'
          go_simp
          with_reducible rfl
        rotate_left
        · simp only [Act.put, List.setIfInBounds_toArray, List.set_cons_zero, List.set_cons_succ, i64_w, i32_w]
          rfl
        refine pure_ (i := 20) (N := some 39) (v := ?_) (a' := ?_) #[true, true, true, true, true, true, true, true, true, true, true, true, true, true, true, true, true, true, true, true, true] rfl rfl (by kernel_rfl) (fun _ _ _ h => h) (Or.inl ⟨by rfl, ?_⟩) ?_ ?_
        rotate_left
        · intro w'
          go_simp
          with_reducible rfl
        rotate_left
        · simp only [Act.put, List.setIfInBounds_toArray, List.set_cons_zero, List.set_cons_succ, i64_w, i32_w]
          rfl
        refine done_ (by kernel_rfl) ?_

        rw [hHeld.2.2] at hp2
        have hQ3 : QPost V w3 r xs' most age (ys.drop m) G1 := QPost.join HR4.out.1 HR4.out.2 (QPost.join (Chg.of_below (below_drew1 (Below.refl _ _)) G2) (fun k e => .inl e) hp2)
        have HF : Aside0 (∃ C' S', Swept (if b then upd C k none else C) S (xs.length - 1) most (-(clampT now)) ys m C' S' ∧ SortedOf C' xs') := ⟨_, _, ⟨HSET.out, by have := HLE.out; have := HNN.out; have := HRR.out; omega, fun x => by rw [HC1.out, HCC.out, ← HTT.out], fun x => rfl⟩, HR2.out⟩
        have HPF := Aside0.mk (HPO.out _ _ _ hQ3)
        have y0 : w3.cell? ⟨X, 0, none⟩ = some (.int .i64 k) := by
          obtain ⟨_, _, h4, _⟩ := hQ3
          exact (h4.cell (HeapM.blk_lt hX.out) HXG.out 0).trans ((HeapM.blk_cell hX.out 0).trans rfl)
        clear hHeld hp2 hQ3 c3 q0
        go_wp2_with fail
        go_ret2
        obtain ⟨C', S', f1, f2⟩ := HF.out
        exact ⟨k, p, b, m, C', S', xs', _, rfl, HTOP.out, f1, by have := HR1.out; have := HNN.out; omega, f2, rfl, HPF.out⟩
    · obtain rfl : m = len := by omega
      have HR1 := Aside0.mk R1
      have HF : Aside0 (∃ C' S', Swept (if b then upd C k none else C) S (xs.length - 1) most (-(clampT now)) ys m C' S' ∧ SortedOf C' xs') := ⟨_, _, ⟨HSET.out, by have := HLE.out; have := HNN.out; omega, fun x => by rw [HC1.out, HCC.out, ← HTT.out], fun x => rfl⟩, R2⟩
      have HPF := Aside0.mk (HPO.out _ _ _ ⟨G2, R3, R4, R5⟩)
      obtain rfl : l = 0 := by omega
      have l0 : decide ((0 : Int) < ((0 : Nat) : Int)) = false := rfl
      clear R1 R2 R3 R4 R5 hcells f3 hl hdl HDL HR hst
      go_wp2_with fail
      refine start_ (n := 21) (S := fun w' => w'.cell? ⟨r, 3, none⟩ = some (.slice a2 0 cap2) ∧ w' = wr.drew) (ds := []) #[false, false, false, false, false, false, false, false, false, false, false, false, false, false, false, false, false, false, false, false, false] (by kernel_rfl) rfl rfl ⟨c3, rfl⟩ (fun hHeld => ?_)
      refine pure_ (i := 0) (N := some 19) (v := ?_) (a' := ?_) #[true, false, false, false, false, false, false, false, false, false, false, false, false, false, false, false, false, false, false, false, false] rfl rfl (by kernel_rfl) (fun _ _ _ h => h) (Or.inl ⟨by rfl, ?_⟩) ?_ ?_
      rotate_left
      · intro w'
        go_simp
        with_reducible rfl
      rotate_left
      · simp only [Act.put, List.setIfInBounds_toArray, List.set_cons_zero, List.set_cons_succ, i64_w, i32_w]
        rfl
      refine pure_ (i := 1) (N := some 20) (v := ?_) (a' := ?_) #[true, true, false, false, false, false, false, false, false, false, false, false, false, false, false, false, false, false, false, false, false] rfl rfl (by kernel_rfl) (fun _ _ _ h => h) (Or.inl ⟨by rfl, ?_⟩) ?_ ?_
      rotate_left
      · intro w'
        go_simp
        with_reducible rfl
      rotate_left
      · simp only [Act.put, List.setIfInBounds_toArray, List.set_cons_zero, List.set_cons_succ, i64_w, i32_w]
        rfl
      refine pure_ (i := 2) (N := some 21) (v := ?_) (a' := ?_) #[true, true, true, false, false, false, false, false, false, false, false, false, false, false, false, false, false, false, false, false, false] rfl rfl (by kernel_rfl) (fun _ _ _ h => h) (Or.inl ⟨by rfl, ?_⟩) ?_ ?_
      rotate_left
      · intro w'
        go_simp
        with_reducible rfl
      rotate_left
      · simp only [Act.put, List.setIfInBounds_toArray, List.set_cons_zero, List.set_cons_succ, i64_w, i32_w]
        rfl
      refine take_ (i := 3) (N := some 22) (v := ?_) (a' := ?_) #[true, true, true, true, false, false, false, false, false, false, false, false, false, false, false, false, false, false, false, false, false] rfl rfl (by kernel_rfl) (fun _ _ _ h => h) (Or.inl ⟨by rfl, ?_⟩) hHeld ?_ ?_
      rotate_left
      · rintro w' ⟨s0, s1⟩
        go_simp
        with_reducible rfl
      rotate_left
      · simp only [Act.put, List.setIfInBounds_toArray, List.set_cons_zero, List.set_cons_succ, i64_w, i32_w]
        rfl
      refine pure_ (i := 4) (N := some 23) (v := ?_) (a' := ?_) #[true, true, true, true, true, false, false, false, false, false, false, false, false, false, false, false, false, false, false, false, false] rfl rfl (by kernel_rfl) (fun _ _ _ h => h) (Or.inl ⟨by rfl, ?_⟩) ?_ ?_
      rotate_left
      · intro w'
        go_simp
        with_reducible rfl
      rotate_left
      · simp only [Act.put, List.setIfInBounds_toArray, List.set_cons_zero, List.set_cons_succ, i64_w, i32_w]
        rfl
      refine pure_ (i := 5) (N := some 24) (v := ?_) (a' := ?_) #[true, true, true, true, true, true, false, false, false, false, false, false, false, false, false, false, false, false, false, false, false] rfl rfl (by kernel_rfl) (fun _ _ _ h => h) (Or.inl ⟨by rfl, ?_⟩) ?_ ?_
      rotate_left
      · intro w'
        go_simp
        with_reducible rfl
      rotate_left
      · simp only [Act.put, List.setIfInBounds_toArray, List.set_cons_zero, List.set_cons_succ, i64_w, i32_w]
        rfl
      refine pure_ (i := 6) (N := some 25) (v := ?_) (a' := ?_) #[true, true, true, true, true, true, true, false, false, false, false, false, false, false, false, false, false, false, false, false, false] rfl rfl (by kernel_rfl) (fun _ _ _ h => h) (Or.inl ⟨by rfl, ?_⟩) ?_ ?_
      rotate_left
      · intro w'
        go_simp
        with_reducible rfl
      rotate_left
      · simp only [Act.put, List.setIfInBounds_toArray, List.set_cons_zero, List.set_cons_succ, i64_w, i32_w]
        rfl
      refine pure_ (i := 7) (N := some 26) (v := undef) (a' := ?_) #[true, true, true, true, true, true, true, true, false, false, false, false, false, false, false, false, false, false, false, false, false] rfl rfl (by kernel_rfl) (fun _ _ _ h => h) (Or.inr ⟨by rfl, rfl⟩) ?_ ?_
      rotate_left
      · simp only [Act.put, List.setIfInBounds_toArray, List.set_cons_zero, List.set_cons_succ, i64_w, i32_w]
        rfl
      refine pure_ (i := 8) (N := some 27) (v := undef) (a' := ?_) #[true, true, true, true, true, true, true, true, true, false, false, false, false, false, false, false, false, false, false, false, false] rfl rfl (by kernel_rfl) (fun _ _ _ h => h) (Or.inr ⟨by rfl, rfl⟩) ?_ ?_
      rotate_left
      · simp only [Act.put, List.setIfInBounds_toArray, List.set_cons_zero, List.set_cons_succ, i64_w, i32_w]
        rfl
      refine pure_ (i := 9) (N := some 28) (v := undef) (a' := ?_) #[true, true, true, true, true, true, true, true, true, true, false, false, false, false, false, false, false, false, false, false, false] rfl rfl (by kernel_rfl) (fun _ _ _ h => h) (Or.inr ⟨by rfl, rfl⟩) ?_ ?_
      rotate_left
      · simp only [Act.put, List.setIfInBounds_toArray, List.set_cons_zero, List.set_cons_succ, i64_w, i32_w]
        rfl
      refine pure_ (i := 10) (N := some 29) (v := undef) (a' := ?_) #[true, true, true, true, true, true, true, true, true, true, true, false, false, false, false, false, false, false, false, false, false] rfl rfl (by kernel_rfl) (fun _ _ _ h => h) (Or.inr ⟨by rfl, rfl⟩) ?_ ?_
      rotate_left
      · simp only [Act.put, List.setIfInBounds_toArray, List.set_cons_zero, List.set_cons_succ, i64_w, i32_w]
        rfl
      refine pure_ (i := 11) (N := some 30) (v := undef) (a' := ?_) #[true, true, true, true, true, true, true, true, true, true, true, true, false, false, false, false, false, false, false, false, false] rfl rfl (by kernel_rfl) (fun _ _ _ h => h) (Or.inr ⟨by rfl, rfl⟩) ?_ ?_
      rotate_left
      · simp only [Act.put, List.setIfInBounds_toArray, List.set_cons_zero, List.set_cons_succ, i64_w, i32_w]
        rfl
      refine pure_ (i := 12) (N := some 31) (v := undef) (a' := ?_) #[true, true, true, true, true, true, true, true, true, true, true, true, true, false, false, false, false, false, false, false, false] rfl rfl (by kernel_rfl) (fun _ _ _ h => h) (Or.inr ⟨by rfl, rfl⟩) ?_ ?_
      rotate_left
      · simp only [Act.put, List.setIfInBounds_toArray, List.set_cons_zero, List.set_cons_succ, i64_w, i32_w]
        rfl
      refine pure_ (i := 13) (N := some 32) (v := undef) (a' := ?_) #[true, true, true, true, true, true, true, true, true, true, true, true, true, true, false, false, false, false, false, false, false] rfl rfl (by kernel_rfl) (fun _ _ _ h => h) (Or.inr ⟨by rfl, rfl⟩) ?_ ?_
      rotate_left
      · simp only [Act.put, List.setIfInBounds_toArray, List.set_cons_zero, List.set_cons_succ, i64_w, i32_w]
        rfl
      refine pure_ (i := 14) (N := some 33) (v := undef) (a' := ?_) #[true, true, true, true, true, true, true, true, true, true, true, true, true, true, true, false, false, false, false, false, false] rfl rfl (by kernel_rfl) (fun _ _ _ h => h) (Or.inr ⟨by rfl, rfl⟩) ?_ ?_
      rotate_left
      · simp only [Act.put, List.setIfInBounds_toArray, List.set_cons_zero, List.set_cons_succ, i64_w, i32_w]
        rfl
      refine pure_ (i := 15) (N := some 34) (v := undef) (a' := ?_) #[true, true, true, true, true, true, true, true, true, true, true, true, true, true, true, true, false, false, false, false, false] rfl rfl (by kernel_rfl) (fun _ _ _ h => h) (Or.inr ⟨by rfl, rfl⟩) ?_ ?_
      rotate_left
      · simp only [Act.put, List.setIfInBounds_toArray, List.set_cons_zero, List.set_cons_succ, i64_w, i32_w]
        rfl
      refine pure_ (i := 16) (N := some 35) (v := undef) (a' := ?_) #[true, true, true, true, true, true, true, true, true, true, true, true, true, true, true, true, true, false, false, false, false] rfl rfl (by kernel_rfl) (fun _ _ _ h => h) (Or.inr ⟨by rfl, rfl⟩) ?_ ?_
      rotate_left
      · simp only [Act.put, List.setIfInBounds_toArray, List.set_cons_zero, List.set_cons_succ, i64_w, i32_w]
        rfl
      refine pure_ (i := 17) (N := some 36) (v := undef) (a' := ?_) #[true, true, true, true, true, true, true, true, true, true, true, true, true, true, true, true, true, true, false, false, false] rfl rfl (by kernel_rfl) (fun _ _ _ h => h) (Or.inr ⟨by rfl, rfl⟩) ?_ ?_
      rotate_left
      · simp only [Act.put, List.setIfInBounds_toArray, List.set_cons_zero, List.set_cons_succ, i64_w, i32_w]
        rfl
      refine pure_ (i := 18) (N := some 37) (v := undef) (a' := ?_) #[true, true, true, true, true, true, true, true, true, true, true, true, true, true, true, true, true, true, true, false, false] rfl rfl (by kernel_rfl) (fun _ _ _ h => h) (Or.inr ⟨by rfl, rfl⟩) ?_ ?_
      rotate_left
      · simp only [Act.put, List.setIfInBounds_toArray, List.set_cons_zero, List.set_cons_succ, i64_w, i32_w]
        rfl
      refine pure_ (i := 19) (N := some 38) (v := undef) (a' := ?_) #[true, true, true, true, true, true, true, true, true, true, true, true, true, true, true, true, true, true, true, true, false] rfl rfl (by kernel_rfl) (fun _ _ _ h => h) (Or.inr ⟨by rfl, rfl⟩) ?_ ?_
      rotate_left
      · simp only [Act.put, List.setIfInBounds_toArray, List.set_cons_zero, List.set_cons_succ, i64_w, i32_w]
        rfl
      refine pure_ (i := 20) (N := some 39) (v := ?_) (a' := ?_) #[true, true, true, true, true, true, true, true, true, true, true, true, true, true, true, true, true, true, true, true, true] rfl rfl (by kernel_rfl) (fun _ _ _ h => h) (Or.inl ⟨by rfl, ?_⟩) ?_ ?_
      rotate_left
      · intro w'
        go_simp
        with_reducible rfl
      rotate_left
      · simp only [Act.put, List.setIfInBounds_toArray, List.set_cons_zero, List.set_cons_succ, i64_w, i32_w]
        rfl
      refine done_ (by kernel_rfl) ?_

      clear hHeld c3
      have y1 : wr.drew.cell? ⟨X, 0, none⟩ = some (.int .i64 k) := y0
      have HPF' : Aside0 (QPost w wr.drew r xs' most age (ys.drop m) G) := ⟨QPost.trans HPF.out (fun G' h => QPost.of_below h (below_drew1 (Below.refl _ _)))⟩
      clear HPF y0
      go_wp2_with fail
      go_ret2
      obtain ⟨C', S', f1, f2⟩ := HF.out
      exact ⟨k, p, b, m, C', S', xs', _, rfl, HTOP.out, f1, by have := HR1.out; have := HNN.out; omega, f2, rfl, HPF'.out⟩
end
end Go.Proofs.Ytclekakhgaggdaa.HeapC
