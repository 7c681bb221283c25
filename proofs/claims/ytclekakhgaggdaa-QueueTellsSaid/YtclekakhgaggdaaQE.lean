/- New, sweep. -/
import Derived.Test.YtclekakhgaggdaaQD
namespace Go.Proofs.Ytclekakhgaggdaa.HeapC
open Go.RowKit Go.Proofs.Ytclekakhgaggdaa.HeapT Go.Proofs.Ytclekakhgaggdaa.HeapM Go.Proofs.Ytclekakhgaggdaa.QueueM Go.Proofs.YtclekakhgaggdaaW.PrintWords Go.Proofs.YtclekakhgaggdaaW.PrintLast Go.Proofs.YtclekakhgaggdaaW.PrintMore
attribute [local go_sem] max2_int min2_int max_two min_two
set_option linter.unusedVariables false
set_option linter.unusedSimpArgs false
/-- A slice of the numbers ys, in blocks of D. -/
def Nums (w : World) (D : Nat → Prop) (v : Value) (ys : List Int) : Prop :=
  ∃ a cap, v = .slice a ys.length cap ∧ ys.length ≤ maxLen ∧ ∀ i, i < ys.length → ∃ b, a = some ⟨b, 0, none⟩ ∧ D b ∧ b < w.heap.size ∧ w.cell? ⟨b, i, none⟩ = some (.int .i64 (ys.getD i 0))
theorem Nums.kept {w w' : World} {D : Nat → Prop} {v : Value} {ys : List Int} (h : Nums w D v ys) (k : Kept w w' D) : Nums w' D v ys := by
  obtain ⟨a, cap, h1, h2, h3⟩ := h
  refine ⟨a, cap, h1, h2, fun i hi => ?_⟩
  obtain ⟨b, e1, e2, e3, e4⟩ := h3 i hi
  exact ⟨b, e1, e2, Nat.lt_of_lt_of_le e3 k.size, (k.cell e3 e2 _).trans e4⟩
theorem Nums.mono {w : World} {D D' : Nat → Prop} {v : Value} {ys : List Int} (h : Nums w D v ys) (k : ∀ b, D b → D' b) : Nums w D' v ys := by
  obtain ⟨a, cap, h1, h2, h3⟩ := h
  refine ⟨a, cap, h1, h2, fun i hi => ?_⟩
  obtain ⟨b, e1, e2, e3, e4⟩ := h3 i hi
  exact ⟨b, e1, k b e2, e3, e4⟩
theorem nums_of {w : World} {base : Nat} {t : TypeId} {v : Value} {ys : List Int} (h : w.ownsRow base t 1 v ys.length (ys.map (Value.int .i64))) : Nums w (fun k => v.ownBlock = some k) v ys := by
  obtain ⟨-, ⟨rfl, hn⟩ | ⟨g, cap, cur, rfl, hg, hb, h1, h2, h3, h4⟩⟩ := h
  · refine ⟨none, 0, by rw [hn], by omega, fun i hi => by omega⟩
  · refine ⟨_, cap, rfl, by omega, fun i hi => ⟨g, rfl, rfl, HeapM.blk_lt hb, ?_⟩⟩
    rw [HeapM.blk_cell hb, ← Array.getElem?_toList]
    have h5 : (cur.toList.take (ys.length * 1))[i]? = (ys.map (Value.int .i64))[i]? := by rw [h4]
    rw [List.getElem?_take_of_lt (by omega)] at h5
    rw [h5, List.getElem?_map, List.getElem?_eq_getElem hi, List.getD_eq_getElem?_getD, List.getElem?_eq_getElem hi]
    rfl
def clampT (t : Int) : Int := max 0 (min t 1099511627776)
theorem clamp_range (t : Int) : 0 ≤ clampT t ∧ clampT t ≤ 1099511627776 := by unfold clampT; omega
theorem clamp_calls (t : Int) (w : World) : Calls Try.prog 45 #[.int .i64 t, .int .i64 0, .int .i64 1099511627776] w fun e w' => e = .returned (.int .i64 (clampT t)) ∧ w = w' := by
  unfold clampT
  by_cases h1 : t < 0
  · rw [show max 0 (min t 1099511627776) = 0 by omega]
    go_enter Try.func45, Try.ntmps45
    go_wp2_with fail
    all_goals (first | omega | skip)
    all_goals (go_ret; refine ⟨?_, rfl⟩; first | rfl | (simp; omega))
  · by_cases h2 : 1099511627776 < t
    · rw [show max 0 (min t 1099511627776) = 1099511627776 by omega]
      go_enter Try.func45, Try.ntmps45
      go_wp2_with fail
      all_goals (first | omega | skip)
      all_goals (go_ret; refine ⟨?_, rfl⟩; first | rfl | (simp; omega))
    · rw [show max 0 (min t 1099511627776) = t by omega]
      go_enter Try.func45, Try.ntmps45
      go_wp2_with fail
      all_goals (first | omega | skip)
      all_goals (go_ret; refine ⟨?_, rfl⟩; first | rfl | (simp; omega))
theorem qnew_ok (room age : Int) (w : World) (h0 : 1 ≤ room) (h1 : room ≤ 1000) (a0 : 1 ≤ age) (a1 : age ≤ 1000) (D : Nat → Prop) (hD : ∀ k, D k → k < w.heap.size) :
    Calls Try.prog 10 #[.int .i64 room, .int .i64 age] w fun e w' => ∃ q g mb, e = .returned (.pointer (some ⟨q, 0, none⟩)) ∧ QHeld w' q g mb (fun _ => none) (fun _ => false) age room 0 0 D ∧ Kept w w' D := by
  have d1 : decide (age < 1) = false := decide_eq_false (by omega)
  have d2 : decide (1000 < age) = false := decide_eq_false (by omega)
  have HD := Aside0.mk hD
  clear hD a0 a1
  go_enter Try.func10, Try.ntmps10
  go_wp2_with fail
  refine (held_new room w h0 h1 D HD.out).mono ?_
  rintro e w1 ⟨g, rfl, H1, K1⟩
  have HH := Aside0.mk H1
  have HK := Aside0.mk K1
  clear H1 K1
  have hmk := @run_makeMap Try.prog
  go_wp2_with fail
  go_ret
  have hs : (w1.alloc (.map #[] 0)).heap.size = w1.heap.size + 1 := by simp [World.alloc, -World.alloc_eq]
  have A1 := HH.out.alloc (.map #[] 0)
  have A2 := A1.alloc (.cells #[.pointer (some ⟨g, 0, none⟩), .int .i64 age, .map (some w1.heap.size)] 55)
  have l := HH.out.lt
  refine ⟨_, g, w1.heap.size, rfl, ⟨by rw [← hs]; exact HeapM.blk_new _ _, A2.less ?_, ?_, ?_, ?_, ?_⟩, (HK.out.alloc _).alloc _⟩
  · rintro k (d | d | d)
    · exact .inl (.inl d)
    · exact .inr (d.trans hs.symm)
    · exact .inl (.inr d)
  · exact (ISet.made Try.prog 3 w1).congr (HeapM.blk_alloc (HeapM.blk_new w1 (.map #[] 0)) _ |>.trans (HeapM.blk_new w1 (.map #[] 0)).symm)
  · intro d; have := l _ d; omega
  · intro d; have := l _ d; omega
  · omega
theorem qnew_no (room age : Int) (w : World) (h : room < 1 ∨ 1000 < room ∨ age < 1 ∨ 1000 < age) :
    Calls Try.prog 10 #[.int .i64 room, .int .i64 age] w fun e w' => e = .returned (.pointer none) ∧ Below w.heap.size w w' := by
  by_cases h0 : room < 1 ∨ 1000 < room
  · go_enter Try.func10, Try.ntmps10
    go_wp2_with fail
    refine (new_nil room w h0).mono ?_
    rintro e w1 ⟨rfl, b⟩
    go_wp2_with fail
    go_ret
    exact ⟨rfl, b⟩
  · have h2 : age < 1 ∨ 1000 < age := by omega
    by_cases h3 : age < 1
    · have d1 : decide (age < 1) = true := decide_eq_true h3
      clear h h2 h3
      go_enter Try.func10, Try.ntmps10
      go_wp2_with fail
      refine (held_new room w (by omega) (by omega) (fun k => k < w.heap.size) (fun k d => d)).mono ?_
      rintro e w1 ⟨g, rfl, H1, K1⟩
      have b := Aside0.mk (K1.below (Nat.le_refl _) (fun k d => d))
      clear H1 K1
      go_wp2_with fail
      go_ret
      exact ⟨rfl, b.out⟩
    · have d1 : decide (age < 1) = false := decide_eq_false h3
      have d2 : decide (1000 < age) = true := decide_eq_true (by omega)
      clear h h2 h3
      go_enter Try.func10, Try.ntmps10
      go_wp2_with fail
      refine (held_new room w (by omega) (by omega) (fun k => k < w.heap.size) (fun k d => d)).mono ?_
      rintro e w1 ⟨g, rfl, H1, K1⟩
      have b := Aside0.mk (K1.below (Nat.le_refl _) (fun k d => d))
      clear H1 K1
      go_wp2_with fail
      go_ret
      exact ⟨rfl, b.out⟩
/-- What is swept: as many dirty ones as there is room for, the least first, each as urgent as t. -/
structure Swept (C : Int → Option Int) (S : Int → Bool) (n : Nat) (most t : Int) (ys : List Int) (k : Nat) (C' : Int → Option Int) (S' : Int → Bool) : Prop where
  set : SetOf S ys
  much : k = min ys.length (most - n).toNat
  cont : ∀ x, C' x = if x ∈ ys.take k then some t else C x
  dirt : ∀ x, S' x = (S x && !decide (x ∈ ys.take k))
theorem take_one (ys : List Int) (i : Nat) (hi : i < ys.length) : ys.take (i + 1) = ys.take i ++ [ys.getD i 0] := by
  rw [List.take_add_one, List.getElem?_eq_getElem hi, List.getD_eq_getElem?_getD, List.getElem?_eq_getElem hi]; rfl
theorem not_taken {ys : List Int} (h : ys.Pairwise (· < ·)) (i : Nat) (hi : i < ys.length) : ys.getD i 0 ∉ ys.take i := by
  intro hm
  obtain ⟨j, hj, e⟩ := List.getElem_of_mem hm
  rw [List.length_take] at hj
  rw [List.getElem_take, List.getD_eq_getElem?_getD, List.getElem?_eq_getElem hi] at e
  have := List.pairwise_iff_getElem.1 h j i (by omega) hi (by omega)
  simp only [Option.getD_some] at e
  omega
section
variable {w : World} {q g mb : Nat} {C : Int → Option Int} {S : Int → Bool} {age most : Int} {n N : Nat} {D : Nat → Prop}
/-- How far the sweeping is. -/
def SwI (w wr : World) (q g mb : Nat) (C : Int → Option Int) (S : Int → Bool) (age most : Int) (n N : Nat) (D : Nat → Prop) (v : Value) (ys : List Int) (t : Int) (i : Nat) : Prop :=
  QHeld wr q g mb (fun x => if x ∈ ys.take i then some t else C x) (fun x => S x && !decide (x ∈ ys.take i)) age most (n + i) (N + 4000000 * i) (fun k => D k ∨ v.ownBlock = some k) ∧ Nums wr (fun k => D k ∨ v.ownBlock = some k) v ys ∧ Kept w wr D
set_option maxHeartbeats 1000000 in
set_option maxRecDepth 20000 in
theorem QHeld.sweep (h : QHeld w q g mb C S age most n N D) (hN : N ≤ 16000000000000) (hm1 : most ≤ 1000) (hS : ∀ x, S x = true → 0 ≤ x ∧ x < 1000) (hC : ∀ x, S x = true → C x = none) (now : Int) :
    Calls Try.prog 32 #[.pointer (some ⟨q, 0, none⟩), .int .i64 now] w fun e w' => e = .returned (.tuple #[]) ∧ ∃ ys k C' S', Swept C S n most (-(clampT now)) ys k C' S' ∧ QHeld w' q g mb C' S' age most (n + k) (N + 4000000 * k) D ∧ Kept w w' D := by
  obtain ⟨t, ht⟩ : ∃ t, t = -(clampT now) := ⟨_, rfl⟩
  have htw := clamp_range now
  have e1 : wrap64 (-(clampT now)) = t := by rw [ht]; generalize clampT now = c at htw; unfold wrap64; omega
  have HT := Aside0.mk e1
  have HTT := Aside0.mk ht
  have hdc := Aside0.mk (h.dirty (by omega) hS)
  have H := Aside0.mk h
  have HS := Aside0.mk hS
  have HC := Aside0.mk hC
  have HM1 := Aside0.mk hm1
  have HN := Aside0.mk hN
  clear e1 ht htw h hS hC hm1 hN
  go_enter Try.func32, Try.ntmps32
  go_wp2_with fail
  refine hdc.out.mono ?_
  rintro e w1 ⟨v, ys, rfl, hset, hrow, b⟩
  have hnums := nums_of hrow
  obtain ⟨va, vc, hv⟩ : ∃ a c, v = .slice a ys.length c := by obtain ⟨a, c, e, _⟩ := hnums; exact ⟨a, c, e⟩
  have hlen : ys.length ≤ maxLen := by obtain ⟨a, c, e, l, _⟩ := hnums; exact l
  have hI0 : Aside0 (SwI w w1 q g mb C S age most n N D v ys t 0) := ⟨by
    have H1 := H.out.below b
    refine ⟨?_, hnums.mono (fun k e => .inr e), Kept.of_below b⟩
    have hfr : ∀ k, v.ownBlock = some k → w.heap.size ≤ k ∧ k < w1.heap.size := fun k e => by have := hrow.lt k e; omega
    have l := H.out.lt
    have e1 : (fun x => if x ∈ ys.take 0 then some t else C x) = C := by funext x; simp
    have e2 : (fun x => S x && !decide (x ∈ ys.take 0)) = S := by funext x; simp
    rw [e1, e2, Nat.mul_zero, Nat.add_zero, Nat.add_zero]
    obtain ⟨F, f1, f2, f3⟩ := H.out.heap
    refine ⟨H1.head, ⟨F, f1.below b, ?_, ?_⟩, H1.set, ?_, ?_, H1.qm⟩
    · rintro k fk ((d | d) | d | d)
      · exact f2 k fk (.inl d)
      · have := f1.lt k fk; have := (hfr k d).1; omega
      · exact f2 k fk (.inr (.inl d))
      · exact f2 k fk (.inr (.inr d))
    · rintro k ((d | d) | d | d)
      · exact H1.lt.1 k d
      · exact (hfr k d).2
      · rw [d]; exact H1.lt.2.1
      · rw [d]; exact H1.lt.2.2
    · rintro (d | d)
      · exact H1.nq d
      · have := (hfr _ d).1; have := l.2.1; omega
    · rintro (d | d)
      · exact H1.nm d
      · have := (hfr _ d).1; have := l.2.2; omega⟩
  have HSET := Aside0.mk hset
  obtain ⟨len, hl⟩ : ∃ len, len = ys.length := ⟨_, rfl⟩
  have HL := Aside0.mk hl
  have hlm : len ≤ maxLen := by rw [hl]; exact hlen
  unfold maxLen at hlm
  rw [← hl] at hv
  clear hset hrow b hnums hlen hdc hl
  subst hv
  go_wp2_with fail
  go_loopw [5, 9] (fun _ vi wr => ∃ (i : Nat), vi = .int .i64 i ∧ i ≤ len ∧ i ≤ (most - n).toNat ∧ Aside0 (SwI w wr q g mb C S age most n N D (.slice va len vc) ys t i)) (fun _ vi _ => len - (intOf vi).toNat)
  case atStart => exact ⟨0, rfl, by omega, by omega, hI0⟩
  case round =>
    obtain ⟨i, rfl, hil, him, HI⟩ := hrel
    by_cases hlt : i < len
    · have hw1 : wrap64 ((i : Int) + 1) = ((i + 1 : Nat) : Int) := by unfold wrap64; omega
      obtain ⟨I1, I2, I3⟩ := HI.out
      obtain ⟨y, hy⟩ : ∃ y, ys.getD i 0 = y := ⟨_, rfl⟩
      have hyl : i < ys.length := by have := HL.out; omega
      have hym : y ∈ ys := by rw [← hy, List.getD_eq_getElem?_getD, List.getElem?_eq_getElem hyl]; exact List.getElem_mem hyl
      have hyS : S y = true := (HSET.out.mem y).1 hym
      have hyr := HS.out y hyS
      have hyn : y ∉ ys.take i := by rw [← hy]; exact not_taken HSET.out.srt i hyl
      have hk := Aside0.mk (wf_small (k := y) (by omega) (by omega))
      have hcn := Aside0.mk (show (fun x => if x ∈ ys.take i then some t else C x) y = none by simp only; rw [if_neg hyn]; exact HC.out y hyS)
      obtain ⟨_, _, e0, _, hnc⟩ := I2
      obtain ⟨rb, eb, hrb, hrl, hcell⟩ := hnc i hyl
      rw [hy] at hcell
      injection e0 with e01 e02 e03
      subst e01
      subst eb
      have c0 : wr.cell? ⟨q, 0, none⟩ = some (.pointer (some ⟨g, 0, none⟩)) := (HeapM.blk_cell I1.head 0).trans rfl
      have HI1 := Aside0.mk I1
      have HI2 := Aside0.mk HI.out.2.1
      have HI3 := Aside0.mk I3
      have HYN := Aside0.mk hyn
      have HYS := Aside0.mk hyS
      have HY := Aside0.mk hy
      have HYL := Aside0.mk hyl
      clear I1 I3 hnc e02 e03 hyn hyS hy hyl hyr hym HI
      by_cases hr : n + i < most
      · have HR := Aside0.mk hr
        have HP := Aside0.mk (fun (w' : World) (e : w' = wr.drew) => show Calls Try.prog 26 #[.pointer (some ⟨g, 0, none⟩), .int .i64 y, .int .i64 (wrap64 (-(clampT now)))] w' (fun e w3 => e = .returned (.int .i64 0) ∧ Held w3 g (upd (fun x => if x ∈ ys.take i then some t else C x) y (some t)) most (n + i + 1) (N + 4000000 * i + 4000000) (fun k => (D k ∨ (Value.slice (some ⟨rb, 0, none⟩) len vc).ownBlock = some k) ∨ k = q ∨ k = mb) ∧ Kept w' w3 (fun k => (D k ∨ (Value.slice (some ⟨rb, 0, none⟩) len vc).ownBlock = some k) ∨ k = q ∨ k = mb)) from by
          rw [HT.out, e]; exact HI1.out.heap.drew.push_ok (by have := HN.out; have := HM1.out; omega) HM1.out y t hk.out hcn.out (by have := HR.out; omega))
        go_wp2_with fail
        refine start_ (n := 10) (S := fun w' => w'.cell? ⟨q, 0, none⟩ = some (.pointer (some ⟨g, 0, none⟩)) ∧ w' = wr.drew) (ds := [8]) #[false, false, false, false, false, false, false, false, false, false] (by kernel_rfl) rfl rfl ⟨c0, rfl⟩ (fun hHeld => ?_)
        refine pure_ (i := 0) (N := some 13) (v := ?_) (a' := ?_) #[true, false, false, false, false, false, false, false, false, false] rfl rfl (by kernel_rfl) (fun _ _ _ h => h) (Or.inl ⟨by rfl, ?_⟩) ?_ ?_
        rotate_left
        · intro w'
          go_simp
          with_reducible rfl
        rotate_left
        · simp only [Act.put, List.setIfInBounds_toArray, List.set_cons_zero, List.set_cons_succ, i64_w, i32_w]
          rfl
        refine pure_ (i := 1) (N := some 14) (v := ?_) (a' := ?_) #[true, true, false, false, false, false, false, false, false, false] rfl rfl (by kernel_rfl) (fun _ _ _ h => h) (Or.inl ⟨by rfl, ?_⟩) ?_ ?_
        rotate_left
        · intro w'
          go_simp
          with_reducible rfl
        rotate_left
        · simp only [Act.put, List.setIfInBounds_toArray, List.set_cons_zero, List.set_cons_succ, i64_w, i32_w]
          rfl
        refine pure_ (i := 2) (N := some 15) (v := ?_) (a' := ?_) #[true, true, true, false, false, false, false, false, false, false] rfl rfl (by kernel_rfl) (fun _ _ _ h => h) (Or.inl ⟨by rfl, ?_⟩) ?_ ?_
        rotate_left
        · intro w'
          go_simp
          with_reducible rfl
        rotate_left
        · simp only [Act.put, List.setIfInBounds_toArray, List.set_cons_zero, List.set_cons_succ, i64_w, i32_w]
          rfl
        refine pure_ (i := 4) (N := some 17) (v := ?_) (a' := ?_) #[true, true, true, false, true, false, false, false, false, false] rfl rfl (by kernel_rfl) (fun _ _ _ h => h) (Or.inl ⟨by rfl, ?_⟩) ?_ ?_
        rotate_left
        · intro w'
          go_simp
          with_reducible rfl
        rotate_left
        · simp only [Act.put, List.setIfInBounds_toArray, List.set_cons_zero, List.set_cons_succ, i64_w, i32_w]
          rfl
        refine pure_ (i := 5) (N := some 18) (v := ?_) (a' := ?_) #[true, true, true, false, true, true, false, false, false, false] rfl rfl (by kernel_rfl) (fun _ _ _ h => h) (Or.inl ⟨by rfl, ?_⟩) ?_ ?_
        rotate_left
        · intro w'
          go_simp
          with_reducible rfl
        rotate_left
        · simp only [Act.put, List.setIfInBounds_toArray, List.set_cons_zero, List.set_cons_succ, i64_w, i32_w]
          rfl
        refine take_ (i := 3) (N := some 16) (v := ?_) (a' := ?_) #[true, true, true, true, true, true, false, false, false, false] rfl rfl (by kernel_rfl) (fun _ _ _ h => h) (Or.inl ⟨by rfl, ?_⟩) hHeld ?_ ?_
        rotate_left
        · rintro w' ⟨s0, s1⟩
          go_simp
          with_reducible rfl
        rotate_left
        · simp only [Act.put, List.setIfInBounds_toArray, List.set_cons_zero, List.set_cons_succ, i64_w, i32_w]
          rfl
        refine one_ (i := 6) (N := some 19) #[true, true, true, true, true, true, true, false, false, false] rfl rfl (by kernel_rfl) (by decide) (fun K hK => ?_)
        refine goes_ Try.func45 (by kernel_rfl) rfl #[.int .i64 now, .int .i64 0, .int .i64 1099511627776] (by rfl) rfl rfl (by simp only [List.map_toArray, List.map_cons, List.map_nil]; rfl) ?_
        with_reducible refine (clamp_calls now _).mono ?_
        rintro e w3 ⟨rfl, rfl⟩
        refine ⟨_, rfl, ?_⟩
        refine hK.out _ _ ⟨hHeld.1, hHeld.2⟩ (fun hHeld => ?_)
        clear hK K
        refine norm_ (a' := ?_) ?_ ?_
        rotate_left
        · show Act.put _ (some 19) _ = _
          simp only [Act.put, List.setIfInBounds_toArray, List.set_cons_zero, List.set_cons_succ, i64_w, i32_w]
          rfl
        refine pure_ (i := 7) (N := some 20) (v := ?_) (a' := ?_) #[true, true, true, true, true, true, true, true, false, false] rfl rfl (by kernel_rfl) (fun _ _ _ h => h) (Or.inl ⟨by rfl, ?_⟩) ?_ ?_
        rotate_left
        · intro w'
          go_simp
          with_reducible rfl
        rotate_left
        · simp only [Act.put, List.setIfInBounds_toArray, List.set_cons_zero, List.set_cons_succ, i64_w, i32_w]
          rfl
        refine last_ (i := 8) (N := some 21) #[true, true, true, true, true, true, true, true, true, false] rfl rfl (by kernel_rfl) (by decide) (fun K hK => ?_)
        refine goes_ Try.func26 (by kernel_rfl) rfl #[.pointer (some ⟨g, 0, none⟩), .int .i64 y, .int .i64 (wrap64 (-(clampT now)))] (by rfl) rfl rfl (by simp only [List.map_toArray, List.map_cons, List.map_nil]; rfl) ?_
        with_reducible refine (HP.out _ hHeld.2).mono ?_
        rintro e w3 ⟨rfl, H3, K3⟩
        refine ⟨_, rfl, ?_⟩
        refine hK.out _ _ ?_
        clear hK K
        refine norm_ (a' := ?_) ?_ ?_
        rotate_left
        · show Act.put _ (some 21) _ = _
          simp only [Act.put, List.setIfInBounds_toArray, List.set_cons_zero, List.set_cons_succ, i64_w, i32_w]
          rfl
        refine pure_ (i := 9) (N := some 22) (v := ?_) (a' := ?_) #[true, true, true, true, true, true, true, true, true, true] rfl rfl (by kernel_rfl) (fun _ _ _ h => h) (Or.inl ⟨by rfl, ?_⟩) ?_ ?_
        rotate_left
        · intro w'
          go_simp
          with_reducible rfl
        rotate_left
        · simp only [Act.put, List.setIfInBounds_toArray, List.set_cons_zero, List.set_cons_succ, i64_w, i32_w]
          rfl
        refine done_ (by kernel_rfl) ?_

        rw [hHeld.2] at K3
        clear hHeld
        obtain ⟨H4, K4⟩ := (HI1.out.below (below_drew1 (Below.refl _ _))).step H3 K3 (by omega)
        have K5 := Aside0.mk (show Kept w w3 D from HI3.out.trans ((Kept.of_below (below_drew1 (Below.refl _ _))).trans (K4.mono (fun k d => .inl d))))
        obtain ⟨w4, r4, i4, k4⟩ := H4.set.drop setU intU y hk.out 0
        obtain ⟨H5, K6⟩ := H4.turn i4 k4 (Nat.le_refl _)
        have hI' : Aside0 (SwI w w4 q g mb C S age most n N D (.slice (some ⟨rb, 0, none⟩) len vc) ys t (i + 1)) := ⟨by
          refine ⟨?_, (HI2.out.kept ((Kept.of_below (below_drew1 (Below.refl _ _))).trans (K4.trans K6))), K5.out.trans (K6.mono (fun k d => .inl d))⟩
          have e1 : (fun x => if x ∈ ys.take (i + 1) then some t else C x) = upd (fun x => if x ∈ ys.take i then some t else C x) y (some t) := by
            funext x
            unfold upd
            rw [take_one ys i HYL.out, HY.out]
            by_cases hx : x = y
            · subst hx; simp
            · simp [hx]
          have e2 : (fun x => S x && !decide (x ∈ ys.take (i + 1))) = sadd (fun x => S x && !decide (x ∈ ys.take i)) y false := by
            funext x
            unfold sadd
            rw [take_one ys i HYL.out, HY.out]
            by_cases hx : x = y
            · subst hx; simp
            · simp [hx]
          rw [e1, e2]
          exact (H5.more (by omega) : QHeld w4 q g mb _ _ age most (n + (i + 1)) (N + 4000000 * (i + 1)) _)⟩
        have c2 : w3.cell? ⟨q, 2, none⟩ = some (.map (some mb)) := (HeapM.blk_cell H4.head 2).trans rfl
        clear H3 K3 H4 K4 i4 k4 H5 K6 c0 hcell
        go_wp2_with fail
        go_roundw
        case rel => exact ⟨i + 1, rfl, by omega, by have := HR.out; omega, hI'⟩
        case measure => simp [intOf]; omega
      · have HR := Aside0.mk hr
        have HP := Aside0.mk (fun (w' : World) (e : w' = wr.drew) => show Calls Try.prog 26 #[.pointer (some ⟨g, 0, none⟩), .int .i64 y, .int .i64 (wrap64 (-(clampT now)))] w' (fun e w3 => e = .returned (.int .i64 50) ∧ Below w'.heap.size w' w3) from by
          rw [HT.out, e]; exact HI1.out.heap.drew.push_full y t hk.out hcn.out (by have := HR.out; omega))
        go_wp2_with fail
        refine start_ (n := 10) (S := fun w' => w'.cell? ⟨q, 0, none⟩ = some (.pointer (some ⟨g, 0, none⟩)) ∧ w' = wr.drew) (ds := [8]) #[false, false, false, false, false, false, false, false, false, false] (by kernel_rfl) rfl rfl ⟨c0, rfl⟩ (fun hHeld => ?_)
        refine pure_ (i := 0) (N := some 13) (v := ?_) (a' := ?_) #[true, false, false, false, false, false, false, false, false, false] rfl rfl (by kernel_rfl) (fun _ _ _ h => h) (Or.inl ⟨by rfl, ?_⟩) ?_ ?_
        rotate_left
        · intro w'
          go_simp
          with_reducible rfl
        rotate_left
        · simp only [Act.put, List.setIfInBounds_toArray, List.set_cons_zero, List.set_cons_succ, i64_w, i32_w]
          rfl
        refine pure_ (i := 1) (N := some 14) (v := ?_) (a' := ?_) #[true, true, false, false, false, false, false, false, false, false] rfl rfl (by kernel_rfl) (fun _ _ _ h => h) (Or.inl ⟨by rfl, ?_⟩) ?_ ?_
        rotate_left
        · intro w'
          go_simp
          with_reducible rfl
        rotate_left
        · simp only [Act.put, List.setIfInBounds_toArray, List.set_cons_zero, List.set_cons_succ, i64_w, i32_w]
          rfl
        refine pure_ (i := 2) (N := some 15) (v := ?_) (a' := ?_) #[true, true, true, false, false, false, false, false, false, false] rfl rfl (by kernel_rfl) (fun _ _ _ h => h) (Or.inl ⟨by rfl, ?_⟩) ?_ ?_
        rotate_left
        · intro w'
          go_simp
          with_reducible rfl
        rotate_left
        · simp only [Act.put, List.setIfInBounds_toArray, List.set_cons_zero, List.set_cons_succ, i64_w, i32_w]
          rfl
        refine pure_ (i := 4) (N := some 17) (v := ?_) (a' := ?_) #[true, true, true, false, true, false, false, false, false, false] rfl rfl (by kernel_rfl) (fun _ _ _ h => h) (Or.inl ⟨by rfl, ?_⟩) ?_ ?_
        rotate_left
        · intro w'
          go_simp
          with_reducible rfl
        rotate_left
        · simp only [Act.put, List.setIfInBounds_toArray, List.set_cons_zero, List.set_cons_succ, i64_w, i32_w]
          rfl
        refine pure_ (i := 5) (N := some 18) (v := ?_) (a' := ?_) #[true, true, true, false, true, true, false, false, false, false] rfl rfl (by kernel_rfl) (fun _ _ _ h => h) (Or.inl ⟨by rfl, ?_⟩) ?_ ?_
        rotate_left
        · intro w'
          go_simp
          with_reducible rfl
        rotate_left
        · simp only [Act.put, List.setIfInBounds_toArray, List.set_cons_zero, List.set_cons_succ, i64_w, i32_w]
          rfl
        refine take_ (i := 3) (N := some 16) (v := ?_) (a' := ?_) #[true, true, true, true, true, true, false, false, false, false] rfl rfl (by kernel_rfl) (fun _ _ _ h => h) (Or.inl ⟨by rfl, ?_⟩) hHeld ?_ ?_
        rotate_left
        · rintro w' ⟨s0, s1⟩
          go_simp
          with_reducible rfl
        rotate_left
        · simp only [Act.put, List.setIfInBounds_toArray, List.set_cons_zero, List.set_cons_succ, i64_w, i32_w]
          rfl
        refine one_ (i := 6) (N := some 19) #[true, true, true, true, true, true, true, false, false, false] rfl rfl (by kernel_rfl) (by decide) (fun K hK => ?_)
        refine goes_ Try.func45 (by kernel_rfl) rfl #[.int .i64 now, .int .i64 0, .int .i64 1099511627776] (by rfl) rfl rfl (by simp only [List.map_toArray, List.map_cons, List.map_nil]; rfl) ?_
        with_reducible refine (clamp_calls now _).mono ?_
        rintro e w3 ⟨rfl, rfl⟩
        refine ⟨_, rfl, ?_⟩
        refine hK.out _ _ ⟨hHeld.1, hHeld.2⟩ (fun hHeld => ?_)
        clear hK K
        refine norm_ (a' := ?_) ?_ ?_
        rotate_left
        · show Act.put _ (some 19) _ = _
          simp only [Act.put, List.setIfInBounds_toArray, List.set_cons_zero, List.set_cons_succ, i64_w, i32_w]
          rfl
        refine pure_ (i := 7) (N := some 20) (v := ?_) (a' := ?_) #[true, true, true, true, true, true, true, true, false, false] rfl rfl (by kernel_rfl) (fun _ _ _ h => h) (Or.inl ⟨by rfl, ?_⟩) ?_ ?_
        rotate_left
        · intro w'
          go_simp
          with_reducible rfl
        rotate_left
        · simp only [Act.put, List.setIfInBounds_toArray, List.set_cons_zero, List.set_cons_succ, i64_w, i32_w]
          rfl
        refine last_ (i := 8) (N := some 21) #[true, true, true, true, true, true, true, true, true, false] rfl rfl (by kernel_rfl) (by decide) (fun K hK => ?_)
        refine goes_ Try.func26 (by kernel_rfl) rfl #[.pointer (some ⟨g, 0, none⟩), .int .i64 y, .int .i64 (wrap64 (-(clampT now)))] (by rfl) rfl rfl (by simp only [List.map_toArray, List.map_cons, List.map_nil]; rfl) ?_
        with_reducible refine (HP.out _ hHeld.2).mono ?_
        rintro e w3 ⟨rfl, b3⟩
        refine ⟨_, rfl, ?_⟩
        refine hK.out _ _ ?_
        clear hK K
        refine norm_ (a' := ?_) ?_ ?_
        rotate_left
        · show Act.put _ (some 21) _ = _
          simp only [Act.put, List.setIfInBounds_toArray, List.set_cons_zero, List.set_cons_succ, i64_w, i32_w]
          rfl
        refine pure_ (i := 9) (N := some 22) (v := ?_) (a' := ?_) #[true, true, true, true, true, true, true, true, true, true] rfl rfl (by kernel_rfl) (fun _ _ _ h => h) (Or.inl ⟨by rfl, ?_⟩) ?_ ?_
        rotate_left
        · intro w'
          go_simp
          with_reducible rfl
        rotate_left
        · simp only [Act.put, List.setIfInBounds_toArray, List.set_cons_zero, List.set_cons_succ, i64_w, i32_w]
          rfl
        refine done_ (by kernel_rfl) ?_

        rw [hHeld.2] at b3
        have hfin : ∃ ys k C' S', Swept C S n most (-(clampT now)) ys k C' S' ∧ QHeld w3 q g mb C' S' age most (n + k) (N + 4000000 * k) D ∧ Kept w w3 D := by
          have := HL.out
          have := HYL.out
          have := HR.out
          have H3 := (HI1.out.below (below_drew1 (Below.refl _ _))).below b3
          exact ⟨ys, i, _, _, ⟨HSET.out, by omega, fun x => by rw [← HTT.out], fun x => rfl⟩, H3.less (fun k d => .inl d), HI3.out.trans ((Kept.of_below (below_drew1 (Below.refl _ _))).trans (Kept.of_below b3))⟩
        have HF := Aside0.mk hfin
        clear hfin hHeld b3 c0 hcell
        go_wp2_with fail
        go_returns
        exact ⟨rfl, HF.out⟩
    · obtain rfl : i = len := by omega
      have hfin : ∃ ys k C' S', Swept C S n most (-(clampT now)) ys k C' S' ∧ QHeld wr q g mb C' S' age most (n + k) (N + 4000000 * k) D ∧ Kept w wr D := by
        obtain ⟨I1, I2, I3⟩ := HI.out
        have := HL.out
        exact ⟨ys, i, _, _, ⟨HSET.out, by omega, fun x => by rw [← HTT.out], fun x => rfl⟩, I1.less (fun k d => .inl d), I3⟩
      have HF := Aside0.mk hfin
      clear hfin
      go_wp2_with fail
      go_end0
      exact ⟨rfl, HF.out⟩
end
end Go.Proofs.Ytclekakhgaggdaa.HeapC
