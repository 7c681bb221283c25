/- A record's body, and its frame. -/
import Derived.Test.YthidhmfejnjdhaaDoorFrameG
namespace Go.Proofs.YthidhmfejnjdhaaDoor.FrameB
open Go.RowKit Go.Proofs.YthidhmfejnjdhaaDoor.FrameS Go.Proofs.YthidhmfejnjdhaaDoor.FrameG Go.Proofs.YthidhmfejnjdhaaDoor.FrameSum Go.Proofs.YthidhmfejnjdhaaDoorW.PrintWords Go.Proofs.YthidhmfejnjdhaaDoorW.PrintLast Go.Proofs.YthidhmfejnjdhaaDoorW.PrintMore
set_option linter.unusedVariables false
set_option linter.unusedSimpArgs false
theorem info9 : (Tryd.prog.info? 9).map (fun i => (i.zero, i.size, i.bytes)) = some (some (.string ⟨#[]⟩), 1, 16) := by kernel_rfl

def numB (n : Int) : ByteArray := ⟨(Lib.itoa n).toArray⟩
theorem below_two {w W1 W2 : World} (h : Below w.heap.size w W1) (k : Below W1.heap.size W1 W2) : Below w.heap.size w W2 := below_step h k
/-- strings.Join over a row of the call's own. -/
theorem join_own (v : Value) (xs : List ByteArray) (sep : ByteArray) (w : World) (base : Nat) (ok : Nat → Prop) (h : Kd.R Kd.string 9 w base ok v xs) (hn : 0 < xs.length) (hx : xs.length ≤ 1000000) (hl : (Lib.join (xs.map (·.data.toList)) sep.data.toList).length ≤ 140737488355328) :
    Calls Tryd.prog 33 #[v, .string sep] w fun e w' => e = .returned (.string ⟨(Lib.join (xs.map (·.data.toList)) sep.data.toList).toArray⟩) ∧ Below w.heap.size w w' := by
  have ho := Kd.own_of_R h
  rcases ho.2 with ⟨rfl, h0⟩ | ⟨g, cap, cur, rfl, hg, hh, hcap, hm, hsz, htk⟩
  · omega
  · refine Tryd.strings_Join g 0 cap xs sep w ?_ (blk_lt hh) (by omega) hcap hl
    intro j x hj
    have hj' := (List.getElem?_eq_some_iff.1 hj).1
    rw [blk_cell hh]
    have e := congrArg (fun l => l[j]?) htk
    simp only [List.getElem?_take] at e
    rw [if_pos (by omega)] at e
    rw [Nat.zero_add, ← Array.getElem?_toList, e]
    simp [encs, hj]
theorem map_numB (l : List Int) : (l.map numB).map (·.data.toList) = l.map Lib.itoa := by
  rw [List.map_map]; rfl
theorem join_head (v : Value) (r : Rec) (w : World) (base : Nat) (h : Kd.R Kd.string 9 w base (fun _ => True) v ((r.kind :: r.nums).map numB)) (hn : r.nums.length ≤ 20) (hl : (⟨(headL r).toArray⟩ : ByteArray).size ≤ 2378) :
    Calls Tryd.prog 33 #[v, .string ⟨#[32]⟩] w fun e w' => e = .returned (.string ⟨(headL r).toArray⟩) ∧ Below w.heap.size w w' := by
  have e : Lib.join (((r.kind :: r.nums).map numB).map (·.data.toList)) (⟨#[32]⟩ : ByteArray).data.toList = headL r := by rw [map_numB]; rfl
  have hl' : (headL r).length ≤ 2378 := by
    have : (headL r).toArray.size ≤ 2378 := hl
    simpa using this
  have := join_own v _ ⟨#[32]⟩ w base _ h (by simp) (by simp; omega) (by rw [e]; omega)
  rw [e] at this
  exact this
set_option maxHeartbeats 1000000 in
set_option maxRecDepth 20000 in
theorem body_calls (A : Option Addr) (c : Nat) (r : Rec) (w : World) (hG : G w) (hr : Kd.C (Kd.int .i64) w A r.nums.length r.nums) (hR : Right r) :
    Calls Tryd.prog 21 #[.agg #[.int .i64 r.kind, .slice A r.nums.length c, .string r.text]] w fun e w' => e = .returned (.string ⟨(bodyL r).toArray⟩) ∧ Below w.heap.size w w' := by
  obtain ⟨kind, nums, text⟩ := r
  have HR := Aside0.mk hr
  have hk1 : 1 ≤ kind := hR.1
  have hk2 : kind ≤ 255 := hR.2.1
  have hn : nums.length ≤ 20 := hR.2.2.1
  have HO := Aside0.mk hR
  have HG := Aside0.mk hG
  have HB := Aside0.mk (Below.refl w.heap.size w)
  clear hr hR hG
  go_enter Tryd.func21, Tryd.ntmps21
  go_wp2_with (first | ((with_reducible refine gate_dst (N := 1) rfl ?_); refine box_event ?hg (N := 1) ?hd (cs := #[.int .i64 kind, .slice A nums.length c, .string text]) (t := 24) ?hr ?_; (case hd => rfl); (case hg => rfl); (case hr => first | (go_simp; done) | (go_simp; rfl)); intro g0 hg w2 hbox hb; have GE := Aside0.mk (show w.heap.size ≤ g0 by rw [hg]; exact Nat.le_refl _); have BK := Aside0.mk hbox; have B2 := Aside0.mk hb; have hz0 := blk_cell hbox 0; have hz1 := blk_cell hbox 1; have hz2 := blk_cell hbox 2; clear hb hbox hg HB))
  refine (number_ok kind _ (HG.out.below B2.out) (by omega) (by omega)).mono ?_
  rintro e w1 ⟨rfl, b1⟩
  have B1 : Aside0 (Below w.heap.size w w1) := ⟨below_step B2.out b1⟩
  have BK1 := Aside0.mk (blk_below BK.out b1)
  clear hz0 hz1 hz2 B2 BK b1
  have hpp : (⟨(Lib.itoa kind).toArray⟩ : ByteArray) = numB kind := rfl
  rw [hpp]
  clear hpp
  go_wp2_with (first | ((with_reducible refine gate_dst (N := 9) rfl ?_); refine Kd.R_lit Kd.string _ 9 ?hg (N := 9) ?hd (xs := [numB kind]) (inner := [.string (numB kind)]) (ok := fun _ => True) (okp := fun _ => True) ?hr ?hp (fun _ hk => hk) trivial (Below.refl _ _) (Nat.le_refl _) (by simp) ?_; (case hd => rfl); (case hg => rfl); (case hr => first | (go_simp; done) | (go_simp; rfl)); (case hp => exact (Reps.one (show Kd.M Kd.string _ _ _ (numB kind) [.string (numB kind)] from rfl) (Reps.none _ _))); intro v0 w3 ho hb hg_ hnew_; clear hg_ hnew_; have R3 := Aside0.mk (Kd.R_lower ho B1.out.size); have B3 := Aside0.mk (below_step B1.out hb); have BK3 := Aside0.mk (blk_below BK1.out hb); have hz1 := blk_cell BK3.out 1; clear ho hb B1 BK1))
  go_loopw [3, 5, 13] (fun v _ i W => ∃ (k : Nat) (u : Value), u = v ∧ k ≤ nums.length ∧ i = .int .i64 k ∧ Aside0 (Kd.R Kd.string 9 W w.heap.size (fun _ => True) u ((kind :: nums.take k).map numB)) ∧ Aside0 (Below w.heap.size w W) ∧ Aside0 (W.heap[g0]? = some (.cells #[.int .i64 kind, .slice A nums.length c, .string text] 24 (0, 0)))) (fun _ _ i _ => nums.length - (intOf i).toNat)
  case atStart => exact ⟨0, _, rfl, Nat.zero_le _, rfl, R3, B3, BK3⟩
  case round =>
    clear R3 B3 BK3 hz1
    obtain ⟨k, u, rfl, hk, rfl, R4, B4, BK4⟩ := hrel
    by_cases hlt : k < nums.length
    · obtain ⟨ad, e, hx⟩ := Kd.at_int HR.out (k : Int) (by omega) (by omega)
      cases e
      have hrd : rd nums (k : Int) = nums.getD k 0 := by unfold rd; simp
      rw [hrd, Int.toNat_natCast] at hx
      replace hx := (B4.out.cell (World.block_lt_of_cell? w _ hx)).trans hx
      obtain ⟨x, hxx⟩ : ∃ x, x = nums.getD k 0 := ⟨_, rfl⟩
      rw [← hxx] at hx
      have hxo : Odd x = false := by
        rw [hxx]
        have := HO.out.2.2.2.1
        rw [List.any_eq_false] at this
        have hm : nums.getD k 0 ∈ nums := by rw [List.getD_eq_getElem?_getD, List.getElem?_eq_getElem hlt]; exact List.getElem_mem hlt
        simpa using this _ hm
      unfold Odd at hxo
      rw [Bool.or_eq_false_iff, decide_eq_false_iff_not, decide_eq_false_iff_not] at hxo
      obtain ⟨hx0, hx1⟩ := hxo
      have HX : Aside0 ((kind :: nums.take (k + 1)).map numB = (kind :: nums.take k).map numB ++ [numB x]) := ⟨by
        rw [hxx, List.take_add_one, List.getElem?_eq_getElem hlt]; simp only [Option.toList_some, List.map_append, List.map_cons, List.map_nil, List.cons_append, List.getD, List.getElem?_eq_getElem hlt, Option.getD_some]⟩
      clear hxx hrd
      go_wp2_with fail
      refine (number_ok x _ (HG.out.below B4.out) (by omega) (by omega)).mono ?_
      rintro e w5 ⟨rfl, b5⟩
      have B5 := Aside0.mk (below_step B4.out b5)
      have BK5 := Aside0.mk (blk_below BK4.out b5)
      have R5 := Aside0.mk (Kd.R_below R4.out b5)
      clear B4 BK4 R4 b5
      have hpp : (⟨(Lib.itoa x).toArray⟩ : ByteArray) = numB x := rfl
      rw [hpp]
      clear hpp
      go_wp2_with (first | ((with_reducible refine gate_builtin (b := .append) (xs := #[.tmp 17, .tmp 20]) rfl ?_); at_builtin; refine Kd.R_append Kd.string (w0 := w) w.heap.size rfl (.tmp 17) (.tmp 20) 26 9 (.string ⟨#[]⟩) 16 rfl Tryd.underlying26 info9 rfl (by decide) (by omega) _ ((kind :: nums.take k).map numB) (numB x) [.string (numB x)] (fun _ => True) (fun _ => False) rfl rfl ?aP (fun _ hk => hk.elim) ?aF ?aO ?aB ?aS ?aL ?_; (case aP => exact rfl); (case aB => exact B5.out); (case aF => exact (fun _ _ => trivial)); (case aO => exact R5.out); (case aS => exact B5.out.size); (case aL => simp only [List.length_map, List.length_cons, List.length_take]; omega); intro v6 w6 hR6 hB6 hg6 hat6; have R6 := Aside0.mk hR6; have B6 := Aside0.mk hB6; have BK6 := Aside0.mk (blk_grown BK5.out hg6 (Kd.R_ne R5.out BK5.out (by decide))); clear hR6 hB6 hg6 hat6 B5 R5 BK5))
      go_roundw
      case rel => exact ⟨k + 1, _, rfl, by omega, by go_num, ⟨by rw [HX.out]; exact R6.out⟩, B6, BK6⟩
      case measure => simp [intOf]; omega
    · have hfull : nums.take k = nums := List.take_of_length_le (by omega)
      rw [hfull] at R4
      clear hfull
      have hz2 := blk_cell BK4.out 2
      have hlen := (body_length ⟨kind, nums, text⟩ HO.out).1
      obtain ⟨J, hJ⟩ : ∃ J : ByteArray, J = ⟨(headL ⟨kind, nums, text⟩).toArray⟩ := ⟨_, rfl⟩
      have hJs : J.size ≤ 2378 := by
        rw [hJ]
        have e : (bodyL ⟨kind, nums, text⟩).length = (headL ⟨kind, nums, text⟩).length + (1 + (tl text).length) := by unfold bodyL; simp; omega
        show (headL ⟨kind, nums, text⟩).toArray.size ≤ _
        simp; omega
      have HJ : Aside0 ((J ++ (⟨#[58]⟩ : ByteArray)) ++ text = ⟨(bodyL ⟨kind, nums, text⟩).toArray⟩) := ⟨by
        rw [hJ]
        apply ByteArray.ext
        apply Array.toList_inj.1
        simp [bodyL, tl, ByteArray.data_append]⟩
      have HJJ : Aside0 (∀ W, Kd.R Kd.string 9 W w.heap.size (fun _ => True) u ((kind :: nums).map numB) → Calls Tryd.prog 33 #[u, .string ⟨#[32]⟩] W fun e w' => e = .returned (.string J) ∧ Below W.heap.size W w') := ⟨fun W hR => by
        rw [hJ]; exact join_head u ⟨kind, nums, text⟩ W w.heap.size hR hn (by rw [hJ] at hJs; exact hJs)⟩
      clear hJ
      have htx : text.size ≤ 2000 := HO.out.2.2.2.2
      have hjt : ¬ (9223372036854775807 < J.size + 1) := by omega
      have hts : ¬ (9223372036854775807 < J.size + 1 + text.size) := by omega
      have hts2 : ¬ (9223372036854775807 < (J ++ (⟨#[58]⟩ : ByteArray)).size + text.size) := by rw [ByteArray.size_append]; exact hts
      go_wp2_with fail
      refine start_ (n := 7) (S := fun w' => w'.cell? ⟨g0, 2, none⟩ = some (.string text) ∧ Kd.R Kd.string 9 w' w.heap.size (fun _ => True) u ((kind :: nums).map numB) ∧ Below w.heap.size w w') (ds := []) #[false, false, false, false, false, false, false] (by kernel_rfl) rfl rfl ⟨hz2, (Kd.R_drew R4.out), (below_drew1 B4.out)⟩ (fun hHeld => ?_)
      refine pure_ (i := 0) (N := some 23) (v := ?_) (a' := ?_) #[true, false, false, false, false, false, false] rfl rfl (by kernel_rfl) (fun _ _ _ h => h) (Or.inl ⟨by rfl, ?_⟩) ?_ ?_
      rotate_left
      · intro w'
        go_simp
        with_reducible rfl
      rotate_left
      · simp only [Act.put, List.setIfInBounds_toArray, List.set_cons_zero, List.set_cons_succ, i64_w, i32_w]
        rfl
      refine pure_ (i := 3) (N := some 26) (v := ?_) (a' := ?_) #[true, false, false, true, false, false, false] rfl rfl (by kernel_rfl) (fun _ _ _ h => h) (Or.inl ⟨by rfl, ?_⟩) ?_ ?_
      rotate_left
      · intro w'
        go_simp
        with_reducible rfl
      rotate_left
      · simp only [Act.put, List.setIfInBounds_toArray, List.set_cons_zero, List.set_cons_succ, i64_w, i32_w]
        rfl
      refine take_ (i := 4) (N := some 27) (v := ?_) (a' := ?_) #[true, false, false, true, true, false, false] rfl rfl (by kernel_rfl) (fun _ _ _ h => h) (Or.inl ⟨by rfl, ?_⟩) hHeld ?_ ?_
      rotate_left
      · rintro w' ⟨s0, s1, s2⟩
        go_simp
        with_reducible rfl
      rotate_left
      · simp only [Act.put, List.setIfInBounds_toArray, List.set_cons_zero, List.set_cons_succ, i64_w, i32_w]
        rfl
      refine one_ (i := 1) (N := some 24) #[true, true, false, true, true, false, false] rfl rfl (by kernel_rfl) (by decide) (fun K hK => ?_)
      refine goes_ Tryd.func33 (by kernel_rfl) rfl #[u, .string ⟨#[32]⟩] (by rfl) rfl rfl (by simp only [List.map_toArray, List.map_cons, List.map_nil]; rfl) ?_
      with_reducible refine (HJJ.out _ hHeld.2.1).mono ?_
      rintro e w3 ⟨rfl, b3⟩
      refine ⟨_, rfl, ?_⟩
      refine hK.out _ _ ⟨(b3.cell (p := ⟨g0, 2, none⟩) (World.block_lt_of_cell? _ _ hHeld.1)).trans hHeld.1, Kd.R_below hHeld.2.1 b3, below_step hHeld.2.2 b3⟩ (fun hHeld => ?_)
      clear hK K
      refine norm_ (a' := ?_) ?_ ?_
      rotate_left
      · show Act.put _ (some 24) _ = _
        simp only [Act.put, List.setIfInBounds_toArray, List.set_cons_zero, List.set_cons_succ, i64_w, i32_w]
        rfl
      refine pure_ (i := 2) (N := some 25) (v := ?_) (a' := ?_) #[true, true, true, true, true, false, false] rfl rfl (by kernel_rfl) (fun _ _ _ h => h) (Or.inl ⟨by rfl, ?_⟩) ?_ ?_
      rotate_left
      · intro w'
        go_simp
        with_reducible rfl
      rotate_left
      · simp only [Act.put, List.setIfInBounds_toArray, List.set_cons_zero, List.set_cons_succ, i64_w, i32_w]
        rfl
      refine pure_ (i := 5) (N := some 28) (v := ?_) (a' := ?_) #[true, true, true, true, true, true, false] rfl rfl (by kernel_rfl) (fun _ _ _ h => h) (Or.inl ⟨by rfl, ?_⟩) ?_ ?_
      rotate_left
      · intro w'
        go_simp
        with_reducible rfl
      rotate_left
      · simp only [Act.put, List.setIfInBounds_toArray, List.set_cons_zero, List.set_cons_succ, i64_w, i32_w]
        rfl
      refine pure_ (i := 6) (N := some 2) (v := ?_) (a' := ?_) #[true, true, true, true, true, true, true] rfl rfl (by kernel_rfl) (fun _ _ _ h => h) (Or.inl ⟨by rfl, ?_⟩) ?_ ?_
      rotate_left
      · intro w'
        go_simp
        with_reducible rfl
      rotate_left
      · simp only [Act.put, List.setIfInBounds_toArray, List.set_cons_zero, List.set_cons_succ, i64_w, i32_w]
        rfl
      refine done_ (by kernel_rfl) ?_

      go_wp2
      go_ret
      exact ⟨by rw [HJ.out]; rfl, by first | exact hHeld.2.2 | (apply below_drew1; exact hHeld.2.2)⟩

end Go.Proofs.YthidhmfejnjdhaaDoor.FrameB
