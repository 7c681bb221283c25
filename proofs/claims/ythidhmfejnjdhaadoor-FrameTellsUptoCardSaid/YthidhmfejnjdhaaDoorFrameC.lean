/- What is scanned of a text. -/
import Derived.Test.YthidhmfejnjdhaaDoorFrameN
import Derived.Test.YthidhmfejnjdhaaDoorFrameR
import Derived.WalkMore
namespace Go.Proofs.YthidhmfejnjdhaaDoor.FrameC
open Go.RowKit Go.Proofs.YthidhmfejnjdhaaDoor.FrameR Go.Proofs.YthidhmfejnjdhaaDoor.FrameN Go.Proofs.YthidhmfejnjdhaaDoor.FrameP Go.Proofs.YthidhmfejnjdhaaDoor.FrameB Go.Proofs.YthidhmfejnjdhaaDoor.FrameS Go.Proofs.YthidhmfejnjdhaaDoor.FrameG Go.Proofs.YthidhmfejnjdhaaDoor.FrameSum Go.Proofs.YthidhmfejnjdhaaDoorW.PrintWords Go.Proofs.YthidhmfejnjdhaaDoorW.PrintLast Go.Proofs.YthidhmfejnjdhaaDoorW.PrintMore
set_option linter.unusedVariables false
set_option linter.unusedSimpArgs false
theorem info24 : (Tryd.prog.info? 24).map (fun i => (i.zero, i.size, i.bytes)) = some (some (.agg #[(.int .i64 0), (.slice none 0 0), (.string ⟨#[]⟩)]), 3, 48) := by kernel_rfl
def d3 : Kd (Int × List Int × ByteArray) := Kd.pair (Kd.int .i64) (Kd.pair (Kd.slice 3 (Kd.int .i64)) Kd.string)
/-- A record in memory. -/
def kRec : Kd Rec := Kd.iso d3 (fun r : Rec => (r.kind, r.nums, r.text))
theorem kRec_mkM (w : World) (base : Nat) (ok : Nat → Prop) (x : Rec) {v1 : Value} (g1 : (Kd.int .i64).R 3 w base ok v1 x.nums) : kRec.M w base ok x [.int .i64 x.kind, v1, .string x.text] := ⟨[.int .i64 x.kind], [v1, .string x.text], rfl, rfl, ⟨[v1], [.string x.text], rfl, ⟨v1, rfl, g1⟩, rfl⟩⟩
def leftOf (gr : Nat) (W : World) : Nat := match W.cell? ⟨gr, 2, none⟩ with | some (.string x) => x.size | _ => 0
theorem leftOf_blk {gr : Nat} {W : World} {v n : Value} {x : ByteArray} (h : W.heap[gr]? = some (.cells #[v, n, .string x] 56 (0, 0))) : leftOf gr W = x.size := by
  unfold leftOf; rw [show W.cell? ⟨gr, 2, none⟩ = some (.string x) from (blk_cell h 2).trans rfl]

/-- How a scanning ends. -/
def endE (e : Bool) : Int := if e then 0 else 40
def ScanPost (s : ByteArray) (w : World) (e : Ending) (w' : World) : Prop := ∃ (l : List Rec) (n : Nat) (ok : Bool) (v : Value), Scan (tl s) l n ok ∧ e = .returned (.tuple #[v, .int .i64 (n : Int), .int .i64 (endE ok)]) ∧
  Kd.S kRec 24 w' w.heap.size (fun _ => True) v l ∧ Below w.heap.size w w'

theorem tl_ext (s : ByteArray) (a b : Nat) : tl (s.extract a b) = ((tl s).take b).drop a := by
  unfold tl
  rw [ByteArray.data_extract, Array.toList_extract, List.extract_eq_take_drop, List.drop_take]
theorem storeX (w W : World) (gr gx : Nat) (x0 x1 x2 y0 y1 y2 v vx : Value) (l : List Rec) (nums : List Int) (okS : Nat → Prop) (B : Below w.heap.size w W) (GX : w.heap.size ≤ gx)
    (BX : W.heap[gx]? = some (.cells #[x0, x1, x2] 24 (0, 0))) (BK : W.heap[gr]? = some (.cells #[y0, y1, y2] 56 (0, 0)))
    (SR : Kd.S kRec 24 W w.heap.size (fun k => okS k ∧ k ≠ gx) v l) (RX : Kd.R (Kd.int .i64) 3 W w.heap.size (fun _ => True) vx nums) (a0 a1 a2 : Value) :
    (((W.setCell ⟨gx, 0, none⟩ a0).setCell ⟨gx, 1, none⟩ a1).setCell ⟨gx, 2, none⟩ a2).heap[gx]? = some (.cells #[a0, a1, a2] 24 (0, 0)) ∧
    (((W.setCell ⟨gx, 0, none⟩ a0).setCell ⟨gx, 1, none⟩ a1).setCell ⟨gx, 2, none⟩ a2).heap[gr]? = some (.cells #[y0, y1, y2] 56 (0, 0)) ∧
    Kd.S kRec 24 (((W.setCell ⟨gx, 0, none⟩ a0).setCell ⟨gx, 1, none⟩ a1).setCell ⟨gx, 2, none⟩ a2) w.heap.size (fun k => okS k ∧ k ≠ gx) v l ∧
    Kd.R (Kd.int .i64) 3 (((W.setCell ⟨gx, 0, none⟩ a0).setCell ⟨gx, 1, none⟩ a1).setCell ⟨gx, 2, none⟩ a2) w.heap.size (fun _ => True) vx nums ∧
    Below w.heap.size w (((W.setCell ⟨gx, 0, none⟩ a0).setCell ⟨gx, 1, none⟩ a1).setCell ⟨gx, 2, none⟩ a2) := by
  have b1 := blk_set BX 0 a0
  have b2 := blk_set b1 1 a1
  have b3 := blk_set b2 2 a2
  have hne : gr ≠ gx := blk_ne BK BX (by decide)
  refine ⟨b3, ?_, ?_, Kd.R_set (Kd.R_set (Kd.R_set RX BX (by decide) 0 _) b1 (by decide) 1 _) b2 (by decide) 2 _, below_set (below_set (below_set B GX) GX) GX⟩
  · rw [Below.heap_setCell _ _ _ _ hne, Below.heap_setCell _ _ _ _ hne, Below.heap_setCell _ _ _ _ hne]; exact BK
  · exact Kd.S_far (p := ⟨gx, 2, none⟩) (Kd.S_far (p := ⟨gx, 1, none⟩) (Kd.S_far (p := ⟨gx, 0, none⟩) SR (fun _ hk => hk.2) _) (fun _ hk => hk.2) _) (fun _ hk => hk.2) _
set_option maxHeartbeats 4000000 in
set_option maxRecDepth 40000 in
theorem scan_calls (s : ByteArray) (w : World) (hG : G w) (hs : s.size ≤ 1000000000000) :
    Calls Tryd.prog 17 #[.string s] w (ScanPost s w) := by
  have HG := Aside0.mk hG
  have HB := Aside0.mk (Below.refl w.heap.size w)
  clear hG
  go_enter Tryd.func17, Tryd.ntmps17
  go_wp2
  go_step3
  go_wp2_with (first | ((with_reducible refine gate_dst (N := 14) rfl ?_); refine box_event ?hg (N := 14) ?hd (cs := #[.slice none 0 0, .int .i64 0, .string s]) (t := 56) ?hr ?_; (case hd => rfl); (case hg => rfl); (case hr => first | (go_simp; done) | (go_simp; rfl)); intro gr hg w2 hbox hb; have GE := Aside0.mk (show w.heap.size ≤ gr by rw [hg]; exact Nat.le_refl _); have BK := Aside0.mk hbox; have B2 := Aside0.mk hb; clear hb hbox hg HB))
  go_step3
  go_wp2_with fail
  go_loopw [6, 7, 8, 9, 10, 11] (fun e _ _ _ _ _ W => ∃ (l : List Rec) (n : Nat) (left : ByteArray) (v : Value), e = .int .i64 0 ∧ Aside0 (W.heap[gr]? = some (.cells #[v, .int .i64 (n : Int), .string left] 56 (0, 0))) ∧ Aside0 (Kd.S kRec 24 W w.heap.size (fun _ => True) v l) ∧ Aside0 (Below w.heap.size w W) ∧ n + left.size = s.size ∧ l.length ≤ n ∧ Aside0 (∀ m k f, Scan (tl left) m k f → Scan (tl s) (l ++ m) (n + k) f)) (fun _ _ _ _ _ _ W => leftOf gr W)
  case atStart => exact ⟨[], 0, s, .slice none 0 0, rfl, BK, ⟨Kd.S_nil _ _ _ _ _⟩, B2, by omega, by simp, ⟨fun m k f h => by simpa using h⟩⟩
  case round =>
    clear BK B2
    obtain ⟨l, n, left, v, rfl, BK3, SR3, B3, hsum, hln, HS⟩ := hrel
    obtain ⟨Av, cv, rfl⟩ := Kd.S_slice SR3.out
    have HL3 := Aside0.mk (leftOf_blk BK3.out)
    have hc2 : wr.cell? ⟨gr, 2, none⟩ = some (.string left) := (blk_cell BK3.out 2).trans rfl
    have hlt : tl left = left.data.toList := rfl
    have hll := tl_length left
    by_cases hw : Whole (tl left)
    · have hn4 : lenOf (tl left) + 4 ≤ left.size := by rw [← hll]; exact hw.2
      have hl2 : 2 ≤ left.size := by rw [← hll]; exact hw.1
      have hnx := Aside0.mk (next_whole gr left wr hc2 hl2 (by omega) hn4)
      obtain ⟨q0, hq0⟩ : ∃ q : Nat, q = lenOf (tl left) := ⟨_, rfl⟩
      have hql : q0 < 65536 := by rw [hq0]; exact lenOf_lt _
      rw [← hq0] at hnx hn4
      obtain ⟨X, hX⟩ : ∃ X, left.extract 0 (q0 + 2) = X := ⟨_, rfl⟩
      have hxs : X.size = q0 + 2 := by rw [← hX]; exact ext_le left _ (by omega)
      obtain ⟨rt, hrt⟩ : ∃ rt : Bool, (sumB (tl X) == tl (left.extract (q0 + 2) (q0 + 4))) = rt := ⟨_, rfl⟩
      rw [hX, hrt] at hnx
      have HQ0 := Aside0.mk hq0
      have HX := Aside0.mk hX
      have HRT := Aside0.mk hrt
      have HW := Aside0.mk hw
      have hx2 : 2 ≤ X.size := by omega
      have hx3 : X.size ≤ 65540 := by omega
      have hx5 : X.size + 2 ≤ left.size := by omega
      have HXS := Aside0.mk hxs
      clear hq0 hX hrt hw hlt hll hxs
      go_wp2_with fail
      refine (hnx.out).mono ?_
      rintro e w4 ⟨rfl, b4⟩
      have B4 := Aside0.mk (below_step B3.out b4)
      have BK4 := Aside0.mk (blk_below BK3.out b4)
      have SR4 := Aside0.mk (Kd.S_below SR3.out b4)
      clear b4 B3 BK3 SR3 hc2 hnx
      have hx2t := eq_true hx2
      have hx6 := eq_true (show (2 : Int) ≤ X.size by omega)
      go_wp2_with fail
      refine (record_calls (X.extract 2 X.size) _ (HG.out.below B4.out) (by rw [ByteArray.size_extract]; omega)).mono ?_
      rintro e w5 ⟨⟨kind, nums, text⟩, ok, vx, rfl, hR5, b5, hyes, hno⟩
      obtain ⟨Ax, cx, rfl⟩ := Kd.R_slice hR5
      have B5 := Aside0.mk (below_step B4.out b5)
      have BK5 := Aside0.mk (blk_below BK4.out b5)
      have SR5 := Aside0.mk (Kd.S_elder' SR4.out (Kd.R_base hR5) b5)
      have RX5 := Aside0.mk (Kd.R_lower hR5 B4.out.size)
      have HY := Aside0.mk hyes
      have HNO := Aside0.mk hno
      clear b5 hR5 hyes hno B4 BK4 SR4
      cases ok with
      | true =>
        cases rt with
        | true =>
          go_wp2_with (first | ((with_reducible refine gate_dst (N := 10) rfl ?_); refine box_event ?hg (N := 10) ?hd (cs := #[.int .i64 0, .slice none 0 0, .string ⟨#[]⟩]) (t := 24) ?hr ?_; (case hd => rfl); (case hg => rfl); (case hr => first | (go_simp; done) | (go_simp; rfl)); intro gx hg w6 hbox hb; have GX := Aside0.mk (show w.heap.size ≤ gx by rw [hg]; exact B5.out.size); have BX6 := Aside0.mk hbox; have B6 := Aside0.mk (below_step B5.out hb); have BK6 := Aside0.mk (blk_below BK5.out hb); have SR6 := Aside0.mk (Kd.S_below (Kd.S_elderB SR5.out gx (by rw [hg]; exact Nat.le_refl _)) hb); have RX6 := Aside0.mk (Kd.R_below RX5.out hb); have hf0 := blk_frozen hbox 0; have hf1 := blk_frozen hbox 1; have hf2 := blk_frozen hbox 2; have hc0 : w6.cell? ⟨gx, 0, none⟩ = some (.int .i64 0) := (blk_cell hbox 0).trans rfl; have hc1 : w6.cell? ⟨gx, 1, none⟩ = some (.slice none 0 0) := (blk_cell hbox 1).trans rfl; have hc2 : w6.cell? ⟨gx, 2, none⟩ = some (.string ⟨#[]⟩) := (blk_cell hbox 2).trans rfl; clear hb hbox hg B5 BK5 SR5 RX5))
          obtain ⟨bx9, bk9, sr9, rx9, b9⟩ := storeX w w6 gr gx _ _ _ _ _ _ _ _ l nums _ B6.out GX.out BX6.out BK6.out SR6.out RX6.out (.int .i64 kind) (.slice Ax nums.length cx) (.string text)
          obtain ⟨W9, hW9⟩ : ∃ W, W = ((w6.setCell ⟨gx, 0, none⟩ (.int .i64 kind)).setCell ⟨gx, 1, none⟩ (.slice Ax nums.length cx)).setCell ⟨gx, 2, none⟩ (.string text) := ⟨_, rfl⟩
          rw [← hW9] at bx9 bk9 sr9 rx9 b9 ⊢
          have x0 : W9.cell? ⟨gx, 0, none⟩ = some (.int .i64 kind) := (blk_cell bx9 0).trans rfl
          have x1 : W9.cell? ⟨gx, 1, none⟩ = some (.slice Ax nums.length cx) := (blk_cell bx9 1).trans rfl
          have x2 : W9.cell? ⟨gx, 2, none⟩ = some (.string text) := (blk_cell bx9 2).trans rfl
          have e0 : W9.cell? ⟨gr, 0, none⟩ = some (.slice Av l.length cv) := (blk_cell bk9 0).trans rfl
          have e1 : W9.cell? ⟨gr, 1, none⟩ = some (.int .i64 (n : Int)) := (blk_cell bk9 1).trans rfl
          have e2 : W9.cell? ⟨gr, 2, none⟩ = some (.string left) := (blk_cell bk9 2).trans rfl
          have BK9 := Aside0.mk bk9
          have SR9 := Aside0.mk sr9
          have RX9 := Aside0.mk rx9
          have B9 := Aside0.mk b9
          have BX9 := Aside0.mk bx9
          clear bx9 bk9 sr9 rx9 b9 hW9 B6 BX6 BK6 SR6 RX6 hf0 hf1 hf2 hc0 hc1 hc2
          refine start_ (n := 13) (S := fun w' => w'.cell? ⟨gr, 0, none⟩ = some (.slice Av l.length cv) ∧ w'.cell? ⟨gx, 0, none⟩ = some (.int .i64 kind) ∧ w'.cell? ⟨gx, 1, none⟩ = some (.slice Ax nums.length cx) ∧ w'.cell? ⟨gx, 2, none⟩ = some (.string text) ∧ w'.heap[gr]? = some (.cells #[.slice Av l.length cv, .int .i64 (n : Int), .string left] 56 (0, 0)) ∧ Kd.S kRec 24 w' w.heap.size (fun k => (True ∧ some k ≠ (.slice Ax nums.length cx : Value).ownBlock) ∧ k ≠ gx) (.slice Av l.length cv) l ∧ Kd.R (Kd.int .i64) 3 w' w.heap.size (fun _ => True) (.slice Ax nums.length cx) nums ∧ Below w.heap.size w w') (ds := [8, 12]) #[false, false, false, false, false, false, false, false, false, false, false, false, false] (by kernel_rfl) rfl rfl ⟨e0, x0, x1, x2, BK9.out, (Kd.S_drew SR9.out), (Kd.R_drew RX9.out), (below_drew1 B9.out)⟩ (fun hHeld => ?_)
          refine pure_ (i := 0) (N := some 35) (v := ?_) (a' := ?_) #[true, false, false, false, false, false, false, false, false, false, false, false, false] rfl rfl (by kernel_rfl) (fun _ _ _ h => h) (Or.inl ⟨by rfl, ?_⟩) ?_ ?_
          rotate_left
          · intro w'
            go_simp
            with_reducible rfl
          rotate_left
          · simp only [Act.put, List.setIfInBounds_toArray, List.set_cons_zero, List.set_cons_succ, i64_w, i32_w]
            rfl
          refine pure_ (i := 1) (N := some 36) (v := ?_) (a' := ?_) #[true, true, false, false, false, false, false, false, false, false, false, false, false] rfl rfl (by kernel_rfl) (fun _ _ _ h => h) (Or.inl ⟨by rfl, ?_⟩) ?_ ?_
          rotate_left
          · intro w'
            go_simp
            with_reducible rfl
          rotate_left
          · simp only [Act.put, List.setIfInBounds_toArray, List.set_cons_zero, List.set_cons_succ, i64_w, i32_w]
            rfl
          refine pure_ (i := 2) (N := some 37) (v := ?_) (a' := ?_) #[true, true, true, false, false, false, false, false, false, false, false, false, false] rfl rfl (by kernel_rfl) (fun _ _ _ h => h) (Or.inl ⟨by rfl, ?_⟩) ?_ ?_
          rotate_left
          · intro w'
            go_simp
            with_reducible rfl
          rotate_left
          · simp only [Act.put, List.setIfInBounds_toArray, List.set_cons_zero, List.set_cons_succ, i64_w, i32_w]
            rfl
          refine pure_ (i := 3) (N := some 38) (v := ?_) (a' := ?_) #[true, true, true, true, false, false, false, false, false, false, false, false, false] rfl rfl (by kernel_rfl) (fun _ _ _ h => h) (Or.inl ⟨by rfl, ?_⟩) ?_ ?_
          rotate_left
          · intro w'
            go_simp
            with_reducible rfl
          rotate_left
          · simp only [Act.put, List.setIfInBounds_toArray, List.set_cons_zero, List.set_cons_succ, i64_w, i32_w]
            rfl
          refine pure_ (i := 4) (N := some 39) (v := ?_) (a' := ?_) #[true, true, true, true, true, false, false, false, false, false, false, false, false] rfl rfl (by kernel_rfl) (fun _ _ _ h => h) (Or.inl ⟨by rfl, ?_⟩) ?_ ?_
          rotate_left
          · intro w'
            go_simp
            with_reducible rfl
          rotate_left
          · simp only [Act.put, List.setIfInBounds_toArray, List.set_cons_zero, List.set_cons_succ, i64_w, i32_w]
            rfl
          refine take_ (i := 5) (N := some 40) (v := ?_) (a' := ?_) #[true, true, true, true, true, true, false, false, false, false, false, false, false] rfl rfl (by kernel_rfl) (fun _ _ _ h => h) (Or.inl ⟨by rfl, ?_⟩) hHeld ?_ ?_
          rotate_left
          · rintro w' ⟨s0, s1, s2, s3, s4, s5, s6, s7⟩
            go_simp
            with_reducible rfl
          rotate_left
          · simp only [Act.put, List.setIfInBounds_toArray, List.set_cons_zero, List.set_cons_succ, i64_w, i32_w]
            rfl
          refine take_ (i := 6) (N := some 41) (v := ?_) (a' := ?_) #[true, true, true, true, true, true, true, false, false, false, false, false, false] rfl rfl (by kernel_rfl) (fun _ _ _ h => h) (Or.inl ⟨by rfl, ?_⟩) hHeld ?_ ?_
          rotate_left
          · rintro w' ⟨s0, s1, s2, s3, s4, s5, s6, s7⟩
            go_simp
            with_reducible rfl
          rotate_left
          · simp only [Act.put, List.setIfInBounds_toArray, List.set_cons_zero, List.set_cons_succ, i64_w, i32_w]
            rfl
          refine one_ (i := 7) (N := some 42) #[true, true, true, true, true, true, true, true, false, false, false, false, false] rfl rfl (by kernel_rfl) (by decide) (fun K hK => ?_)
          have hBef := Aside0.mk hHeld
          refine value_ (w1 := ?_) (v := ?_) (by rfl) rfl ?_ ?_
          rotate_left 2
          · go_simp
            constructor
            · rfl
            · rfl
          refine hK.out _ _ ⟨((below_alloc (Below.refl _ _) _).cell (p := ⟨gr, 0, none⟩) (World.block_lt_of_cell? _ _ hHeld.1)).trans hHeld.1, ((below_alloc (Below.refl _ _) _).cell (p := ⟨gx, 0, none⟩) (World.block_lt_of_cell? _ _ hHeld.2.1)).trans hHeld.2.1, ((below_alloc (Below.refl _ _) _).cell (p := ⟨gx, 1, none⟩) (World.block_lt_of_cell? _ _ hHeld.2.2.1)).trans hHeld.2.2.1, ((below_alloc (Below.refl _ _) _).cell (p := ⟨gx, 2, none⟩) (World.block_lt_of_cell? _ _ hHeld.2.2.2.1)).trans hHeld.2.2.2.1, blk_alloc hHeld.2.2.2.2.1 _, Kd.S_alloc hHeld.2.2.2.2.2.1 _, Kd.R_alloc hHeld.2.2.2.2.2.2.1 _, below_alloc hHeld.2.2.2.2.2.2.2 _⟩ (fun hHeld => ?_)
          clear hK K
          refine norm_ (a' := ?_) ?_ ?_
          rotate_left
          · show Act.put _ (some 42) _ = _
            simp only [Act.put, List.setIfInBounds_toArray, List.set_cons_zero, List.set_cons_succ, i64_w, i32_w]
            rfl
          refine last_ (i := 8) (N := some 43) #[true, true, true, true, true, true, true, true, true, false, false, false, false] rfl rfl (by kernel_rfl) (by decide) (fun K hK => ?_)
          rw [show (W9.alloc (.cells #[.int .i64 kind, .slice Ax nums.length cx, .string text] 24)).drew = W9.drew.alloc (.cells ([.int .i64 kind, .slice Ax nums.length cx, .string text] : List Value).toArray 24) from rfl]
          refine Kd.S_append_step kRec (w0 := w) w.heap.size (by rfl) (.tmp 40) (.tmp 42) 32 24 (.agg #[(.int .i64 0), (.slice none 0 0), (.string ⟨#[]⟩)]) 48 rfl Tryd.underlying32 info24 rfl (by decide) (by omega) (.slice Av l.length cv) l ⟨kind, nums, text⟩ [.int .i64 kind, .slice Ax nums.length cx, .string text] (fun _ => True) (fun k => some k = (.slice Ax nums.length cx : Value).ownBlock) ?aQ ?aX ?aP ?aK ?aF ?aO ?aB ?aS ?aL ?_
          case aQ => rfl
          case aX => rfl
          case aP => exact kRec_mkM _ _ _ ⟨kind, nums, text⟩ (Kd.R_tight rfl hBef.out.2.2.2.2.2.2.1)
          case aK => exact fun k hk => (Kd.R_apart' hBef.out.2.2.2.2.2.2.1 (Kd.S_typed hBef.out.2.2.2.2.2.1) (by decide)).1 k hk.symm
          case aF => exact fun _ _ => trivial
          case aO => exact Kd.S_mono hBef.out.2.2.2.2.2.1 (fun k hk => ⟨trivial, hk.1.2⟩)
          case aB => exact hBef.out.2.2.2.2.2.2.2
          case aS => exact hBef.out.2.2.2.2.2.2.2.size
          case aL => omega
          intro v1 W1 hS1 hB1 hg1 hat1
          have BK1 := Aside0.mk (blk_grown hBef.out.2.2.2.2.1 hg1 (Kd.S_ne hBef.out.2.2.2.2.2.1 hBef.out.2.2.2.2.1 (by decide)))
          obtain ⟨A1, c1, rfl⟩ := Kd.S_slice hS1
          rw [List.length_append, List.length_singleton] at hS1
          have SR1 := Aside0.mk hS1
          have BB1 := Aside0.mk hB1
          clear hS1 hB1 hg1 hat1
          refine hK.out _ _ ?_
          clear hK K
          refine norm_ (a' := ?_) ?_ ?_
          rotate_left
          · show Act.put _ (some 43) _ = _
            simp only [Act.put, List.setIfInBounds_toArray, List.set_cons_zero, List.set_cons_succ, i64_w, i32_w]
            rfl
          refine pure_ (i := 9) (N := some 44) (v := ?_) (a' := ?_) #[true, true, true, true, true, true, true, true, true, true, false, false, false] rfl rfl (by kernel_rfl) (fun _ _ _ h => h) (Or.inl ⟨by rfl, ?_⟩) ?_ ?_
          rotate_left
          · intro w'
            go_simp
            with_reducible rfl
          rotate_left
          · simp only [Act.put, List.setIfInBounds_toArray, List.set_cons_zero, List.set_cons_succ, i64_w, i32_w]
            rfl
          refine pure_ (i := 10) (N := some 45) (v := ?_) (a' := ?_) #[true, true, true, true, true, true, true, true, true, true, true, false, false] rfl rfl (by kernel_rfl) (fun _ _ _ h => h) (Or.inl ⟨by rfl, ?_⟩) ?_ ?_
          rotate_left
          · intro w'
            go_simp
            with_reducible rfl
          rotate_left
          · simp only [Act.put, List.setIfInBounds_toArray, List.set_cons_zero, List.set_cons_succ, i64_w, i32_w]
            rfl
          refine pure_ (i := 11) (N := some 46) (v := ?_) (a' := ?_) #[true, true, true, true, true, true, true, true, true, true, true, true, false] rfl rfl (by kernel_rfl) (fun _ _ _ h => h) (Or.inl ⟨by rfl, ?_⟩) ?_ ?_
          rotate_left
          · intro w'
            go_simp
            with_reducible rfl
          rotate_left
          · simp only [Act.put, List.setIfInBounds_toArray, List.set_cons_zero, List.set_cons_succ, i64_w, i32_w]
            rfl
          refine last_ (i := 12) (N := none) #[true, true, true, true, true, true, true, true, true, true, true, true, true] rfl rfl (by kernel_rfl) (by decide) (fun K hK => ?_)
          have hf10 := blk_frozen BK1.out 0
          have hc10 : W1.cell? ⟨gr, 0, none⟩ = some (.slice Av l.length cv) := (blk_cell BK1.out 0).trans rfl
          refine skip_ (w1 := ?_) (by rfl) rfl ?_ ?_
          rotate_left
          · go_simp
            rfl
          refine hK.out _ _ ?_
          clear hK K
          refine done_ (by kernel_rfl) ?_

          obtain ⟨W10, hW10⟩ : ∃ W, W = W1.setCell ⟨gr, 0, none⟩ (.slice A1 (l.length + 1) c1) := ⟨_, rfl⟩
          have bk := blk_set BK1.out 0 (.slice A1 (l.length + 1) c1)
          have sr := Kd.S_set SR1.out BK1.out (by decide) 0 (.slice A1 (l.length + 1) c1)
          have bb := below_set (j := 0) (v := .slice A1 (l.length + 1) c1) BB1.out GE.out
          rw [← hW10] at bk sr bb ⊢
          have e0' : W10.cell? ⟨gr, 0, none⟩ = some (.slice A1 (l.length + 1) c1) := (blk_cell bk 0).trans rfl
          have e1' : W10.cell? ⟨gr, 1, none⟩ = some (.int .i64 (n : Int)) := (blk_cell bk 1).trans rfl
          have e2' : W10.cell? ⟨gr, 2, none⟩ = some (.string left) := (blk_cell bk 2).trans rfl
          have hf1' := blk_frozen bk 1
          have hf2' := blk_frozen bk 2
          have BK10 := Aside0.mk bk
          have SR10 := Aside0.mk sr
          have BB10 := Aside0.mk bb
          have hx7 := eq_true (show (0 : Int) ≤ (X.size : Int) + 2 by omega)
          have hx8 := eq_true (show (X.size : Int) + 2 ≤ left.size by omega)
          have hn9 : n ≤ 1000000000000 := by omega
          clear bk sr bb hW10 BK1 SR1 BB1 hf10 hc10 x0 x1 x2 e0 e1 e2
          go_wp2
          have b1 := blk_set BK10.out 1 (.int .i64 ((n : Int) + ((X.size : Int) + 2)))
          have b2 := blk_set b1 2 (.string (left.extract (X.size + 2) left.size))
          have hcast : (n : Int) + ((X.size : Int) + 2) = ((n + (X.size + 2) : Nat) : Int) := by omega
          have HB2 := Aside0.mk b2
          have HSR := Aside0.mk (Kd.S_set (Kd.S_set SR10.out BK10.out (by decide) 1 (.int .i64 ((n : Int) + ((X.size : Int) + 2)))) b1 (by decide) 2 (.string (left.extract (X.size + 2) left.size)))
          have HBB := Aside0.mk (below_set (j := 2) (v := .string (left.extract (X.size + 2) left.size)) (below_set (j := 1) (v := .int .i64 ((n : Int) + ((X.size : Int) + 2))) BB10.out GE.out) GE.out)
          have HC := Aside0.mk hcast
          clear b1 b2 hcast
          go_roundw
          case rel =>
            have hxs := HXS.out
            obtain ⟨hq, hb⟩ := HY.out (by trivial)
            have f1 : tl X = (tl left).take (q0 + 2) := by rw [← HX.out, tl_ext, List.drop_zero]
            have f2 : tl (left.extract (q0 + 2) (q0 + 4)) = ((tl left).take (q0 + 4)).drop (q0 + 2) := tl_ext _ _ _
            rw [tl_ext, List.take_of_length_le (by rw [tl_length]; exact Nat.le_refl _), f1] at hb
            have hr := HRT.out
            rw [f1, f2] at hr
            have hfr := frame_of_parts HW.out (by rw [← HQ0.out]; exact hb) (by rw [← HQ0.out]; simpa using hr)
            have hon := scan_on HS.out hq hfr
            have ht : tl (left.extract (X.size + 2) left.size) = (tl left).drop (lenOf (tl left) + 4) := by
              rw [tl_ext, List.take_of_length_le (by rw [tl_length]; exact Nat.le_refl _), ← HQ0.out, hxs]
            refine ⟨l ++ [⟨kind, nums, text⟩], n + (X.size + 2), left.extract (X.size + 2) left.size, .slice A1 (l.length + 1) c1, rfl, ⟨?_⟩, ⟨HSR.out⟩, ⟨HBB.out⟩, ?_, ?_, ⟨?_⟩⟩
            · rw [← HC.out]; exact HB2.out
            · rw [ByteArray.size_extract]; omega
            · rw [List.length_append, List.length_singleton]; omega
            · rw [ht, hxs, HQ0.out]; exact hon
          case measure =>
            rw [leftOf_blk HB2.out, HL3.out, ByteArray.size_extract]
            omega
        | false =>
          go_wp2_with (first | ((with_reducible refine gate_dst (N := 10) rfl ?_); refine box_event ?hg (N := 10) ?hd (cs := #[.int .i64 0, .slice none 0 0, .string ⟨#[]⟩]) (t := 24) ?hr ?_; (case hd => rfl); (case hg => rfl); (case hr => first | (go_simp; done) | (go_simp; rfl)); intro gx hg w6 hbox hb; have GX := Aside0.mk (show w.heap.size ≤ gx by rw [hg]; exact B5.out.size); have BX6 := Aside0.mk hbox; have B6 := Aside0.mk (below_step B5.out hb); have BK6 := Aside0.mk (blk_below BK5.out hb); have SR6 := Aside0.mk (Kd.S_below (Kd.S_elderB SR5.out gx (by rw [hg]; exact Nat.le_refl _)) hb); have RX6 := Aside0.mk (Kd.R_below RX5.out hb); have hf0 := blk_frozen hbox 0; have hf1 := blk_frozen hbox 1; have hf2 := blk_frozen hbox 2; have hc0 : w6.cell? ⟨gx, 0, none⟩ = some (.int .i64 0) := (blk_cell hbox 0).trans rfl; have hc1 : w6.cell? ⟨gx, 1, none⟩ = some (.slice none 0 0) := (blk_cell hbox 1).trans rfl; have hc2 : w6.cell? ⟨gx, 2, none⟩ = some (.string ⟨#[]⟩) := (blk_cell hbox 2).trans rfl; clear hb hbox hg B5 BK5 SR5 RX5))
          obtain ⟨bx9, bk9, sr9, rx9, b9⟩ := storeX w w6 gr gx _ _ _ _ _ _ _ _ l nums _ B6.out GX.out BX6.out BK6.out SR6.out RX6.out (.int .i64 kind) (.slice Ax nums.length cx) (.string text)
          obtain ⟨W9, hW9⟩ : ∃ W, W = ((w6.setCell ⟨gx, 0, none⟩ (.int .i64 kind)).setCell ⟨gx, 1, none⟩ (.slice Ax nums.length cx)).setCell ⟨gx, 2, none⟩ (.string text) := ⟨_, rfl⟩
          rw [← hW9] at bx9 bk9 sr9 rx9 b9 ⊢
          have x0 : W9.cell? ⟨gx, 0, none⟩ = some (.int .i64 kind) := (blk_cell bx9 0).trans rfl
          have x1 : W9.cell? ⟨gx, 1, none⟩ = some (.slice Ax nums.length cx) := (blk_cell bx9 1).trans rfl
          have x2 : W9.cell? ⟨gx, 2, none⟩ = some (.string text) := (blk_cell bx9 2).trans rfl
          have e0 : W9.cell? ⟨gr, 0, none⟩ = some (.slice Av l.length cv) := (blk_cell bk9 0).trans rfl
          have e1 : W9.cell? ⟨gr, 1, none⟩ = some (.int .i64 (n : Int)) := (blk_cell bk9 1).trans rfl
          have e2 : W9.cell? ⟨gr, 2, none⟩ = some (.string left) := (blk_cell bk9 2).trans rfl
          have BK9 := Aside0.mk bk9
          have SR9 := Aside0.mk sr9
          have RX9 := Aside0.mk rx9
          have B9 := Aside0.mk b9
          have BX9 := Aside0.mk bx9
          clear bx9 bk9 sr9 rx9 b9 hW9 B6 BX6 BK6 SR6 RX6 hf0 hf1 hf2 hc0 hc1 hc2
          clear x0 x1 x2
          go_quiet (fail)
          go_wp2
          go_ret3
          refine ⟨l, n, false, _, ?_, rfl, Kd.S_mono (Kd.S_drewN SR9.out _) (fun _ _ => trivial), pw_below_drewN B9.out _⟩
          have hend := HS.out [] 0 false (.bad _ HW.out ?_)
          · rw [List.append_nil, Nat.add_zero] at hend; exact hend
          intro q hq hfr
          obtain ⟨hp1, hp2⟩ := frame_parts HW.out hq hfr
          rw [← HQ0.out] at hp1 hp2
          have f1 : tl X = (tl left).take (q0 + 2) := by rw [← HX.out, tl_ext, List.drop_zero]
          have f2 : tl (left.extract (q0 + 2) (q0 + 4)) = ((tl left).take (q0 + 4)).drop (q0 + 2) := tl_ext _ _ _
          have := HRT.out
          rw [f1, f2, hp2] at this
          simp at this
      | false =>
        go_wp2_with (first | ((with_reducible refine gate_dst (N := 10) rfl ?_); refine box_event ?hg (N := 10) ?hd (cs := #[.int .i64 0, .slice none 0 0, .string ⟨#[]⟩]) (t := 24) ?hr ?_; (case hd => rfl); (case hg => rfl); (case hr => first | (go_simp; done) | (go_simp; rfl)); intro gx hg w6 hbox hb; have GX := Aside0.mk (show w.heap.size ≤ gx by rw [hg]; exact B5.out.size); have BX6 := Aside0.mk hbox; have B6 := Aside0.mk (below_step B5.out hb); have BK6 := Aside0.mk (blk_below BK5.out hb); have SR6 := Aside0.mk (Kd.S_below (Kd.S_elderB SR5.out gx (by rw [hg]; exact Nat.le_refl _)) hb); have RX6 := Aside0.mk (Kd.R_below RX5.out hb); have hf0 := blk_frozen hbox 0; have hf1 := blk_frozen hbox 1; have hf2 := blk_frozen hbox 2; have hc0 : w6.cell? ⟨gx, 0, none⟩ = some (.int .i64 0) := (blk_cell hbox 0).trans rfl; have hc1 : w6.cell? ⟨gx, 1, none⟩ = some (.slice none 0 0) := (blk_cell hbox 1).trans rfl; have hc2 : w6.cell? ⟨gx, 2, none⟩ = some (.string ⟨#[]⟩) := (blk_cell hbox 2).trans rfl; clear hb hbox hg B5 BK5 SR5 RX5))
        obtain ⟨bx9, bk9, sr9, rx9, b9⟩ := storeX w w6 gr gx _ _ _ _ _ _ _ _ l nums _ B6.out GX.out BX6.out BK6.out SR6.out RX6.out (.int .i64 kind) (.slice Ax nums.length cx) (.string text)
        obtain ⟨W9, hW9⟩ : ∃ W, W = ((w6.setCell ⟨gx, 0, none⟩ (.int .i64 kind)).setCell ⟨gx, 1, none⟩ (.slice Ax nums.length cx)).setCell ⟨gx, 2, none⟩ (.string text) := ⟨_, rfl⟩
        rw [← hW9] at bx9 bk9 sr9 rx9 b9 ⊢
        have x0 : W9.cell? ⟨gx, 0, none⟩ = some (.int .i64 kind) := (blk_cell bx9 0).trans rfl
        have x1 : W9.cell? ⟨gx, 1, none⟩ = some (.slice Ax nums.length cx) := (blk_cell bx9 1).trans rfl
        have x2 : W9.cell? ⟨gx, 2, none⟩ = some (.string text) := (blk_cell bx9 2).trans rfl
        have e0 : W9.cell? ⟨gr, 0, none⟩ = some (.slice Av l.length cv) := (blk_cell bk9 0).trans rfl
        have e1 : W9.cell? ⟨gr, 1, none⟩ = some (.int .i64 (n : Int)) := (blk_cell bk9 1).trans rfl
        have e2 : W9.cell? ⟨gr, 2, none⟩ = some (.string left) := (blk_cell bk9 2).trans rfl
        have BK9 := Aside0.mk bk9
        have SR9 := Aside0.mk sr9
        have RX9 := Aside0.mk rx9
        have B9 := Aside0.mk b9
        have BX9 := Aside0.mk bx9
        clear bx9 bk9 sr9 rx9 b9 hW9 B6 BX6 BK6 SR6 RX6 hf0 hf1 hf2 hc0 hc1 hc2
        clear x0 x1 x2
        go_quiet (fail)
        go_wp2
        go_ret3
        refine ⟨l, n, false, _, ?_, rfl, Kd.S_mono (Kd.S_drewN SR9.out _) (fun _ _ => trivial), pw_below_drewN B9.out _⟩
        have hend := HS.out [] 0 false (.bad _ HW.out ?_)
        · rw [List.append_nil, Nat.add_zero] at hend; exact hend
        intro q hq hfr
        obtain ⟨hp1, hp2⟩ := frame_parts HW.out hq hfr
        rw [← HQ0.out] at hp1 hp2
        have f1 : tl X = (tl left).take (q0 + 2) := by rw [← HX.out, tl_ext, List.drop_zero]
        have f2 : tl (left.extract (q0 + 2) (q0 + 4)) = ((tl left).take (q0 + 4)).drop (q0 + 2) := tl_ext _ _ _
        refine HNO.out (by trivial) q hq ?_
        rw [tl_ext, List.take_of_length_le (by rw [tl_length]; exact Nat.le_refl _), f1]
        exact hp1.symm
    · have hend := HS.out [] 0 true (.stop _ hw)
      rw [List.append_nil, Nat.add_zero] at hend
      have HE := Aside0.mk hend
      have hnx : Aside0 (Calls Tryd.prog 29 #[.pointer (some ⟨gr, 0, none⟩)] wr fun e w' => e = .returned (.tuple #[.string ⟨#[]⟩, .bool false, .bool false]) ∧ Below wr.heap.size wr w') := by
        by_cases h2 : left.size < 2
        · exact ⟨next_none gr left wr hc2 h2⟩
        · refine ⟨next_short gr left wr hc2 (by omega) (by omega) ?_⟩
          have : ¬ (2 ≤ (tl left).length ∧ lenOf (tl left) + 4 ≤ (tl left).length) := hw
          rw [hll] at this; omega
      clear hend hlt hll
      go_wp2_with fail
      refine (hnx.out).mono ?_
      rintro e w4 ⟨rfl, b4⟩
      have B4 := Aside0.mk (below_step B3.out b4)
      have BK4 := Aside0.mk (blk_below BK3.out b4)
      have SR4 := Aside0.mk (Kd.S_below SR3.out b4)
      clear b4 B3 BK3 SR3 hc2
      have e0 : w4.cell? ⟨gr, 0, none⟩ = some (.slice Av l.length cv) := (blk_cell BK4.out 0).trans rfl
      have e1 : w4.cell? ⟨gr, 1, none⟩ = some (.int .i64 (n : Int)) := (blk_cell BK4.out 1).trans rfl
      go_wp2_with fail
      go_quiet (fail)
      go_wp2
      go_ret3
      exact ⟨l, n, true, _, HE.out, rfl, Kd.S_drewN SR4.out _, pw_below_drewN B4.out _⟩
/-- The same row, its elements by another name. -/
theorem S_isoR {α : Type} {d : Kd α} (f : α → Int × List Int × ByteArray) (g : Rec → α) (hd : d = Kd.iso d3 f) (hg : ∀ r, f (g r) = (r.kind, r.nums, r.text)) {e base : Nat} {w : World} {ok : Nat → Prop} {v : Value} {l : List Rec}
    (h : Kd.S kRec e w base ok v l) : Kd.S d e w base ok v (l.map g) := by
  subst hd
  obtain ⟨q, h0, inner, ho, hr⟩ := h
  have hz : (l.map g).zipIdx = l.zipIdx.map (fun p => (g p.1, p.2)) := by
    rw [List.zipIdx_map]; rfl
  refine ⟨q, h0, inner, ?_, ?_⟩
  · rw [hz, List.length_map]; exact ho
  · rw [hz]
    refine ⟨by rw [List.length_map]; exact hr.1, fun j p hp => ?_⟩
    rw [List.getElem?_map] at hp
    obtain ⟨p0, hp0, rfl⟩ := Option.map_eq_some_iff.1 hp
    have := hr.2 j p0 hp0
    show d3.M w base _ (f (g p0.1)) _
    rw [hg]
    exact this
theorem C_isoR {α : Type} {d : Kd α} (f : α → Int × List Int × ByteArray) (g : α → Rec) (hd : d = Kd.iso d3 f) (hg : ∀ x, f x = ((g x).kind, (g x).nums, (g x).text)) {w : World} {A : Option Addr} {n : Nat} {l : List α}
    (h : d.C w A n l) : kRec.C w A n (l.map g) := by
  subst hd
  obtain ⟨h1, h2, h3⟩ := h
  refine ⟨by rw [List.length_map]; exact h1, h2, fun hn => ?_⟩
  obtain ⟨ad, ha, hc⟩ := h3 hn
  refine ⟨ad, ha, fun j p hp => ?_⟩
  rw [List.getElem?_map] at hp
  obtain ⟨p0, hp0, rfl⟩ := Option.map_eq_some_iff.1 hp
  obtain ⟨c, hc1, hc2, hc3⟩ := hc j p0 hp0
  refine ⟨c, hc1, ?_, hc3⟩
  show d3.K w ((g p0).kind, (g p0).nums, (g p0).text) c
  rw [← hg]
  exact hc2
/-- What is scanned, as a function. -/
noncomputable def scanF (s : List UInt8) : List Rec × Nat × Bool :=
  have h := scan_total s.length s (Nat.le_refl _)
  (h.choose, h.choose_spec.choose, h.choose_spec.choose_spec.choose)
theorem scanF_spec (s : List UInt8) : Scan s (scanF s).1 (scanF s).2.1 (scanF s).2.2 := by
  have h := scan_total s.length s (Nat.le_refl _)
  exact h.choose_spec.choose_spec.choose_spec
theorem scanF_eq {s : List UInt8} {l n e} (h : Scan s l n e) : scanF s = (l, n, e) := by
  obtain ⟨h1, h2, h3⟩ := scan_det (scanF_spec s) h
  exact Prod.ext h1 (Prod.ext h2 h3)
end Go.Proofs.YthidhmfejnjdhaaDoor.FrameC
