/- A record that is read. -/
import Derived.Test.YthidhmfejnjdhaaDoorFrameE
import Derived.Test.YthidhmfejnjdhaaDoorFrameP
namespace Go.Proofs.YthidhmfejnjdhaaDoor.FrameR
open Go.RowKit Go.Proofs.YthidhmfejnjdhaaDoor.FrameP Go.Proofs.YthidhmfejnjdhaaDoor.FrameB Go.Proofs.YthidhmfejnjdhaaDoor.FrameS Go.Proofs.YthidhmfejnjdhaaDoor.FrameG Go.Proofs.YthidhmfejnjdhaaDoor.FrameSum Go.Proofs.YthidhmfejnjdhaaDoorW.PrintWords Go.Proofs.YthidhmfejnjdhaaDoorW.PrintLast Go.Proofs.YthidhmfejnjdhaaDoorW.PrintMore
set_option linter.unusedVariables false
set_option linter.unusedSimpArgs false
theorem info3 : (Tryd.prog.info? 3).map (fun i => (i.zero, i.size, i.bytes)) = some (some (.int .i64 0), 1, 8) := by kernel_rfl

theorem below_bytes (w : World) (e : TypeId) (s : ByteArray) : Below w.heap.size w (Lib.bytesWorld w e s) := by
  refine ⟨rfl, rfl, rfl, by rw [Lib.bytesWorld_size]; omega, fun k hk => Lib.bytesWorld_at_old w e s k hk⟩
theorem atoi_yes (s : ByteArray) (n : Int) (w : World) (hs : s.size ≤ 281474976710656) (h : readW s = .ok n) :
    Calls Tryd.prog 38 #[.string s] w fun e w' => e = .returned (.tuple #[.int .i64 n, .nilIface]) ∧ Below w.heap.size w w' := by
  refine (Tryd.strconv_Atoi_ok s (by omega) n h w).mono ?_
  rintro e w' ⟨rfl, rfl | ⟨t, rfl⟩⟩
  · exact ⟨rfl, Below.refl _ _⟩
  · exact ⟨rfl, below_bytes w _ t⟩
def AtoiNo (w : World) (e : Ending) (w' : World) : Prop := ∃ (i : Int) (p : Nat), e = .returned (.tuple #[.int .i64 i, .iface 88 (.pointer (some ⟨p, 0, none⟩))]) ∧ Below w.heap.size w w'
theorem atoi_no (s : ByteArray) (w : World) (hG : G w) (hs : s.size ≤ 281474976710656) (h : ∀ n, readW s ≠ .ok n) :
    Calls Tryd.prog 38 #[.string s] w (AtoiNo w) := by
  obtain ⟨_, ⟨t1, p1, h1⟩, ⟨t2, p2, h2⟩, _⟩ := hG
  cases hr : Lib.atoiAll s.data.toList
  · exact absurd hr (h _)
  · have hc : Calls Tryd.prog 38 #[.string s] w fun e w' => ∃ N, e = .returned (.tuple #[.int .i64 0, .iface 88 (.pointer (some ⟨N, 0, none⟩))]) ∧ w.heap.size ≤ N ∧ w'.heap[N]? = some (.cells #[.string ⟨#[65, 116, 111, 105]⟩, .string s, .iface t1 p1] 103 (0, 0)) ∧ Below w.heap.size w w' := Go.Proofs.Any.strconv_Atoi_syntax_var Tryd.laysC172 s hs hr t1 p1 w h1
    refine hc.mono ?_
    rintro e w' ⟨N, rfl, _, _, hb⟩
    exact ⟨0, N, rfl, hb⟩
  · refine (Tryd.strconv_Atoi_range_var s hs hr t2 p2 w h2).mono ?_
    rintro e w' ⟨N, rfl, _, _, hb⟩
    exact ⟨_, N, rfl, hb⟩
theorem clone_calls (s : ByteArray) (w : World) (hs : s.size ≤ 281474976710656) :
    Calls Tryd.prog 39 #[.string s] w fun e w' => e = .returned (.string s) ∧ Below w.heap.size w w' := by
  go_enter Tryd.func39, Tryd.ntmps39
  go_wp2_with (go_at_call 50; refine (Tryd.stringslite_Clone s _ hs).mono ?_; rintro e w' ⟨rfl, hb⟩)
  go_ret
  exact ⟨rfl, hb⟩
theorem cut_calls (b : ByteArray) (w : World) (hG : G w) (hs : b.size ≤ 70000) :
    Calls Tryd.prog 36 #[.string b, .string ⟨#[58]⟩] w fun e w' => (∃ x, e = .returned (.tuple #[.string (headB b), .string (textB b), .bool x])) ∧ Below w.heap.size w w' := by
  obtain ⟨m, hm⟩ := hG.m0
  refine (Tryd.strings_Cut b ⟨#[58]⟩ m w (by omega) hm).mono ?_
  rintro e w' ⟨rfl, n, rfl⟩
  exact ⟨⟨_, rfl⟩, pw_below_drewN (Below.refl _ _) n⟩
theorem split_calls (h : ByteArray) (w : World) (hG : G w) (hs : h.size ≤ 70000) :
    Calls Tryd.prog 37 #[.string h, .string ⟨#[32]⟩] w fun e w' => e = .returned (.slice (some ⟨w.heap.size, 0, none⟩) (wordsB h).length (wordsB h).length) ∧ w' = w.alloc (.cells ((wordsB h).map Value.string).toArray 9) := by
  obtain ⟨m, hm⟩ := hG.m0
  have := Tryd.strings_Split h sp m w (by omega) hm (by decide)
  rw [words_length]
  exact this

/-- What a record that is read comes to. -/
def RecPost (b : ByteArray) (w : World) (e : Ending) (w' : World) : Prop := ∃ (r : Rec) (ok : Bool) (v : Value), e = .returned (.tuple #[.agg #[.int .i64 r.kind, v, .string r.text], .bool ok]) ∧
  Kd.R (Kd.int .i64) 3 w' w.heap.size (fun _ => True) v r.nums ∧ Below w.heap.size w w' ∧ (ok = true → Right r ∧ bodyL r = tl b) ∧ (ok = false → ∀ q, Right q → bodyL q ≠ tl b)

theorem three (w w6 : World) (g0 : Nat) (x0 x1 x2 v : Value) (nums : List Int) (B : Below w.heap.size w w6) (GE : w.heap.size ≤ g0) (BK : w6.heap[g0]? = some (.cells #[x0, x1, x2] 24 (0, 0)))
    (R : Kd.R (Kd.int .i64) 3 w6 w.heap.size (fun _ => True) v nums) (a0 a1 a2 : Value) :
    (((w6.setCell ⟨g0, 0, none⟩ a0).setCell ⟨g0, 1, none⟩ a1).setCell ⟨g0, 2, none⟩ a2).heap[g0]? = some (.cells #[a0, a1, a2] 24 (0, 0)) ∧
    Below w.heap.size w (((w6.setCell ⟨g0, 0, none⟩ a0).setCell ⟨g0, 1, none⟩ a1).setCell ⟨g0, 2, none⟩ a2) ∧
    Kd.R (Kd.int .i64) 3 (((w6.setCell ⟨g0, 0, none⟩ a0).setCell ⟨g0, 1, none⟩ a1).setCell ⟨g0, 2, none⟩ a2) w.heap.size (fun _ => True) v nums := by
  have b1 := blk_set BK 0 a0
  have b2 := blk_set b1 1 a1
  have b3 := blk_set b2 2 a2
  exact ⟨b3, below_set (below_set (below_set B GE) GE) GE, Kd.R_set (Kd.R_set (Kd.R_set R BK (by decide) 0 _) b1 (by decide) 1 _) b2 (by decide) 2 _⟩
theorem Kd.R_C {α : Type} {d : Kd α} {e : Nat} {w : World} {base : Nat} {ok : Nat → Prop} {A : Option Addr} {c : Nat} {xs : List α} (h : d.R e w base ok (.slice A xs.length c) xs) : d.C w A xs.length xs := by
  obtain ⟨A', c', he, _, hc⟩ := Kd.R_reads h
  injection he with h1
  rw [h1]; exact hc
set_option maxHeartbeats 2000000 in
set_option maxRecDepth 20000 in
theorem record_calls (b : ByteArray) (w : World) (hG : G w) (hs : b.size ≤ 70000) :
    Calls Tryd.prog 30 #[.string b] w (RecPost b w) := by
  have hcs := cut_size b
  have hcn := count_size (headB b)
  have hwl := words_length (headB b)
  have HW := Aside0.mk (word_size (headB b))
  have HG := Aside0.mk hG
  have HB := Aside0.mk (Below.refl w.heap.size w)
  obtain ⟨hd, hhd⟩ : ∃ x, headB b = x := ⟨_, rfl⟩
  obtain ⟨tx, htx⟩ : ∃ x, textB b = x := ⟨_, rfl⟩
  obtain ⟨ws, hws⟩ : ∃ x, wordsB (headB b) = x := ⟨_, rfl⟩
  have HHD := Aside0.mk hhd
  have HTX := Aside0.mk htx
  have HWS := Aside0.mk hws
  rw [hws] at hwl HW
  rw [hhd] at hcs hcn hwl HW
  rw [htx] at hcs
  have hws1 : 0 < ws.length := by omega
  have hws2 : ws.length ≤ 70002 := by omega
  clear hG hhd htx hws hcn hwl
  go_enter Tryd.func30, Tryd.ntmps30
  go_wp2_with (first | ((with_reducible refine gate_dst (N := 2) rfl ?_); refine box_event ?hg (N := 2) ?hd (cs := #[.int .i64 0, .slice none 0 0, .string ⟨#[]⟩]) (t := 24) ?hr ?_; (case hd => rfl); (case hg => rfl); (case hr => first | (go_simp; done) | (go_simp; rfl)); intro g0 hg w2 hbox hb; have GE := Aside0.mk (show w.heap.size ≤ g0 by rw [hg]; exact Nat.le_refl _); have BK := Aside0.mk hbox; have B2 := Aside0.mk hb; clear hb hbox hg HB))
  refine (cut_calls b _ (HG.out.below B2.out) hs).mono ?_
  rintro e w3 ⟨⟨x3, rfl⟩, b3⟩
  rw [HHD.out, HTX.out]
  have B3 := Aside0.mk (below_step B2.out b3)
  have BK3 := Aside0.mk (blk_below BK.out b3)
  clear b3 B2 BK
  go_wp2_with fail
  refine (split_calls hd _ (HG.out.below B3.out) (by omega)).mono ?_
  rintro e w4 ⟨rfl, hw4⟩
  rw [← HHD.out, HWS.out]
  obtain ⟨g1, hg1⟩ : ∃ g, g = w3.heap.size := ⟨_, rfl⟩
  rw [← hg1]
  have B4 := Aside0.mk (show Below w.heap.size w w4 by rw [hw4]; exact below_alloc B3.out _)
  have BK4 := Aside0.mk (show w4.heap[g0]? = some (.cells #[.int .i64 0, .slice none 0 0, .string ⟨#[]⟩] 24 (0, 0)) by rw [hw4]; exact blk_alloc BK3.out _)
  have BW4 := Aside0.mk (show w4.heap[g1]? = some (.cells (ws.map Value.string).toArray 9 (0, 0)) by rw [hw4, hg1, ← HWS.out, HHD.out]; exact blk_new _ _)
  have GE1 := Aside0.mk (show w.heap.size ≤ g1 by rw [hg1]; exact B3.out.size)
  clear hw4 hg1 B3 BK3
  go_wp2_with fail
  go_loopw [7, 8, 9, 10, 20] (fun _ _ _ _ i W => ∃ (k : Nat) (ns : List Int) (kind : Int) (nums : List Int) (v : Value), k ≤ ws.length ∧ i = .int .i64 k ∧ Aside0 (Got (ws.take k) ns) ∧ Aside0 ((k = 0 → kind = 0 ∧ nums = [] ∧ ns = []) ∧ (0 < k → ns = kind :: nums)) ∧ Aside0 (W.heap[g0]? = some (.cells #[.int .i64 kind, v, .string ⟨#[]⟩] 24 (0, 0))) ∧ Aside0 (Kd.R (Kd.int .i64) 3 W w.heap.size (fun _ => True) v nums) ∧ Aside0 (Below w.heap.size w W) ∧ Aside0 (W.heap[g1]? = some (.cells (ws.map Value.string).toArray 9 (0, 0)))) (fun _ _ _ _ i _ => ws.length - (intOf i).toNat)
  case atStart => exact ⟨0, [], 0, [], .slice none 0 0, Nat.zero_le _, rfl, ⟨rfl⟩, ⟨⟨fun _ => ⟨rfl, rfl, rfl⟩, fun h => absurd h (Nat.lt_irrefl _)⟩⟩, BK4, ⟨Kd.R_nil _ _ _ _ _⟩, B4, BW4⟩
  case round =>
    clear BK4 B4 BW4
    obtain ⟨k, ns, kind, nums, v, hk, rfl, HGot, HNs, BK5, R5, B5, BW5⟩ := hrel
    obtain ⟨Av, cv, rfl⟩ := Kd.R_slice R5.out
    by_cases hlt : k < ws.length
    · have hcw : wr.cell? ⟨g1, k, none⟩ = some (.string ws[k]) := (blk_cell BW5.out k).trans (by simp [hlt])
      have hsz := HW.out ws[k] (List.getElem_mem hlt)
      have hnl : nums.length ≤ 70002 := by
        have := got_length HGot.out
        rw [List.length_take] at this
        by_cases h0 : k = 0
        · rw [(HNs.out.1 h0).2.1]; simp
        · have e := HNs.out.2 (by omega)
          rw [e, List.length_cons] at this; omega
      obtain ⟨x, hx⟩ : ∃ x, ws[k] = x := ⟨_, rfl⟩
      rw [hx] at hcw hsz
      have HX := Aside0.mk hx
      clear hx
      by_cases hok : ∃ n, readW x = .ok n
      · obtain ⟨n, hn⟩ := hok
        have HN := Aside0.mk hn
        have HGot2 := Aside0.mk (got_snoc hlt HGot.out (by rw [HX.out]; exact hn))
        clear hn
        go_wp2_with fail
        refine (atoi_yes x n _ (by omega) HN.out).mono ?_
        rintro e w6 ⟨rfl, b6⟩
        have B6 := Aside0.mk (below_step B5.out b6)
        have BK6 := Aside0.mk (blk_below BK5.out b6)
        have BW6 := Aside0.mk (blk_below BW5.out b6)
        have R6 := Aside0.mk (Kd.R_below R5.out b6)
        clear b6 B5 BK5 BW5 R5 hcw
        have hf0 := blk_frozen BK6.out 0
        have hf1 := blk_frozen BK6.out 1
        have hc0 : w6.cell? ⟨g0, 0, none⟩ = some (.int .i64 kind) := (blk_cell BK6.out 0).trans rfl
        have hc1 : w6.cell? ⟨g0, 1, none⟩ = some (.slice Av nums.length cv) := (blk_cell BK6.out 1).trans rfl
        by_cases h0 : k = 0
        · have hz : ((k : Int) == 0) = true := by rw [h0]; rfl
          have H0 := Aside0.mk h0
          clear h0
          go_wp2
          go_roundw
          case rel =>
            obtain ⟨e1, e2, e3⟩ := HNs.out.1 H0.out
            refine ⟨k + 1, ns ++ [n], n, nums, .slice Av nums.length cv, by omega, by go_num, HGot2, ⟨⟨fun h => by omega, fun _ => by rw [e2, e3]; rfl⟩⟩, ⟨?_⟩, ⟨Kd.R_set R6.out BK6.out (by decide) 0 _⟩, ⟨below_set B6.out GE.out⟩, ⟨?_⟩⟩
            · exact blk_set BK6.out 0 _
            · exact (Below.heap_setCell _ _ _ _ (fun e => absurd e (blk_ne BW6.out BK6.out (by decide)))).trans BW6.out
          case measure => simp [intOf]; omega
        · have hz : ((k : Int) == 0) = false := beq_eq_false_iff_ne.2 (by omega)
          have H0 := Aside0.mk h0
          clear h0
          go_wp2_with (first | ((with_reducible refine gate_builtin (b := .append) (xs := #[.tmp 31, .tmp 33]) rfl ?_); at_builtin; refine Kd.R_append (Kd.int .i64) (w0 := w) w.heap.size rfl (.tmp 31) (.tmp 33) 22 3 (.int .i64 0) 8 rfl Tryd.underlying22 info3 rfl (by decide) (by omega) _ nums n [.int .i64 n] (fun _ => True) (fun _ => False) rfl rfl ?aP (fun _ hk => hk.elim) ?aF ?aO ?aB ?aS ?aL ?_; (case aP => exact rfl); (case aB => exact B6.out); (case aF => exact (fun _ _ => trivial)); (case aO => exact R6.out); (case aS => exact B6.out.size); (case aL => omega); intro v7 w7 hR7 hB7 hg7 hat7; obtain ⟨A7, c7, rfl⟩ := Kd.R_slice hR7; rw [List.length_append, List.length_singleton] at hR7; have R7 := Aside0.mk hR7; have B7 := Aside0.mk hB7; have BK7 := Aside0.mk (blk_grown BK6.out hg7 (Kd.R_ne R6.out BK6.out (by decide))); have BW7 := Aside0.mk (blk_grown BW6.out hg7 (Kd.R_ne R6.out BW6.out (by decide))); clear hR7 hB7 hg7 hat7 B6 R6 BK6 BW6 hc0 hc1 hf0 hf1; have hf1 := blk_frozen BK7.out 1; have hc1 : w7.cell? ⟨g0, 1, none⟩ = some (.slice Av nums.length cv) := (blk_cell BK7.out 1).trans rfl))
          go_roundw
          case rel =>
            have e := HNs.out.2 (by have := H0.out; omega)
            refine ⟨k + 1, ns ++ [n], kind, nums ++ [n], .slice A7 (nums.length + 1) c7, by omega, by go_num, HGot2, ⟨⟨fun h => by omega, fun _ => by rw [e]; rfl⟩⟩, ⟨?_⟩, ⟨Kd.R_set R7.out BK7.out (by decide) 1 _⟩, ⟨below_set B7.out GE.out⟩, ⟨?_⟩⟩
            · exact blk_set BK7.out 1 _
            · exact (Below.heap_setCell _ _ _ _ (fun e => absurd e (blk_ne BW7.out BK7.out (by decide)))).trans BW7.out
          case measure => simp [intOf]; omega
      · have hno : ∀ n, readW x ≠ .ok n := fun n h => hok ⟨n, h⟩
        have HNO := Aside0.mk hno
        clear hno hok
        go_wp2_with fail
        refine (atoi_no x _ (HG.out.below B5.out) (by omega) HNO.out).mono ?_
        rintro e w6 ⟨i6, p6, rfl, b6⟩
        have B6 := Aside0.mk (below_step B5.out b6)
        have BK6 := Aside0.mk (blk_below BK5.out b6)
        have R6 := Aside0.mk (Kd.R_below R5.out b6)
        clear b6 B5 BK5 BW5 R5 hcw
        have hf0 := blk_frozen BK6.out 0
        have hf1 := blk_frozen BK6.out 1
        have hf2 := blk_frozen BK6.out 2
        have hc0 : w6.cell? ⟨g0, 0, none⟩ = some (.int .i64 kind) := (blk_cell BK6.out 0).trans rfl
        have hc1 : w6.cell? ⟨g0, 1, none⟩ = some (.slice Av nums.length cv) := (blk_cell BK6.out 1).trans rfl
        have hc2 : w6.cell? ⟨g0, 2, none⟩ = some (.string ⟨#[]⟩) := (blk_cell BK6.out 2).trans rfl
        go_wp2
        obtain ⟨K9, B9, R9⟩ := three w w6 g0 _ _ _ _ nums B6.out GE.out BK6.out R6.out (.int .i64 kind) (.slice Av nums.length cv) (.string ⟨#[]⟩)
        obtain ⟨W9, hW9⟩ : ∃ W, W = ((w6.setCell ⟨g0, 0, none⟩ (.int .i64 kind)).setCell ⟨g0, 1, none⟩ (.slice Av nums.length cv)).setCell ⟨g0, 2, none⟩ (.string ⟨#[]⟩) := ⟨_, rfl⟩
        rw [← hW9] at K9 B9 R9 ⊢
        have d0 : W9.cell? ⟨g0, 0, none⟩ = some (.int .i64 kind) := (blk_cell K9 0).trans rfl
        have d1 : W9.cell? ⟨g0, 1, none⟩ = some (.slice Av nums.length cv) := (blk_cell K9 1).trans rfl
        have d2 : W9.cell? ⟨g0, 2, none⟩ = some (.string ⟨#[]⟩) := (blk_cell K9 2).trans rfl
        clear hW9
        refine bodyPost_ret (v := .tuple #[.agg #[.int .i64 kind, .slice Av nums.length cv, .string ⟨#[]⟩], .bool false]) (by simp [results, Tryd.results30, go_sem, d0, d1, d2]) rfl ?_
        refine ⟨⟨kind, nums, ⟨#[]⟩⟩, false, _, rfl, R9, B9, (fun h => by cases h), fun _ q hq => ?_⟩
        have hlt' : k < (wordsB (headB b)).length := by rw [HWS.out]; exact hlt
        refine not_read hlt' (fun n => ?_) q hq
        have : (wordsB (headB b))[k] = ws[k] := by simp only [HWS.out]
        rw [this, HX.out]
        exact HNO.out n
    · have hfull : k = ws.length := by omega
      have hgot := HGot.out
      rw [List.take_of_length_le (by omega)] at hgot
      have hns := HNs.out.2 (by omega)
      rw [hns] at hgot
      have HGA := Aside0.mk hgot
      clear hgot hns hfull
      go_wp2_with fail
      refine (clone_calls tx _ (by omega)).mono ?_
      rintro e w6 ⟨rfl, b6⟩
      have B6 := Aside0.mk (below_step B5.out b6)
      have BK6 := Aside0.mk (blk_below BK5.out b6)
      have R6 := Aside0.mk (Kd.R_below R5.out b6)
      clear b6 B5 BK5 BW5 R5
      have hf2 := blk_frozen BK6.out 2
      have hc2 : w6.cell? ⟨g0, 2, none⟩ = some (.string ⟨#[]⟩) := (blk_cell BK6.out 2).trans rfl
      go_wp2_with fail
      obtain ⟨W7, hW7⟩ : ∃ W, W = w6.setCell ⟨g0, 2, none⟩ (.string tx) := ⟨_, rfl⟩
      have BK7 := Aside0.mk (blk_set BK6.out 2 (.string tx))
      have B7 := Aside0.mk (below_set (j := 2) (v := .string tx) B6.out GE.out)
      have R7 := Aside0.mk (Kd.R_set R6.out BK6.out (by decide) 2 (.string tx))
      rw [← hW7] at BK7 B7 R7 ⊢
      have BK7' : Aside0 (W7.heap[g0]? = some (.cells #[.int .i64 kind, .slice Av nums.length cv, .string tx] 24 (0, 0))) := ⟨BK7.out⟩
      clear BK7
      have BK7 := BK7'
      clear BK7'
      have d0 : W7.cell? ⟨g0, 0, none⟩ = some (.int .i64 kind) := (blk_cell BK7.out 0).trans rfl
      have d1 : W7.cell? ⟨g0, 1, none⟩ = some (.slice Av nums.length cv) := (blk_cell BK7.out 1).trans rfl
      have d2 : W7.cell? ⟨g0, 2, none⟩ = some (.string tx) := (blk_cell BK7.out 2).trans rfl
      clear hW7 B6 BK6 R6 hf2 hc2
      by_cases hrt : RightB ⟨kind, nums, tx⟩ = true
      · have HRT := Aside0.mk ((rightB_iff _).1 hrt)
        refine start_ (n := 11) (S := fun w' => w'.cell? ⟨g0, 0, none⟩ = some (.int .i64 kind) ∧ w'.cell? ⟨g0, 1, none⟩ = some (.slice Av nums.length cv) ∧ w'.cell? ⟨g0, 2, none⟩ = some (.string tx) ∧ w'.heap[g0]? = some (.cells #[.int .i64 kind, .slice Av nums.length cv, .string tx] 24 (0, 0)) ∧ Kd.R (Kd.int .i64) 3 w' w.heap.size (fun _ => True) (.slice Av nums.length cv) nums ∧ Below w.heap.size w w') (ds := [9]) #[false, false, false, false, false, false, false, false, false, false, false] (by kernel_rfl) rfl rfl ⟨d0, d1, d2, BK7.out, (Kd.R_drew R7.out), (below_drew1 B7.out)⟩ (fun hHeld => ?_)
        refine take_ (i := 0) (N := some 49) (v := ?_) (a' := ?_) #[true, false, false, false, false, false, false, false, false, false, false] rfl rfl (by kernel_rfl) (fun _ _ _ h => h) (Or.inl ⟨by rfl, ?_⟩) hHeld ?_ ?_
        rotate_left
        · rintro w' ⟨s0, s1, s2, s3, s4, s5⟩
          go_simp
          with_reducible rfl
        rotate_left
        · simp only [Act.put, List.setIfInBounds_toArray, List.set_cons_zero, List.set_cons_succ, i64_w, i32_w]
          rfl
        refine take_ (i := 1) (N := some 50) (v := ?_) (a' := ?_) #[true, true, false, false, false, false, false, false, false, false, false] rfl rfl (by kernel_rfl) (fun _ _ _ h => h) (Or.inl ⟨by rfl, ?_⟩) hHeld ?_ ?_
        rotate_left
        · rintro w' ⟨s0, s1, s2, s3, s4, s5⟩
          go_simp
          with_reducible rfl
        rotate_left
        · simp only [Act.put, List.setIfInBounds_toArray, List.set_cons_zero, List.set_cons_succ, i64_w, i32_w]
          rfl
        refine one_ (i := 2) (N := some 51) #[true, true, true, false, false, false, false, false, false, false, false] rfl rfl (by kernel_rfl) (by decide) (fun K hK => ?_)
        refine goes_ Tryd.func13 (by kernel_rfl) rfl #[.agg #[.int .i64 kind, .slice Av nums.length cv, .string tx]] (by rfl) rfl rfl (by simp only [List.map_toArray, List.map_cons, List.map_nil]; rfl) ?_
        with_reducible refine (right_calls Av cv ⟨kind, nums, tx⟩ _ (Kd.R_C hHeld.2.2.2.2.1)).mono ?_
        rintro e w8 ⟨rfl, b8⟩
        refine ⟨_, rfl, ?_⟩
        refine hK.out _ _ ⟨(b8.cell (p := ⟨g0, 0, none⟩) (World.block_lt_of_cell? _ _ hHeld.1)).trans hHeld.1, (b8.cell (p := ⟨g0, 1, none⟩) (World.block_lt_of_cell? _ _ hHeld.2.1)).trans hHeld.2.1, (b8.cell (p := ⟨g0, 2, none⟩) (World.block_lt_of_cell? _ _ hHeld.2.2.1)).trans hHeld.2.2.1, blk_below hHeld.2.2.2.1 b8, Kd.R_below hHeld.2.2.2.2.1 b8, below_step hHeld.2.2.2.2.2 b8⟩ (fun hHeld => ?_)
        clear hK K
        refine norm_ (a' := ?_) ?_ ?_
        rotate_left
        · show Act.put _ (some 51) _ = _
          simp only [Act.put, List.setIfInBounds_toArray, List.set_cons_zero, List.set_cons_succ, i64_w, i32_w]
          rfl
        refine pure_ (i := 3) (N := some 52) (v := ?_) (a' := ?_) #[true, true, true, true, false, false, false, false, false, false, false] rfl rfl (by kernel_rfl) (fun _ _ _ h => h) (Or.inl ⟨by rfl, ?_⟩) ?_ ?_
        rotate_left
        · intro w'
          go_simp
          with_reducible rfl
        rotate_left
        · simp only [Act.put, List.setIfInBounds_toArray, List.set_cons_zero, List.set_cons_succ, i64_w, i32_w]
          rfl
        refine pure_ (i := 6) (N := some 55) (v := ?_) (a' := ?_) #[true, true, true, true, false, false, true, false, false, false, false] rfl rfl (by kernel_rfl) (fun _ _ _ h => h) (Or.inl ⟨by rfl, ?_⟩) ?_ ?_
        rotate_left
        · intro w'
          go_simp
          with_reducible rfl
        rotate_left
        · simp only [Act.put, List.setIfInBounds_toArray, List.set_cons_zero, List.set_cons_succ, i64_w, i32_w]
          rfl
        refine take_ (i := 4) (N := some 53) (v := ?_) (a' := ?_) #[true, true, true, true, true, false, true, false, false, false, false] rfl rfl (by kernel_rfl) (fun _ _ _ h => h) (Or.inl ⟨by rfl, ?_⟩) hHeld ?_ ?_
        rotate_left
        · rintro w' ⟨s0, s1, s2, s3, s4, s5⟩
          go_simp
          with_reducible rfl
        rotate_left
        · simp only [Act.put, List.setIfInBounds_toArray, List.set_cons_zero, List.set_cons_succ, i64_w, i32_w]
          rfl
        refine one_ (i := 5) (N := some 54) #[true, true, true, true, true, true, true, false, false, false, false] rfl rfl (by kernel_rfl) (by decide) (fun K hK => ?_)
        refine goes_ Tryd.func21 (by kernel_rfl) rfl #[.agg #[.int .i64 kind, .slice Av nums.length cv, .string tx]] (by rfl) rfl rfl (by simp only [List.map_toArray, List.map_cons, List.map_nil]; rfl) ?_
        with_reducible refine (body_calls Av cv ⟨kind, nums, tx⟩ _ (HG.out.below hHeld.2.2.2.2.2) (Kd.R_C hHeld.2.2.2.2.1) HRT.out).mono ?_
        rintro e w10 ⟨rfl, b10⟩
        refine ⟨_, rfl, ?_⟩
        refine hK.out _ _ ⟨(b10.cell (p := ⟨g0, 0, none⟩) (World.block_lt_of_cell? _ _ hHeld.1)).trans hHeld.1, (b10.cell (p := ⟨g0, 1, none⟩) (World.block_lt_of_cell? _ _ hHeld.2.1)).trans hHeld.2.1, (b10.cell (p := ⟨g0, 2, none⟩) (World.block_lt_of_cell? _ _ hHeld.2.2.1)).trans hHeld.2.2.1, blk_below hHeld.2.2.2.1 b10, Kd.R_below hHeld.2.2.2.2.1 b10, below_step hHeld.2.2.2.2.2 b10⟩ (fun hHeld => ?_)
        clear hK K
        refine norm_ (a' := ?_) ?_ ?_
        rotate_left
        · show Act.put _ (some 54) _ = _
          simp only [Act.put, List.setIfInBounds_toArray, List.set_cons_zero, List.set_cons_succ, i64_w, i32_w]
          rfl
        refine pure_ (i := 7) (N := some 56) (v := ?_) (a' := ?_) #[true, true, true, true, true, true, true, true, false, false, false] rfl rfl (by kernel_rfl) (fun _ _ _ h => h) (Or.inl ⟨by rfl, ?_⟩) ?_ ?_
        rotate_left
        · intro w'
          go_simp
          with_reducible rfl
        rotate_left
        · simp only [Act.put, List.setIfInBounds_toArray, List.set_cons_zero, List.set_cons_succ, i64_w, i32_w]
          rfl
        refine pure_ (i := 8) (N := some 57) (v := ?_) (a' := ?_) #[true, true, true, true, true, true, true, true, true, false, false] rfl rfl (by kernel_rfl) (fun _ _ _ h => h) (Or.inl ⟨by rfl, ?_⟩) ?_ ?_
        rotate_left
        · intro w'
          go_simp
          with_reducible rfl
        rotate_left
        · simp only [Act.put, List.setIfInBounds_toArray, List.set_cons_zero, List.set_cons_succ, i64_w, i32_w]
          rfl
        refine last_ (i := 9) (N := none) #[true, true, true, true, true, true, true, true, true, true, false] rfl rfl (by kernel_rfl) (by decide) (fun K hK => ?_)
        have hg0 := blk_frozen hHeld.2.2.2.1 0
        have hg1 := blk_frozen hHeld.2.2.2.1 1
        have hg2 := blk_frozen hHeld.2.2.2.1 2
        have T9 := three w _ g0 _ _ _ _ nums hHeld.2.2.2.2.2 GE.out hHeld.2.2.2.1 hHeld.2.2.2.2.1 (.int .i64 kind) (.slice Av nums.length cv) (.string tx)
        have T9' := Aside0.mk T9
        clear T9
        refine skip_ (w1 := ?_) (by rfl) rfl ?_ ?_
        rotate_left
        · go_simp
          rfl
        refine hK.out _ _ ?_
        clear hK K
        refine pure_ (i := 10) (N := some 3) (v := ?_) (a' := ?_) #[true, true, true, true, true, true, true, true, true, true, true] rfl rfl (by kernel_rfl) (fun _ _ _ h => h) (Or.inl ⟨by rfl, ?_⟩) ?_ ?_
        rotate_left
        · intro w'
          go_simp
          with_reducible rfl
        rotate_left
        · simp only [Act.put, List.setIfInBounds_toArray, List.set_cons_zero, List.set_cons_succ, i64_w, i32_w]
          rfl
        refine done_ (by kernel_rfl) ?_

        go_wp2
        obtain ⟨K9, B9, R9⟩ := T9'.out
        generalize ((World.setCell _ ⟨g0, 0, none⟩ (.int .i64 kind)).setCell ⟨g0, 1, none⟩ (.slice Av nums.length cv)).setCell ⟨g0, 2, none⟩ (.string tx) = W9 at K9 B9 R9 ⊢
        have d0' : W9.cell? ⟨g0, 0, none⟩ = some (.int .i64 kind) := (blk_cell K9 0).trans rfl
        have d1' : W9.cell? ⟨g0, 1, none⟩ = some (.slice Av nums.length cv) := (blk_cell K9 1).trans rfl
        have d2' : W9.cell? ⟨g0, 2, none⟩ = some (.string tx) := (blk_cell K9 2).trans rfl
        have HGA' : Got (wordsB (headB b)) (kind :: nums) := by rw [HWS.out]; exact HGA.out
        refine bodyPost_ret (v := .tuple #[.agg #[.int .i64 kind, .slice Av nums.length cv, .string tx], .bool (bodyL ⟨kind, nums, tx⟩ == tl b)]) (by simp [results, Tryd.results30, go_sem, d0', d1', d2', toList_data, tl]) rfl ?_
        refine ⟨⟨kind, nums, tx⟩, (bodyL ⟨kind, nums, tx⟩ == tl b), _, rfl, R9, B9, ?_, ?_⟩
        · intro h
          have hb : bodyL ⟨kind, nums, tx⟩ = tl b := by simpa using h
          exact ⟨HRT.out, hb⟩
        · intro h q hq hb
          have := all_read HGA' q hq hb
          rw [HTX.out] at this
          rw [this] at hb
          rw [hb] at h
          simp at h
      · have hrf : RightB ⟨kind, nums, tx⟩ = false := by simpa using hrt
        clear hrt
        refine start_ (n := 11) (S := fun w' => w'.cell? ⟨g0, 0, none⟩ = some (.int .i64 kind) ∧ w'.cell? ⟨g0, 1, none⟩ = some (.slice Av nums.length cv) ∧ w'.cell? ⟨g0, 2, none⟩ = some (.string tx) ∧ w'.heap[g0]? = some (.cells #[.int .i64 kind, .slice Av nums.length cv, .string tx] 24 (0, 0)) ∧ Kd.R (Kd.int .i64) 3 w' w.heap.size (fun _ => True) (.slice Av nums.length cv) nums ∧ Below w.heap.size w w') (ds := [9]) #[false, false, false, false, false, false, false, false, false, false, false] (by kernel_rfl) rfl rfl ⟨d0, d1, d2, BK7.out, (Kd.R_drew R7.out), (below_drew1 B7.out)⟩ (fun hHeld => ?_)
        refine take_ (i := 0) (N := some 49) (v := ?_) (a' := ?_) #[true, false, false, false, false, false, false, false, false, false, false] rfl rfl (by kernel_rfl) (fun _ _ _ h => h) (Or.inl ⟨by rfl, ?_⟩) hHeld ?_ ?_
        rotate_left
        · rintro w' ⟨s0, s1, s2, s3, s4, s5⟩
          go_simp
          with_reducible rfl
        rotate_left
        · simp only [Act.put, List.setIfInBounds_toArray, List.set_cons_zero, List.set_cons_succ, i64_w, i32_w]
          rfl
        refine take_ (i := 1) (N := some 50) (v := ?_) (a' := ?_) #[true, true, false, false, false, false, false, false, false, false, false] rfl rfl (by kernel_rfl) (fun _ _ _ h => h) (Or.inl ⟨by rfl, ?_⟩) hHeld ?_ ?_
        rotate_left
        · rintro w' ⟨s0, s1, s2, s3, s4, s5⟩
          go_simp
          with_reducible rfl
        rotate_left
        · simp only [Act.put, List.setIfInBounds_toArray, List.set_cons_zero, List.set_cons_succ, i64_w, i32_w]
          rfl
        refine one_ (i := 2) (N := some 51) #[true, true, true, false, false, false, false, false, false, false, false] rfl rfl (by kernel_rfl) (by decide) (fun K hK => ?_)
        refine goes_ Tryd.func13 (by kernel_rfl) rfl #[.agg #[.int .i64 kind, .slice Av nums.length cv, .string tx]] (by rfl) rfl rfl (by simp only [List.map_toArray, List.map_cons, List.map_nil]; rfl) ?_
        with_reducible refine (right_calls Av cv ⟨kind, nums, tx⟩ _ (Kd.R_C hHeld.2.2.2.2.1)).mono ?_
        rintro e w8 ⟨rfl, b8⟩
        refine ⟨_, rfl, ?_⟩
        refine hK.out _ _ ⟨(b8.cell (p := ⟨g0, 0, none⟩) (World.block_lt_of_cell? _ _ hHeld.1)).trans hHeld.1, (b8.cell (p := ⟨g0, 1, none⟩) (World.block_lt_of_cell? _ _ hHeld.2.1)).trans hHeld.2.1, (b8.cell (p := ⟨g0, 2, none⟩) (World.block_lt_of_cell? _ _ hHeld.2.2.1)).trans hHeld.2.2.1, blk_below hHeld.2.2.2.1 b8, Kd.R_below hHeld.2.2.2.2.1 b8, below_step hHeld.2.2.2.2.2 b8⟩ (fun hHeld => ?_)
        clear hK K
        refine norm_ (a' := ?_) ?_ ?_
        rotate_left
        · show Act.put _ (some 51) _ = _
          simp only [Act.put, List.setIfInBounds_toArray, List.set_cons_zero, List.set_cons_succ, i64_w, i32_w]
          rfl
        refine pure_ (i := 3) (N := some 52) (v := ?_) (a' := ?_) #[true, true, true, true, false, false, false, false, false, false, false] rfl rfl (by kernel_rfl) (fun _ _ _ h => h) (Or.inl ⟨by rfl, ?_⟩) ?_ ?_
        rotate_left
        · intro w'
          go_simp
          with_reducible rfl
        rotate_left
        · simp only [Act.put, List.setIfInBounds_toArray, List.set_cons_zero, List.set_cons_succ, i64_w, i32_w]
          rfl
        refine pure_ (i := 4) (N := some 53) (v := undef) (a' := ?_) #[true, true, true, true, true, false, false, false, false, false, false] rfl rfl (by kernel_rfl) (fun _ _ _ h => h) (Or.inr ⟨by rfl, rfl⟩) ?_ ?_
        rotate_left
        · simp only [Act.put, List.setIfInBounds_toArray, List.set_cons_zero, List.set_cons_succ, i64_w, i32_w]
          rfl
        refine pure_ (i := 5) (N := some 54) (v := undef) (a' := ?_) #[true, true, true, true, true, true, false, false, false, false, false] rfl rfl (by kernel_rfl) (fun _ _ _ h => h) (Or.inr ⟨by rfl, rfl⟩) ?_ ?_
        rotate_left
        · simp only [Act.put, List.setIfInBounds_toArray, List.set_cons_zero, List.set_cons_succ, i64_w, i32_w]
          rfl
        refine pure_ (i := 6) (N := some 55) (v := undef) (a' := ?_) #[true, true, true, true, true, true, true, false, false, false, false] rfl rfl (by kernel_rfl) (fun _ _ _ h => h) (Or.inr ⟨by rfl, rfl⟩) ?_ ?_
        rotate_left
        · simp only [Act.put, List.setIfInBounds_toArray, List.set_cons_zero, List.set_cons_succ, i64_w, i32_w]
          rfl
        refine pure_ (i := 7) (N := some 56) (v := undef) (a' := ?_) #[true, true, true, true, true, true, true, true, false, false, false] rfl rfl (by kernel_rfl) (fun _ _ _ h => h) (Or.inr ⟨by rfl, rfl⟩) ?_ ?_
        rotate_left
        · simp only [Act.put, List.setIfInBounds_toArray, List.set_cons_zero, List.set_cons_succ, i64_w, i32_w]
          rfl
        refine pure_ (i := 8) (N := some 57) (v := ?_) (a' := ?_) #[true, true, true, true, true, true, true, true, true, false, false] rfl rfl (by kernel_rfl) (fun _ _ _ h => h) (Or.inl ⟨by rfl, ?_⟩) ?_ ?_
        rotate_left
        · intro w'
          go_simp
          with_reducible rfl
        rotate_left
        · simp only [Act.put, List.setIfInBounds_toArray, List.set_cons_zero, List.set_cons_succ, i64_w, i32_w]
          rfl
        refine last_ (i := 9) (N := none) #[true, true, true, true, true, true, true, true, true, true, false] rfl rfl (by kernel_rfl) (by decide) (fun K hK => ?_)
        have hg0 := blk_frozen hHeld.2.2.2.1 0
        have hg1 := blk_frozen hHeld.2.2.2.1 1
        have hg2 := blk_frozen hHeld.2.2.2.1 2
        have T9 := three w _ g0 _ _ _ _ nums hHeld.2.2.2.2.2 GE.out hHeld.2.2.2.1 hHeld.2.2.2.2.1 (.int .i64 kind) (.slice Av nums.length cv) (.string tx)
        have T9' := Aside0.mk T9
        clear T9
        refine skip_ (w1 := ?_) (by rfl) rfl ?_ ?_
        rotate_left
        · go_simp
          rfl
        refine hK.out _ _ ?_
        clear hK K
        refine pure_ (i := 10) (N := some 3) (v := ?_) (a' := ?_) #[true, true, true, true, true, true, true, true, true, true, true] rfl rfl (by kernel_rfl) (fun _ _ _ h => h) (Or.inl ⟨by rfl, ?_⟩) ?_ ?_
        rotate_left
        · intro w'
          go_simp
          with_reducible rfl
        rotate_left
        · simp only [Act.put, List.setIfInBounds_toArray, List.set_cons_zero, List.set_cons_succ, i64_w, i32_w]
          rfl
        refine done_ (by kernel_rfl) ?_

        go_wp2
        obtain ⟨K9, B9, R9⟩ := T9'.out
        generalize ((World.setCell _ ⟨g0, 0, none⟩ (.int .i64 kind)).setCell ⟨g0, 1, none⟩ (.slice Av nums.length cv)).setCell ⟨g0, 2, none⟩ (.string tx) = W9 at K9 B9 R9 ⊢
        have d0' : W9.cell? ⟨g0, 0, none⟩ = some (.int .i64 kind) := (blk_cell K9 0).trans rfl
        have d1' : W9.cell? ⟨g0, 1, none⟩ = some (.slice Av nums.length cv) := (blk_cell K9 1).trans rfl
        have d2' : W9.cell? ⟨g0, 2, none⟩ = some (.string tx) := (blk_cell K9 2).trans rfl
        have HGA' : Got (wordsB (headB b)) (kind :: nums) := by rw [HWS.out]; exact HGA.out
        refine bodyPost_ret (v := .tuple #[.agg #[.int .i64 kind, .slice Av nums.length cv, .string tx], .bool false]) (by simp [results, Tryd.results30, go_sem, d0', d1', d2', toList_data, tl]) rfl ?_
        refine ⟨⟨kind, nums, tx⟩, false, _, rfl, R9, B9, ?_, ?_⟩
        · intro h; cases h
        · intro h q hq hb
          have := all_read HGA' q hq hb
          rw [HTX.out] at this
          rw [this] at hq
          rw [(rightB_iff _).2 hq] at hrf
          cases hrf
end Go.Proofs.YthidhmfejnjdhaaDoor.FrameR
