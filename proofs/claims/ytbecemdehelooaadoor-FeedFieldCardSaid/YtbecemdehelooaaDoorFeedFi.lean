/- FeedField's walk, by hand. -/
import Derived.Test.YtbecemdehelooaaDoorFeedFp
import Derived.Test.YtbecemdehelooaaDoorFeedU
import Derived.Deep.DeepCutAuto
namespace Go.Proofs.YtbecemdehelooaaDoor.FeedFi
open Go.RowKit Go.Proofs.YtbecemdehelooaaDoor.FrameS Go.Proofs.YtbecemdehelooaaDoor.FeedG Go.Proofs.YtbecemdehelooaaDoor.FeedD Go.Proofs.YtbecemdehelooaaDoor.FeedN Go.Proofs.YtbecemdehelooaaDoor.FeedW Go.Proofs.YtbecemdehelooaaDoor.FeedE Go.Proofs.YtbecemdehelooaaDoor.FeedDe Go.Proofs.YtbecemdehelooaaDoor.FeedDh Go.Proofs.YtbecemdehelooaaDoor.FeedPm Go.Proofs.YtbecemdehelooaaDoor.FeedLi Go.Proofs.YtbecemdehelooaaDoor.FeedAw Go.Proofs.YtbecemdehelooaaDoor.FeedU Go.Proofs.YtbecemdehelooaaDoor.FeedP Go.Proofs.YtbecemdehelooaaDoor.FeedR Go.Proofs.YtbecemdehelooaaDoor.FeedRn Go.Proofs.YtbecemdehelooaaDoor.FeedRe Go.Proofs.YtbecemdehelooaaDoor.FeedFp Go.Proofs.YtbecemdehelooaaDoorW.PrintWords Go.Proofs.YtbecemdehelooaaDoorW.PrintLast Go.Proofs.YtbecemdehelooaaDoorW.PrintMore
attribute [local go_sem] max2_int min2_int max_two min_two
attribute [local go_sem high] eqA24
set_option linter.unusedVariables false
set_option linter.unusedSimpArgs false
theorem badN_at (k : Nat) (h : k < 6) : (#[.string ⟨#[]⟩, .string ⟨#[65]⟩, .string ⟨#[57, 97]⟩, .string ⟨#[105, 102]⟩, .string ⟨#[97, 98, 99, 100, 101, 102, 103, 104, 105, 106, 107, 108, 109]⟩, .string ⟨#[97, 46, 98]⟩] : Array Value)[k]? = some (.string (badN k)) := by
  match k, h with
  | 0, _ => rfl
  | 1, _ => rfl
  | 2, _ => rfl
  | 3, _ => rfl
  | 4, _ => rfl
  | 5, _ => rfl
theorem row5 {W : World} {base g cap : Nat} {xs : List Value} (h : W.ownsRow base 9 1 (.slice (some ⟨g, 0, none⟩) 5 cap) 5 xs) : base ≤ g ∧ ∃ cur, W.heap[g]? = some (.cells cur 9 (0, 0)) ∧ 5 ≤ cur.size ∧ ∀ i, i < 5 → cur[i]? = xs[i]? := by
  obtain ⟨-, ⟨h1, h2⟩ | ⟨g', cap', cur, h1, h2, h3, h4, h5, h6, h7⟩⟩ := h
  · omega
  · injection h1 with e1 e2 e3
    injection e1 with e1
    injection e1 with e1
    subst e1
    refine ⟨h2, cur, h3, by omega, fun i hi => ?_⟩
    rw [← h7, List.getElem?_take, if_pos (by omega), Array.getElem?_toList]
theorem nth_set (l : List ByteArray) (k i : Nat) (x : ByteArray) (hi : i < l.length) : nth (l.set k x) i = if k = i then x else nth l i := by
  unfold nth
  rw [List.getD_eq_getElem?_getD, List.getD_eq_getElem?_getD, List.getElem?_set]
  by_cases e : k = i
  · subst e; simp [hi]
  · simp [e]
theorem five_at (a b c d e : ByteArray) (i : Nat) (hi : i < 5) : ([.string a, .string b, .string c, .string d, .string e] : List Value)[i]? = some (.string (nth [a, b, c, d, e] i)) := by
  match i, hi with
  | 0, _ => rfl
  | 1, _ => rfl
  | 2, _ => rfl
  | 3, _ => rfl
  | 4, _ => rfl
theorem five_arr (a b c d e : ByteArray) (i : Nat) (hi : i < 5) : (#[.string a, .string b, .string c, .string d, .string e] : Array Value)[i]? = some (.string (nth [a, b, c, d, e] i)) := by
  match i, hi with
  | 0, _ => rfl
  | 1, _ => rfl
  | 2, _ => rfl
  | 3, _ => rfl
  | 4, _ => rfl
theorem nth_small {a b c d e : ByteArray} {m : Nat} (ha : a.size ≤ m) (hb : b.size ≤ m) (hc : c.size ≤ m) (hd : d.size ≤ m) (he : e.size ≤ m) (i : Nat) : (nth [a, b, c, d, e] i).size ≤ m := by
  match i with
  | 0 => exact ha
  | 1 => exact hb
  | 2 => exact hc
  | 3 => exact hd
  | 4 => exact he
  | i + 5 => exact Nat.zero_le _
theorem info_str : ∃ i, Tryd.prog.info? 9 = some i ∧ i.zero = some (.string ⟨#[]⟩) ∧ i.size = 1 ∧ i.bytes = 16 := by
  have h : (Tryd.prog.info? 9).map (fun i => (i.zero, i.size, i.bytes)) = some (some (.string ⟨#[]⟩), 1, 16) := by kernel_rfl
  obtain ⟨i, h1, h2⟩ := Option.map_eq_some_iff.1 h
  injection h2 with a b
  injection b with b c
  exact ⟨i, h1, a, b, c⟩
theorem badC_at (k : Nat) (h : k < 6) : (#[.string ⟨#[48]⟩, .string ⟨#[]⟩, .string ⟨#[45, 49]⟩, .string ⟨#[48, 55]⟩, .string ⟨#[49, 48, 48, 48, 48, 48, 48, 48, 48, 48, 48, 48, 49]⟩, .string ⟨#[49, 46, 53]⟩] : Array Value)[k]? = some (.string (badC k)) := by
  match k, h with
  | 0, _ => rfl
  | 1, _ => rfl
  | 2, _ => rfl
  | 3, _ => rfl
  | 4, _ => rfl
  | 5, _ => rfl
theorem badP_at (k : Nat) (h : k < 6) : (#[.string ⟨#[48, 46, 48, 48]⟩, .string ⟨#[]⟩, .string ⟨#[45, 49, 46, 48, 48]⟩, .string ⟨#[49]⟩, .string ⟨#[71, 111, 110, 101]⟩, .string ⟨#[49, 48, 48, 48, 48, 48, 48, 48, 48, 48, 48, 46, 48, 49]⟩] : Array Value)[k]? = some (.string (badP k)) := by
  match k, h with
  | 0, _ => rfl
  | 1, _ => rfl
  | 2, _ => rfl
  | 3, _ => rfl
  | 4, _ => rfl
  | 5, _ => rfl
def tF.T : Bool × List (List Nat × List Nat) := (true, [([], []), ([], []), ([], []), ([2], [2]), ([1, 3], [1, 3]), ([4], [4]), ([], []), ([], []), ([], []), ([], []), ([9, 3], [9]), ([8, 10], [8, 10]), ([11], [11]), ([0, 5, 6, 7, 12], [0, 5, 6, 7, 12]), ([13, 10, 0, 1, 2, 3, 4, 5, 6, 7, 8, 9, 10, 11, 12, 13], [13])])
def tF.B : List Nat := [0, 0, 0, 4, 14, 30, 0, 0, 0, 0, 524, 1804, 3852, 8191, 16383]
theorem tF.tab : rtab .any (opsOf Tryd.f5 14) = tF.T := by kernel_rfl
theorem tF.bits : waitsOk tF.T.2 tF.B = true := by kernel_rfl
set_option maxHeartbeats 4000000 in
set_option maxRecDepth 100000 in
theorem field_walk (a0 a1 a2 a3 a4 which what : Int) (w : World) (hG : G w) (h0 : In64 a0) (h1 : In64 a1) (h2 : In64 a2) (h3 : In64 a3) (h4 : In64 a4) (h5 : In64 which) (h6 : In64 what) :
    Calls Tryd.prog 5 #[.agg #[.int .i64 a0, .int .i64 a1, .int .i64 a2, .int .i64 a3, .int .i64 a4], .int .i64 which, .int .i64 what] w fun e w' => e = .returned (.bool true) ∧ Below w.heap.size w w' := by
  have hx := lineOf_ok a0 a1 a2 a3 a4 h3
  have LA := Aside0.mk (fun w0 => line_calls a0 a1 a2 a3 a4 w0 h0 h1 h2 h3 h4)
  generalize lineOf a0 a1 a2 a3 a4 = x at hx LA
  have hsz := line_short hx
  have HLW := Aside0.mk (fun k j hk hj => field_law hx k j hk hj)
  obtain ⟨hn0, hn1, hn2, hq1, hq2, hq3, hq4⟩ := ok_parts hx
  have HFW := Aside0.mk (fl_words hx)
  obtain ⟨so, n, sk, se, p⟩ := x
  simp only at hn0 hn1 hn2 hq1 hq2 hq3 hq4
  have HX := Aside0.mk hx
  have HG := Aside0.mk hG
  have HNM := Aside0.mk (And.intro hn0 (And.intro hn1 hn2))
  have HP0 := Aside0.mk (And.intro hq3 hq4)
  obtain ⟨K, hK, hKl⟩ := pk_nat which 5 (by omega)
  obtain ⟨J, hJ, hJl⟩ := pk_nat what 6 (by omega)
  have PK := Aside0.mk (fun w0 => pick_calls which 5 w0 h5 (by decide) (by decide))
  have PJ := Aside0.mk (fun w0 => pick_calls what 6 w0 h6 (by decide) (by decide))
  rw [show pk which 5 = (K : Int) from hK] at PK
  rw [show pk what 6 = (J : Int) from hJ] at PJ
  have HSZ := Aside0.mk hsz
  clear hx hsz hG h0 h1 h2 h3 h4 h5 h6 hK hJ hn0 hn1 hn2 hq1 hq2 hq3 hq4
  go_enter Tryd.func5, Tryd.ntmps5
  go_wp2_with fail
  obtain ⟨W, hW⟩ : ∃ W, (w.alloc (.cells #[.int .i64 a0, .int .i64 a1, .int .i64 a2, .int .i64 a3, .int .i64 a4] 22)) = W := ⟨_, rfl⟩
  have KA := Aside0.mk (show W.heap[w.heap.size]? = some (.cells #[.int .i64 a0, .int .i64 a1, .int .i64 a2, .int .i64 a3, .int .i64 a4] 22 (0, 0)) by rw [← hW]; exact blk_new w _)
  have BB := Aside0.mk (show Below w.heap.size w W by rw [← hW]; exact below_alloc (Below.refl _ _) _)
  rw [hW]
  clear hW
  obtain ⟨ga, hga⟩ : ∃ g, g = w.heap.size := ⟨_, rfl⟩
  rw [← hga] at KA ⊢
  clear hga
  refine (awake_calls _ (HG.out.below BB.out)).mono ?_
  rintro e w1 ⟨rfl, b⟩
  have KA1 := Aside0.mk (blk_below KA.out b)
  have B1 := Aside0.mk (below_step BB.out b)
  clear b KA BB
  have c0 : w1.cell? ⟨ga, 0, none⟩ = some (.int .i64 a0) := (blk_cell KA1.out 0).trans rfl
  have c1 : w1.cell? ⟨ga, 1, none⟩ = some (.int .i64 a1) := (blk_cell KA1.out 1).trans rfl
  have c2 : w1.cell? ⟨ga, 2, none⟩ = some (.int .i64 a2) := (blk_cell KA1.out 2).trans rfl
  have c3 : w1.cell? ⟨ga, 3, none⟩ = some (.int .i64 a3) := (blk_cell KA1.out 3).trans rfl
  have c4 : w1.cell? ⟨ga, 4, none⟩ = some (.int .i64 a4) := (blk_cell KA1.out 4).trans rfl
  go_wp2_with fail
  refine (LA.out _).mono ?_
  rintro e w2 ⟨rfl, b⟩
  simp only [Ln.val, feedV]
  have B2 := Aside0.mk (below_step B1.out b)
  clear b c0 c1 c2 c3 c4 KA1 B1 LA
  obtain ⟨gx, hgx⟩ : ∃ g, w2.heap.size = g := ⟨_, rfl⟩
  obtain ⟨W3, hW3⟩ : ∃ W, w2.alloc (.cells #[.string so, .int .i64 n, .string sk, .string se, .int .i64 p] 24) = W := ⟨_, rfl⟩
  have KX := Aside0.mk (show W3.heap[gx]? = some (.cells #[.string so, .int .i64 n, .string sk, .string se, .int .i64 p] 24 (0, 0)) by rw [← hW3, ← hgx]; exact blk_new w2 _)
  have B3 := Aside0.mk (show Below w.heap.size w W3 by rw [← hW3]; exact below_alloc B2.out _)
  have HGX := Aside0.mk hgx
  have HW3 := Aside0.mk hW3
  clear hgx hW3
  have HPP := Aside0.mk (fun (hp : 0 < p) => line_last (x := ⟨so, n, sk, se, p⟩) HX.out hp)
  obtain ⟨P, hP⟩ : ∃ P, priceT p = P := ⟨_, rfl⟩
  have HPT := Aside0.mk hP
  go_upto_if 35 with (fail)
  rw [HGX.out, HW3.out]
  clear hP
  go_cut [9] (fun s9 wx => s9 = .string P ∧ Aside0 (wx.heap[gx]? = some (.cells #[.string so, .int .i64 n, .string sk, .string se, .int .i64 p] 24 (0, 0))) ∧ Aside0 (Below w.heap.size w wx))
  case first =>
    by_cases hp : 0 < p
    · have dp : decide (0 < p) = true := decide_eq_true hp
      obtain ⟨M, A, hL⟩ := HPP.out hp
      simp only [HPT.out] at hL
      obtain ⟨T, hT⟩ : ∃ T : ByteArray, (⟨(lineL so sk se n p).toArray⟩ : ByteArray) = T := ⟨_, rfl⟩
      have hLL : Last T P M A := by rw [← hT]; exact hL
      have HT := Aside0.mk hT
      have HL := Aside0.mk hLL
      have y0 : W3.cell? ⟨gx, 0, none⟩ = some (.string so) := (blk_cell KX.out 0).trans rfl
      have y1 : W3.cell? ⟨gx, 1, none⟩ = some (.int .i64 n) := (blk_cell KX.out 1).trans rfl
      have y2 : W3.cell? ⟨gx, 2, none⟩ = some (.string sk) := (blk_cell KX.out 2).trans rfl
      have y3 : W3.cell? ⟨gx, 3, none⟩ = some (.string se) := (blk_cell KX.out 3).trans rfl
      have y4 : W3.cell? ⟨gx, 4, none⟩ = some (.int .i64 p) := (blk_cell KX.out 4).trans rfl
      have hM9 := hLL.few
      have hTM := hLL.size
      have hM1 : 0 < M := by have := hLL.len; have := hLL.pos; omega
      have hTMi : (T.size : Int) = (M : Int) + 1 := by omega
      clear hL hT hLL
      go_wp2_with fail
      refine (refencode_calls so sk se n p _).mono ?_
      rintro e w4 ⟨rfl, b⟩
      rw [if_pos (show rightF so sk se n p = true from HX.out), HT.out]
      have K4 := Aside0.mk (blk_below KX.out b)
      have B4 := Aside0.mk (below_step B3.out b)
      clear b y0 y1 y2 y3 y4
      go_wp2_with fail
      clear hTMi
      go_loopw [9, 12] (fun s9 s12 wx => ∃ m q : Nat, q + m = M ∧ m ≤ P.size ∧ s9 = .string (T.extract (M + 1 - max m 1) (M + 1)) ∧ s12 = .int .i64 (q : Int) ∧ w4 = wx) (fun _ s12 _ => (intOf s12 + 1).toNat)
      case atStart => exact ⟨0, M, by omega, by omega, by rw [show M + 1 - max 0 1 = M by omega], rfl, rfl⟩
      case round =>
        obtain ⟨m, q, hqm, hmp, rfl, rfl, rfl⟩ := hrel
        have HLN := Aside0.mk HL.out.len
        by_cases hlt : m < P.size
        · obtain ⟨q', rfl⟩ : ∃ q', q = q' + 1 := ⟨q - 1, by have := HLN.out; omega⟩
          have hqT : q' + 1 < T.size := by omega
          obtain ⟨c, hc⟩ : ∃ c, T[q' + 1]'hqT = c := ⟨_, rfl⟩
          have hsc : ∀ h : q' + 1 < T.size, T[q' + 1]'h = c := fun h => hc
          have hne : c ≠ 32 := by rw [← hc]; exact HL.out.word (q' + 1) (by have := HLN.out; omega) hqT
          have hnn : c.toNat ≠ 32 := fun e => hne (UInt8.toNat_inj.1 e)
          have b1 : ((c.toNat : Int) != 32) = true := bne_iff_ne.2 (by omega)
          have hqi : ((q' + 1 : Nat) : Int) < (M : Int) + 1 := by omega
          have HQM := Aside0.mk hqm
          have HLT := Aside0.mk hlt
          clear hne hc hnn hqm hlt
          go_wp2_with fail
          go_roundw
          case rel => exact ⟨m + 1, q', by have := HQM.out; omega, by have := HLT.out; omega, by rw [show M + 1 - max (m + 1) 1 = q' + 1 by have := HQM.out; omega], by first | rfl | (push_cast; rfl), by first | rfl | trivial⟩
          case measure => simp [intOf]; omega
        · have hmP : m = P.size := by omega
          have hqA : q = A := by have := HLN.out; omega
          have hqT : q < T.size := by have := HLN.out; omega
          obtain ⟨c, hc⟩ : ∃ c, T[q]'hqT = c := ⟨_, rfl⟩
          have hsc : ∀ h : q < T.size, T[q]'h = c := fun h => hc
          have he : c = 32 := by
            rw [← hc]
            have := HL.out.blank (by rw [← hqA]; exact hqT)
            simpa [hqA] using this
          have b1 : ((c.toNat : Int) != 32) = false := by rw [he]; rfl
          have hqi : (q : Int) < (M : Int) + 1 := by omega
          have HV := Aside0.mk (show T.extract (M + 1 - max m 1) (M + 1) = P by
            rw [show M + 1 - max m 1 = A + 1 by have := HLN.out; have := HL.out.pos; omega]
            exact HL.out.cut)
          clear he hc hqm hlt hmP hqA
          go_wp2_with fail
          go_meet
          exact ⟨by rw [HV.out], K4, B4⟩
    · have dp : decide (0 < p) = false := decide_eq_false hp
      have hPe : P = ⟨#[103, 111, 110, 101]⟩ := by rw [← HPT.out]; unfold priceT; rw [if_neg hp]
      have HPE := Aside0.mk hPe
      clear hPe
      go_wp2_with fail
      go_meet
      exact ⟨by rw [HPE.out], KX, B3⟩
  case rest =>
    obtain ⟨rfl, KX4, B4⟩ := hcut
    clear KX B3 HPP HSZ HGX HW3
    have y0 : wc.cell? ⟨gx, 0, none⟩ = some (.string so) := (blk_cell KX4.out 0).trans rfl
    have y2 : wc.cell? ⟨gx, 2, none⟩ = some (.string sk) := (blk_cell KX4.out 2).trans rfl
    have y3 : wc.cell? ⟨gx, 3, none⟩ = some (.string se) := (blk_cell KX4.out 3).trans rfl
    go_wp2_with fail
    obtain ⟨gf, hgf⟩ : ∃ g, wc.heap.size = g := ⟨_, rfl⟩
    obtain ⟨V1, hV1⟩ : ∃ V, wc.alloc (.cells #[.string so, .string ⟨#[55]⟩, .string sk, .string se, .string P] 9) = V := ⟨_, rfl⟩
    have KF1 := Aside0.mk (show V1.heap[gf]? = some (.cells #[.string so, .string ⟨#[55]⟩, .string sk, .string se, .string P] 9 (0, 0)) by rw [← hV1, ← hgf]; exact blk_new wc _)
    have KX1 := Aside0.mk (show V1.heap[gx]? = some (.cells #[.string so, .int .i64 n, .string sk, .string se, .int .i64 p] 24 (0, 0)) by rw [← hV1]; exact blk_alloc KX4.out _)
    have BV1 := Aside0.mk (show Below w.heap.size w V1 by rw [← hV1]; exact below_alloc B4.out _)
    rw [hV1, hgf]
    clear hV1 hgf y0 y2 y3 KX4 B4
    refine (PK.out _).mono ?_
    rintro e w5 ⟨rfl, rfl⟩
    go_wp2_with fail
    obtain ⟨gn, hgn⟩ : ∃ g, V1.heap.size = g := ⟨_, rfl⟩
    obtain ⟨V2, hV2⟩ : ∃ V, V1.alloc (.cells #[.string ⟨#[]⟩, .string ⟨#[65]⟩, .string ⟨#[57, 97]⟩, .string ⟨#[105, 102]⟩, .string ⟨#[97, 98, 99, 100, 101, 102, 103, 104, 105, 106, 107, 108, 109]⟩, .string ⟨#[97, 46, 98]⟩] 9) = V := ⟨_, rfl⟩
    have cN : V2.cell? ⟨gn, J, none⟩ = some (.string (badN J)) := (blk_cell (show V2.heap[gn]? = some (.cells #[.string ⟨#[]⟩, .string ⟨#[65]⟩, .string ⟨#[57, 97]⟩, .string ⟨#[105, 102]⟩, .string ⟨#[97, 98, 99, 100, 101, 102, 103, 104, 105, 106, 107, 108, 109]⟩, .string ⟨#[97, 46, 98]⟩] 9 (0, 0)) by rw [← hV2, ← hgn]; exact blk_new V1 _) J).trans (badN_at J hJl)
    have KF := Aside0.mk (show V2.heap[gf]? = some (.cells #[.string so, .string ⟨#[55]⟩, .string sk, .string se, .string P] 9 (0, 0)) by rw [← hV2]; exact blk_alloc KF1.out _)
    have KX5 := Aside0.mk (show V2.heap[gx]? = some (.cells #[.string so, .int .i64 n, .string sk, .string se, .int .i64 p] 24 (0, 0)) by rw [← hV2]; exact blk_alloc KX1.out _)
    have B5 := Aside0.mk (show Below w.heap.size w V2 by rw [← hV2]; exact below_alloc BV1.out _)
    obtain ⟨nm, hnm⟩ : ∃ x, badN J = x := ⟨_, rfl⟩
    have HNB := Aside0.mk hnm
    rw [hnm] at cN
    rw [hV2, hgn]
    clear hV2 hgn hnm KF1 KX1 BV1
    refine (PJ.out _).mono ?_
    rintro e w5 ⟨rfl, rfl⟩
    have l6 : (6 ≤ (J : Int)) = False := eq_false (by omega)
    go_wp2_with fail
    clear cN l6
    refine start_ (n := 15) (S := fun w' => True) (ds := []) #[false, false, false, false, false, false, false, false, false, false, false, false, false, false, false] (by kernel_rfl) rfl rfl trivial (fun hHeld => ?_); refine with_tabW tF.tab tF.bits (fun HT_ HW_ => ?_)
    refine inv_at [0, 1, 2, 3, 4, 5, 6, 7, 8, 9, 10, 11, 12, 13, 14] (fun a0_ b a w' => ∃ (x0 : Nat) (x1 : Nat) (gb : Nat) (m4 : Value) (m11 : Value) (m16 : Value), a = putSel a0_ b [(0, 80, .string nm), (1, 81, .slice (some ⟨x0, 0, none⟩) 6 6), (2, 82, .int .i64 what), (3, 83, .int .i64 (J : Int)), (4, 84, m4), (5, 85, .string (badC J)), (6, 86, .string nm), (7, 87, .string nm), (8, 88, .slice (some ⟨x1, 0, none⟩) 6 6), (9, 89, .int .i64 what), (10, 90, .int .i64 (J : Int)), (11, 91, m11), (12, 92, .string (badP J)), (13, 93, .slice (some ⟨gb, 0, none⟩) 5 5), (14, 16, m16)] ∧ (w'.heap[gf]? = some (.cells #[.string so, .string ⟨#[55]⟩, .string sk, .string se, .string P] 9 (0, 0))) ∧ (w'.heap[gx]? = some (.cells #[.string so, .int .i64 n, .string sk, .string se, .int .i64 p] 24 (0, 0))) ∧ (Below w.heap.size w w') ∧ (b 1 = true → w'.heap[x0]? = some (.cells #[.string ⟨#[48]⟩, .string ⟨#[]⟩, .string ⟨#[45, 49]⟩, .string ⟨#[48, 55]⟩, .string ⟨#[49, 48, 48, 48, 48, 48, 48, 48, 48, 48, 48, 48, 49]⟩, .string ⟨#[49, 46, 53]⟩] 9 (0, 0))) ∧ (b 8 = true → w'.heap[x1]? = some (.cells #[.string ⟨#[48, 46, 48, 48]⟩, .string ⟨#[]⟩, .string ⟨#[45, 49, 46, 48, 48]⟩, .string ⟨#[49]⟩, .string ⟨#[71, 111, 110, 101]⟩, .string ⟨#[49, 48, 48, 48, 48, 48, 48, 48, 48, 48, 48, 46, 48, 49]⟩] 9 (0, 0))) ∧ (b 4 = true → m4 = .pointer (some ⟨x0, J, none⟩)) ∧ (b 11 = true → m11 = .pointer (some ⟨x1, J, none⟩)) ∧ (b 14 = true → m16 = .slice (some ⟨gb, 0, none⟩) 5 5) ∧ (b 13 = true → w'.heap[gb]? = some (.cells #[.string nm, .string (badC J), .string nm, .string nm, .string (badP J)] 9 (0, 0)))) HT_.out HW_.out (by kernel_rfl) (by kernel_rfl) ?_ ?_ ?_
    · exact ⟨0, 0, 0, .bool false, .bool false, .bool false, by simp only [putSel, Bool.false_eq_true, if_false], KF.out, KX5.out, (by apply below_drew1; exact B5.out), fun h_ => absurd h_ (by decide), fun h_ => absurd h_ (by decide), fun h_ => absurd h_ (by decide), fun h_ => absurd h_ (by decide), fun h_ => absurd h_ (by decide), fun h_ => absurd h_ (by decide)⟩
    · skip
      refine steps_cons ?_ ?_
      · rintro b a w' ⟨x0, x1, gb, m4, m11, m16, ha, Q_FB, Q_XB, Q_BB, Q_X0, Q_X1, Q_P4, Q_P11, Q_P16, Q_NB⟩ hb_ hon hoff
        refine ⟨_, rfl, fun K hK => ?_⟩
        have e15 : a.tmps[15]? = some (.string nm) := by rw [ha]; exact (putSel_off rfl).trans rfl
        replace ha := Aside0.mk ha
        have R_FB := Q_FB
        have R_XB := Q_XB
        have R_BB := Q_BB
        replace R_FB := Aside0.mk R_FB
        replace R_XB := Aside0.mk R_XB
        replace R_BB := Aside0.mk R_BB
        refine value_ (w1 := w') (v := .string nm) (by rfl) rfl ?_ ?_
        · go_simp
          (try simp only [i64_w])
          try rfl
        refine hK.out _ _ ⟨x0, x1, gb, m4, m11, m16, (by rw [ha.out]; exact putSel_upk 0 hb_ rfl rfl rfl), Q_FB, Q_XB, Q_BB, Q_X0, Q_X1, Q_P4, Q_P11, fun h0_ => absurd ((hoff 14 (by kernel_rfl)).symm.trans h0_) (by decide), fun h0_ => absurd ((hoff 13 (by kernel_rfl)).symm.trans h0_) (by decide)⟩
      refine steps_cons ?_ ?_
      · rintro b a w' ⟨x0, x1, gb, m4, m11, m16, ha, Q_FB, Q_XB, Q_BB, Q_X0, Q_X1, Q_P4, Q_P11, Q_P16, Q_NB⟩ hb_ hon hoff
        refine ⟨_, rfl, fun K hK => ?_⟩
        replace ha := Aside0.mk ha
        have R_FB := Q_FB
        have R_XB := Q_XB
        have R_BB := Q_BB
        replace R_FB := Aside0.mk R_FB
        replace R_XB := Aside0.mk R_XB
        replace R_BB := Aside0.mk R_BB
        refine value_ (w1 := w'.alloc (.cells #[.string ⟨#[48]⟩, .string ⟨#[]⟩, .string ⟨#[45, 49]⟩, .string ⟨#[48, 55]⟩, .string ⟨#[49, 48, 48, 48, 48, 48, 48, 48, 48, 48, 48, 48, 49]⟩, .string ⟨#[49, 46, 53]⟩] 9)) (v := .slice (some ⟨w'.heap.size, 0, none⟩) 6 6) (by rfl) rfl ?_ ?_
        · go_simp
          (try simp only [i64_w])
          try rfl
        have hb : Below w'.heap.size w' (w'.alloc (.cells #[.string ⟨#[48]⟩, .string ⟨#[]⟩, .string ⟨#[45, 49]⟩, .string ⟨#[48, 55]⟩, .string ⟨#[49, 48, 48, 48, 48, 48, 48, 48, 48, 48, 48, 48, 49]⟩, .string ⟨#[49, 46, 53]⟩] 9)) := below_alloc (Below.refl _ _) _
        refine hK.out _ _ ⟨w'.heap.size, x1, gb, m4, m11, m16, (by rw [ha.out]; exact putSel_upk 1 hb_ rfl rfl rfl), blk_below Q_FB hb, blk_below Q_XB hb, below_step Q_BB hb, fun _ => blk_new w' _, fun h0_ => blk_below (Q_X1 h0_) hb, fun h0_ => absurd ((hoff 4 (by kernel_rfl)).symm.trans h0_) (by decide), Q_P11, fun h0_ => absurd ((hoff 14 (by kernel_rfl)).symm.trans h0_) (by decide), fun h0_ => absurd ((hoff 13 (by kernel_rfl)).symm.trans h0_) (by decide)⟩
      refine steps_cons ?_ ?_
      · rintro b a w' ⟨x0, x1, gb, m4, m11, m16, ha, Q_FB, Q_XB, Q_BB, Q_X0, Q_X1, Q_P4, Q_P11, Q_P16, Q_NB⟩ hb_ hon hoff
        refine ⟨_, rfl, fun K hK => ?_⟩
        have e2 : a.tmps[2]? = some (.int .i64 what) := by rw [ha]; exact (putSel_off rfl).trans rfl
        replace ha := Aside0.mk ha
        have R_FB := Q_FB
        have R_XB := Q_XB
        have R_BB := Q_BB
        replace R_FB := Aside0.mk R_FB
        replace R_XB := Aside0.mk R_XB
        replace R_BB := Aside0.mk R_BB
        refine value_ (w1 := w') (v := .int .i64 what) (by rfl) rfl ?_ ?_
        · go_simp
          (try simp only [i64_w])
          try rfl
        refine hK.out _ _ ⟨x0, x1, gb, m4, m11, m16, (by rw [ha.out]; exact putSel_upk 2 hb_ rfl rfl rfl), Q_FB, Q_XB, Q_BB, Q_X0, Q_X1, fun h0_ => absurd ((hoff 4 (by kernel_rfl)).symm.trans h0_) (by decide), fun h0_ => absurd ((hoff 11 (by kernel_rfl)).symm.trans h0_) (by decide), fun h0_ => absurd ((hoff 14 (by kernel_rfl)).symm.trans h0_) (by decide), fun h0_ => absurd ((hoff 13 (by kernel_rfl)).symm.trans h0_) (by decide)⟩
      refine steps_cons ?_ ?_
      · rintro b a w' ⟨x0, x1, gb, m4, m11, m16, ha, Q_FB, Q_XB, Q_BB, Q_X0, Q_X1, Q_P4, Q_P11, Q_P16, Q_NB⟩ hb_ hon hoff
        refine ⟨_, rfl, fun K hK => ?_⟩
        have e82 : a.tmps[82]? = some (.int .i64 what) := by rw [ha]; exact putSel_on (e := (2, 82, .int .i64 what)) 2 rfl rfl (hon 2 (by kernel_rfl)) rfl
        replace ha := Aside0.mk ha
        have R_FB := Q_FB
        have R_XB := Q_XB
        have R_BB := Q_BB
        replace R_FB := Aside0.mk R_FB
        replace R_XB := Aside0.mk R_XB
        replace R_BB := Aside0.mk R_BB
        refine goes_ Tryd.func13 (by kernel_rfl) rfl #[.int .i64 what, .int .i64 6] (by rfl) rfl rfl (by first | (simp only [List.map_toArray, List.map_cons, List.map_nil, Act.eval, Array.getD_eq_getD_getElem?, Option.getD_some, e82]; done) | (simp only [List.map_toArray, List.map_cons, List.map_nil, Act.eval, Array.getD_eq_getD_getElem?, Option.getD_some, e82]; rfl)) ?_
        with_reducible refine (PJ.out _).mono ?_
        rintro e v2 ⟨rfl, rfl⟩
        refine ⟨_, rfl, ?_⟩
        refine hK.out _ _ ⟨x0, x1, gb, m4, m11, m16, (by rw [ha.out]; exact putSel_upk 3 hb_ rfl rfl rfl), Q_FB, Q_XB, Q_BB, Q_X0, Q_X1, fun h0_ => absurd ((hoff 4 (by kernel_rfl)).symm.trans h0_) (by decide), fun h0_ => absurd ((hoff 11 (by kernel_rfl)).symm.trans h0_) (by decide), fun h0_ => absurd ((hoff 14 (by kernel_rfl)).symm.trans h0_) (by decide), fun h0_ => absurd ((hoff 13 (by kernel_rfl)).symm.trans h0_) (by decide)⟩
      refine steps_cons ?_ ?_
      · rintro b a w' ⟨x0, x1, gb, m4, m11, m16, ha, Q_FB, Q_XB, Q_BB, Q_X0, Q_X1, Q_P4, Q_P11, Q_P16, Q_NB⟩ hb_ hon hoff
        refine ⟨_, rfl, fun K hK => ?_⟩
        have e81 : a.tmps[81]? = some (.slice (some ⟨x0, 0, none⟩) 6 6) := by rw [ha]; exact putSel_on (e := (1, 81, .slice (some ⟨x0, 0, none⟩) 6 6)) 1 rfl rfl (hon 1 (by kernel_rfl)) rfl
        have e83 : a.tmps[83]? = some (.int .i64 (J : Int)) := by rw [ha]; exact putSel_on (e := (3, 83, .int .i64 (J : Int))) 3 rfl rfl (hon 3 (by kernel_rfl)) rfl
        replace ha := Aside0.mk ha
        have R_FB := Q_FB
        have R_XB := Q_XB
        have R_BB := Q_BB
        have R_X0 := Q_X0 (hon 1 (by kernel_rfl))
        replace R_FB := Aside0.mk R_FB
        replace R_XB := Aside0.mk R_XB
        replace R_BB := Aside0.mk R_BB
        replace R_X0 := Aside0.mk R_X0
        have l6 : (6 ≤ (J : Int)) = False := eq_false (by omega)
        refine value_ (w1 := w') (v := .pointer (some ⟨x0, J, none⟩)) (by rfl) rfl ?_ ?_
        · go_simp
          (try simp only [i64_w])
          try rfl
        refine hK.out _ _ ⟨x0, x1, gb, .pointer (some ⟨x0, J, none⟩), m11, m16, (by rw [ha.out]; exact putSel_upk 4 hb_ rfl rfl rfl), Q_FB, Q_XB, Q_BB, Q_X0, Q_X1, fun _ => rfl, Q_P11, fun h0_ => absurd ((hoff 14 (by kernel_rfl)).symm.trans h0_) (by decide), fun h0_ => absurd ((hoff 13 (by kernel_rfl)).symm.trans h0_) (by decide)⟩
      refine steps_cons ?_ ?_
      · rintro b a w' ⟨x0, x1, gb, m4, m11, m16, ha, Q_FB, Q_XB, Q_BB, Q_X0, Q_X1, Q_P4, Q_P11, Q_P16, Q_NB⟩ hb_ hon hoff
        refine ⟨_, rfl, fun K hK => ?_⟩
        have e84 : a.tmps[84]? = some (m4) := by rw [ha]; exact putSel_on (e := (4, 84, m4)) 4 rfl rfl (hon 4 (by kernel_rfl)) rfl
        replace ha := Aside0.mk ha
        have R_FB := Q_FB
        have R_XB := Q_XB
        have R_BB := Q_BB
        have R_X0 := Q_X0 (hon 1 (by kernel_rfl))
        have R_P4 := Q_P4 (hon 4 (by kernel_rfl))
        replace R_FB := Aside0.mk R_FB
        replace R_XB := Aside0.mk R_XB
        replace R_BB := Aside0.mk R_BB
        replace R_X0 := Aside0.mk R_X0
        replace R_P4 := Aside0.mk R_P4
        rw [R_P4.out] at e84
        have c := (blk_cell R_X0.out J).trans (badC_at J hJl)
        refine value_ (w1 := w') (v := .string (badC J)) (by rfl) rfl ?_ ?_
        · go_simp
          (try simp only [i64_w])
          try rfl
        refine hK.out _ _ ⟨x0, x1, gb, m4, m11, m16, (by rw [ha.out]; exact putSel_upk 5 hb_ rfl rfl rfl), Q_FB, Q_XB, Q_BB, Q_X0, Q_X1, Q_P4, Q_P11, fun h0_ => absurd ((hoff 14 (by kernel_rfl)).symm.trans h0_) (by decide), fun h0_ => absurd ((hoff 13 (by kernel_rfl)).symm.trans h0_) (by decide)⟩
      refine steps_cons ?_ ?_
      · rintro b a w' ⟨x0, x1, gb, m4, m11, m16, ha, Q_FB, Q_XB, Q_BB, Q_X0, Q_X1, Q_P4, Q_P11, Q_P16, Q_NB⟩ hb_ hon hoff
        refine ⟨_, rfl, fun K hK => ?_⟩
        have e15 : a.tmps[15]? = some (.string nm) := by rw [ha]; exact (putSel_off rfl).trans rfl
        replace ha := Aside0.mk ha
        have R_FB := Q_FB
        have R_XB := Q_XB
        have R_BB := Q_BB
        replace R_FB := Aside0.mk R_FB
        replace R_XB := Aside0.mk R_XB
        replace R_BB := Aside0.mk R_BB
        refine value_ (w1 := w') (v := .string nm) (by rfl) rfl ?_ ?_
        · go_simp
          (try simp only [i64_w])
          try rfl
        refine hK.out _ _ ⟨x0, x1, gb, m4, m11, m16, (by rw [ha.out]; exact putSel_upk 6 hb_ rfl rfl rfl), Q_FB, Q_XB, Q_BB, Q_X0, Q_X1, Q_P4, Q_P11, fun h0_ => absurd ((hoff 14 (by kernel_rfl)).symm.trans h0_) (by decide), fun h0_ => absurd ((hoff 13 (by kernel_rfl)).symm.trans h0_) (by decide)⟩
      refine steps_cons ?_ ?_
      · rintro b a w' ⟨x0, x1, gb, m4, m11, m16, ha, Q_FB, Q_XB, Q_BB, Q_X0, Q_X1, Q_P4, Q_P11, Q_P16, Q_NB⟩ hb_ hon hoff
        refine ⟨_, rfl, fun K hK => ?_⟩
        have e15 : a.tmps[15]? = some (.string nm) := by rw [ha]; exact (putSel_off rfl).trans rfl
        replace ha := Aside0.mk ha
        have R_FB := Q_FB
        have R_XB := Q_XB
        have R_BB := Q_BB
        replace R_FB := Aside0.mk R_FB
        replace R_XB := Aside0.mk R_XB
        replace R_BB := Aside0.mk R_BB
        refine value_ (w1 := w') (v := .string nm) (by rfl) rfl ?_ ?_
        · go_simp
          (try simp only [i64_w])
          try rfl
        refine hK.out _ _ ⟨x0, x1, gb, m4, m11, m16, (by rw [ha.out]; exact putSel_upk 7 hb_ rfl rfl rfl), Q_FB, Q_XB, Q_BB, Q_X0, Q_X1, Q_P4, Q_P11, fun h0_ => absurd ((hoff 14 (by kernel_rfl)).symm.trans h0_) (by decide), fun h0_ => absurd ((hoff 13 (by kernel_rfl)).symm.trans h0_) (by decide)⟩
      refine steps_cons ?_ ?_
      · rintro b a w' ⟨x0, x1, gb, m4, m11, m16, ha, Q_FB, Q_XB, Q_BB, Q_X0, Q_X1, Q_P4, Q_P11, Q_P16, Q_NB⟩ hb_ hon hoff
        refine ⟨_, rfl, fun K hK => ?_⟩
        replace ha := Aside0.mk ha
        have R_FB := Q_FB
        have R_XB := Q_XB
        have R_BB := Q_BB
        replace R_FB := Aside0.mk R_FB
        replace R_XB := Aside0.mk R_XB
        replace R_BB := Aside0.mk R_BB
        refine value_ (w1 := w'.alloc (.cells #[.string ⟨#[48, 46, 48, 48]⟩, .string ⟨#[]⟩, .string ⟨#[45, 49, 46, 48, 48]⟩, .string ⟨#[49]⟩, .string ⟨#[71, 111, 110, 101]⟩, .string ⟨#[49, 48, 48, 48, 48, 48, 48, 48, 48, 48, 48, 46, 48, 49]⟩] 9)) (v := .slice (some ⟨w'.heap.size, 0, none⟩) 6 6) (by rfl) rfl ?_ ?_
        · go_simp
          (try simp only [i64_w])
          try rfl
        have hb : Below w'.heap.size w' (w'.alloc (.cells #[.string ⟨#[48, 46, 48, 48]⟩, .string ⟨#[]⟩, .string ⟨#[45, 49, 46, 48, 48]⟩, .string ⟨#[49]⟩, .string ⟨#[71, 111, 110, 101]⟩, .string ⟨#[49, 48, 48, 48, 48, 48, 48, 48, 48, 48, 48, 46, 48, 49]⟩] 9)) := below_alloc (Below.refl _ _) _
        refine hK.out _ _ ⟨x0, w'.heap.size, gb, m4, m11, m16, (by rw [ha.out]; exact putSel_upk 8 hb_ rfl rfl rfl), blk_below Q_FB hb, blk_below Q_XB hb, below_step Q_BB hb, fun h0_ => blk_below (Q_X0 h0_) hb, fun _ => blk_new w' _, Q_P4, fun h0_ => absurd ((hoff 11 (by kernel_rfl)).symm.trans h0_) (by decide), fun h0_ => absurd ((hoff 14 (by kernel_rfl)).symm.trans h0_) (by decide), fun h0_ => absurd ((hoff 13 (by kernel_rfl)).symm.trans h0_) (by decide)⟩
      refine steps_cons ?_ ?_
      · rintro b a w' ⟨x0, x1, gb, m4, m11, m16, ha, Q_FB, Q_XB, Q_BB, Q_X0, Q_X1, Q_P4, Q_P11, Q_P16, Q_NB⟩ hb_ hon hoff
        refine ⟨_, rfl, fun K hK => ?_⟩
        have e2 : a.tmps[2]? = some (.int .i64 what) := by rw [ha]; exact (putSel_off rfl).trans rfl
        replace ha := Aside0.mk ha
        have R_FB := Q_FB
        have R_XB := Q_XB
        have R_BB := Q_BB
        replace R_FB := Aside0.mk R_FB
        replace R_XB := Aside0.mk R_XB
        replace R_BB := Aside0.mk R_BB
        refine value_ (w1 := w') (v := .int .i64 what) (by rfl) rfl ?_ ?_
        · go_simp
          (try simp only [i64_w])
          try rfl
        refine hK.out _ _ ⟨x0, x1, gb, m4, m11, m16, (by rw [ha.out]; exact putSel_upk 9 hb_ rfl rfl rfl), Q_FB, Q_XB, Q_BB, Q_X0, Q_X1, Q_P4, fun h0_ => absurd ((hoff 11 (by kernel_rfl)).symm.trans h0_) (by decide), fun h0_ => absurd ((hoff 14 (by kernel_rfl)).symm.trans h0_) (by decide), fun h0_ => absurd ((hoff 13 (by kernel_rfl)).symm.trans h0_) (by decide)⟩
      refine steps_cons ?_ ?_
      · rintro b a w' ⟨x0, x1, gb, m4, m11, m16, ha, Q_FB, Q_XB, Q_BB, Q_X0, Q_X1, Q_P4, Q_P11, Q_P16, Q_NB⟩ hb_ hon hoff
        refine ⟨_, rfl, fun K hK => ?_⟩
        have e89 : a.tmps[89]? = some (.int .i64 what) := by rw [ha]; exact putSel_on (e := (9, 89, .int .i64 what)) 9 rfl rfl (hon 9 (by kernel_rfl)) rfl
        replace ha := Aside0.mk ha
        have R_FB := Q_FB
        have R_XB := Q_XB
        have R_BB := Q_BB
        replace R_FB := Aside0.mk R_FB
        replace R_XB := Aside0.mk R_XB
        replace R_BB := Aside0.mk R_BB
        refine goes_ Tryd.func13 (by kernel_rfl) rfl #[.int .i64 what, .int .i64 6] (by rfl) rfl rfl (by first | (simp only [List.map_toArray, List.map_cons, List.map_nil, Act.eval, Array.getD_eq_getD_getElem?, Option.getD_some, e89]; done) | (simp only [List.map_toArray, List.map_cons, List.map_nil, Act.eval, Array.getD_eq_getD_getElem?, Option.getD_some, e89]; rfl)) ?_
        with_reducible refine (PJ.out _).mono ?_
        rintro e v2 ⟨rfl, rfl⟩
        refine ⟨_, rfl, ?_⟩
        refine hK.out _ _ ⟨x0, x1, gb, m4, m11, m16, (by rw [ha.out]; exact putSel_upk 10 hb_ rfl rfl rfl), Q_FB, Q_XB, Q_BB, Q_X0, Q_X1, Q_P4, fun h0_ => absurd ((hoff 11 (by kernel_rfl)).symm.trans h0_) (by decide), fun h0_ => absurd ((hoff 14 (by kernel_rfl)).symm.trans h0_) (by decide), fun h0_ => absurd ((hoff 13 (by kernel_rfl)).symm.trans h0_) (by decide)⟩
      refine steps_cons ?_ ?_
      · rintro b a w' ⟨x0, x1, gb, m4, m11, m16, ha, Q_FB, Q_XB, Q_BB, Q_X0, Q_X1, Q_P4, Q_P11, Q_P16, Q_NB⟩ hb_ hon hoff
        refine ⟨_, rfl, fun K hK => ?_⟩
        have e88 : a.tmps[88]? = some (.slice (some ⟨x1, 0, none⟩) 6 6) := by rw [ha]; exact putSel_on (e := (8, 88, .slice (some ⟨x1, 0, none⟩) 6 6)) 8 rfl rfl (hon 8 (by kernel_rfl)) rfl
        have e90 : a.tmps[90]? = some (.int .i64 (J : Int)) := by rw [ha]; exact putSel_on (e := (10, 90, .int .i64 (J : Int))) 10 rfl rfl (hon 10 (by kernel_rfl)) rfl
        replace ha := Aside0.mk ha
        have R_FB := Q_FB
        have R_XB := Q_XB
        have R_BB := Q_BB
        have R_X1 := Q_X1 (hon 8 (by kernel_rfl))
        replace R_FB := Aside0.mk R_FB
        replace R_XB := Aside0.mk R_XB
        replace R_BB := Aside0.mk R_BB
        replace R_X1 := Aside0.mk R_X1
        have l6 : (6 ≤ (J : Int)) = False := eq_false (by omega)
        refine value_ (w1 := w') (v := .pointer (some ⟨x1, J, none⟩)) (by rfl) rfl ?_ ?_
        · go_simp
          (try simp only [i64_w])
          try rfl
        refine hK.out _ _ ⟨x0, x1, gb, m4, .pointer (some ⟨x1, J, none⟩), m16, (by rw [ha.out]; exact putSel_upk 11 hb_ rfl rfl rfl), Q_FB, Q_XB, Q_BB, Q_X0, Q_X1, Q_P4, fun _ => rfl, fun h0_ => absurd ((hoff 14 (by kernel_rfl)).symm.trans h0_) (by decide), fun h0_ => absurd ((hoff 13 (by kernel_rfl)).symm.trans h0_) (by decide)⟩
      refine steps_cons ?_ ?_
      · rintro b a w' ⟨x0, x1, gb, m4, m11, m16, ha, Q_FB, Q_XB, Q_BB, Q_X0, Q_X1, Q_P4, Q_P11, Q_P16, Q_NB⟩ hb_ hon hoff
        refine ⟨_, rfl, fun K hK => ?_⟩
        have e91 : a.tmps[91]? = some (m11) := by rw [ha]; exact putSel_on (e := (11, 91, m11)) 11 rfl rfl (hon 11 (by kernel_rfl)) rfl
        replace ha := Aside0.mk ha
        have R_FB := Q_FB
        have R_XB := Q_XB
        have R_BB := Q_BB
        have R_X1 := Q_X1 (hon 8 (by kernel_rfl))
        have R_P11 := Q_P11 (hon 11 (by kernel_rfl))
        replace R_FB := Aside0.mk R_FB
        replace R_XB := Aside0.mk R_XB
        replace R_BB := Aside0.mk R_BB
        replace R_X1 := Aside0.mk R_X1
        replace R_P11 := Aside0.mk R_P11
        rw [R_P11.out] at e91
        have c := (blk_cell R_X1.out J).trans (badP_at J hJl)
        refine value_ (w1 := w') (v := .string (badP J)) (by rfl) rfl ?_ ?_
        · go_simp
          (try simp only [i64_w])
          try rfl
        refine hK.out _ _ ⟨x0, x1, gb, m4, m11, m16, (by rw [ha.out]; exact putSel_upk 12 hb_ rfl rfl rfl), Q_FB, Q_XB, Q_BB, Q_X0, Q_X1, Q_P4, Q_P11, fun h0_ => absurd ((hoff 14 (by kernel_rfl)).symm.trans h0_) (by decide), fun h0_ => absurd ((hoff 13 (by kernel_rfl)).symm.trans h0_) (by decide)⟩
      refine steps_cons ?_ ?_
      · rintro b a w' ⟨x0, x1, gb, m4, m11, m16, ha, Q_FB, Q_XB, Q_BB, Q_X0, Q_X1, Q_P4, Q_P11, Q_P16, Q_NB⟩ hb_ hon hoff
        refine ⟨_, rfl, fun K hK => ?_⟩
        have e80 : a.tmps[80]? = some (.string nm) := by rw [ha]; exact putSel_on (e := (0, 80, .string nm)) 0 rfl rfl (hon 0 (by kernel_rfl)) rfl
        have e85 : a.tmps[85]? = some (.string (badC J)) := by rw [ha]; exact putSel_on (e := (5, 85, .string (badC J))) 5 rfl rfl (hon 5 (by kernel_rfl)) rfl
        have e86 : a.tmps[86]? = some (.string nm) := by rw [ha]; exact putSel_on (e := (6, 86, .string nm)) 6 rfl rfl (hon 6 (by kernel_rfl)) rfl
        have e87 : a.tmps[87]? = some (.string nm) := by rw [ha]; exact putSel_on (e := (7, 87, .string nm)) 7 rfl rfl (hon 7 (by kernel_rfl)) rfl
        have e92 : a.tmps[92]? = some (.string (badP J)) := by rw [ha]; exact putSel_on (e := (12, 92, .string (badP J))) 12 rfl rfl (hon 12 (by kernel_rfl)) rfl
        replace ha := Aside0.mk ha
        have R_FB := Q_FB
        have R_XB := Q_XB
        have R_BB := Q_BB
        have R_X0 := Q_X0 (hon 1 (by kernel_rfl))
        have R_X1 := Q_X1 (hon 8 (by kernel_rfl))
        have R_P4 := Q_P4 (hon 4 (by kernel_rfl))
        have R_P11 := Q_P11 (hon 11 (by kernel_rfl))
        replace R_FB := Aside0.mk R_FB
        replace R_XB := Aside0.mk R_XB
        replace R_BB := Aside0.mk R_BB
        replace R_X0 := Aside0.mk R_X0
        replace R_X1 := Aside0.mk R_X1
        replace R_P4 := Aside0.mk R_P4
        replace R_P11 := Aside0.mk R_P11
        refine value_ (w1 := w'.alloc (.cells #[.string nm, .string (badC J), .string nm, .string nm, .string (badP J)] 9)) (v := .slice (some ⟨w'.heap.size, 0, none⟩) 5 5) (by rfl) rfl ?_ ?_
        · go_simp
          (try simp only [i64_w])
          try rfl
        have hb : Below w'.heap.size w' (w'.alloc (.cells #[.string nm, .string (badC J), .string nm, .string nm, .string (badP J)] 9)) := below_alloc (Below.refl _ _) _
        refine hK.out _ _ ⟨x0, x1, w'.heap.size, m4, m11, m16, (by rw [ha.out]; exact putSel_upk 13 hb_ rfl rfl rfl), blk_below Q_FB hb, blk_below Q_XB hb, below_step Q_BB hb, fun h0_ => blk_below (Q_X0 h0_) hb, fun h0_ => blk_below (Q_X1 h0_) hb, Q_P4, Q_P11, fun h0_ => absurd ((hoff 14 (by kernel_rfl)).symm.trans h0_) (by decide), fun _ => blk_new w' _⟩
      refine steps_cons ?_ ?_
      · rintro b a w' ⟨x0, x1, gb, m4, m11, m16, ha, Q_FB, Q_XB, Q_BB, Q_X0, Q_X1, Q_P4, Q_P11, Q_P16, Q_NB⟩ hb_ hon hoff
        refine ⟨_, rfl, fun K hK => ?_⟩
        have e93 : a.tmps[93]? = some (.slice (some ⟨gb, 0, none⟩) 5 5) := by rw [ha]; exact putSel_on (e := (13, 93, .slice (some ⟨gb, 0, none⟩) 5 5)) 13 rfl rfl (hon 13 (by kernel_rfl)) rfl
        replace ha := Aside0.mk ha
        have R_FB := Q_FB
        have R_XB := Q_XB
        have R_BB := Q_BB
        have R_X0 := Q_X0 (hon 1 (by kernel_rfl))
        have R_X1 := Q_X1 (hon 8 (by kernel_rfl))
        have R_P4 := Q_P4 (hon 4 (by kernel_rfl))
        have R_P11 := Q_P11 (hon 11 (by kernel_rfl))
        have R_NB := Q_NB (hon 13 (by kernel_rfl))
        replace R_FB := Aside0.mk R_FB
        replace R_XB := Aside0.mk R_XB
        replace R_BB := Aside0.mk R_BB
        replace R_X0 := Aside0.mk R_X0
        replace R_X1 := Aside0.mk R_X1
        replace R_P4 := Aside0.mk R_P4
        replace R_P11 := Aside0.mk R_P11
        replace R_NB := Aside0.mk R_NB
        refine value_ (w1 := w') (v := .slice (some ⟨gb, 0, none⟩) 5 5) (by rfl) rfl ?_ ?_
        · go_simp
          (try simp only [i64_w])
          try rfl
        refine hK.out _ _ ⟨x0, x1, gb, m4, m11, .slice (some ⟨gb, 0, none⟩) 5 5, (by rw [ha.out]; exact putSel_upk 14 hb_ rfl rfl rfl), Q_FB, Q_XB, Q_BB, Q_X0, Q_X1, Q_P4, Q_P11, fun _ => rfl, Q_NB⟩
      exact steps_nil
    rintro b a w9 hall ⟨x0, x1, gb, m4, m11, m16, ha, Q_FB, Q_XB, Q_BB, Q_X0, Q_X1, Q_P4, Q_P11, Q_P16, Q_NB⟩
    have hb0_ := hall 0 (by kernel_rfl)
    have hb1_ := hall 1 (by kernel_rfl)
    have hb2_ := hall 2 (by kernel_rfl)
    have hb3_ := hall 3 (by kernel_rfl)
    have hb4_ := hall 4 (by kernel_rfl)
    have hb5_ := hall 5 (by kernel_rfl)
    have hb6_ := hall 6 (by kernel_rfl)
    have hb7_ := hall 7 (by kernel_rfl)
    have hb8_ := hall 8 (by kernel_rfl)
    have hb9_ := hall 9 (by kernel_rfl)
    have hb10_ := hall 10 (by kernel_rfl)
    have hb11_ := hall 11 (by kernel_rfl)
    have hb12_ := hall 12 (by kernel_rfl)
    have hb13_ := hall 13 (by kernel_rfl)
    have hb14_ := hall 14 (by kernel_rfl)
    subst ha
    have FB := Aside0.mk (Q_FB)
    clear Q_FB
    have XB := Aside0.mk (Q_XB)
    clear Q_XB
    have BB := Aside0.mk (Q_BB)
    clear Q_BB
    have X0 := Aside0.mk (Q_X0 hb1_)
    clear Q_X0
    have X1 := Aside0.mk (Q_X1 hb8_)
    clear Q_X1
    have P4 := Aside0.mk (Q_P4 hb4_)
    clear Q_P4
    have P11 := Aside0.mk (Q_P11 hb11_)
    clear Q_P11
    have P16 := Aside0.mk (Q_P16 hb14_)
    clear Q_P16
    have NB := Aside0.mk (Q_NB hb13_)
    clear Q_NB
    simp only [putSel, hb0_, hb1_, hb2_, hb3_, hb4_, hb5_, hb6_, hb7_, hb8_, hb9_, hb10_, hb11_, hb12_, hb13_, hb14_, if_true, Act.put, List.setIfInBounds_toArray, List.set_cons_zero, List.set_cons_succ]
    clear hall hb0_ hb1_ hb2_ hb3_ hb4_ hb5_ hb6_ hb7_ hb8_ hb9_ hb10_ hb11_ hb12_ hb13_ hb14_
    have E16 := P16.out
    subst E16
    clear P4 P11 X0 X1 P16
    obtain ⟨inf, hi0, hi1, hi2, hi3⟩ := info_str
    have hown : w9.ownsRow w9.heap.size 9 1 (.slice none 0 0) 0 [] := World.ownsRow_nil _ _ _ _
    have hnews := World.news_of_block FB.out
    have hown' := Lib.hid hown
    have hnews' := Lib.hid hnews
    have hi0' := Lib.hid hi0
    have hi1' := Lib.hid hi1
    have hi2' := Lib.hid hi2
    have hi3' := Lib.hid hi3
    clear hown hnews hi0 hi1 hi2 hi3
    go_wp2_with (first | (at_builtin; go_loud (refine wpList_append_lies _ rfl _ _ 36 rfl w9.heap.size 9 inf (.string ⟨#[]⟩) 1 16 Tryd.underlying36 hi0'.out hi1'.out hi2'.out hi3'.out rfl (by decide) _ 0 [] rfl hown'.out ⟨gf, 0, none⟩ 5 5 [.string so, .string ⟨#[55]⟩, .string sk, .string se, .string P] rfl rfl hnews'.out ?c1 (by decide) (by decide) (by decide) (Nat.le_refl _) w9.heap.size rfl ?_)))
    case c1 => simp [Value.oneCell']
    intro gg cap2 w2 hown2 hgr2 hat2 hlt2
    have bw : Below w9.heap.size w9 w2 := (Below.refl _ _).grown hgr2 (Nat.le_refl _) (fun k e => by cases e)
    obtain ⟨hgg, cur, KG, hcs, hcur⟩ := row5 hown2
    obtain ⟨fs, hfs⟩ : ∃ l : List ByteArray, [so, ⟨#[55]⟩, sk, se, P] = l := ⟨_, rfl⟩
    obtain ⟨bk, hbk⟩ : ∃ x, nth (bad J) K = x := ⟨_, rfl⟩
    obtain ⟨gs, hgs⟩ : ∃ l : List ByteArray, fs.set K bk = l := ⟨_, rfl⟩
    have hfl : fs.length = 5 := by rw [← hfs]; rfl
    have FB2 := blk_below FB.out bw
    have NB2 := blk_below NB.out bw
    have XB2 := blk_below XB.out bw
    have hfg : gf ≠ gg := fun e => by have := blk_lt FB.out; omega
    have hxg : gx ≠ gg := fun e => by have := blk_lt XB.out; omega
    have cB : w2.cell? ⟨gb, K, none⟩ = some (.string bk) := by
      rw [blk_cell NB2 K, ← hbk, ← HNB.out]
      exact five_arr _ _ _ _ _ K hKl
    have cG : w2.cell? ⟨gg, K, none⟩ = some (.string (nth fs K)) := by
      rw [blk_cell KG K, hcur K hKl, ← hfs]
      exact five_at _ _ _ _ _ K hKl
    have fG := blk_frozen KG K
    obtain ⟨W8, hW8⟩ : ∃ W, w2.setCell ⟨gg, K, none⟩ (.string bk) = W := ⟨_, rfl⟩
    have CF := Aside0.mk (show ∀ i, i < 5 → W8.cell? ⟨gf, i, none⟩ = some (.string (nth fs i)) from fun i hi => by
      rw [← hW8, blk_cell (show (w2.setCell ⟨gg, K, none⟩ (.string bk)).heap[gf]? = _ by rw [Below.heap_setCell _ _ _ _ hfg]; exact FB2) i, ← hfs]
      exact five_arr _ _ _ _ _ i hi)
    have CG := Aside0.mk (show ∀ i, i < 5 → W8.cell? ⟨gg, i, none⟩ = some (.string (nth gs i)) from fun i hi => by
      rw [← hW8, ← hgs, nth_set fs K i bk (by omega), blk_cell (blk_set KG K (.string bk)) i, Array.getElem?_setIfInBounds]
      by_cases e : K = i
      · rw [if_pos e, if_pos e, if_pos (by omega)]
      · rw [if_neg e, if_neg e, hcur i hi, ← hfs]
        exact five_at _ _ _ _ _ i hi)
    have XB8 := Aside0.mk (show W8.heap[gx]? = some (.cells #[.string so, .int .i64 n, .string sk, .string se, .int .i64 p] 24 (0, 0)) by rw [← hW8, Below.heap_setCell _ _ _ _ hxg]; exact XB2)
    have B8 := Aside0.mk (show Below w.heap.size w W8 by rw [← hW8]; exact below_set (below_step BB.out bw) (Nat.le_trans BB.out.size hgg))
    have HF := Aside0.mk (show ∀ i, (nth fs i).size ≤ 30 by
      obtain ⟨q0, q1, q2, q3, q4⟩ := HFW.out
      rw [← hfs]
      rw [← HPT.out]
      exact nth_small q0.size q1.size q2.size q3.size q4.size)
    have HGz := Aside0.mk (show ∀ i, (nth gs i).size ≤ 30 by
      intro i
      rw [← hgs]
      by_cases hi : i < fs.length
      · rw [nth_set fs K i bk hi]
        split
        · rw [← hbk]; exact Nat.le_trans (bad_word J hJl K hKl).2 (by decide)
        · exact HF.out i
      · unfold nth
        rw [List.getD_eq_getElem?_getD, List.getElem?_eq_none (by rw [List.length_set]; omega)]
        exact Nat.zero_le _)
    have HLAW := Aside0.mk (show decodeN (Jn gs 5) = (zeroLn, 112, (K : Int)) ∧ decodeN (FeedFp.Fn fs K 5) = (zeroLn, 111, 0) ∧ decodeN (Jn gs 5 ++ ⟨#[32, 120]⟩) = (zeroLn, 111, 0) by
      have h := HLW.out K J hKl hJl
      have e1 : fl ⟨so, n, sk, se, p⟩ = fs := by unfold fl; rw [← hfs, ← HPT.out]
      have e2 : gl ⟨so, n, sk, se, p⟩ K J = gs := by unfold gl; rw [e1, hbk, hgs]
      rw [e1, e2] at h
      exact h)
    have l5 : (5 ≤ (K : Int)) = False := eq_false (by omega)
    clear hown2 hgr2 hat2 hlt2 bw hgg KG hcs hcur hfs hbk hgs hfl FB2 NB2 XB2 hfg hxg FB NB XB BB HLW HPT HFW HNB
    go_wp2_with fail
    (try rw [hW8])
    clear cB cG fG l5 hW8
    go_loopw [18, 19, 20] (fun s18 s19 s20 wx => ∃ i : Nat, i ≤ 5 ∧ s20 = .int .i64 (i : Int) ∧ s18 = .string (Jn gs i) ∧ s19 = .string (FeedFp.Fn fs K i) ∧ W8 = wx) (fun _ _ s20 _ => 5 - (intOf s20).toNat)
    case atStart => exact ⟨0, by omega, rfl, rfl, rfl, rfl⟩
    case round =>
      obtain ⟨i, hi, rfl, rfl, rfl, rfl⟩ := hrel
      by_cases hlt : i < 5
      · have cg := CG.out i hlt
        have cf := CF.out i hlt
        have sA := jn_size gs 30 HGz.out i
        have sB := fn_size fs K 30 HF.out i
        have sa := HGz.out i
        have sb := HF.out i
        have hJ : Jn gs (i + 1) = (if 0 < i then Jn gs i ++ ⟨#[32]⟩ else Jn gs i) ++ nth gs i := rfl
        have hFn : FeedFp.Fn fs K (i + 1) = if i = K then FeedFp.Fn fs K i else (if tl (FeedFp.Fn fs K i) = [] then FeedFp.Fn fs K i else FeedFp.Fn fs K i ++ ⟨#[32]⟩) ++ nth fs i := rfl
        obtain ⟨A, hA⟩ : ∃ x, Jn gs i = x := ⟨_, rfl⟩
        obtain ⟨B, hB⟩ : ∃ x, FeedFp.Fn fs K i = x := ⟨_, rfl⟩
        obtain ⟨a, ha⟩ : ∃ x, nth gs i = x := ⟨_, rfl⟩
        obtain ⟨b, hb⟩ : ∃ x, nth fs i = x := ⟨_, rfl⟩
        rw [ha] at cg sa hJ
        rw [hb] at cf sb hFn
        rw [hA] at sA hJ ⊢
        rw [hB] at sB hFn ⊢
        have sA2 : A.size ≤ 200 := by omega
        have sB2 : B.size ≤ 200 := by omega
        have q1 : (9223372036854775807 < A.size + 1) = False := eq_false (by omega)
        have q2 : (9223372036854775807 < A.size + 1 + a.size) = False := eq_false (by omega)
        have q3 : (9223372036854775807 < A.size + a.size) = False := eq_false (by omega)
        have q4 : (9223372036854775807 < B.size + 1) = False := eq_false (by omega)
        have q5 : (9223372036854775807 < B.size + 1 + b.size) = False := eq_false (by omega)
        have q6 : (9223372036854775807 < B.size + b.size) = False := eq_false (by omega)
        have l5 : (5 ≤ (i : Int)) = False := eq_false (by omega)
        have d5 : decide ((i : Int) < 5) = true := decide_eq_true (by omega)
        have HJ := Aside0.mk hJ
        have HFN := Aside0.mk hFn
        have HLT := Aside0.mk hlt
        clear sA sB sa sb hA hB ha hb hJ hFn sA2 sB2
        by_cases i0 : 0 < i
        · have d0 : ((0 : Int) < (i : Int)) = True := eq_true (by omega)
          have d1 : ((i : Int) ≤ 0) = False := eq_false (by omega)
          have d2 : (0 < i) = True := eq_true i0
          have HJ2 := Aside0.mk (show Jn gs (i + 1) = A ++ ⟨#[32]⟩ ++ a by rw [HJ.out, if_pos i0])
          clear HJ i0
          by_cases ik : i = K
          · have dk : ((i : Int) != (K : Int)) = false := bne_eq_false_iff_eq.2 (by omega)
            have HF2 := Aside0.mk (show FeedFp.Fn fs K (i + 1) = B by rw [HFN.out, if_pos ik])
            clear HFN ik
            go_wp2_with fail
            go_roundw
            case rel => exact ⟨i + 1, by have := HLT.out; omega, by first | rfl | (push_cast; rfl), by rw [HJ2.out], by rw [HF2.out], by first | rfl | trivial⟩
            case measure => simp [intOf]; have := HLT.out; omega
          · have dk : ((i : Int) != (K : Int)) = true := bne_iff_ne.2 (by omega)
            by_cases bE : tl B = []
            · have be : B.toList.isEmpty = true := by rw [toList_data]; show (tl B).isEmpty = true; rw [bE]; rfl
              have HF2 := Aside0.mk (show FeedFp.Fn fs K (i + 1) = B ++ b by rw [HFN.out, if_neg ik, if_pos bE])
              clear HFN ik bE
              go_wp2_with fail
              go_roundw
              case rel => exact ⟨i + 1, by have := HLT.out; omega, by first | rfl | (push_cast; rfl), by rw [HJ2.out], by rw [HF2.out], by first | rfl | trivial⟩
              case measure => simp [intOf]; have := HLT.out; omega
            · have be : B.toList.isEmpty = false := by rw [toList_data]; show (tl B).isEmpty = false; cases h : tl B with | nil => exact absurd h bE | cons _ _ => rfl
              have HF2 := Aside0.mk (show FeedFp.Fn fs K (i + 1) = B ++ ⟨#[32]⟩ ++ b by rw [HFN.out, if_neg ik, if_neg bE])
              clear HFN ik bE
              go_wp2_with fail
              go_roundw
              case rel => exact ⟨i + 1, by have := HLT.out; omega, by first | rfl | (push_cast; rfl), by rw [HJ2.out], by rw [HF2.out], by first | rfl | trivial⟩
              case measure => simp [intOf]; have := HLT.out; omega
        · have d0 : ((0 : Int) < (i : Int)) = False := eq_false (by omega)
          have d1 : ((i : Int) ≤ 0) = True := eq_true (by omega)
          have d2 : (0 < i) = False := eq_false i0
          have HJ2 := Aside0.mk (show Jn gs (i + 1) = A ++ a by rw [HJ.out, if_neg i0])
          clear HJ i0
          by_cases ik : i = K
          · have dk : ((i : Int) != (K : Int)) = false := bne_eq_false_iff_eq.2 (by omega)
            have HF2 := Aside0.mk (show FeedFp.Fn fs K (i + 1) = B by rw [HFN.out, if_pos ik])
            clear HFN ik
            go_wp2_with fail
            go_roundw
            case rel => exact ⟨i + 1, by have := HLT.out; omega, by first | rfl | (push_cast; rfl), by rw [HJ2.out], by rw [HF2.out], by first | rfl | trivial⟩
            case measure => simp [intOf]; have := HLT.out; omega
          · have dk : ((i : Int) != (K : Int)) = true := bne_iff_ne.2 (by omega)
            by_cases bE : tl B = []
            · have be : B.toList.isEmpty = true := by rw [toList_data]; show (tl B).isEmpty = true; rw [bE]; rfl
              have HF2 := Aside0.mk (show FeedFp.Fn fs K (i + 1) = B ++ b by rw [HFN.out, if_neg ik, if_pos bE])
              clear HFN ik bE
              go_wp2_with fail
              go_roundw
              case rel => exact ⟨i + 1, by have := HLT.out; omega, by first | rfl | (push_cast; rfl), by rw [HJ2.out], by rw [HF2.out], by first | rfl | trivial⟩
              case measure => simp [intOf]; have := HLT.out; omega
            · have be : B.toList.isEmpty = false := by rw [toList_data]; show (tl B).isEmpty = false; cases h : tl B with | nil => exact absurd h bE | cons _ _ => rfl
              have HF2 := Aside0.mk (show FeedFp.Fn fs K (i + 1) = B ++ ⟨#[32]⟩ ++ b by rw [HFN.out, if_neg ik, if_neg bE])
              clear HFN ik bE
              go_wp2_with fail
              go_roundw
              case rel => exact ⟨i + 1, by have := HLT.out; omega, by first | rfl | (push_cast; rfl), by rw [HJ2.out], by rw [HF2.out], by first | rfl | trivial⟩
              case measure => simp [intOf]; have := HLT.out; omega
      · obtain rfl : i = 5 := by omega
        have sA := jn_size gs 30 HGz.out 5
        clear CF CG HF HGz
        obtain ⟨hA, hB, hC⟩ := HLAW.out
        obtain ⟨A, hAe⟩ : ∃ x, Jn gs 5 = x := ⟨_, rfl⟩
        obtain ⟨B, hBe⟩ : ∃ x, FeedFp.Fn fs K 5 = x := ⟨_, rfl⟩
        rw [hAe] at hA hC sA ⊢
        rw [hBe] at hB ⊢
        have HA := Aside0.mk hA
        have HBB := Aside0.mk hB
        have HC := Aside0.mk hC
        clear hA hB hC hAe hBe HLAW
        go_wp2_with fail
        have q1 : (9223372036854775807 < A.size + 2) = False := eq_false (by omega)
        clear sA
        refine (decode_calls A _ (HG.out.below B8.out)).mono ?_
        rintro e w3 ⟨rfl, b⟩
        rw [HA.out]
        simp only [zeroLn]
        have B9 := Aside0.mk (below_step B8.out b)
        have X9 := Aside0.mk (blk_below XB8.out b)
        clear b XB8 B8
        go_wp2_with fail
        obtain ⟨g1, hg1⟩ : ∃ g, w3.heap.size = g := ⟨_, rfl⟩
        obtain ⟨V3, hV3⟩ : ∃ V, w3.alloc (.cells #[.string ⟨#[]⟩, .int .i64 0, .string ⟨#[]⟩, .string ⟨#[]⟩, .int .i64 0] 24) = V := ⟨_, rfl⟩
        have KD := Aside0.mk (show V3.heap[g1]? = some (.cells #[.string ⟨#[]⟩, .int .i64 0, .string ⟨#[]⟩, .string ⟨#[]⟩, .int .i64 0] 24 (0, 0)) by rw [← hV3, ← hg1]; exact blk_new w3 _)
        have X10 := Aside0.mk (show V3.heap[gx]? = some (.cells #[.string so, .int .i64 n, .string sk, .string se, .int .i64 p] 24 (0, 0)) by rw [← hV3]; exact blk_alloc X9.out _)
        have B10 := Aside0.mk (show Below w.heap.size w V3 by rw [← hV3]; exact below_alloc B9.out _)
        rw [hV3, hg1]
        clear hV3 hg1 X9 B9
        refine (decode_calls B _ (HG.out.below B10.out)).mono ?_
        rintro e w4 ⟨rfl, b⟩
        rw [HBB.out]
        simp only [zeroLn]
        have B11 := Aside0.mk (below_step B10.out b)
        have X11 := Aside0.mk (blk_below X10.out b)
        have KD11 := Aside0.mk (blk_below KD.out b)
        clear b X10 B10 KD
        go_wp2_with fail
        obtain ⟨g2, hg2⟩ : ∃ g, w4.heap.size = g := ⟨_, rfl⟩
        obtain ⟨V4, hV4⟩ : ∃ V, w4.alloc (.cells #[.string ⟨#[]⟩, .int .i64 0, .string ⟨#[]⟩, .string ⟨#[]⟩, .int .i64 0] 24) = V := ⟨_, rfl⟩
        have X12 := Aside0.mk (show V4.heap[gx]? = some (.cells #[.string so, .int .i64 n, .string sk, .string se, .int .i64 p] 24 (0, 0)) by rw [← hV4]; exact blk_alloc X11.out _)
        have KD12 := Aside0.mk (show V4.heap[g1]? = some (.cells #[.string ⟨#[]⟩, .int .i64 0, .string ⟨#[]⟩, .string ⟨#[]⟩, .int .i64 0] 24 (0, 0)) by rw [← hV4]; exact blk_alloc KD11.out _)
        have B12 := Aside0.mk (show Below w.heap.size w V4 by rw [← hV4]; exact below_alloc B11.out _)
        rw [hV4, hg2]
        clear hV4 hg2 X11 B11 KD11
        obtain ⟨A2, hA2⟩ : ∃ x, A ++ (⟨#[32, 120]⟩ : ByteArray) = x := ⟨_, rfl⟩
        rw [hA2] at HC ⊢
        clear hA2
        refine (decode_calls A2 _ (HG.out.below B12.out)).mono ?_
        rintro e w5 ⟨rfl, b⟩
        rw [HC.out]
        simp only [zeroLn]
        have B13 := Aside0.mk (below_step B12.out b)
        have X13 := Aside0.mk (blk_below X12.out b)
        have KD13 := Aside0.mk (blk_below KD12.out b)
        clear b X12 B12 KD12 q1
        obtain ⟨V5, hV5⟩ : ∃ V, w5.alloc (.cells #[.string ⟨#[]⟩, .int .i64 0, .string ⟨#[]⟩, .string ⟨#[]⟩, .int .i64 0] 24) = V := ⟨_, rfl⟩
        have X14 := Aside0.mk (show V5.heap[gx]? = some (.cells #[.string so, .int .i64 n, .string sk, .string se, .int .i64 p] 24 (0, 0)) by rw [← hV5]; exact blk_alloc X13.out _)
        have KD14 := Aside0.mk (show V5.heap[g1]? = some (.cells #[.string ⟨#[]⟩, .int .i64 0, .string ⟨#[]⟩, .string ⟨#[]⟩, .int .i64 0] 24 (0, 0)) by rw [← hV5]; exact blk_alloc KD13.out _)
        have B14 := Aside0.mk (show Below w.heap.size w V5 by rw [← hV5]; exact below_alloc B13.out _)
        have HV5 := Aside0.mk hV5
        have y0 : (w5.alloc (.cells #[.string ⟨#[]⟩, .int .i64 0, .string ⟨#[]⟩, .string ⟨#[]⟩, .int .i64 0] 24)).cell? ⟨g1, 0, none⟩ = some (.string ⟨#[]⟩) := by rw [hV5]; exact (blk_cell KD14.out 0).trans rfl
        have y1 : (w5.alloc (.cells #[.string ⟨#[]⟩, .int .i64 0, .string ⟨#[]⟩, .string ⟨#[]⟩, .int .i64 0] 24)).cell? ⟨g1, 1, none⟩ = some (.int .i64 0) := by rw [hV5]; exact (blk_cell KD14.out 1).trans rfl
        have y2 : (w5.alloc (.cells #[.string ⟨#[]⟩, .int .i64 0, .string ⟨#[]⟩, .string ⟨#[]⟩, .int .i64 0] 24)).cell? ⟨g1, 2, none⟩ = some (.string ⟨#[]⟩) := by rw [hV5]; exact (blk_cell KD14.out 2).trans rfl
        have y3 : (w5.alloc (.cells #[.string ⟨#[]⟩, .int .i64 0, .string ⟨#[]⟩, .string ⟨#[]⟩, .int .i64 0] 24)).cell? ⟨g1, 3, none⟩ = some (.string ⟨#[]⟩) := by rw [hV5]; exact (blk_cell KD14.out 3).trans rfl
        have y4 : (w5.alloc (.cells #[.string ⟨#[]⟩, .int .i64 0, .string ⟨#[]⟩, .string ⟨#[]⟩, .int .i64 0] 24)).cell? ⟨g1, 4, none⟩ = some (.int .i64 0) := by rw [hV5]; exact (blk_cell KD14.out 4).trans rfl
        have x3 : (w5.alloc (.cells #[.string ⟨#[]⟩, .int .i64 0, .string ⟨#[]⟩, .string ⟨#[]⟩, .int .i64 0] 24)).cell? ⟨gx, 3, none⟩ = some (.string se) := by rw [hV5]; exact (blk_cell X14.out 3).trans rfl
        clear hV5 X13 KD13 B13
        go_wp2_with fail
        rw [HV5.out]
        refine (refname_calls se _).mono ?_
        rintro e w6 ⟨rfl, b⟩
        rw [HNM.out.2.2]
        have BZ := Aside0.mk (below_step B14.out b)
        clear b y0 y1 y2 y3 y4 x3
        go_wp2_with fail
        go_ret
        exact ⟨rfl, BZ.out⟩
end Go.Proofs.YtbecemdehelooaaDoor.FeedFi
