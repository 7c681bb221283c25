/- QueueKeeps' walk. -/
import Derived.Test.YtclekakhgaggdaaQM
import Derived.Test.YtclekakhgaggdaaWInv
import Derived.Test.YtclekakhgaggdaaWInvWords
import Derived.Test.YtclekakhgaggdaaWTab
namespace Go.Proofs.Ytclekakhgaggdaa.HeapC
open Go.RowKit Go.Proofs.Ytclekakhgaggdaa.HeapT Go.Proofs.Ytclekakhgaggdaa.HeapM Go.Proofs.Ytclekakhgaggdaa.QueueM Go.Proofs.YtclekakhgaggdaaW.PrintWords Go.Proofs.YtclekakhgaggdaaW.PrintLast Go.Proofs.YtclekakhgaggdaaW.PrintMore
set_option linter.unusedVariables false
set_option linter.unusedSimpArgs false
def tK9.T : Bool × List (List Nat × List Nat) := (true, [([], []), ([], []), ([0, 1], [0, 1]), ([], []), ([], []), ([3, 4], [3, 4]), ([5], [5]), ([2, 6], [2, 6])])
def tK9.B : List Nat := [0, 0, 3, 0, 0, 24, 56, 127]
theorem tK9.tab : rtab .any (opsOf Try.f4 9) = tK9.T := by kernel_rfl
theorem tK9.bits : waitsOk tK9.T.2 tK9.B = true := by kernel_rfl
theorem QOk.set {w : World} {q g mb : Nat} {C : Int → Option Int} {S : Int → Bool} {age most : Int} {n N : Nat} {D : Nat → Prop} (h : QOk w q g mb C S age most n N D) (B i : Nat) (u : Value) (hB : D B) : QOk (w.setCell ⟨B, i, none⟩ u) q g mb C S age most n N D := by
  obtain ⟨P, p, d, l⟩ := h.is
  have K : Kept w (w.setCell ⟨B, i, none⟩ u) (fun k => k ≠ B) := (Kept.refl w _).set B i u (fun h => h rfl)
  exact (p.keep K (fun k pk e => d k pk (e ▸ hB))).ok d (fun k e => Nat.lt_of_lt_of_le (l k e) K.size)
def KPost (wr w3 : World) (q g m : Nat) (C : Int → Option Int) (S : Int → Bool) (rm : Int) (N : Nat) (D : Nat → Prop) (s : Int) : Prop :=
  Kept wr w3 D ∧ ∃ n' N', QOk w3 q g m (upd C s none) (sadd S s false) 10 rm n' N' D ∧ N' ≤ N + 4000010
set_option maxHeartbeats 4000000 in
set_option maxRecDepth 20000 in
theorem keeps_walk (room : Int) (pv : Value) (zl : Nat) (Z : Nat → Nat → Int) (w : World) (ho : In64 room) (hz : Arrs 4 w pv zl Z) :
    Calls Try.prog 4 #[.int .i64 room, pv] w fun e w' => e = .returned (.bool true) ∧ Below w.heap.size w w' := by
  obtain ⟨a, cap, rfl, hmx, hcell⟩ := hz
  have hc' := Aside0.mk hcell
  have hmx2 : zl ≤ 9223372036854775807 := hmx
  obtain ⟨p0, p1⟩ := pk_range room 6 (by decide)
  have PR := Aside0.mk (fun w0 => pick_calls room 6 w0 ho (by decide) (by decide))
  obtain ⟨rm, hrm⟩ : ∃ r, 1 + pk room 6 = r := ⟨_, rfl⟩
  have HW := Aside0.mk (show wrap64 (1 + pk room 6) = rm by rw [← hrm]; unfold wrap64; omega)
  have hr0 : 1 ≤ rm ∧ rm ≤ 6 := by omega
  obtain ⟨Zb, hZ, hmk⟩ := made_bools w 12 (by decide)
  have HZ := Aside0.mk hZ
  have hmk' : ∀ w0 : World, (Instr.makeSlice 47 (.int .i64 12) (.int .i64 12)).run Try.prog w0 = .ok (.slice (some ⟨w0.heap.size, 0, none⟩) 12 12) (w0.alloc (.cells Zb 4)) := hmk
  obtain ⟨inf, hi0, hi1, hi2, hi3⟩ := info_int
  have hinf := Aside0.mk (And.intro hi0 (And.intro hi1 (And.intro hi2 hi3)))
  clear hcell hmx ho hmk hZ hrm p0 p1 hi0 hi1 hi2 hi3
  go_enter Try.func4, Try.ntmps4
  go_wp2_with fail
  refine (awake_calls w).mono ?_
  rintro e w1 ⟨rfl, B1⟩
  go_wp2_with fail
  refine (PR.out _).mono ?_
  rintro e w3 ⟨rfl, rfl⟩
  go_wp2_with fail
  rw [HW.out]
  refine (qok_new rm 10 w1 hr0.1 (by omega) (by decide) (by decide) (fun k => k < w.heap.size) (fun k d => Nat.lt_of_lt_of_le d B1.size)).mono ?_
  rintro e w3 ⟨q, g, m, rfl, H3, K3⟩
  have T3 := Aside0.mk (show QOk (w3.alloc (.cells Zb 4)) q g m (fun _ => none) (fun _ => false) 10 rm 0 0 (fun k => k < w.heap.size ∨ k = w3.heap.size) from H3.alloc _)
  have R3 := Aside0.mk (show BRow (w3.alloc (.cells Zb 4)) w3.heap.size 12 (fun _ => false) from ⟨Zb, _, HeapM.blk_new w3 _, fun j hj => HZ.out j hj⟩)
  have HBS := Aside0.mk (show w.heap.size ≤ w3.heap.size from Nat.le_trans B1.size K3.size)
  have K3' := Aside0.mk (((Kept.of_below (D := fun k => k < w.heap.size) B1).trans K3).alloc (.cells Zb 4))
  clear H3 K3 B1
  go_wp2_with fail
  obtain ⟨bw, hbw⟩ : ∃ b, w3.heap.size = b := ⟨_, rfl⟩
  obtain ⟨W3, hW3⟩ : ∃ W, w3.alloc (.cells Zb 4) = W := ⟨_, rfl⟩
  rw [hW3] at T3 R3 K3' ⊢
  rw [hbw] at T3 R3 HBS ⊢
  clear hW3 hbw hmk'
  go_loopw [8] (fun vi wr => ∃ (i : Nat) (f : Int → Bool) (n N : Nat) (C : Int → Option Int) (S : Int → Bool), vi = .int .i64 i ∧ i ≤ zl ∧ i ≤ 60 ∧ Aside0 (QOk wr q g m C S 10 rm n N (fun k => k < w.heap.size ∨ k = bw)) ∧ Aside0 (BRow wr bw 12 f) ∧ Aside0 (Un C S f) ∧ Aside0 (∀ x, f x = true → 0 ≤ x ∧ x < 12) ∧ Aside0 (N ≤ i * 5000000000) ∧ Aside0 (Kept w wr (fun k => k < w.heap.size))) (fun vi _ => 60 - (intOf vi).toNat)
  case atStart => exact ⟨0, (fun _ => false), 0, 0, (fun _ => none), (fun _ => false), rfl, by omega, by omega, T3, R3, ⟨fun x => rfl⟩, ⟨fun x hx => by cases hx⟩, ⟨by omega⟩, K3'⟩
  case round =>
    clear T3 R3 K3'
    obtain ⟨i, f, n, N, C, S, rfl, hiz, hi60, HQ, HB, HU, HS, HN, HK⟩ := hrel
    have d1 : decide ((i : Int) < 60) = decide (i < 60) := by simp; omega
    by_cases hl : i < zl
    · by_cases h60 : i < 60
      · have hw1 : wrap64 ((i : Int) + 1) = i + 1 := by unfold wrap64; omega
        obtain ⟨b, off, rfl, hb, hcz⟩ := hc'.out i hl
        obtain ⟨z0i, c0⟩ := hcz 0 (by decide)
        obtain ⟨z1i, c1⟩ := hcz 1 (by decide)
        obtain ⟨z2i, c2⟩ := hcz 2 (by decide)
        have e0 : wr.cell? ⟨b, off + i * 4, none⟩ = some (.int .i64 (Z i 0)) := (HK.out.cell hb hb (off + (i * 4 + 0))).trans c0
        have e1 : wr.cell? ⟨b, off + i * 4 + 1, none⟩ = some (.int .i64 (Z i 1)) := (HK.out.cell hb hb (off + (i * 4 + 1))).trans c1
        have e2 : wr.cell? ⟨b, off + i * 4 + 2, none⟩ = some (.int .i64 (Z i 2)) := (HK.out.cell hb hb (off + (i * 4 + 2))).trans c2
        obtain ⟨z0, hz0⟩ : ∃ z, Z i 0 = z := ⟨_, rfl⟩
        obtain ⟨z1, hz1⟩ : ∃ z, Z i 1 = z := ⟨_, rfl⟩
        obtain ⟨z2, hz2⟩ : ∃ z, Z i 2 = z := ⟨_, rfl⟩
        rw [hz0] at e0 z0i
        rw [hz1] at e1 z1i
        rw [hz2] at e2 z2i
        have P1 := Aside0.mk (fun w0 => pick_calls z1 12 w0 z1i (by decide) (by decide))
        have P0 := Aside0.mk (fun w0 => pick_calls z0 4 w0 z0i (by decide) (by decide))
        have P2 := Aside0.mk (fun w0 => pick_calls z2 9 w0 z2i (by decide) (by decide))
        obtain ⟨s0, s1⟩ := pk_range z1 12 (by decide)
        obtain ⟨o0, o1⟩ := pk_range z0 4 (by decide)
        obtain ⟨u0, u1⟩ := pk_range z2 9 (by decide)
        obtain ⟨s, hs⟩ : ∃ s : Nat, pk z1 12 = s := ⟨(pk z1 12).toNat, by omega⟩
        generalize pk z0 4 = op at o0 o1 P0
        generalize pk z2 9 = pr at u0 u1 P2
        rw [hs] at P1
        have hsl : s < 12 := by omega
        clear c0 c1 c2 hz0 hz1 hz2 hcz z0i z1i z2i s0 s1 hs d1
        have d2 : decide ((i : Int) < 60) = true := decide_eq_true (by omega)
        go_wp2_with fail
        refine (P1.out _).mono ?_
        rintro e w4 ⟨rfl, rfl⟩
        go_wp2_with fail
        refine (P0.out _).mono ?_
        rintro e w4 ⟨rfl, rfl⟩
        go_upto_block 2 with (fail)
        go_cut [58] (fun _ wx => ∃ (f : Int → Bool) (n N : Nat) (C : Int → Option Int) (S : Int → Bool), Aside0 (QOk wx q g m C S 10 rm n N (fun k => k < w.heap.size ∨ k = bw)) ∧ Aside0 (BRow wx bw 12 f) ∧ Aside0 (Un C S f) ∧ Aside0 (∀ x, f x = true → 0 ≤ x ∧ x < 12) ∧ Aside0 (N ≤ (i + 1) * 5000000000) ∧ Aside0 (Kept w wx (fun k => k < w.heap.size)))
        case first =>
          have hop : op = 0 ∨ op = 1 ∨ op = 2 ∨ op = 3 := by omega
          clear o0 o1
          rcases hop with rfl | rfl | rfl | rfl
          · go_wp2_with fail
            refine (P2.out _).mono ?_
            rintro e w5 ⟨rfl, rfl⟩
            go_wp2_with fail
            refine (HQ.out.want (by have := HN.out; omega) s pr i (by unfold WOk; omega)).mono ?_
            rintro e w5 ⟨r5, C5, S5, n5, N5, rfl, t5, H5, K5, hN5⟩
            have R3 := Aside0.mk (HU.out.want t5)
            have B5 := HB.out.kept K5 (.inr rfl)
            have c5 := B5.cell s hsl
            have z5 := B5.free s
            have l5 : (12 ≤ (s : Int)) = False := eq_false (by omega)
            have R1 := Aside0.mk (H5.set bw s (.bool true) (.inr rfl))
            have R2 := Aside0.mk (B5.set s hsl true)
            have R4 := Aside0.mk (show ∀ x, sadd f s true x = true → 0 ≤ x ∧ x < 12 by
              intro x hx
              unfold sadd at hx
              by_cases e : x = s
              · rw [e]; omega
              · rw [if_neg e] at hx; exact HS.out x hx)
            have R5 := Aside0.mk (show N5 ≤ (i + 1) * 5000000000 by have := HN.out; omega)
            have R6 := Aside0.mk ((HK.out.trans (K5.mono (fun k e => .inl e))).set bw s (.bool true) (by have := HBS.out; omega))
            clear H5 K5 t5 B5 hN5 HQ HB HU HS HN HK e0 e1 e2
            go_wp2_with fail
            go_meet
            exact ⟨sadd f s true, n5, N5, C5, S5, R1, R2, R3, R4, R5, R6⟩
          · go_wp2_with fail
            refine (P2.out _).mono ?_
            rintro e w5 ⟨rfl, rfl⟩
            go_wp2_with fail
            refine (HQ.out.want (by have := HN.out; omega) s pr i (by unfold WOk; omega)).mono ?_
            rintro e w5 ⟨r5, C5, S5, n5, N5, rfl, t5, H5, K5, hN5⟩
            have R3 := Aside0.mk (HU.out.want t5)
            have B5 := HB.out.kept K5 (.inr rfl)
            have c5 := B5.cell s hsl
            have z5 := B5.free s
            have l5 : (12 ≤ (s : Int)) = False := eq_false (by omega)
            have R1 := Aside0.mk (H5.set bw s (.bool true) (.inr rfl))
            have R2 := Aside0.mk (B5.set s hsl true)
            have R4 := Aside0.mk (show ∀ x, sadd f s true x = true → 0 ≤ x ∧ x < 12 by
              intro x hx
              unfold sadd at hx
              by_cases e : x = s
              · rw [e]; omega
              · rw [if_neg e] at hx; exact HS.out x hx)
            have R5 := Aside0.mk (show N5 ≤ (i + 1) * 5000000000 by have := HN.out; omega)
            have R6 := Aside0.mk ((HK.out.trans (K5.mono (fun k e => .inl e))).set bw s (.bool true) (by have := HBS.out; omega))
            clear H5 K5 t5 B5 hN5 HQ HB HU HS HN HK e0 e1 e2
            go_wp2_with fail
            go_meet
            exact ⟨sadd f s true, n5, N5, C5, S5, R1, R2, R3, R4, R5, R6⟩
          · go_wp2_with fail
            refine (HQ.out.next (by have := HN.out; omega) i).mono ?_
            rintro e w5 ⟨k, p, bb, C5, S5, n5, N5, rfl, t5, H5, K5, hN5⟩
            obtain ⟨hfk, U5⟩ := HU.out.next HQ.out.sc t5
            have B5 := HB.out.kept K5 (.inr rfl)
            have R5 := Aside0.mk (show N5 ≤ (i + 1) * 5000000000 by have := HN.out; omega)
            have KW := HK.out.trans (K5.mono (fun k e => .inl e))
            cases bb with
            | false =>
              have R1 := Aside0.mk H5
              have R2 := Aside0.mk B5
              have R3 := Aside0.mk (show Un C5 S5 f from U5)
              have R6 := Aside0.mk KW
              clear H5 K5 t5 B5 U5 KW hN5 hfk e0 e1 e2
              go_wp2_with fail
              go_meet
              exact ⟨f, n5, N5, C5, S5, R1, R2, R3, HS, R5, R6⟩
            | true =>
              have hk := hfk rfl
              obtain ⟨k0, k1⟩ := HS.out k hk
              obtain ⟨kn, rfl⟩ : ∃ kn : Nat, k = kn := ⟨k.toNat, by omega⟩
              have hkl : kn < 12 := by omega
              have ck : w5.cell? ⟨bw, kn, none⟩ = some (.bool true) := by have := B5.cell kn hkl; rw [hk] at this; exact this
              have zk := B5.free kn
              have e5 : decide (12 ≤ (kn : Int)) = false := decide_eq_false (by omega)
              have e6 : (12 ≤ (kn : Int)) = False := eq_false (by omega)
              have e7 : decide ((kn : Int) < 0) = false := decide_eq_false (by omega)
              have R1 := Aside0.mk (H5.set bw kn (.bool false) (.inr rfl))
              have R2 := Aside0.mk (B5.set kn hkl false)
              have R3 := Aside0.mk (show Un C5 S5 (sadd f kn false) from U5)
              have R4 := Aside0.mk (show ∀ x, sadd f kn false x = true → 0 ≤ x ∧ x < 12 by
                intro x hx
                unfold sadd at hx
                by_cases e : x = kn
                · rw [if_pos e] at hx; cases hx
                · rw [if_neg e] at hx; exact HS.out x hx)
              have R6 := Aside0.mk (KW.set bw kn (.bool false) (by have := HBS.out; omega))
              clear H5 K5 t5 B5 U5 KW hN5 hfk hk k0 k1 HQ HB HU HS HN HK e0 e1 e2
              go_wp2_with fail
              go_meet
              exact ⟨sadd f kn false, n5, N5, C5, S5, R1, R2, R3, R4, R5, R6⟩
          · obtain ⟨v, hv⟩ : ∃ v, f s = v := ⟨_, rfl⟩
            have hvv : ((C s).isSome || S s) = v := by rw [← hv]; exact HU.out s
            have HD := Aside0.mk (fun (w' : World) (e : w' = wr.drew) => show Calls Try.prog 16 #[.pointer (some ⟨q, 0, none⟩), .int .i64 (s : Int)] w' (fun e w3 => e = .returned (.bool v) ∧ KPost wr w3 q g m C S rm N (fun k => k < w.heap.size ∨ k = bw) s) from by
              subst e
              refine ((HQ.out.below (below_drew1 (Below.refl _ _))).drop (by have := HN.out; omega) s (wf_small (k := (s : Int)) (by omega) (by omega))).mono ?_
              rintro e w3 ⟨n5, N5, rfl, H5, K5, g1, g2, g3, g4⟩
              exact ⟨by rw [hvv], (Kept.of_below (below_drew1 (Below.refl _ _))).trans K5, n5, N5, H5, g1⟩)
            have CWA := Aside0.mk (show wr.cell? ⟨bw, s, none⟩ = some (.bool v) by rw [← hv]; exact HB.out.cell s hsl)
            have BL := Aside0.mk HB.out.lt
            clear hv hvv e0 e1 e2
            go_wp2_with fail
            refine start_ (n := 8) (S := fun w' => True) (ds := []) #[false, false, false, false, false, false, false, false] (by kernel_rfl) rfl rfl trivial (fun hHeld => ?_); refine with_tabW tK9.tab tK9.bits (fun HT_ HW_ => ?_)
            refine inv_at [0, 1, 2, 3, 4, 5, 6, 7] (fun a0_ b a w' => a = putSel a0_ b [(0, 47, .pointer (some ⟨q, 0, none⟩)), (1, 48, .int .i64 (s : Int)), (2, 49, .bool v), (3, 50, .slice (some ⟨bw, 0, none⟩) 12 12), (4, 51, .int .i64 (s : Int)), (5, 52, .pointer (some ⟨bw, s, none⟩)), (6, 53, .bool v), (7, 54, .bool false)] ∧ (b 2 = false → w' = wr.drew) ∧ (w'.cell? ⟨bw, s, none⟩ = some (.bool v)) ∧ (b 2 = true → KPost wr w' q g m C S rm N (fun k => k < w.heap.size ∨ k = bw) s)) HT_.out HW_.out (by kernel_rfl) (by kernel_rfl) ?_ ?_ ?_
            · exact ⟨by simp only [putSel, Bool.false_eq_true, if_false], fun _ => rfl, CWA.out, fun h_ => absurd h_ (by decide)⟩
            · skip
              refine steps_cons ?_ ?_
              · rintro b a w' ⟨ha, Q_WP, Q_CW, Q_HP⟩ hb_ hon hoff
                refine ⟨_, rfl, fun K hK => ?_⟩
                have e6 : a.tmps[6]? = some (.pointer (some ⟨q, 0, none⟩)) := by rw [ha]; exact (putSel_off rfl).trans rfl
                replace ha := Aside0.mk ha
                have R_WP := Q_WP (hoff 2 (by kernel_rfl))
                have R_CW := Q_CW
                replace R_WP := Aside0.mk R_WP
                refine value_ (w1 := w') (v := .pointer (some ⟨q, 0, none⟩)) (by rfl) rfl ?_ ?_
                · go_simp
                  (try simp only [i64_w])
                  try rfl
                refine hK.out _ _ ⟨(by rw [ha.out]; exact putSel_upk 0 hb_ rfl rfl rfl), Q_WP, Q_CW, fun h0_ => absurd ((hoff 2 (by kernel_rfl)).symm.trans h0_) (by decide)⟩
              refine steps_cons ?_ ?_
              · rintro b a w' ⟨ha, Q_WP, Q_CW, Q_HP⟩ hb_ hon hoff
                refine ⟨_, rfl, fun K hK => ?_⟩
                have e9 : a.tmps[9]? = some (.int .i64 (s : Int)) := by rw [ha]; exact (putSel_off rfl).trans rfl
                replace ha := Aside0.mk ha
                have R_WP := Q_WP (hoff 2 (by kernel_rfl))
                have R_CW := Q_CW
                replace R_WP := Aside0.mk R_WP
                refine value_ (w1 := w') (v := .int .i64 (s : Int)) (by rfl) rfl ?_ ?_
                · go_simp
                  (try simp only [i64_w])
                  try rfl
                refine hK.out _ _ ⟨(by rw [ha.out]; exact putSel_upk 1 hb_ rfl rfl rfl), Q_WP, Q_CW, fun h0_ => absurd ((hoff 2 (by kernel_rfl)).symm.trans h0_) (by decide)⟩
              refine steps_cons ?_ ?_
              · rintro b a w' ⟨ha, Q_WP, Q_CW, Q_HP⟩ hb_ hon hoff
                refine ⟨_, rfl, fun K hK => ?_⟩
                have e47 : a.tmps[47]? = some (.pointer (some ⟨q, 0, none⟩)) := by rw [ha]; exact putSel_on (e := (0, 47, .pointer (some ⟨q, 0, none⟩))) 0 rfl rfl (hon 0 (by kernel_rfl)) rfl
                have e48 : a.tmps[48]? = some (.int .i64 (s : Int)) := by rw [ha]; exact putSel_on (e := (1, 48, .int .i64 (s : Int))) 1 rfl rfl (hon 1 (by kernel_rfl)) rfl
                replace ha := Aside0.mk ha
                have R_WP := Q_WP hb_
                have R_CW := Q_CW
                replace R_WP := Aside0.mk R_WP
                refine goes_ Try.func16 (by kernel_rfl) rfl #[.pointer (some ⟨q, 0, none⟩), .int .i64 (s : Int)] (by rfl) rfl rfl (by first | (simp only [List.map_toArray, List.map_cons, List.map_nil, Act.eval, Array.getD_eq_getD_getElem?, Option.getD_some, e47, e48]; done) | (simp only [List.map_toArray, List.map_cons, List.map_nil, Act.eval, Array.getD_eq_getD_getElem?, Option.getD_some, e47, e48]; rfl)) ?_
                with_reducible refine (HD.out _ R_WP.out).mono ?_
                rintro e w3 ⟨rfl, hp⟩
                refine ⟨_, rfl, ?_⟩
                refine hK.out _ _ ⟨(by rw [ha.out]; exact putSel_upk 2 hb_ rfl rfl rfl), fun h0_ => absurd ((up_self b 2).symm.trans h0_) (by decide), (hp.1.cell BL.out (.inr rfl) s).trans CWA.out, fun _ => hp⟩
              refine steps_cons ?_ ?_
              · rintro b a w' ⟨ha, Q_WP, Q_CW, Q_HP⟩ hb_ hon hoff
                refine ⟨_, rfl, fun K hK => ?_⟩
                have e7 : a.tmps[7]? = some (.slice (some ⟨bw, 0, none⟩) 12 12) := by rw [ha]; exact (putSel_off rfl).trans rfl
                replace ha := Aside0.mk ha
                have R_CW := Q_CW
                refine value_ (w1 := w') (v := .slice (some ⟨bw, 0, none⟩) 12 12) (by rfl) rfl ?_ ?_
                · go_simp
                  (try simp only [i64_w])
                  try rfl
                refine hK.out _ _ ⟨(by rw [ha.out]; exact putSel_upk 3 hb_ rfl rfl rfl), Q_WP, Q_CW, Q_HP⟩
              refine steps_cons ?_ ?_
              · rintro b a w' ⟨ha, Q_WP, Q_CW, Q_HP⟩ hb_ hon hoff
                refine ⟨_, rfl, fun K hK => ?_⟩
                have e9 : a.tmps[9]? = some (.int .i64 (s : Int)) := by rw [ha]; exact (putSel_off rfl).trans rfl
                replace ha := Aside0.mk ha
                have R_CW := Q_CW
                refine value_ (w1 := w') (v := .int .i64 (s : Int)) (by rfl) rfl ?_ ?_
                · go_simp
                  (try simp only [i64_w])
                  try rfl
                refine hK.out _ _ ⟨(by rw [ha.out]; exact putSel_upk 4 hb_ rfl rfl rfl), Q_WP, Q_CW, Q_HP⟩
              refine steps_cons ?_ ?_
              · rintro b a w' ⟨ha, Q_WP, Q_CW, Q_HP⟩ hb_ hon hoff
                refine ⟨_, rfl, fun K hK => ?_⟩
                have e50 : a.tmps[50]? = some (.slice (some ⟨bw, 0, none⟩) 12 12) := by rw [ha]; exact putSel_on (e := (3, 50, .slice (some ⟨bw, 0, none⟩) 12 12)) 3 rfl rfl (hon 3 (by kernel_rfl)) rfl
                have e51 : a.tmps[51]? = some (.int .i64 (s : Int)) := by rw [ha]; exact putSel_on (e := (4, 51, .int .i64 (s : Int))) 4 rfl rfl (hon 4 (by kernel_rfl)) rfl
                replace ha := Aside0.mk ha
                have R_CW := Q_CW
                have l9 : (12 ≤ (s : Int)) = False := eq_false (by omega)
                refine value_ (w1 := w') (v := .pointer (some ⟨bw, s, none⟩)) (by rfl) rfl ?_ ?_
                · go_simp
                  (try simp only [i64_w])
                  try rfl
                refine hK.out _ _ ⟨(by rw [ha.out]; exact putSel_upk 5 hb_ rfl rfl rfl), Q_WP, Q_CW, Q_HP⟩
              refine steps_cons ?_ ?_
              · rintro b a w' ⟨ha, Q_WP, Q_CW, Q_HP⟩ hb_ hon hoff
                refine ⟨_, rfl, fun K hK => ?_⟩
                have e52 : a.tmps[52]? = some (.pointer (some ⟨bw, s, none⟩)) := by rw [ha]; exact putSel_on (e := (5, 52, .pointer (some ⟨bw, s, none⟩))) 5 rfl rfl (hon 5 (by kernel_rfl)) rfl
                replace ha := Aside0.mk ha
                have R_CW := Q_CW
                refine value_ (w1 := w') (v := .bool v) (by rfl) rfl ?_ ?_
                · go_simp
                  (try simp only [i64_w])
                  try rfl
                refine hK.out _ _ ⟨(by rw [ha.out]; exact putSel_upk 6 hb_ rfl rfl rfl), Q_WP, Q_CW, Q_HP⟩
              refine steps_cons ?_ ?_
              · rintro b a w' ⟨ha, Q_WP, Q_CW, Q_HP⟩ hb_ hon hoff
                refine ⟨_, rfl, fun K hK => ?_⟩
                have e49 : a.tmps[49]? = some (.bool v) := by rw [ha]; exact putSel_on (e := (2, 49, .bool v)) 2 rfl rfl (hon 2 (by kernel_rfl)) rfl
                have e53 : a.tmps[53]? = some (.bool v) := by rw [ha]; exact putSel_on (e := (6, 53, .bool v)) 6 rfl rfl (hon 6 (by kernel_rfl)) rfl
                replace ha := Aside0.mk ha
                have R_CW := Q_CW
                have R_HP := Q_HP (hon 2 (by kernel_rfl))
                replace R_HP := Aside0.mk R_HP
                refine value_ (w1 := w') (v := .bool false) (by rfl) rfl ?_ ?_
                · go_simp
                  (try simp only [i64_w])
                  try rfl
                refine hK.out _ _ ⟨(by rw [ha.out]; exact putSel_upk 7 hb_ rfl rfl rfl), Q_WP, Q_CW, Q_HP⟩
              exact steps_nil
            rintro b a w9 hall ⟨ha, Q_WP, Q_CW, Q_HP⟩
            have hb0_ := hall 0 (by kernel_rfl)
            have hb1_ := hall 1 (by kernel_rfl)
            have hb2_ := hall 2 (by kernel_rfl)
            have hb3_ := hall 3 (by kernel_rfl)
            have hb4_ := hall 4 (by kernel_rfl)
            have hb5_ := hall 5 (by kernel_rfl)
            have hb6_ := hall 6 (by kernel_rfl)
            have hb7_ := hall 7 (by kernel_rfl)
            subst ha
            clear Q_WP
            have CW := Aside0.mk (Q_CW)
            clear Q_CW
            have HP := Aside0.mk (Q_HP hb2_)
            clear Q_HP
            simp only [putSel, hb0_, hb1_, hb2_, hb3_, hb4_, hb5_, hb6_, hb7_, if_true, Act.put, List.setIfInBounds_toArray, List.set_cons_zero, List.set_cons_succ]
            clear hall hb0_ hb1_ hb2_ hb3_ hb4_ hb5_ hb6_ hb7_
            obtain ⟨K5, n5, N5, H5, g1⟩ := HP.out
            have B5 := HB.out.kept K5 (.inr rfl)
            have c5 := B5.cell s hsl
            have z5 := B5.free s
            have l5 : (12 ≤ (s : Int)) = False := eq_false (by omega)
            have R1 := Aside0.mk (H5.set bw s (.bool false) (.inr rfl))
            have R2 := Aside0.mk (B5.set s hsl false)
            have R3 := Aside0.mk (HU.out.drop s)
            have R4 := Aside0.mk (show ∀ x, sadd f s false x = true → 0 ≤ x ∧ x < 12 by
              intro x hx
              unfold sadd at hx
              by_cases e : x = s
              · rw [if_pos e] at hx; cases hx
              · rw [if_neg e] at hx; exact HS.out x hx)
            have R5 := Aside0.mk (show N5 ≤ (i + 1) * 5000000000 by have := HN.out; omega)
            have R6 := Aside0.mk ((HK.out.trans (K5.mono (fun k e => .inl e))).set bw s (.bool false) (by have := HBS.out; omega))
            clear H5 K5 B5 HP CW g1 HD CWA HQ HB HU HS HN HK
            go_wp2_with fail
            go_meet
            exact ⟨sadd f s false, n5, N5, upd C s none, sadd S s false, R1, R2, R3, R4, R5, R6⟩
        case rest =>
          clear HQ HB HU HS HN HK f n N C S P0 P1 P2 o0 o1 u0 u1 e0 e1 e2 hsl
          obtain ⟨f, n, N, C, S, HQ, HB, HU, HS, HN, HK⟩ := hcut
          go_wp2_with fail
          refine HQ.out.waiting.mono ?_
          rintro e w5 ⟨v5, ks, rfl, s5, l5, r5, b5⟩
          have HQ5 := Aside0.mk (HQ.out.below b5)
          have HB5 := Aside0.mk (HB.out.kept (Kept.of_below (D := fun k => k < w.heap.size ∨ k = bw) b5) (.inr rfl))
          have HK5 := Aside0.mk (HK.out.trans (Kept.of_below b5))
          have S5 := Aside0.mk s5
          have R5 := Aside0.mk r5
          have hnm := HQ.out.nm
          obtain ⟨a5, cap5, rfl⟩ := r5.val
          obtain ⟨kl, hkl⟩ : ∃ l, ks.length = l := ⟨_, rfl⟩
          have HKL := Aside0.mk hkl
          have hklm : (kl : Int) ≤ rm := by omega
          rw [hkl] at R5 ⊢
          clear s5 l5 r5 b5 HQ HB HK hkl hnm
          go_wp2_with fail
          refine (HQ5.out.dirty (by have := HN.out; omega)).mono ?_
          rintro e w6 ⟨v6, ys, rfl, s6, r6, b6⟩
          have HQ6 := Aside0.mk (HQ5.out.below b6)
          have HB6 := Aside0.mk (HB5.out.kept (Kept.of_below (D := fun k => k < w.heap.size ∨ k = bw) b6) (.inr rfl))
          have HK6 := Aside0.mk (HK5.out.trans (Kept.of_below b6))
          have S6 := Aside0.mk s6
          have R6 := Aside0.mk r6
          have R56 := Aside0.mk (R5.out.below b6)
          have hyl : ys.length ≤ 12 := by
            have hs12 : ∀ x, S x = true → 0 ≤ x ∧ x < 12 := fun x hx => HS.out x (by rw [← HU.out x, hx]; simp)
            rw [SetOf.unique s6.srt (upTo_set (k := 12) hs12).srt (fun x => (s6.mem x).trans ((upTo_set (k := 12) hs12).mem x).symm)]
            exact upTo_len S 12
          obtain ⟨a6, cap6, rfl⟩ := r6.val
          obtain ⟨yl, hyl2⟩ : ∃ l, ys.length = l := ⟨_, rfl⟩
          have HYL := Aside0.mk hyl2
          rw [hyl2] at R6 hyl ⊢
          clear s6 r6 b6 HQ5 HB5 HK5 R5 hyl2
          have BV := Aside0.mk (Below.refl w6.heap.size w6)
          go_wp2_with fail
          go_loopw [14, 15] (fun va vk wx => ∃ (k : Nat), vk = .int .i64 k ∧ k ≤ 12 ∧ Aside0 (NRow wx w6.heap.size va (upTo f k)) ∧ Aside0 (Below w6.heap.size w6 wx)) (fun _ vk _ => 12 - (intOf vk).toNat)
          case atStart => exact ⟨0, rfl, by omega, ⟨by show NRow _ _ _ []; simp [NRow]; exact World.ownsRow_nil _ _ _ _⟩, BV⟩
          case round =>
            clear BV
            obtain ⟨k, rfl, hk, HR, HKB⟩ := hrel
            by_cases hk12 : k < 12
            · have ck := (HB6.out.kept (Kept.of_below (D := fun k => k < w.heap.size ∨ k = bw) HKB.out) (.inr rfl)).cell k hk12
              have hwk : wrap64 ((k : Int) + 1) = (k : Int) + 1 := by unfold wrap64; omega
              have l12 : (12 ≤ (k : Int)) = False := eq_false (by omega)
              have dk : decide ((k : Int) < 12) = true := decide_eq_true (by omega)
              cases hf : f k with
              | true =>
                rw [hf] at ck
                have HF := Aside0.mk hf
                obtain ⟨L, hL⟩ : ∃ L, upTo f k = L := ⟨_, rfl⟩
                have hLl : L.length ≤ 1000000 := by rw [← hL]; have := upTo_len f k; omega
                have HLL := Aside0.mk hL
                rw [hL] at HR
                have HR2 := HR
                have HK2 := HKB
                clear hL hf HR HKB
                have hown : (wr.alloc (.cells #[.int .i64 (k : Int)] 3)).ownsRow w6.heap.size 3 1 _ L.length (L.map (Value.int .i64)) := HR2.out.below (by apply below_alloc; exact Below.refl _ _)
                have hnews := World.news_of_block (show (wr.alloc (.cells #[.int .i64 (k : Int)] 3 (0, 0))).heap[wr.heap.size]? = some (.cells #[.int .i64 (k : Int)] 3 (0, 0)) from HeapM.blk_new wr (.cells #[.int .i64 (k : Int)] 3 (0, 0)))
                have hgx : (wr.alloc (.cells #[.int .i64 (k : Int)] 3)).heap.size = wr.heap.size + 1 := by simp
                have hwB : w6.heap.size ≤ (wr.alloc (.cells #[.int .i64 (k : Int)] 3)).heap.size := by rw [hgx]; have := HK2.out.size; omega
                have hLm : L.length + 1 ≤ maxLen := by unfold maxLen; omega
                have hLb : (L.length + 1) * 8 ≤ 140737488355328 := by omega
                obtain ⟨hi0, hi1, hi2, hi3⟩ := hinf.out
                have hown' := Lib.hid hown
                have hnews' := Lib.hid hnews
                have hgx' := Lib.hid hgx
                have hi0' := Lib.hid hi0
                have hi1' := Lib.hid hi1
                have hi2' := Lib.hid hi2
                have hi3' := Lib.hid hi3
                have BA : Below w6.heap.size w6 (wr.alloc (.cells #[.int .i64 (k : Int)] 3)) := by apply below_alloc; exact HK2.out
                have BA' := Aside0.mk BA
                clear hown hnews hgx hi0 hi1 hi2 hi3 BA
                go_wp2_with (first | (at_builtin; go_loud (refine wpList_append_lies _ rfl _ _ 32 rfl w6.heap.size 3 inf (.int .i64 0) 1 8 Try.underlying32 hi0'.out hi1'.out hi2'.out hi3'.out rfl (by decide) _ L.length (L.map (Value.int .i64)) rfl hown'.out ⟨wr.heap.size, 0, none⟩ 1 1 [.int .i64 (k : Int)] rfl rfl hnews'.out ?c1 (by decide) hLm hLb hwB (wr.heap.size + 1) hgx'.out ?_)))
                case c1 => first | rfl | exact ⟨rfl, rfl⟩
                intro g2 cap2 w2 hown2 hgr2 hat2 hlt2
                obtain ⟨R2, B2⟩ := nrow_app BA'.out hown'.out hown2 hgr2
                have R2' := Aside0.mk R2
                have B2' := Aside0.mk B2
                clear hown2 hgr2 hat2 hlt2 R2 B2 hown' hnews' hgx' hi0' hi1' hi2' hi3' hwB hLm hLb
                go_wp2_with fail
                go_roundw
                case rel => exact ⟨k + 1, rfl, by omega, ⟨by rw [upTo_succ, HF.out, if_pos rfl, HLL.out]; exact R2'.out⟩, B2'⟩
                case measure => simp [intOf]; omega
              | false =>
                rw [hf] at ck
                have HF := Aside0.mk hf
                clear hf
                go_wp2_with fail
                go_roundw
                case rel => exact ⟨k + 1, rfl, by omega, ⟨by rw [upTo_succ, HF.out, if_neg (by decide)]; exact HR.out⟩, HKB⟩
                case measure => simp [intOf]; omega
            · obtain rfl : k = 12 := by omega
              obtain ⟨V2, rfl⟩ : ∃ V2, V2 = wr := ⟨_, rfl⟩
              obtain ⟨a7, cap7, rfl⟩ := HR.out.val
              have HR7 := HR
              have BK7 := HKB
              have HCK := Aside0.mk (show ∀ i, i < ks.length → ∃ b, a5 = some ⟨b, 0, none⟩ ∧ b < w6.heap.size ∧ w6.cell? ⟨b, i, none⟩ = some (.int .i64 (ks.getD i 0)) from R56.out.cells.2)
              have HCY := Aside0.mk (show ∀ i, i < ys.length → ∃ b, a6 = some ⟨b, 0, none⟩ ∧ b < w6.heap.size ∧ w6.cell? ⟨b, i, none⟩ = some (.int .i64 (ys.getD i 0)) from R6.out.cells.2)
              have HCK2 := Aside0.mk (show ∀ i, i < ks.length → ∃ b, a5 = some ⟨b, 0, none⟩ ∧ b < V2.heap.size ∧ V2.cell? ⟨b, i, none⟩ = some (.int .i64 (ks.getD i 0)) from fun i hi => by
                obtain ⟨b, e1, e2, e3⟩ := HCK.out i hi
                exact ⟨b, e1, Nat.lt_of_lt_of_le e2 BK7.out.size, (BK7.out.cell (p := ⟨b, i, none⟩) e2).trans e3⟩)
              have HCY2 := Aside0.mk (show ∀ i, i < ys.length → ∃ b, a6 = some ⟨b, 0, none⟩ ∧ b < V2.heap.size ∧ V2.cell? ⟨b, i, none⟩ = some (.int .i64 (ys.getD i 0)) from fun i hi => by
                obtain ⟨b, e1, e2, e3⟩ := HCY.out i hi
                exact ⟨b, e1, Nat.lt_of_lt_of_le e2 BK7.out.size, (BK7.out.cell (p := ⟨b, i, none⟩) e2).trans e3⟩)
              have HDJ := Aside0.mk (show ∀ x ∈ ks, x ∉ ys from fun x hx hy => by
                have h1 := (S5.out.mem x).1 hx
                have h2 := (S6.out.mem x).1 hy
                have h3 := HQ6.out.sc x h2
                rw [h3] at h1
                cases h1)
              clear HR HKB hk hk12 HCK HCY
              go_upto_block 5 with (fail)
              refine merge5 _ (by kernel_rfl) _ _ ?hpm V2 _ _ _ _ _ _ _ _ _ _ _ _ _ _ _ _ _ _ _ _ _ _ _ _ _ _ _ _ _ _ _ _ _ _ _ _ _ _ _ _ _ _ _ _ _ _ _ _ _ _ _ _ _ _ _ _ _ _ _ _ _ _ _ _ _ _ _ _ _ _ _ _ _ _ _ _ _ _ _ _ _ _ _ _ _ _ _ _ _ _ _ _ _ _ _ _ _ _ _ _ _ _ _ _ _ _ _ _ _ _ _ _ _ _ _ _ _ _ _ _ _ _ _ _ _ _ _ _ _ _ _ _ _ _ _ _ _ _ _ _ _ _ _ _ _ _ _ _ _ _ _ _ _ _ _ _ _ _ _ _ _ _ _ _ _ _ _ _ _ _ _ _ _ _ _ a5 a6 kl yl cap5 cap6 ks ys HCK2 HCY2 HKL HYL (by omega) hyl ⟨S5.out.srt⟩ ⟨S6.out.srt⟩ HDJ ?_
              case hpm => intro _ _ N _ _ h; cases N <;> exact h
              intro G vG y118 y119 y120 y121 y122 y123 y124 y125 y126 y127 y128 y129 y130 y131 y132 y133 y134 y135 y136 y137 y138 y139 y140 y141 y142 y143 y144 y145 y146 y147 y148 y149 y150 y151 y152 y153 y154 y155 y156 y157 y158 y159 y160 y161 y162 y163 y164 y165 y166 wr HMa HRa HKBa
              have HM := Aside0.mk HMa
              have HR := Aside0.mk HRa
              have HKB := Aside0.mk HKBa
              clear HMa HRa HKBa
              have BW6 := Aside0.mk (below_step BK7.out HKB.out)
              have hGf : G = upTo f 12 := by
                have h1 : SetOf f G := HM.out.done (by have := HKL.out; omega) (by have := HYL.out; omega) S5.out S6.out (fun x => HU.out x)
                have h2 := upTo_set (f := f) (k := 12) HS.out
                exact SetOf.unique h1.srt h2.srt (fun x => (h1.mem x).trans (h2.mem x).symm)
              subst hGf
              obtain ⟨a8, cap8, rfl⟩ := HR.out.val
              go_wp2_with fail
              refine (ints_calls _ _ (upTo f 12) _ HR.out.nums (HR7.out.below HKB.out).nums (by have := upTo_len f 12; omega)).mono ?_
              rintro e w9 ⟨rfl, b9⟩
              have hww := HW.out
              have dkl : decide (rm < (kl : Int)) = false := decide_eq_false (by omega)
              have dkl2 : (rm < (kl : Int)) = False := eq_false (by omega)
              go_wp2_with fail
              refine (PR.out _).mono ?_
              rintro e w10 ⟨rfl, rfl⟩
              go_wp2_with fail
              have BF := below_step BW6.out b9
              go_roundw
              case rel => exact ⟨i + 1, f, n, N, C, S, rfl, by omega, by omega, ⟨HQ6.out.below BF⟩, ⟨HB6.out.kept (Kept.of_below (D := fun k => k < w.heap.size ∨ k = bw) BF) (.inr rfl)⟩, HU, HS, HN, ⟨HK6.out.trans (Kept.of_below BF)⟩⟩
              case measure => simp [intOf]; omega
      · have d2 : decide ((i : Int) < 60) = false := decide_eq_false (by omega)
        clear d1
        go_wp2_with fail
        go_ret
        exact ⟨rfl, HK.out.below (Nat.le_refl _) (fun k d => d)⟩
    · clear d1
      go_wp2_with fail
      go_ret
      exact ⟨rfl, HK.out.below (Nat.le_refl _) (fun k d => d)⟩
end Go.Proofs.Ytclekakhgaggdaa.HeapC
