/- QueueRoom's walk. -/
import Derived.Test.YtclekakhgaggdaaQT
namespace Go.Proofs.Ytclekakhgaggdaa.HeapC
open Go.RowKit Go.Proofs.Ytclekakhgaggdaa.HeapT Go.Proofs.Ytclekakhgaggdaa.HeapM Go.Proofs.Ytclekakhgaggdaa.QueueM Go.Proofs.YtclekakhgaggdaaW.PrintWords Go.Proofs.YtclekakhgaggdaaW.PrintLast Go.Proofs.YtclekakhgaggdaaW.PrintMore
set_option linter.unusedVariables false
set_option linter.unusedSimpArgs false
theorem cnt_pos {f : Int → Bool} (h : 0 < cntB f) : ∃ k : Nat, k < 30 ∧ f k = true := by
  apply Classical.byContradiction
  intro hn
  have : cntB f = 0 := cnt_none (fun k hk => by
    cases e : f k with
    | false => rfl
    | true => exact absurd ⟨k, hk, e⟩ hn)
  omega
theorem top_zero {C : Int → Option Int} {n : Nat} {k p : Int} {b : Bool} (h : TopIs C n k p b) (hn : n = 0) : b = false := by
  rcases h with ⟨_, _, _, e⟩ | ⟨h0, _⟩
  · exact e
  · omega
theorem rest_told (f tf : Int → Bool) (y : Int) : sadd (fun x => f x && !tf x) y false = fun x => f x && !(sadd tf y true) x := by
  funext x
  unfold sadd
  by_cases e : x = y
  · rw [if_pos e, if_pos e]; simp
  · rw [if_neg e, if_neg e]
theorem sadd_same (f : Int → Bool) (k : Int) (v : Bool) (h : f k = v) : sadd f k v = f := by
  funext x
  unfold sadd
  by_cases e : x = k
  · rw [if_pos e, e, h]
  · rw [if_neg e]
set_option maxHeartbeats 4000000 in
set_option maxRecDepth 20000 in
theorem room_walk (pv : Value) (zs : List Int) (room : Int) (w : World) (hz : Ints w pv zs) (ho : In64 room) :
    Calls Try.prog 7 #[pv, .int .i64 room] w fun e w' => e = .returned (.bool true) ∧ Below w.heap.size w w' := by
  obtain ⟨a, cap, rfl, hmx, hcell⟩ := hz
  have hc' := Aside0.mk hcell
  obtain ⟨zl, hzl⟩ : ∃ l, l = zs.length := ⟨_, rfl⟩
  have hmx2 : zl ≤ 9223372036854775807 := by rw [hzl]; exact hmx
  have HZL := Aside0.mk hzl
  rw [← hzl]
  obtain ⟨p0, p1⟩ := pk_range room 5 (by decide)
  have PR := Aside0.mk (fun w0 => pick_calls room 5 w0 ho (by decide) (by decide))
  obtain ⟨rm, hrm⟩ : ∃ r, 1 + pk room 5 = r := ⟨_, rfl⟩
  have HW := Aside0.mk (show wrap64 (1 + pk room 5) = rm by rw [← hrm]; unfold wrap64; omega)
  have hr0 : 1 ≤ rm ∧ rm ≤ 5 := by omega
  obtain ⟨Z, hZ, hmk⟩ := made_bools w 30 (by decide)
  have HZ := Aside0.mk hZ
  have hmk' : ∀ w0 : World, (Instr.makeSlice 47 (.int .i64 30) (.int .i64 30)).run Try.prog w0 = .ok (.slice (some ⟨w0.heap.size, 0, none⟩) 30 30) (w0.alloc (.cells Z 4)) := hmk
  clear hcell hmx hzl ho hmk hZ hrm p0 p1
  go_enter Try.func7, Try.ntmps7
  go_wp2_with fail
  refine (awake_calls w).mono ?_
  rintro e w1 ⟨rfl, B1⟩
  go_wp2_with fail
  refine (qok_new 100 10 w1 (by decide) (by decide) (by decide) (by decide) (fun k => k < w.heap.size) (fun k d => Nat.lt_of_lt_of_le d B1.size)).mono ?_
  rintro e w2 ⟨q, g, m, rfl, H2, K2⟩
  have Q2 := Aside0.mk H2
  have K2' := Aside0.mk ((Kept.of_below (D := fun k => k < w.heap.size) B1).trans K2)
  clear H2 K2 B1
  go_wp2_with fail
  refine (PR.out _).mono ?_
  rintro e w3 ⟨rfl, rfl⟩
  go_wp2_with fail
  rw [HW.out]
  refine (Q2.out.two rm hr0.1 (by omega)).mono ?_
  rintro e w3 ⟨q', g', m', rfl, H3, K3⟩
  have f0c : cSeen (fun _ => false) = fun _ => none := by funext x; rfl
  have f0n : cntB (fun _ => false) = 0 := cnt_none (fun _ _ => rfl)
  have T3 := Aside0.mk (show TwoQ (w3.alloc (.cells Z 4)) q g m (cSeen (fun _ => false)) (fun _ => false) 100 (cntB (fun _ => false)) 0 q' g' m' (fun _ => none) (fun _ => false) rm 0 0 (fun k => k < w.heap.size ∨ k = w3.heap.size) by rw [f0c, f0n]; exact H3.alloc _)
  have R3 := Aside0.mk (show BRow (w3.alloc (.cells Z 4)) w3.heap.size 30 (fun _ => false) from ⟨Z, _, HeapM.blk_new w3 _, fun j hj => HZ.out j hj⟩)
  have HBS := Aside0.mk (show w.heap.size ≤ w3.heap.size from Nat.le_trans K2'.out.size K3.size)
  have K3' := Aside0.mk ((K2'.out.trans K3).alloc (.cells Z 4))
  have F0N := Aside0.mk f0n
  clear H3 K3 Q2 K2' f0c f0n
  go_wp2_with fail
  obtain ⟨bs, hbs⟩ : ∃ b, w3.heap.size = b := ⟨_, rfl⟩
  obtain ⟨W3, hW3⟩ : ∃ W, w3.alloc (.cells Z 4) = W := ⟨_, rfl⟩
  rw [hW3] at T3 R3 K3' ⊢
  rw [hbs] at T3 R3 HBS ⊢
  clear hW3 hbs
  go_loopw [9, 10, 11] (fun vn vi _ wr => ∃ (i : Nat) (f : Int → Bool) (n2 N N2 : Nat) (C2 : Int → Option Int) (S2 : Int → Bool), vn = .int .i64 ((cntB f : Nat) : Int) ∧ vi = .int .i64 i ∧ i ≤ zl ∧ i ≤ 30 ∧ Aside0 (TwoQ wr q g m (cSeen f) (fun _ => false) 100 (cntB f) N q' g' m' C2 S2 rm n2 N2 (fun k => k < w.heap.size ∨ k = bs)) ∧ Aside0 (BRow wr bs 30 f) ∧ Aside0 (Ub C2 S2 f rm n2) ∧ Aside0 (∀ x, f x = true → 0 ≤ x ∧ x < 30) ∧ Aside0 (N ≤ i * 4000000 ∧ N2 ≤ i * 4000000) ∧ Aside0 (Kept w wr (fun k => k < w.heap.size))) (fun _ vi _ _ => 30 - (intOf vi).toNat)
  case atStart => exact ⟨0, (fun _ => false), 0, 0, 0, (fun _ => none), (fun _ => false), by rw [F0N.out]; rfl, rfl, by omega, by omega, T3, R3, ⟨⟨fun x => rfl, fun x hx => by cases hx⟩⟩, ⟨fun x hx => by cases hx⟩, ⟨by omega⟩, K3'⟩
  case round =>
    clear T3 R3 K3' F0N
    obtain ⟨i, f, n2, N, N2, C2, S2, rfl, rfl, hiz, hi30, HT, HB, HU, HS, HN, HK⟩ := hrel
    have HV : Aside0 True := ⟨trivial⟩
    have d1 : decide ((i : Int) < 30) = decide (i < 30) := by simp; omega
    by_cases hl : i < zl
    · by_cases h12 : i < 30
      · have hw1 : wrap64 ((i : Int) + 1) = i + 1 := by unfold wrap64; omega
        obtain ⟨b, off, rfl, hb, h64, hcl⟩ := hc'.out i (by have := HZL.out; omega)
        have hcw : wr.cell? ⟨b, off + i, none⟩ = some (.int .i64 (zs.getD i 0)) := (HK.out.cell hb hb (off + i)).trans hcl
        obtain ⟨z, hzz⟩ : ∃ z, zs.getD i 0 = z := ⟨_, rfl⟩
        rw [hzz] at hcw h64
        clear hcl hzz d1
        have d2 : decide ((i : Int) < 30) = true := decide_eq_true (by omega)
        go_wp2_with fail
        refine (pick_calls z 30 wr h64 (by decide) (by decide)).mono ?_
        rintro e w4 ⟨rfl, rfl⟩
        obtain ⟨hp0, hp1⟩ := pk_range z 30 (by decide)
        obtain ⟨k, hk⟩ : ∃ k : Nat, pk z 30 = k := ⟨(pk z 30).toNat, by omega⟩
        rw [hk] at hp0 hp1 ⊢
        have hkl : k < 30 := by omega
        clear hk h64 hcw hp0
        go_wp2_with fail
        obtain ⟨D1, H1, hk1⟩ := HT.out.step
        refine (H1.want (by have := HN.out; omega) k 1 5 (by unfold WOk; omega)).mono ?_
        rintro e w5 ⟨r5, C5, S5, n5, N5, rfl, t5, H5, K5, hN5⟩
        obtain ⟨rfl, rfl, rfl, rfl⟩ := seen_want (k := (k : Int)) ⟨by omega, by omega⟩ t5
        obtain ⟨T5, K5'⟩ := hk1 _ _ _ _ _ H5 K5
        have HT5 := Aside0.mk T5
        have HK5 := Aside0.mk K5'
        have HN5 := Aside0.mk hN5
        clear T5 K5' H5 K5 t5 H1 hk1 hN5 HT
        go_wp2_with fail
        obtain ⟨D2, H2, hk2⟩ := HT5.out.swap.step
        refine (H2.want (by have := HN.out; omega) k 1 5 (by unfold WOk; omega)).mono ?_
        rintro e w6 ⟨r6, C6, S6, n6, N6, rfl, t6, H6, K6, hN6⟩
        obtain ⟨T6, K6'⟩ := hk2 _ _ _ _ _ H6 K6
        have KK := HK5.out.trans K6'
        have R4 := Aside0.mk (HU.out.want t6)
        have B6 := HB.out.kept KK (.inr rfl)
        have R5 := Aside0.mk (show ∀ x, sadd f k true x = true → 0 ≤ x ∧ x < 30 by
          intro x hx
          unfold sadd at hx
          by_cases e : x = k
          · rw [e]; omega
          · rw [if_neg e] at hx; exact HS.out x hx)
        have R6 := Aside0.mk (show N5 ≤ (i + 1) * 4000000 ∧ N6 ≤ (i + 1) * 4000000 by have := HN.out; have := HN5.out; omega)
        have KW := HK.out.trans (KK.mono (fun k e => .inl e))
        have e5 : (30 ≤ (k : Int)) = False := eq_false (by omega)
        have ck := B6.cell k hkl
        have zk := B6.free k
        cases hf : f k with
        | true =>
          rw [hf] at ck
          have hsame := sadd_same f k true hf
          rw [hsame] at T6 R4 R5
          have R1 := Aside0.mk T6.swap
          have R2 := Aside0.mk B6
          have R7 := Aside0.mk KW
          clear T6 K6' H6 K6 t6 H2 hk2 hN6 KK B6 KW hf hsame zk HT5 HK5 HN5 HB HU HS HN HK
          go_wp2_with fail
          go_roundw
          case rel => exact ⟨i + 1, f, n6, N5, N6, C6, S6, rfl, rfl, by omega, by omega, R1, R2, R4, R5, R6, R7⟩
          case measure => simp [intOf]; omega
        | false =>
          rw [hf] at ck
          have R1 := Aside0.mk (T6.swap.set bs k (.bool true) (.inr rfl))
          have R2 := Aside0.mk (B6.set k hkl true)
          have R7 := Aside0.mk (KW.set bs k (.bool true) (by have := HBS.out; omega))
          have hcn := cnt_le f
          have hwn : wrap64 ((cntB f : Int) + 1) = (cntB f : Int) + 1 := by unfold wrap64; omega
          have HVN := Aside0.mk (show Value.int .i64 ((cntB f : Int) + 1) = Value.int .i64 ((cntB (sadd f k true) : Nat) : Int) by rw [cnt_add f k hkl hf]; simp)
          clear T6 K6' H6 K6 t6 H2 hk2 hN6 KK B6 KW hf HT5 HK5 HN5 HB HU HS HN HK
          go_wp2_with fail
          go_roundw
          case rel => exact ⟨i + 1, sadd f k true, n6, N5, N6, C6, S6, HVN.out, rfl, by omega, by omega, R1, R2, R4, R5, R6, R7⟩
          case measure => simp [intOf]; omega
      · have d2 : decide ((i : Int) < 30) = false := decide_eq_false (by omega)
        clear d1
        go_wp2_with fail
        have hcn : cntB f ≤ 30 := cnt_le f
        have hvn := Aside0.mk HV.out
        obtain ⟨n, hn⟩ : ∃ n, cntB f = n := ⟨_, rfl⟩
        have HNN := Aside0.mk hn
        have HT' := HT.out
        rw [hn] at HT' hcn ⊢
        have HT1 := Aside0.mk HT'
        clear hn HT' HT
        refine (HT1.out.fst.dirty (by have := HN.out; omega)).mono ?_
        rintro e w5 ⟨v5, ys5, rfl, s5, r5, b5⟩
        obtain rfl : ys5 = [] := s5.one [] (by simp) (fun x => by simp)
        obtain ⟨a5, cap5, rfl⟩ := r5.val
        have HT2 := Aside0.mk (HT1.out.below b5)
        have HB2 := Aside0.mk (HB.out.kept (Kept.of_below (D := fun k => k < w.heap.size ∨ k = bs) b5) (.inr rfl))
        have HK2 := Aside0.mk (HK.out.trans (Kept.of_below b5))
        clear s5 r5 b5 HT1 HB HK
        go_wp2_with fail
        refine (HT2.out.fst.waiting).mono ?_
        rintro e w6 ⟨v6, ks6, rfl, s6, l6, r6, b6⟩
        obtain ⟨a6, cap6, rfl⟩ := r6.val
        rw [l6]
        have HT3 := Aside0.mk (HT2.out.below b6)
        have HB3 := Aside0.mk (HB2.out.kept (Kept.of_below (D := fun k => k < w.heap.size ∨ k = bs) b6) (.inr rfl))
        have HK3 := Aside0.mk (HK2.out.trans (Kept.of_below b6))
        clear s6 r6 b6 HT2 HB2 HK2 l6
        go_wp2_with fail
        refine (HT3.out.swap.fst.dirty (by have := HN.out; omega)).mono ?_
        rintro e w7 ⟨v7, ys7, rfl, s7, r7, b7⟩
        obtain ⟨a7, cap7, rfl⟩ := r7.val
        have HT4 := Aside0.mk (HT3.out.below b7)
        have HB4 := Aside0.mk (HB3.out.kept (Kept.of_below (D := fun k => k < w.heap.size ∨ k = bs) b7) (.inr rfl))
        have HK4 := Aside0.mk (HK3.out.trans (Kept.of_below b7))
        have S7 := Aside0.mk s7
        obtain ⟨l7, hl7⟩ : ∃ l, ys7.length = l := ⟨_, rfl⟩
        rw [hl7]
        have HL7 := Aside0.mk hl7
        clear s7 r7 b7 HT3 HB3 HK3 hl7
        go_wp2_with fail
        refine (HT4.out.swap.fst.waiting).mono ?_
        rintro e w8 ⟨v8, ks8, rfl, s8, -, r8, b8⟩
        obtain ⟨a8, cap8, rfl⟩ := r8.val
        obtain ⟨l8, hl8⟩ : ∃ l, ks8.length = l := ⟨_, rfl⟩
        rw [hl8]
        have hsum : l7 + l8 = n := by
          have e1 := cnt_set S7.out (fun x hx => HS.out x (by rw [← HU.out.1 x, hx]; simp))
          have e2 := cnt_set s8 (fun x hx => HS.out x (by rw [← HU.out.1 x, show (C2 x).isSome = true from hx]; simp))
          have e3 := cnt_or (f := f) (A := S2) (B := fun x => (C2 x).isSome) (fun x => by rw [← HU.out.1 x, Bool.or_comm]) (fun x hx => by have := HT4.out.swap.fst.sc x hx; rw [this]; rfl)
          have := HL7.out; have := HNN.out
          omega
        have hws : wrap64 ((l7 : Int) + (l8 : Int)) = (l7 : Int) + (l8 : Int) := by unfold wrap64; omega
        have hne : ((l7 : Int) + (l8 : Int) != (n : Int)) = false := by rw [show (l7 : Int) + (l8 : Int) = (n : Int) by omega]; simp
        have HT5 := Aside0.mk ((HT4.out.below b8).alloc (.cells Z 4))
        have HB5 := Aside0.mk (HB4.out.kept ((Kept.of_below (D := fun k => k < w.heap.size ∨ k = bs) b8).alloc (.cells Z 4)) (.inr rfl))
        have HK5 := Aside0.mk ((HK4.out.trans (Kept.of_below b8)).alloc (.cells Z 4))
        have HB6 := Aside0.mk (show BRow (w8.alloc (.cells Z 4)) w8.heap.size 30 (fun _ => false) from ⟨Z, _, HeapM.blk_new w8 _, fun j hj => HZ.out j hj⟩)
        have HNE := Aside0.mk (show bs ≠ w8.heap.size by have := HB4.out.lt; have := b8.size; omega)
        have HBT := Aside0.mk (show w.heap.size ≤ w8.heap.size from Nat.le_trans HK4.out.size b8.size)
        clear s8 r8 b8 HT4 HB4 HK4 hl8 S7 HL7
        go_wp2_with fail
        clear hws hsum hne
        obtain ⟨bt, hbt⟩ : ∃ b, w8.heap.size = b := ⟨_, rfl⟩
        obtain ⟨W8, hW8⟩ : ∃ W, w8.alloc (.cells Z 4) = W := ⟨_, rfl⟩
        rw [hW8] at HT5 HB5 HK5 HB6 ⊢
        rw [hbt] at HT5 HB6 HNE HBT ⊢
        clear hW8 hbt
        have HU0 := Aside0.mk (show Ub C2 S2 (fun x => f x && !(fun (_ : Int) => false) x) rm n2 by have := HU.out; simpa using this)
        have HC0 := Aside0.mk (show cntB (fun x => f x && !(fun (_ : Int) => false) x) = n - 0 by rw [← HNN.out]; simp)
        have HT6 := HT5.out
        rw [rest_start f HS.out] at HT6
        have HT7 := Aside0.mk HT6
        have HN0 := Aside0.mk (show N ≤ 120000000 + 0 * 5000000000 ∧ N2 ≤ 120000000 + 0 * 5000000000 by have := HN.out; omega)
        clear HT5 HT6 HU HN hvn HV
        go_loopw [13, 14, 15, 16, 17, 18] (fun vl vi _ _ _ _ wr => ∃ (i : Nat) (last : Int) (tf : Int → Bool) (n2 N N2 : Nat) (C2 : Int → Option Int) (S2 : Int → Bool), vl = .int .i64 last ∧ vi = .int .i64 i ∧ i ≤ n ∧ -1 ≤ last ∧ Aside0 (TwoQ wr q g m (cRest f last) (fun _ => false) 100 (n - i) N q' g' m' C2 S2 rm n2 N2 (fun k => (k < w.heap.size ∨ k = bs) ∨ k = bt)) ∧ Aside0 (BRow wr bs 30 f) ∧ Aside0 (BRow wr bt 30 tf) ∧ Aside0 (Ub C2 S2 (fun x => f x && !tf x) rm n2) ∧ Aside0 (cntB (fun x => f x && !tf x) = n - i) ∧ Aside0 (N ≤ 120000000 + i * 5000000000 ∧ N2 ≤ 120000000 + i * 5000000000) ∧ Aside0 (Kept w wr (fun k => k < w.heap.size))) (fun _ vi _ _ _ _ _ => n - (intOf vi).toNat)
        case atStart => exact ⟨0, -1, (fun _ => false), n2, N, N2, C2, S2, rfl, rfl, by omega, by omega, HT7, HB5, HB6, HU0, HC0, HN0, HK5⟩
        case round =>
          clear HT7 HB5 HB6 HU0 HC0 HN0 HK5
          clear N N2 n2 C2 S2
          obtain ⟨i, last, tf, n2, N, N2, C2, S2, rfl, rfl, hin, hl1, HT, HB, HBT2, HU, HC, HN, HK⟩ := hrel
          by_cases hlt : i < n
          · have d0 : decide ((i : Int) < (n : Int)) = true := decide_eq_true (by omega)
            have hw1 : wrap64 ((i : Int) + 1) = ((i + 1 : Nat) : Int) := by unfold wrap64; omega
            go_wp2_with fail
            obtain ⟨D1, H1, hk1⟩ := HT.out.step
            refine (H1.next (by have := HN.out; omega) 6).mono ?_
            rintro e w5 ⟨x, p5, b5, C5, S5, n5, N5, rfl, t5, H5, K5, hN5⟩
            obtain ⟨u5, rfl, rfl, rfl⟩ := t5.clean
            obtain ⟨rfl, hm⟩ := top_some' u5 (by omega)
            obtain ⟨hfx, hlx, hup⟩ := rest_top hm
            have H5' : QOk w5 q g m (cRest f x) (fun _ => false) 10 100 (n - i - 1) N5 D1 := by rw [← hup]; exact H5
            obtain ⟨T5, K5'⟩ := hk1 _ _ _ _ _ H5' K5
            obtain ⟨x0, x1⟩ := HS.out x hfx
            obtain ⟨xn, rfl⟩ : ∃ xn : Nat, x = xn := ⟨x.toNat, by omega⟩
            have HT5 := Aside0.mk T5
            have HK5 := Aside0.mk K5'
            have HN5 := Aside0.mk hN5
            have HFX := Aside0.mk hfx
            clear T5 K5' H5 H5' K5 u5 hm hup t5 H1 hk1 hN5 HT
            go_wp2_with fail
            obtain ⟨D2, H2, hk2⟩ := HT5.out.swap.step
            obtain ⟨kp, -, hkp⟩ := cnt_pos (f := fun x => f x && !tf x) (by rw [HC.out]; omega)
            have hpos : 0 < n2 := HU.out.pos (by omega) H2.sorted hkp
            refine (H2.next (by have := HN.out; omega) 6).mono ?_
            rintro e w6 ⟨y, p6, b6, C6, S6, n6, N6, rfl, t6, H6, K6, hN6⟩
            obtain ⟨rfl, -⟩ := top_some' t6.1 hpos
            obtain ⟨hfy, U6⟩ := HU.out.next H2.sc t6 rfl
            obtain ⟨T6, K6'⟩ := hk2 _ _ _ _ _ H6 K6
            simp only [Bool.and_eq_true, Bool.not_eq_true'] at hfy
            obtain ⟨hy1, hy2⟩ := hfy
            obtain ⟨y0, y1⟩ := HS.out y hy1
            obtain ⟨yn, rfl⟩ : ∃ yn : Nat, y = yn := ⟨y.toNat, by omega⟩
            have hyl : yn < 30 := by omega
            have hxl : xn < 30 := by omega
            have KK := HK5.out.trans K6'
            have B6 := HB.out.kept KK (.inl (.inr rfl))
            have BT6 := HBT2.out.kept KK (.inr rfl)
            have ct : w6.cell? ⟨bt, yn, none⟩ = some (.bool false) := by have := BT6.cell yn hyl; rw [hy2] at this; exact this
            have cy : w6.cell? ⟨bs, yn, none⟩ = some (.bool true) := by have := B6.cell yn hyl; rw [hy1] at this; exact this
            have cx : w6.cell? ⟨bs, xn, none⟩ = some (.bool true) := by have := B6.cell xn hxl; rw [HFX.out] at this; exact this
            have zt := BT6.free yn
            have e1 : decide ((xn : Int) ≤ last) = false := decide_eq_false (by omega)
            have e2 : decide ((yn : Int) < 0) = false := decide_eq_false (by omega)
            have e3 : decide (30 ≤ (yn : Int)) = false := decide_eq_false (by omega)
            have e4 : decide (30 ≤ (xn : Int)) = false := decide_eq_false (by omega)
            have e5 : (30 ≤ (yn : Int)) = False := eq_false (by omega)
            have e6 : (30 ≤ (xn : Int)) = False := eq_false (by omega)
            have R1 := Aside0.mk ((T6.swap.set bt yn (.bool true) (.inr rfl)))
            have R2 := Aside0.mk (B6.other ⟨bt, yn, none⟩ (.bool true) HNE.out)
            have R3 := Aside0.mk (BT6.set yn hyl true)
            rw [rest_told] at U6
            have R4 := Aside0.mk U6
            have R5 := Aside0.mk (show cntB (fun x => f x && !(sadd tf yn true) x) = n - (i + 1) by
              rw [← rest_told]
              have := cnt_sub (fun x => f x && !tf x) yn hyl (show (f yn && !tf yn) = true by rw [hy1, hy2]; rfl)
              have := HC.out
              omega)
            have R6 := Aside0.mk (show N5 ≤ 120000000 + (i + 1) * 5000000000 ∧ N6 ≤ 120000000 + (i + 1) * 5000000000 by have := HN.out; have := HN5.out; omega)
            have R7 := Aside0.mk ((HK.out.trans (KK.mono (fun k e => .inl (.inl e)))).set bt yn (.bool true) (by have := HBT.out; omega))
            clear T6 K6' H6 K6 t6 H2 hk2 hN6 hkp hpos hy1 hy2 KK B6 BT6 U6 y0 HT5 HK5 HN5 HFX HB HBT2 HU HC HN HK
            go_wp2_with fail
            go_roundw
            case rel => exact ⟨i + 1, xn, sadd tf yn true, n6, N5, N6, C6, S6, rfl, rfl, by omega, by omega, (by rw [show n - (i + 1) = n - i - 1 by omega]; exact R1), R2, R3, R4, R5, R6, R7⟩
            case measure => simp [intOf]; omega
          · have d0 : decide ((i : Int) < (n : Int)) = false := decide_eq_false (by omega)
            go_wp2_with fail
            obtain ⟨D1, H1, hk1⟩ := HT.out.step
            refine (H1.next (by have := HN.out; omega) 6).mono ?_
            rintro e w5 ⟨x, p5, b5, C5, S5, n5, N5, rfl, t5, H5, K5, hN5⟩
            obtain rfl := top_zero t5.1 (by omega)
            obtain ⟨T5, K5'⟩ := hk1 _ _ _ _ _ H5 K5
            have HT5 := Aside0.mk T5
            have HK5 := Aside0.mk (HK.out.trans (K5'.mono (fun k e => .inl (.inl e))))
            clear T5 K5' H5 K5 t5 H1 hk1 hN5 HT
            go_wp2_with fail
            obtain ⟨D2, H2, hk2⟩ := HT5.out.swap.step
            refine (H2.next (by have := HN.out; omega) 6).mono ?_
            rintro e w6 ⟨y, p6, b6, C6, S6, n6, N6, rfl, t6, H6, K6, hN6⟩
            obtain rfl := top_empty t6.1 (fun x => by
              have h1 : ((C2 x).isSome || S2 x) = (f x && !tf x) := HU.out.1 x
              have h0 : (f x && !tf x) = false := by
                cases hf : f x with
                | false => rfl
                | true =>
                  have hx := HS.out x hf
                  have : (f (x.toNat : Int) && !tf (x.toNat : Int)) = false := cnt_zero (f := fun x => f x && !tf x) (by rw [HC.out]; omega) x.toNat (by omega)
                  rw [show ((x.toNat : Nat) : Int) = x by omega, hf] at this
                  exact this
              rw [h0] at h1
              cases hc : C2 x with
              | none => rfl
              | some v => rw [hc] at h1; cases h1)
            obtain ⟨T6, K6'⟩ := hk2 _ _ _ _ _ H6 K6
            have HK6 := Aside0.mk (HK5.out.trans (K6'.mono (fun k e => .inl (.inl e))))
            clear T6 K6' H6 K6 t6 H2 hk2 hN6
            go_wp2_with fail
            go_ret
            exact ⟨rfl, HK6.out.below (Nat.le_refl _) (fun k d => d)⟩
    · clear d1
      go_wp2_with fail
      have hcn : cntB f ≤ 30 := cnt_le f
      have hvn := Aside0.mk HV.out
      obtain ⟨n, hn⟩ : ∃ n, cntB f = n := ⟨_, rfl⟩
      have HNN := Aside0.mk hn
      have HT' := HT.out
      rw [hn] at HT' hcn ⊢
      have HT1 := Aside0.mk HT'
      clear hn HT' HT
      refine (HT1.out.fst.dirty (by have := HN.out; omega)).mono ?_
      rintro e w5 ⟨v5, ys5, rfl, s5, r5, b5⟩
      obtain rfl : ys5 = [] := s5.one [] (by simp) (fun x => by simp)
      obtain ⟨a5, cap5, rfl⟩ := r5.val
      have HT2 := Aside0.mk (HT1.out.below b5)
      have HB2 := Aside0.mk (HB.out.kept (Kept.of_below (D := fun k => k < w.heap.size ∨ k = bs) b5) (.inr rfl))
      have HK2 := Aside0.mk (HK.out.trans (Kept.of_below b5))
      clear s5 r5 b5 HT1 HB HK
      go_wp2_with fail
      refine (HT2.out.fst.waiting).mono ?_
      rintro e w6 ⟨v6, ks6, rfl, s6, l6, r6, b6⟩
      obtain ⟨a6, cap6, rfl⟩ := r6.val
      rw [l6]
      have HT3 := Aside0.mk (HT2.out.below b6)
      have HB3 := Aside0.mk (HB2.out.kept (Kept.of_below (D := fun k => k < w.heap.size ∨ k = bs) b6) (.inr rfl))
      have HK3 := Aside0.mk (HK2.out.trans (Kept.of_below b6))
      clear s6 r6 b6 HT2 HB2 HK2 l6
      go_wp2_with fail
      refine (HT3.out.swap.fst.dirty (by have := HN.out; omega)).mono ?_
      rintro e w7 ⟨v7, ys7, rfl, s7, r7, b7⟩
      obtain ⟨a7, cap7, rfl⟩ := r7.val
      have HT4 := Aside0.mk (HT3.out.below b7)
      have HB4 := Aside0.mk (HB3.out.kept (Kept.of_below (D := fun k => k < w.heap.size ∨ k = bs) b7) (.inr rfl))
      have HK4 := Aside0.mk (HK3.out.trans (Kept.of_below b7))
      have S7 := Aside0.mk s7
      obtain ⟨l7, hl7⟩ : ∃ l, ys7.length = l := ⟨_, rfl⟩
      rw [hl7]
      have HL7 := Aside0.mk hl7
      clear s7 r7 b7 HT3 HB3 HK3 hl7
      go_wp2_with fail
      refine (HT4.out.swap.fst.waiting).mono ?_
      rintro e w8 ⟨v8, ks8, rfl, s8, -, r8, b8⟩
      obtain ⟨a8, cap8, rfl⟩ := r8.val
      obtain ⟨l8, hl8⟩ : ∃ l, ks8.length = l := ⟨_, rfl⟩
      rw [hl8]
      have hsum : l7 + l8 = n := by
        have e1 := cnt_set S7.out (fun x hx => HS.out x (by rw [← HU.out.1 x, hx]; simp))
        have e2 := cnt_set s8 (fun x hx => HS.out x (by rw [← HU.out.1 x, show (C2 x).isSome = true from hx]; simp))
        have e3 := cnt_or (f := f) (A := S2) (B := fun x => (C2 x).isSome) (fun x => by rw [← HU.out.1 x, Bool.or_comm]) (fun x hx => by have := HT4.out.swap.fst.sc x hx; rw [this]; rfl)
        have := HL7.out; have := HNN.out
        omega
      have hws : wrap64 ((l7 : Int) + (l8 : Int)) = (l7 : Int) + (l8 : Int) := by unfold wrap64; omega
      have hne : ((l7 : Int) + (l8 : Int) != (n : Int)) = false := by rw [show (l7 : Int) + (l8 : Int) = (n : Int) by omega]; simp
      have HT5 := Aside0.mk ((HT4.out.below b8).alloc (.cells Z 4))
      have HB5 := Aside0.mk (HB4.out.kept ((Kept.of_below (D := fun k => k < w.heap.size ∨ k = bs) b8).alloc (.cells Z 4)) (.inr rfl))
      have HK5 := Aside0.mk ((HK4.out.trans (Kept.of_below b8)).alloc (.cells Z 4))
      have HB6 := Aside0.mk (show BRow (w8.alloc (.cells Z 4)) w8.heap.size 30 (fun _ => false) from ⟨Z, _, HeapM.blk_new w8 _, fun j hj => HZ.out j hj⟩)
      have HNE := Aside0.mk (show bs ≠ w8.heap.size by have := HB4.out.lt; have := b8.size; omega)
      have HBT := Aside0.mk (show w.heap.size ≤ w8.heap.size from Nat.le_trans HK4.out.size b8.size)
      clear s8 r8 b8 HT4 HB4 HK4 hl8 S7 HL7
      go_wp2_with fail
      clear hws hsum hne
      obtain ⟨bt, hbt⟩ : ∃ b, w8.heap.size = b := ⟨_, rfl⟩
      obtain ⟨W8, hW8⟩ : ∃ W, w8.alloc (.cells Z 4) = W := ⟨_, rfl⟩
      rw [hW8] at HT5 HB5 HK5 HB6 ⊢
      rw [hbt] at HT5 HB6 HNE HBT ⊢
      clear hW8 hbt
      have HU0 := Aside0.mk (show Ub C2 S2 (fun x => f x && !(fun (_ : Int) => false) x) rm n2 by have := HU.out; simpa using this)
      have HC0 := Aside0.mk (show cntB (fun x => f x && !(fun (_ : Int) => false) x) = n - 0 by rw [← HNN.out]; simp)
      have HT6 := HT5.out
      rw [rest_start f HS.out] at HT6
      have HT7 := Aside0.mk HT6
      have HN0 := Aside0.mk (show N ≤ 120000000 + 0 * 5000000000 ∧ N2 ≤ 120000000 + 0 * 5000000000 by have := HN.out; omega)
      clear HT5 HT6 HU HN hvn HV
      go_loopw [13, 14, 15, 16, 17, 18] (fun vl vi _ _ _ _ wr => ∃ (i : Nat) (last : Int) (tf : Int → Bool) (n2 N N2 : Nat) (C2 : Int → Option Int) (S2 : Int → Bool), vl = .int .i64 last ∧ vi = .int .i64 i ∧ i ≤ n ∧ -1 ≤ last ∧ Aside0 (TwoQ wr q g m (cRest f last) (fun _ => false) 100 (n - i) N q' g' m' C2 S2 rm n2 N2 (fun k => (k < w.heap.size ∨ k = bs) ∨ k = bt)) ∧ Aside0 (BRow wr bs 30 f) ∧ Aside0 (BRow wr bt 30 tf) ∧ Aside0 (Ub C2 S2 (fun x => f x && !tf x) rm n2) ∧ Aside0 (cntB (fun x => f x && !tf x) = n - i) ∧ Aside0 (N ≤ 120000000 + i * 5000000000 ∧ N2 ≤ 120000000 + i * 5000000000) ∧ Aside0 (Kept w wr (fun k => k < w.heap.size))) (fun _ vi _ _ _ _ _ => n - (intOf vi).toNat)
      case atStart => exact ⟨0, -1, (fun _ => false), n2, N, N2, C2, S2, rfl, rfl, by omega, by omega, HT7, HB5, HB6, HU0, HC0, HN0, HK5⟩
      case round =>
        clear HT7 HB5 HB6 HU0 HC0 HN0 HK5
        clear N N2 n2 C2 S2
        obtain ⟨i, last, tf, n2, N, N2, C2, S2, rfl, rfl, hin, hl1, HT, HB, HBT2, HU, HC, HN, HK⟩ := hrel
        by_cases hlt : i < n
        · have d0 : decide ((i : Int) < (n : Int)) = true := decide_eq_true (by omega)
          have hw1 : wrap64 ((i : Int) + 1) = ((i + 1 : Nat) : Int) := by unfold wrap64; omega
          go_wp2_with fail
          obtain ⟨D1, H1, hk1⟩ := HT.out.step
          refine (H1.next (by have := HN.out; omega) 6).mono ?_
          rintro e w5 ⟨x, p5, b5, C5, S5, n5, N5, rfl, t5, H5, K5, hN5⟩
          obtain ⟨u5, rfl, rfl, rfl⟩ := t5.clean
          obtain ⟨rfl, hm⟩ := top_some' u5 (by omega)
          obtain ⟨hfx, hlx, hup⟩ := rest_top hm
          have H5' : QOk w5 q g m (cRest f x) (fun _ => false) 10 100 (n - i - 1) N5 D1 := by rw [← hup]; exact H5
          obtain ⟨T5, K5'⟩ := hk1 _ _ _ _ _ H5' K5
          obtain ⟨x0, x1⟩ := HS.out x hfx
          obtain ⟨xn, rfl⟩ : ∃ xn : Nat, x = xn := ⟨x.toNat, by omega⟩
          have HT5 := Aside0.mk T5
          have HK5 := Aside0.mk K5'
          have HN5 := Aside0.mk hN5
          have HFX := Aside0.mk hfx
          clear T5 K5' H5 H5' K5 u5 hm hup t5 H1 hk1 hN5 HT
          go_wp2_with fail
          obtain ⟨D2, H2, hk2⟩ := HT5.out.swap.step
          obtain ⟨kp, -, hkp⟩ := cnt_pos (f := fun x => f x && !tf x) (by rw [HC.out]; omega)
          have hpos : 0 < n2 := HU.out.pos (by omega) H2.sorted hkp
          refine (H2.next (by have := HN.out; omega) 6).mono ?_
          rintro e w6 ⟨y, p6, b6, C6, S6, n6, N6, rfl, t6, H6, K6, hN6⟩
          obtain ⟨rfl, -⟩ := top_some' t6.1 hpos
          obtain ⟨hfy, U6⟩ := HU.out.next H2.sc t6 rfl
          obtain ⟨T6, K6'⟩ := hk2 _ _ _ _ _ H6 K6
          simp only [Bool.and_eq_true, Bool.not_eq_true'] at hfy
          obtain ⟨hy1, hy2⟩ := hfy
          obtain ⟨y0, y1⟩ := HS.out y hy1
          obtain ⟨yn, rfl⟩ : ∃ yn : Nat, y = yn := ⟨y.toNat, by omega⟩
          have hyl : yn < 30 := by omega
          have hxl : xn < 30 := by omega
          have KK := HK5.out.trans K6'
          have B6 := HB.out.kept KK (.inl (.inr rfl))
          have BT6 := HBT2.out.kept KK (.inr rfl)
          have ct : w6.cell? ⟨bt, yn, none⟩ = some (.bool false) := by have := BT6.cell yn hyl; rw [hy2] at this; exact this
          have cy : w6.cell? ⟨bs, yn, none⟩ = some (.bool true) := by have := B6.cell yn hyl; rw [hy1] at this; exact this
          have cx : w6.cell? ⟨bs, xn, none⟩ = some (.bool true) := by have := B6.cell xn hxl; rw [HFX.out] at this; exact this
          have zt := BT6.free yn
          have e1 : decide ((xn : Int) ≤ last) = false := decide_eq_false (by omega)
          have e2 : decide ((yn : Int) < 0) = false := decide_eq_false (by omega)
          have e3 : decide (30 ≤ (yn : Int)) = false := decide_eq_false (by omega)
          have e4 : decide (30 ≤ (xn : Int)) = false := decide_eq_false (by omega)
          have e5 : (30 ≤ (yn : Int)) = False := eq_false (by omega)
          have e6 : (30 ≤ (xn : Int)) = False := eq_false (by omega)
          have R1 := Aside0.mk ((T6.swap.set bt yn (.bool true) (.inr rfl)))
          have R2 := Aside0.mk (B6.other ⟨bt, yn, none⟩ (.bool true) HNE.out)
          have R3 := Aside0.mk (BT6.set yn hyl true)
          rw [rest_told] at U6
          have R4 := Aside0.mk U6
          have R5 := Aside0.mk (show cntB (fun x => f x && !(sadd tf yn true) x) = n - (i + 1) by
            rw [← rest_told]
            have := cnt_sub (fun x => f x && !tf x) yn hyl (show (f yn && !tf yn) = true by rw [hy1, hy2]; rfl)
            have := HC.out
            omega)
          have R6 := Aside0.mk (show N5 ≤ 120000000 + (i + 1) * 5000000000 ∧ N6 ≤ 120000000 + (i + 1) * 5000000000 by have := HN.out; have := HN5.out; omega)
          have R7 := Aside0.mk ((HK.out.trans (KK.mono (fun k e => .inl (.inl e)))).set bt yn (.bool true) (by have := HBT.out; omega))
          clear T6 K6' H6 K6 t6 H2 hk2 hN6 hkp hpos hy1 hy2 KK B6 BT6 U6 y0 HT5 HK5 HN5 HFX HB HBT2 HU HC HN HK
          go_wp2_with fail
          go_roundw
          case rel => exact ⟨i + 1, xn, sadd tf yn true, n6, N5, N6, C6, S6, rfl, rfl, by omega, by omega, (by rw [show n - (i + 1) = n - i - 1 by omega]; exact R1), R2, R3, R4, R5, R6, R7⟩
          case measure => simp [intOf]; omega
        · have d0 : decide ((i : Int) < (n : Int)) = false := decide_eq_false (by omega)
          go_wp2_with fail
          obtain ⟨D1, H1, hk1⟩ := HT.out.step
          refine (H1.next (by have := HN.out; omega) 6).mono ?_
          rintro e w5 ⟨x, p5, b5, C5, S5, n5, N5, rfl, t5, H5, K5, hN5⟩
          obtain rfl := top_zero t5.1 (by omega)
          obtain ⟨T5, K5'⟩ := hk1 _ _ _ _ _ H5 K5
          have HT5 := Aside0.mk T5
          have HK5 := Aside0.mk (HK.out.trans (K5'.mono (fun k e => .inl (.inl e))))
          clear T5 K5' H5 K5 t5 H1 hk1 hN5 HT
          go_wp2_with fail
          obtain ⟨D2, H2, hk2⟩ := HT5.out.swap.step
          refine (H2.next (by have := HN.out; omega) 6).mono ?_
          rintro e w6 ⟨y, p6, b6, C6, S6, n6, N6, rfl, t6, H6, K6, hN6⟩
          obtain rfl := top_empty t6.1 (fun x => by
            have h1 : ((C2 x).isSome || S2 x) = (f x && !tf x) := HU.out.1 x
            have h0 : (f x && !tf x) = false := by
              cases hf : f x with
              | false => rfl
              | true =>
                have hx := HS.out x hf
                have : (f (x.toNat : Int) && !tf (x.toNat : Int)) = false := cnt_zero (f := fun x => f x && !tf x) (by rw [HC.out]; omega) x.toNat (by omega)
                rw [show ((x.toNat : Nat) : Int) = x by omega, hf] at this
                exact this
            rw [h0] at h1
            cases hc : C2 x with
            | none => rfl
            | some v => rw [hc] at h1; cases h1)
          obtain ⟨T6, K6'⟩ := hk2 _ _ _ _ _ H6 K6
          have HK6 := Aside0.mk (HK5.out.trans (K6'.mono (fun k e => .inl (.inl e))))
          clear T6 K6' H6 K6 t6 H2 hk2 hN6
          go_wp2_with fail
          go_ret
          exact ⟨rfl, HK6.out.below (Nat.le_refl _) (fun k d => d)⟩
end Go.Proofs.Ytclekakhgaggdaa.HeapC
