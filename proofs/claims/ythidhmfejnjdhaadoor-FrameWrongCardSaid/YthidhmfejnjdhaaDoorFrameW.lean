/- FrameWrong's walk, by hand. -/
import Derived.Test.YthidhmfejnjdhaaDoorPureFrameWrong
import Derived.Outline
import Derived.Lib.Hide
import Derived.Handy
import Derived.Lib.ConvBytes
import Derived.Laws.IdiomStrings
namespace Go.Proofs.YthidhmfejnjdhaaDoor.FrameW
open Go.RowKit Go.Proofs.YthidhmfejnjdhaaDoor.HFrameWrong Go.Proofs.YthidhmfejnjdhaaDoor.Pure.FrameWrongP Go.Proofs.YthidhmfejnjdhaaDoor.FrameS Go.Proofs.YthidhmfejnjdhaaDoor.FrameC Go.Proofs.YthidhmfejnjdhaaDoor.FrameG Go.Proofs.YthidhmfejnjdhaaDoorW.PrintWords Go.Proofs.YthidhmfejnjdhaaDoorW.PrintLast Go.Proofs.YthidhmfejnjdhaaDoorW.PrintMore
set_option linter.unusedVariables false
set_option linter.unusedSimpArgs false

def In64 (c : Int) : Prop := -9223372036854775808 ≤ c ∧ c ≤ 9223372036854775807
theorem in64_of {c : Int} (h : (Lit.int .i64 c).wf = true) : In64 c := by
  unfold Lit.wf at h
  rw [Bool.and_eq_true, decide_eq_true_eq, decide_eq_true_eq] at h
  exact ⟨h.1, h.2⟩
theorem wf_of {c : Int} (h : In64 c) : (Lit.int .i64 c).wf = true := by
  unfold Lit.wf
  rw [Bool.and_eq_true, decide_eq_true_eq, decide_eq_true_eq]
  exact ⟨h.1, h.2⟩
/-- Which of n things a raw number speaks of. -/
def pk (c n : Int) : Int := Int.emod (if c < 0 then -(c + 1) else c) n
theorem pk_range (c n : Int) (h : 0 < n) : 0 ≤ pk c n ∧ pk c n < n := ⟨Int.emod_nonneg _ (by omega), Int.emod_lt_of_pos _ h⟩

set_option maxHeartbeats 1000000 in
theorem pick_calls (c n : Int) (w : World) (hc : In64 c) (h0 : 0 < n) (h1 : n ≤ 1000000) :
    Calls Tryd.prog 16 #[.int .i64 c, .int .i64 n] w fun e w' => e = .returned (.int .i64 (pk c n)) ∧ w = w' := by
  unfold In64 at hc
  have hr := pk_range c n h0
  have hn0 : (n == 0) = false := beq_eq_false_iff_ne.2 (by omega)
  have hn1 : (n == -1) = false := beq_eq_false_iff_ne.2 (by omega)
  by_cases hneg : c < 0
  · have e1 : wrap64 (c + 1) = c + 1 := by unfold wrap64; omega
    have e2 : wrap64 (-(c + 1)) = -(c + 1) := by unfold wrap64; omega
    have e3 : (-(c + 1)).tmod n = pk c n := by unfold pk; rw [if_pos hneg, Int.tmod_eq_emod_of_nonneg (by omega)]; rfl
    have e4 : wrap64 (pk c n) = pk c n := by unfold wrap64; omega
    have H := Lib.hid (And.intro e1 (And.intro e2 (And.intro e3 e4)))
    have d : decide (c < 0) = true := decide_eq_true hneg
    go_enter Tryd.func16, Tryd.ntmps16
    go_wp2
    go_returns
    obtain ⟨e1, e2, e3, e4⟩ := H.out
    exact ⟨rfl, rfl⟩
  · have e3 : c.tmod n = pk c n := by unfold pk; rw [if_neg hneg, Int.tmod_eq_emod_of_nonneg (by omega)]; rfl
    have e4 : wrap64 (pk c n) = pk c n := by unfold wrap64; omega
    have H := Lib.hid (And.intro e3 e4)
    have d : decide (c < 0) = false := decide_eq_false hneg
    go_enter Tryd.func16, Tryd.ntmps16
    go_wp2
    go_returns
    obtain ⟨e3, e4⟩ := H.out
    exact ⟨rfl, rfl⟩


theorem cell_oth (W : World) (B i j : Nat) (u : Value) (h : i ≠ j) : (W.setCell ⟨B, i, none⟩ u).cell? ⟨B, j, none⟩ = W.cell? ⟨B, j, none⟩ := World.cell?_setCell_other W _ _ u (fun e => h (by injection e))
theorem ofInt8 (a : UInt8) : BitVec.ofInt 8 (a.toNat : Int) = a.toBitVec := by
  apply BitVec.eq_of_toNat_eq
  rw [BitVec.toNat_ofInt]
  have := a.toNat_lt
  show ((a.toNat : Int) % 256).toNat = a.toNat
  omega
theorem xor8 (a b : UInt8) : bits .xor .u8 (a.toNat : Int) (b.toNat : Int) = ((a ^^^ b).toNat : Int) := by
  show IntKind.u8.wrap ((BitVec.ofInt 8 (a.toNat : Int) ^^^ BitVec.ofInt 8 (b.toNat : Int)).toNat : Int) = _
  rw [ofInt8, ofInt8]
  have h : (a.toBitVec ^^^ b.toBitVec).toNat = (a ^^^ b).toNat := rfl
  rw [h]
  generalize a ^^^ b = c
  have := c.toNat_lt
  simp [IntKind.wrap, IntKind.bits, IntKind.signed]
  omega
theorem wrap8 (a : UInt8) : IntKind.u8.wrap (a.toNat : Int) = a.toNat := by
  have := a.toNat_lt
  simp [IntKind.wrap, IntKind.bits, IntKind.signed]
  omega
theorem byte_of (c : Int) (h0 : 0 ≤ c) (h1 : c < 256) : ∃ x : UInt8, c = (x.toNat : Int) := ⟨UInt8.ofNat c.toNat, by rw [UInt8.toNat_ofNat']; omega⟩
theorem xor_ne (c x : UInt8) (h : x ≠ 0) : c ^^^ x ≠ c := by
  intro e
  have h2 : c ^^^ (c ^^^ x) = c ^^^ c := by rw [e]
  rw [← UInt8.xor_assoc, UInt8.xor_self, UInt8.zero_xor] at h2
  exact h h2
theorem frozen_bytes (w : World) (e : TypeId) (s : ByteArray) (j : Nat) (hj : j < s.size) : (Lib.bytesWorld w e s).frozen? ⟨w.heap.size, j, none⟩ = false := by
  have h : j < (Lib.bytesCells w e s).size := by unfold Lib.bytesCells; simp; have : s.data.size = s.size := rfl; omega
  simp [World.frozen?, Lib.bytesWorld_at_new]
  omega
theorem below_bytes (w : World) (e : TypeId) (s : ByteArray) : Below w.heap.size w (Lib.bytesWorld w e s) := by
  refine ⟨rfl, rfl, rfl, by rw [Lib.bytesWorld_size]; omega, fun k hk => Lib.bytesWorld_at_old w e s k hk⟩
/-- What is scanned where one byte of one frame is another one. -/
theorem scan_hurt (l : List S24) (hR : ∀ x ∈ l, Right (toR x)) (i : Nat) (hi : i < l.length) (hn : l.length ≤ 12) (k : Nat) (hk : 2 ≤ k) (s2 : ByteArray) (hs2 : s2 = framesB (((l.take (i + 1)).drop i).map toR)) (hk2 : k < s2.size) (y : UInt8) (hy : y ≠ 0) (T : ByteArray) (hT : T = ⟨((s2.data.toList.set k (s2.data.toList.getD k 0 ^^^ y))).toArray⟩) :
    frame_Scan.f (framesB ((l.take i).map toR) ++ T ++ framesB ((l.drop (i + 1)).map toR)) = some (l.take i, ((framesB ((l.take i).map toR)).size : Int), endE false) := by
  have hone : (l.take (i + 1)).drop i = [l[i]] := by
    rw [List.drop_take, show i + 1 - i = 1 by omega, List.drop_eq_getElem_cons hi]; rfl
  have r0 := hR _ (List.getElem_mem hi)
  have e2 : s2.data.toList = frameL (toR l[i]) := by
    rw [hs2, hone]
    show framesL [toR l[i]] = _
    rw [framesL_cons, framesL_nil, List.append_nil]
  have e3 : s2.size = (frameL (toR l[i])).length := by rw [← e2, Array.length_toList]; rfl
  have r1 : ∀ x ∈ l.take i, Right (toR x) := fun x hx => hR x (List.mem_of_mem_take hx)
  have r3 : ∀ x ∈ l.drop (i + 1), Right (toR x) := fun x hx => hR x (List.mem_of_mem_drop hx)
  rw [e3] at hk2
  rw [e2] at hT
  have hg : (frameL (toR l[i])).getD k 0 = (frameL (toR l[i]))[k] := by simp [List.getD, List.getElem?_eq_getElem hk2]
  rw [hg] at hT
  have h := scan_frames (all_right r1) (scan_wrong (toR l[i]) r0 k hk hk2 ((frameL (toR l[i]))[k] ^^^ y) (xor_ne _ _ hy) (framesL ((l.drop (i + 1)).map toR)))
  have et : tl (framesB ((l.take i).map toR) ++ T ++ framesB ((l.drop (i + 1)).map toR)) = framesL ((l.take i).map toR) ++ ((frameL (toR l[i])).set k ((frameL (toR l[i]))[k] ^^^ y) ++ framesL ((l.drop (i + 1)).map toR)) := by
    rw [hT]
    simp [tl, ByteArray.data_append, framesB]
  rw [← et] at h
  have z1 := frames_short _ (all_right r1)
  have z3 := frames_short _ (all_right r3)
  rw [List.length_map, List.length_take] at z1
  rw [List.length_map, List.length_drop] at z3
  have b0 := body_length _ r0
  have b1 := frame_length (toR l[i])
  have hTs : T.size = (frameL (toR l[i])).length := by rw [hT]; show (List.toArray _).size = _; simp
  rw [scan_ok h (by rw [ByteArray.size_append, ByteArray.size_append, size_framesB, size_framesB, hTs]; omega), List.append_nil, map_of_to, size_framesB, Nat.add_zero]

theorem endE_wrong : endE false = 40 := by decide
set_option maxHeartbeats 2000000 in
set_option maxRecDepth 20000 in
theorem wrong_walk (A0 : Option Addr) (c0 : Nat) (l0 : List (List Int)) (A1 : Option Addr) (c1 : Nat) (l1 : List ByteArray) (a2 a3 a4 : Int) (w : World)
    (hr0 : Kd.C (Kd.slice 3 (Kd.int .i64)) w A0 l0.length l0) (hc0 : l0.length ≤ c0) (hr1 : Kd.C Kd.string w A1 l1.length l1) (hc1 : l1.length ≤ c1) (hG : G w)
    (hx : ∀ r ∈ l0, ∀ n ∈ r, W64 n) (hx1 : l1.length ≤ 9223372036854775807) (h2 : W64 a2) (h3 : W64 a3) (h4 : W64 a4) :
    Calls Tryd.prog 6 #[.slice A0 l0.length c0, .slice A1 l1.length c1, .int .i64 a2, .int .i64 a3, .int .i64 a4] w fun e w' => e = .returned (.bool true) ∧ Below w.heap.size w w' := by
  obtain ⟨l, hl, hR, hn⟩ := records_ok l0 l1 hx hx1 700 (Nat.le_refl _)
  have HR0 := Aside0.mk hr0
  have HC0 := Aside0.mk hc0
  have HR1 := Aside0.mk hr1
  have HC1 := Aside0.mk hc1
  have HL := Aside0.mk hl
  have HRR := Aside0.mk hR
  have H2 := Aside0.mk h2
  have H3 := Aside0.mk h3
  have H4 := Aside0.mk h4
  have HN := Aside0.mk hn
  have HG := Aside0.mk hG
  clear hr0 hc0 hr1 hc1 hl hR hx hx1 h2 h3 h4 hn hG
  go_enter Tryd.func6, Tryd.ntmps6
  go_wp2_with fail
  refine (hagglerlaw04_awake.calls true _ awake_ok HG.out).mono ?_
  rintro e w1 ⟨rfl, B1⟩
  have HB1 := Aside0.mk B1
  clear B1
  go_wp2_with fail
  refine (hagglerlaw04_Records.calls 700 A0 c0 l0 A1 c1 l1 l w1 (Kd.C_below HR0.out HB1.out) HC0.out (Kd.C_below HR1.out HB1.out) HC1.out HL.out).mono ?_
  rintro e w2 ⟨v, rfl, ho, B2⟩
  obtain ⟨A, c, rfl⟩ := Kd.S_slice ho
  have hroom := (Kd.S_reads' ho).2.1
  have hC := (Kd.S_reads' ho).2.2
  have HB2 := Aside0.mk (below_step HB1.out B2)
  have HG2 := Aside0.mk (HG.out.below HB2.out)
  have HC := Aside0.mk hC
  have HRm := Aside0.mk hroom
  clear ho B2 HB1 hC hroom HR0 HR1 HC0 HC1 HL HG
  by_cases hz : l.length = 0
  · have d0 : ((l.length : Int) == 0) = true := beq_iff_eq.2 (by omega)
    go_wp2_with fail
    go_returns
    exact ⟨rfl, HB2.out⟩
  have d0 : ((l.length : Int) == 0) = false := beq_eq_false_iff_ne.2 (by omega)
  obtain ⟨p2, p3⟩ := pk_range a2 (l.length : Int) (by omega)
  obtain ⟨i, hpi⟩ : ∃ i : Nat, pk a2 (l.length : Int) = i := ⟨(pk a2 (l.length : Int)).toNat, by omega⟩
  rw [hpi] at p2 p3
  have hi : i < l.length := by omega
  have P1 := Aside0.mk hpi
  have HI := Aside0.mk hi
  have hl12 : (l.length : Int) ≤ 1000000 := by have := HN.out; omega
  have HL12 := Aside0.mk hl12
  have hz0 := Aside0.mk (show 0 < (l.length : Int) by omega)
  clear p2 p3 hi hz hpi hl12
  go_wp2_with fail
  refine (pick_calls a2 (l.length : Int) w2 (in64_of H2.out) hz0.out HL12.out).mono ?_
  rintro e w3 ⟨rfl, rfl⟩
  rw [P1.out]
  clear hz0 HL12
  have hi := HI.out
  obtain ⟨i0, hi0, _, hsz, _⟩ := info_parts FrameC.info24
  have hw1 : wrap64 ((i : Int) + 1) = (i : Int) + 1 := by have := HN.out; unfold wrap64; omega
  have cut1 := cut_to (P := Tryd.prog) 32 24 .i64 Tryd.underlying32 hi0 A l.length c (i : Int) (by omega) (by omega) HRm.out
  have cut2 := cut_mid (P := Tryd.prog) 32 24 .i64 .i64 Tryd.underlying32 hi0 3 hsz A l.length c (i : Int) ((i : Int) + 1) (by omega) (by omega) (by omega) HRm.out
  have cut3 := cut_from (P := Tryd.prog) 32 24 .i64 Tryd.underlying32 hi0 3 hsz A l.length c ((i : Int) + 1) (by omega) (by omega)
  have n1 : (i : Int).toNat = i := Int.toNat_natCast i
  have n2 : ((i : Int) + 1).toNat = i + 1 := by omega
  have C1 := Kd.C_take (m := i) HC.out (by omega)
  have C2 := Kd.C_mid (lo := i) (hi := i + 1) (c := c) HC.out (by omega) (by omega) HRm.out
  have C3 := Kd.C_drop (m := i + 1) (c := c) HC.out (by omega) HRm.out
  rw [show k24.sz = 3 from rfl] at C2 C3
  obtain ⟨L1, hL1⟩ : ∃ y, l.take i = y := ⟨_, rfl⟩
  obtain ⟨L2, hL2⟩ : ∃ y, (l.take (i + 1)).drop i = y := ⟨_, rfl⟩
  obtain ⟨L3, hL3⟩ : ∃ y, l.drop (i + 1) = y := ⟨_, rfl⟩
  have z1 : L1.length = i := by rw [← hL1, List.length_take]; omega
  have z2 : L2.length = i + 1 - i := by rw [← hL2, List.length_drop, List.length_take]; omega
  have z3 : L3.length = l.length - (i + 1) := by rw [← hL3, List.length_drop]
  rw [show (i : Int).toNat = L1.length by omega] at cut1
  rw [show ((i : Int) + 1).toNat - (i : Int).toNat = L2.length by omega, n1] at cut2
  rw [show l.length - ((i : Int) + 1).toNat = L3.length by omega, n2] at cut3
  obtain ⟨A2, hA2⟩ : ∃ a, (if c = i then A else A.map (·.add (i * 3))) = a := ⟨_, rfl⟩
  obtain ⟨A3, hA3⟩ : ∃ a, (if c = i + 1 then A else A.map (·.add ((i + 1) * 3))) = a := ⟨_, rfl⟩
  obtain ⟨ca, hca⟩ : ∃ a, c - i = a := ⟨_, rfl⟩
  obtain ⟨cb, hcb⟩ : ∃ a, c - (i + 1) = a := ⟨_, rfl⟩
  have hra : L2.length ≤ ca := by have := HRm.out; omega
  have hrb : L3.length ≤ cb := by have := HRm.out; omega
  rw [hA2] at cut2 C2
  rw [hA3] at cut3 C3
  rw [hca] at cut2
  rw [hcb] at cut3
  have RL := Aside0.mk (show L1.length ≤ c by have := HRm.out; omega)
  have RA := Aside0.mk hra
  have RB := Aside0.mk hrb
  clear hca hcb hra hrb
  rw [hL1] at C1
  rw [hL2] at C2
  rw [hL3] at C3
  have r1 : ∀ x ∈ L1, Right (toR x) := fun x hx => HRR.out x (by rw [← hL1] at hx; exact List.mem_of_mem_take hx)
  have r2 : ∀ x ∈ L2, Right (toR x) := fun x hx => HRR.out x (by rw [← hL2] at hx; exact List.mem_of_mem_take (List.mem_of_mem_drop hx))
  have r3 : ∀ x ∈ L3, Right (toR x) := fun x hx => HRR.out x (by rw [← hL3] at hx; exact List.mem_of_mem_drop hx)
  have hnn := HN.out
  have f1 := frames_ok L1 r1 (by omega) 20 (by omega)
  have f2 := frames_ok L2 r2 (by omega) 20 (by omega)
  have f3 := frames_ok L3 r3 (by omega) 20 (by omega)
  have hu := scan_hurt l HRR.out i hi hnn
  have sm := same_yes L1 (by omega) (nums_of r1) 700 (by omega)
  rw [hL1, hL2, hL3] at hu
  have q1 := frames_short _ (all_right r1)
  have q2 := frames_short _ (all_right r2)
  have q3 := frames_short _ (all_right r3)
  rw [List.length_map, ← size_framesB] at q1 q2 q3
  have hone : 6 ≤ (framesB (L2.map toR)).size := by
    rw [size_framesB, ← hL2, List.drop_take, show i + 1 - i = 1 by omega, List.drop_eq_getElem_cons hi]
    show 6 ≤ (framesL [toR l[i]]).length
    rw [framesL_cons, framesL_nil, List.append_nil]
    have b0 := body_length _ (HRR.out _ (List.getElem_mem hi))
    have b1 := frame_length (toR l[i])
    omega
  obtain ⟨s1, hs1⟩ : ∃ s, framesB (L1.map toR) = s := ⟨_, rfl⟩
  obtain ⟨s2, hs2⟩ : ∃ s, framesB (L2.map toR) = s := ⟨_, rfl⟩
  obtain ⟨s3, hs3⟩ : ∃ s, framesB (L3.map toR) = s := ⟨_, rfl⟩
  rw [hs1] at f1 q1 hu
  rw [hs2] at f2 q2 hu hone
  rw [hs3] at f3 q3 hu
  have v1 : s1.size ≤ 40000 := by omega
  have v2 : s2.size ≤ 40000 := by omega
  have v3 : s3.size ≤ 40000 := by omega
  have cut1' := Aside0.mk cut1
  have F1 := Aside0.mk f1
  have F2 := Aside0.mk f2
  have F3 := Aside0.mk f3
  have SM := Aside0.mk sm
  have HU := Aside0.mk hu
  have K1 := Aside0.mk C1
  have K2 := Aside0.mk C2
  have K3 := Aside0.mk C3
  have Z1 := Aside0.mk z1
  have Z2 := Aside0.mk z2
  have Z3 := Aside0.mk z3
  have V1 := Aside0.mk v1
  have V2 := Aside0.mk v2
  have V3 := Aside0.mk v3
  have HO := Aside0.mk hone
  clear f1 f2 f3 sm hu C1 C2 C3 z1 z2 z3 v1 v2 v3 hone q1 q2 q3 hs1 hs2 hs3 r1 r2 r3 hL1 hL2 hL3 hA2 hA3 n1 n2 hsz hi0 hi hnn HI HN P1
  have E3 := Aside0.mk (show Below w2.heap.size w2 w2 from Below.refl _ _)
  go_wp2_with fail
  refine (hagglerlaw04_frames.calls 20 A c L1 s1 true _ (Kd.C_below K1.out E3.out) RL.out F1.out (HG2.out.below E3.out)).mono ?_
  rintro e w4 ⟨rfl, B4⟩
  have E4 := Aside0.mk (below_step E3.out B4)
  clear B4 E3
  go_wp2_with fail
  refine (hagglerlaw04_frames.calls 20 A2 ca L2 s2 true _ (Kd.C_below K2.out E4.out) RA.out F2.out (HG2.out.below E4.out)).mono ?_
  rintro e w5 ⟨rfl, B5⟩
  have E5 := Aside0.mk (below_step E4.out B5)
  clear B5 E4
  go_wp2_with fail
  refine (hagglerlaw04_frames.calls 20 A3 cb L3 s3 true _ (Kd.C_below K3.out E5.out) RB.out F3.out (HG2.out.below E5.out)).mono ?_
  rintro e w6 ⟨rfl, B6⟩
  have E6 := Aside0.mk (below_step E5.out B6)
  clear B6 E5
  have dl : decide ((s2.size : Int) < 3) = false := decide_eq_false (by have := HO.out; omega)
  go_wp2_with fail
  have hcv := Lib.run_convert_string_bytes (P := Tryd.prog) w6 9 43 5 s2 Tryd.underlying9 Tryd.underlying43 Tryd.underlying5
  obtain ⟨B, hB⟩ : ∃ B, w6.heap.size = B := ⟨_, rfl⟩
  obtain ⟨V, hV⟩ : ∃ V, Lib.bytesWorld w6 5 s2 = V := ⟨_, rfl⟩
  obtain ⟨cap, hcap⟩ : ∃ c, grownCap w6 s2.size 0 5 = c := ⟨_, rfl⟩
  obtain ⟨n, hn⟩ : ∃ n, s2.size = n := ⟨_, rfl⟩
  rw [hB, hV, hcap, hn] at hcv
  have BV' := Aside0.mk (show Below w2.heap.size w2 V by rw [← hV]; exact below_step E6.out (below_bytes w6 _ s2))
  have cV' := Aside0.mk (show ∀ j, j < n → V.cell? ⟨B, j, none⟩ = some (.int .u8 (s2.data.toList.getD j 0).toNat) from fun j hj => by rw [← hV, ← hB]; exact Lib.bytesWorld_cell w6 _ s2 j (by rw [hn]; exact hj))
  have fV' := Aside0.mk (show ∀ j, j < n → V.frozen? ⟨B, j, none⟩ = false from fun j hj => by rw [← hV, ← hB]; exact frozen_bytes w6 _ s2 j (by rw [hn]; exact hj))
  have lB := Aside0.mk (show w2.heap.size ≤ B by rw [← hB]; exact E6.out.size)
  have hn' := Aside0.mk hn
  have n6 := Aside0.mk (show 6 ≤ n by have := HO.out; omega)
  have n4 := Aside0.mk (show n ≤ 40000 by have := V2.out; omega)
  have hw2 : wrap64 ((n : Int) - 2) = n - 2 := by have := n4.out; unfold wrap64; omega
  clear hB hV hcap hn E6 dl
  rw [hcv]
  clear hcv
  go_wp2_with fail
  refine (pick_calls a3 ((n : Int) - 2) V (in64_of H3.out) (by have := n6.out; omega) (by have := n4.out; omega)).mono ?_
  rintro e w7 ⟨rfl, rfl⟩
  obtain ⟨k0, k1⟩ := pk_range a3 ((n : Int) - 2) (by have := n6.out; omega)
  obtain ⟨k, hk⟩ : ∃ k : Nat, 2 + pk a3 ((n : Int) - 2) = k := ⟨(2 + pk a3 ((n : Int) - 2)).toNat, by omega⟩
  have k2 := Aside0.mk (show 2 ≤ k by omega)
  have kn := Aside0.mk (show k < n by omega)
  have hw3 : wrap64 (2 + pk a3 ((n : Int) - 2)) = (k : Int) := by have := n4.out; rw [← hk]; unfold wrap64; omega
  obtain ⟨q, hq⟩ : ∃ q, pk a3 ((n : Int) - 2) = q := ⟨_, rfl⟩
  rw [hq] at hw3 ⊢
  clear hk k0 k1 hq hw2
  have k3 : (k : Int) < n := by have := kn.out; omega
  have k4 : k < n := kn.out
  obtain ⟨x0, x1⟩ := pk_range a4 255 (by decide)
  obtain ⟨y, hy⟩ := byte_of (1 + pk a4 255) (by omega) (by omega)
  have hw4 : wrap64 (1 + pk a4 255) = (y.toNat : Int) := by rw [← hy]; unfold wrap64; omega
  have y0 := Aside0.mk (show y ≠ 0 from fun h => by rw [h] at hy; have : (1 + pk a4 255 : Int) = 0 := hy; omega)
  have wy := wrap8 y
  obtain ⟨x, hx⟩ : ∃ q, pk a4 255 = q := ⟨_, rfl⟩
  have HX := Aside0.mk hx
  rw [hx] at hw4
  clear hx hy x0 x1
  obtain ⟨d, hd⟩ : ∃ c : UInt8, s2.data.toList.getD k 0 = c := ⟨_, rfl⟩
  have q0 : V.cell? ⟨B, k, none⟩ = some (.int .u8 d.toNat) := by rw [← hd]; exact cV'.out k kn.out
  have f0 := fV'.out k kn.out
  have xc := xor8 d y
  obtain ⟨c1, hc1⟩ : ∃ c1, d ^^^ y = c1 := ⟨_, rfl⟩
  rw [hc1] at xc
  have hln : s2.data.toList.length = n := by rw [Array.length_toList]; exact hn'.out
  have hlen : (s2.data.toList.set k c1).length = n := by rw [List.length_set]; exact hln
  have hcell : ∀ j (hj : j < (s2.data.toList.set k c1).length), (V.setCell ⟨B, k, none⟩ (.int .u8 c1.toNat)).drew.cell? ((⟨B, 0, none⟩ : Addr).add j) = some (.int .u8 ((s2.data.toList.set k c1)[j].toNat : Int)) := by
    intro j hj
    rw [show ((⟨B, 0, none⟩ : Addr).add j) = ⟨B, j, none⟩ by unfold Addr.add; split <;> simp_all]
    have hjn : j < n := by rw [← hlen]; exact hj
    rw [show ∀ p, (V.setCell ⟨B, k, none⟩ (.int .u8 c1.toNat)).drew.cell? p = (V.setCell ⟨B, k, none⟩ (.int .u8 c1.toNat)).cell? p from fun _ => rfl, List.getElem_set]
    by_cases e1 : k = j
    · subst e1
      rw [if_pos rfl]
      exact World.cell?_setCell_same (u := .int .u8 d.toNat) _ _ _ q0
    · rw [if_neg e1, cell_oth _ _ _ _ _ e1, cV'.out j hjn]
      simp [List.getD, List.getElem?_eq_getElem (show j < s2.data.toList.length by rw [hln]; exact hjn)]
  have hcv2 := run_convert_bytes_back (P := Tryd.prog) (V.setCell ⟨B, k, none⟩ (.int .u8 c1.toNat)).drew 43 9 5 ⟨B, 0, none⟩ cap (s2.data.toList.set k c1) Tryd.underlying43 Tryd.underlying5 Tryd.underlying9 hcell
  rw [hlen] at hcv2
  obtain ⟨T, hT⟩ : ∃ T2 : ByteArray, (⟨(s2.data.toList.set k c1).toArray⟩ : ByteArray) = T2 := ⟨_, rfl⟩
  have hTs : T.size = n := by rw [← hT]; show (List.toArray _).size = n; rw [List.size_toArray, hlen]
  have sc := HU.out k k2.out s2 rfl (by rw [hn'.out]; exact kn.out) y y0.out T (by rw [hd, hc1, hT])
  rw [endE_wrong] at sc
  rw [hT] at hcv2
  have hcv2' := Aside0.mk hcv2
  have SC := Aside0.mk sc
  have g1 : (9223372036854775807 < s1.size + T.size) = False := eq_false (by have := V1.out; have := n4.out; omega)
  have g2 : (9223372036854775807 < (s1 ++ T).size + s3.size) = False := eq_false (by have := V1.out; have := V3.out; have := n4.out; rw [ByteArray.size_append]; omega)
  have g3 : (9223372036854775807 < s1.size + T.size + s3.size) = False := eq_false (by have := V1.out; have := V3.out; have := n4.out; omega)
  have BS := Aside0.mk (show Below w2.heap.size w2 (V.setCell ⟨B, k, none⟩ (.int .u8 c1.toNat)).drew from by apply below_drew1; exact below_set BV'.out lB.out)
  clear hd hc1 hln hlen hcell hcv2 hT hTs sc cV' fV' y0 HU BV'
  go_wp2_with fail
  refine start_ (n := 13) (S := fun w' => w' = V.drew ∧ w'.cell? ⟨B, k, none⟩ = some (.int .u8 d.toNat) ∧ w'.frozen? ⟨B, k, none⟩ = false) (ds := [12]) #[false, false, false, false, false, false, false, false, false, false, false, false, false] (by kernel_rfl) rfl rfl ⟨rfl, q0, f0⟩ (fun hHeld => ?_)
  refine pure_ (i := 0) (N := some 84) (v := ?_) (a' := ?_) #[true, false, false, false, false, false, false, false, false, false, false, false, false] rfl rfl (by kernel_rfl) (fun _ _ _ h => h) (Or.inl ⟨by rfl, ?_⟩) ?_ ?_
  rotate_left
  · intro w'
    go_simp
    with_reducible rfl
  rotate_left
  · simp only [Act.put, List.setIfInBounds_toArray, List.set_cons_zero, List.set_cons_succ, i64_w, i32_w]
    rfl
  refine pure_ (i := 1) (N := some 85) (v := ?_) (a' := ?_) #[true, true, false, false, false, false, false, false, false, false, false, false, false] rfl rfl (by kernel_rfl) (fun _ _ _ h => h) (Or.inl ⟨by rfl, ?_⟩) ?_ ?_
  rotate_left
  · intro w'
    go_simp
    with_reducible rfl
  rotate_left
  · simp only [Act.put, List.setIfInBounds_toArray, List.set_cons_zero, List.set_cons_succ, i64_w, i32_w]
    rfl
  refine pure_ (i := 2) (N := some 86) (v := ?_) (a' := ?_) #[true, true, true, false, false, false, false, false, false, false, false, false, false] rfl rfl (by kernel_rfl) (fun _ _ _ h => h) (Or.inl ⟨by rfl, ?_⟩) ?_ ?_
  rotate_left
  · intro w'
    go_simp
    with_reducible rfl
  rotate_left
  · simp only [Act.put, List.setIfInBounds_toArray, List.set_cons_zero, List.set_cons_succ, i64_w, i32_w]
    rfl
  refine pure_ (i := 3) (N := some 87) (v := ?_) (a' := ?_) #[true, true, true, true, false, false, false, false, false, false, false, false, false] rfl rfl (by kernel_rfl) (fun _ _ _ h => h) (Or.inl ⟨by rfl, ?_⟩) ?_ ?_
  rotate_left
  · intro w'
    go_simp
    with_reducible rfl
  rotate_left
  · simp only [Act.put, List.setIfInBounds_toArray, List.set_cons_zero, List.set_cons_succ, i64_w, i32_w]
    rfl
  refine pure_ (i := 4) (N := some 88) (v := ?_) (a' := ?_) #[true, true, true, true, true, false, false, false, false, false, false, false, false] rfl rfl (by kernel_rfl) (fun _ _ _ h => h) (Or.inl ⟨by rfl, ?_⟩) ?_ ?_
  rotate_left
  · intro w'
    go_simp
    with_reducible rfl
  rotate_left
  · simp only [Act.put, List.setIfInBounds_toArray, List.set_cons_zero, List.set_cons_succ, i64_w, i32_w]
    rfl
  refine pure_ (i := 6) (N := some 90) (v := ?_) (a' := ?_) #[true, true, true, true, true, false, true, false, false, false, false, false, false] rfl rfl (by kernel_rfl) (fun _ _ _ h => h) (Or.inl ⟨by rfl, ?_⟩) ?_ ?_
  rotate_left
  · intro w'
    go_simp
    with_reducible rfl
  rotate_left
  · simp only [Act.put, List.setIfInBounds_toArray, List.set_cons_zero, List.set_cons_succ, i64_w, i32_w]
    rfl
  refine take_ (i := 5) (N := some 89) (v := ?_) (a' := ?_) #[true, true, true, true, true, true, true, false, false, false, false, false, false] rfl rfl (by kernel_rfl) (fun _ _ _ h => h) (Or.inl ⟨by rfl, ?_⟩) hHeld ?_ ?_
  rotate_left
  · rintro w' ⟨s0, s1, s2⟩
    go_simp
    with_reducible rfl
  rotate_left
  · simp only [Act.put, List.setIfInBounds_toArray, List.set_cons_zero, List.set_cons_succ, i64_w, i32_w]
    rfl
  refine one_ (i := 7) (N := some 91) #[true, true, true, true, true, true, true, true, false, false, false, false, false] rfl rfl (by kernel_rfl) (by decide) (fun K hK => ?_)
  refine goes_ Tryd.func16 (by kernel_rfl) rfl #[.int .i64 a4, .int .i64 255] (by rfl) rfl rfl (by simp only [List.map_toArray, List.map_cons, List.map_nil]; rfl) ?_
  with_reducible refine (pick_calls a4 255 _ (in64_of H4.out) (by decide) (by decide)).mono ?_
  rintro e w3 ⟨rfl, rfl⟩
  refine ⟨_, rfl, ?_⟩
  rw [HX.out]
  refine hK.out _ _ ⟨hHeld.1, hHeld.2.1, hHeld.2.2⟩ (fun hHeld => ?_)
  clear hK K
  refine norm_ (a' := ?_) ?_ ?_
  rotate_left
  · show Act.put _ (some 91) _ = _
    simp only [Act.put, List.setIfInBounds_toArray, List.set_cons_zero, List.set_cons_succ, i64_w, i32_w]
    rfl
  refine pure_ (i := 8) (N := some 92) (v := ?_) (a' := ?_) #[true, true, true, true, true, true, true, true, true, false, false, false, false] rfl rfl (by kernel_rfl) (fun _ _ _ h => h) (Or.inl ⟨by rfl, ?_⟩) ?_ ?_
  rotate_left
  · intro w'
    go_simp
    with_reducible rfl
  rotate_left
  · simp only [Act.put, List.setIfInBounds_toArray, List.set_cons_zero, List.set_cons_succ, i64_w, i32_w]
    rfl
  refine pure_ (i := 9) (N := some 93) (v := ?_) (a' := ?_) #[true, true, true, true, true, true, true, true, true, true, false, false, false] rfl rfl (by kernel_rfl) (fun _ _ _ h => h) (Or.inl ⟨by rfl, ?_⟩) ?_ ?_
  rotate_left
  · intro w'
    go_simp
    with_reducible rfl
  rotate_left
  · simp only [Act.put, List.setIfInBounds_toArray, List.set_cons_zero, List.set_cons_succ, i64_w, i32_w]
    rfl
  refine pure_ (i := 10) (N := some 94) (v := ?_) (a' := ?_) #[true, true, true, true, true, true, true, true, true, true, true, false, false] rfl rfl (by kernel_rfl) (fun _ _ _ h => h) (Or.inl ⟨by rfl, ?_⟩) ?_ ?_
  rotate_left
  · intro w'
    go_simp
    with_reducible rfl
  rotate_left
  · simp only [Act.put, List.setIfInBounds_toArray, List.set_cons_zero, List.set_cons_succ, i64_w, i32_w]
    rfl
  refine pure_ (i := 11) (N := some 95) (v := ?_) (a' := ?_) #[true, true, true, true, true, true, true, true, true, true, true, true, false] rfl rfl (by kernel_rfl) (fun _ _ _ h => h) (Or.inl ⟨by rfl, ?_⟩) ?_ ?_
  rotate_left
  · intro w'
    go_simp
    with_reducible rfl
  rotate_left
  · simp only [Act.put, List.setIfInBounds_toArray, List.set_cons_zero, List.set_cons_succ, i64_w, i32_w]
    rfl
  refine last_ (i := 12) (N := none) #[true, true, true, true, true, true, true, true, true, true, true, true, true] rfl rfl (by kernel_rfl) (by decide) (fun K hK => ?_)
  obtain ⟨-, h_1, h_2⟩ := id hHeld
  refine skip_ (w1 := ?_) (by rfl) rfl ?_ ?_
  rotate_left
  · go_simp
    rfl
  refine hK.out _ _ ?_
  clear hK K
  refine done_ (by kernel_rfl) ?_

  go_wp2_with fail
  rw [hcv2'.out]
  go_wp2_with fail
  refine (frame_Scan.calls (s1 ++ T ++ s3) L1 (s1.size : Int) 40 _ SC.out (HG2.out.below BS.out)).mono ?_
  rintro e w9 ⟨v9, rfl, ho9, B9⟩
  obtain ⟨A9, c9, rfl⟩ := Kd.S_slice ho9
  have R9 := Aside0.mk (Kd.S_reads' ho9).2.1
  have C9 := Aside0.mk (Kd.S_reads' ho9).2.2
  have E9 := Aside0.mk (below_step BS.out B9)
  clear ho9 B9
  go_wp2_with fail
  refine (hagglerref04_Same.calls 700 A9 c9 L1 A c L1 true _ C9.out R9.out (Kd.C_below K1.out E9.out) RL.out SM.out).mono ?_
  rintro e w10 ⟨rfl, m10, rfl⟩
  go_wp2_with fail
  go_returns
  exact ⟨rfl, below_step HB2.out (by apply pw_below_drewN; exact E9.out)⟩
end Go.Proofs.YthidhmfejnjdhaaDoor.FrameW
