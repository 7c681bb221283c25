/- HeapTells' walk: a step of both heaps, for itself. -/
import Derived.Test.YtmihpgdpgacgcaaHeapTr
import Derived.Deep.DeepCutAuto
namespace Go.Proofs.Ytmihpgdpgacgcaa.HeapC
open Go.RowKit Go.Proofs.Ytmihpgdpgacgcaa.HeapT Go.Proofs.Ytmihpgdpgacgcaa.HeapM Go.Proofs.YtmihpgdpgacgcaaW.PrintWords Go.Proofs.YtmihpgdpgacgcaaW.PrintLast Go.Proofs.YtmihpgdpgacgcaaW.PrintMore
set_option linter.unusedVariables false
set_option linter.unusedSimpArgs false

/-- What holds between two steps. -/
structure Tied (C : Int → Option Int) (xs : List Itm) (n N i : Nat) : Prop where
  srt : SortedOf C xs
  len : xs.length = n
  few : n ≤ i
  cnt : N ≤ i * 8000020
theorem Tied.start : Tied (fun _ => none) [] 0 0 0 := ⟨SortedOf.start, rfl, Nat.le_refl _, Nat.le_refl _⟩

theorem ref_its {w : World} {r : Nat} {xs : List Itm} {most : Int} {G : Nat → Prop} (h : IsRef w r xs most G) (hl : xs.length ≤ 1000000) : ∃ a cap, w.cell? ⟨r, 0, none⟩ = some (.slice a xs.length cap) ∧ r < w.heap.size ∧ ∃ D, Its w D (.slice a xs.length cap) xs ∧ ∀ k, D k → k < w.heap.size := by
  obtain ⟨v, hm, -, -⟩ := h
  obtain ⟨a, cap, rfl⟩ := hm.val
  refine ⟨a, cap, (HeapM.blk_cell hm.head 0).trans rfl, HeapM.blk_lt hm.head, fun k => (Value.slice a xs.length cap).ownBlock = some k, its_of hm.row rfl (Nat.le_trans hl (by decide)), fun k e => (hm.row.lt k e).2⟩
theorem St.look {w : World} {hv : Value} {r : Nat} {C : Int → Option Int} {xs : List Itm} {most : Int} {n N : Nat} {E : Nat → Prop} (h : St w hv r C xs most n N E) (hn : n ≤ 1000000) :
    (∀ w', Below w.heap.size w w' → Calls Try.prog 25 #[hv] w' fun e w2 => e = .returned (.int .i64 n) ∧ w' = w2) ∧
    ∀ w', Below w.heap.size w w' → Calls Try.prog 27 #[hv] w' fun e w2 => ∃ v ys D', e = .returned v ∧ SortedOf C ys ∧ Its w2 D' v ys ∧ Below w.heap.size w w2 := by
  obtain ⟨D, G, h1, -, -, -⟩ := h
  refine ⟨fun w' b => (h1.below b).len, fun w' b => ?_⟩
  rcases h1.below b with ⟨g, rfl, h, h2⟩ | ⟨rfl, rfl, rfl, rfl, h4⟩
  · refine (h.all hn).mono ?_
    rintro e w2 ⟨v, ys, rfl, S, hl, ho, B⟩
    exact ⟨v, ys, _, rfl, S, its_of ho hl (Nat.le_trans hn (by decide)), b.trans (B.mono b.size)⟩
  · refine (all_nil w').mono ?_
    rintro e w2 ⟨rfl, rfl⟩
    exact ⟨_, [], fun _ => False, rfl, SortedOf.start, ⟨none, 0, rfl, Nat.zero_le _, fun i hi => absurd hi (by simp)⟩, b⟩
theorem set_two {w : World} {X : Nat} {t : TypeId} {a b : Value} (h : w.heap[X]? = some (.cells #[a, b] t (0, 0))) (u v : Value) : ((w.setCell ⟨X, 0, none⟩ u).setCell ⟨X, 1, none⟩ v).heap[X]? = some (.cells #[u, v] t (0, 0)) := by
  have h1 := HeapM.blk_set_same (HeapM.blk_set_same h 0 u (by simp)) 1 v (by simp)
  have e : (#[a, b].setIfInBounds 0 u).setIfInBounds 1 v = #[u, v] := by simp
  rw [e] at h1
  exact h1
theorem set_snd {w : World} {X : Nat} {t : TypeId} {a b : Value} (h : w.heap[X]? = some (.cells #[a, b] t (0, 0))) (v : Value) : (w.setCell ⟨X, 1, none⟩ v).heap[X]? = some (.cells #[a, v] t (0, 0)) := by
  have h1 := HeapM.blk_set_same h 1 v (by simp)
  have e : #[a, b].setIfInBounds 1 v = #[a, v] := by simp
  rw [e] at h1
  exact h1
theorem oth_two {w : World} {X Y i j : Nat} {o : Obj} (h : w.heap[Y]? = some o) (hne : Y ≠ X) (u v : Value) : ((w.setCell ⟨X, i, none⟩ u).setCell ⟨X, j, none⟩ v).heap[Y]? = some o :=
  HeapM.blk_set_other (HeapM.blk_set_other h ⟨X, i, none⟩ u hne) ⟨X, j, none⟩ v hne
theorem oth_one {w : World} {X Y i : Nat} {o : Obj} (h : w.heap[Y]? = some o) (hne : Y ≠ X) (u : Value) : (w.setCell ⟨X, i, none⟩ u).heap[Y]? = some o := HeapM.blk_set_other h ⟨X, i, none⟩ u hne
theorem rpush_any (w : World) (r : Nat) (xs : List Itm) (most : Int) (G : Nat → Prop) (h : IsRef w r xs most G) (C : Int → Option Int) (n : Nat) (hs : SortedOf C xs) (hl : xs.length = n) (hn : n ≤ 1000000) (k p : Int) (hk : (Lit.int .i64 k).wf = true) :
    Calls Try.prog 14 #[.pointer (some ⟨r, 0, none⟩), .int .i64 k, .int .i64 p] w fun e w' => ∃ xs', e = .returned (.int .i64 (pushR C k n most)) ∧ SortedOf (pushC C k p n most) xs' ∧ RPost w w' r xs' most G := by
  by_cases hc : C k = none
  · by_cases hm : (n : Int) < most
    · refine (rpush_ok w r xs most G h (by omega) C hs k p hk hc (by omega)).mono ?_
      rintro e w' ⟨xs', rfl, S, P⟩
      exact ⟨xs', by unfold pushR; rw [if_neg (fun e => e hc), if_neg (by omega)], by unfold pushC; rw [if_pos ⟨hc, hm⟩]; exact S, P⟩
    · refine (rpush_full w r xs most G h (by omega) C hs k p hc (by omega)).mono ?_
      rintro e w' ⟨rfl, B⟩
      exact ⟨xs, by unfold pushR; rw [if_neg (fun e => e hc), if_pos (by omega)], by unfold pushC; rw [if_neg (fun e => hm e.2)]; exact hs, G, h.below B, Chg.of_below B _, fun k e => .inl e⟩
  · refine (rpush_there w r xs most G h (by omega) C hs k p hc).mono ?_
    rintro e w' ⟨rfl, rfl⟩
    exact ⟨xs, by unfold pushR; rw [if_pos hc], by unfold pushC; rw [if_neg (fun e => hc e.1)]; exact hs, G, h, Chg.refl _ _, fun k e => .inl e⟩
section
variable {C : Int → Option Int} {xs xs' : List Itm} {n N n' N' i : Nat} {k p most : Int}
theorem Tied.push (h : Tied C xs n N i) (hk : (Lit.int .i64 k).wf = true) (S : SortedOf (pushC C k p n most) xs') (h1 : N' ≤ N + 4000000) (h2 : n' ≤ n + 1) (h3 : C k = none ∧ (n : Int) < most → n' = n + 1) (h4 : ¬ (C k = none ∧ (n : Int) < most) → n' = n) : Tied (pushC C k p n most) xs' n' N' (i + 1) := by
  refine ⟨S, ?_, by have := h.few; omega, by have := h.cnt; omega⟩
  unfold pushC at S
  by_cases c : C k = none ∧ (n : Int) < most
  · rw [if_pos c] at S
    rw [len_ins h.srt c.1 hk S, h3 c, h.len]
  · rw [if_neg c] at S
    rw [SortedOf.unique S h.srt, h4 c, h.len]
theorem Tied.pop {b : Bool} {C' : Int → Option Int} (h : Tied C xs n N i) (hT : TopIs C n k p b) (hC : C' = (if b then upd C k none else C)) (S : SortedOf (if b then upd C k none else C) xs') (h1 : N' ≤ N + 4000010) : Tied C' xs' (n - 1) N' (i + 1) := by
  subst hC
  refine ⟨S, ?_, by have := h.few; omega, by have := h.cnt; omega⟩
  rcases hT with ⟨h0, -, -, rfl⟩ | ⟨h0, hM, rfl⟩
  · have e := SortedOf.unique S h.srt
    rw [e, h.len]; omega
  · have := (len_del h.srt S).1 (by rw [hM.1]; simp)
    have := h.len; omega
theorem Tied.change (h : Tied C xs n N i) (S : SortedOf (chg C k p) xs') (h1 : N' ≤ N + 4000000) : Tied (chg C k p) xs' n N' (i + 1) :=
  ⟨S, (len_turn h.srt S).trans h.len, by have := h.few; omega, by have := h.cnt; omega⟩
theorem Tied.remove (h : Tied C xs n N i) (S : SortedOf (upd C k none) xs') (h1 : N' ≤ N + 4000010) (h2 : n' ≤ n) (h3 : C k ≠ none → n' + 1 = n) (h4 : C k = none → n' = n) : Tied (upd C k none) xs' n' N' (i + 1) := by
  refine ⟨S, ?_, by have := h.few; omega, by have := h.cnt; omega⟩
  have := len_del h.srt S
  have := h.len
  by_cases c : C k = none
  · have := this.trans (h4 c).symm; have := (len_del h.srt S).2 c; omega
  · have := h3 c; have := (len_del h.srt S).1 c; omega
theorem Tied.next (h : Tied C xs n N i) : Tied C xs n N (i + 1) := ⟨h.srt, h.len, Nat.le_succ_of_le h.few, Nat.le_trans h.cnt (Nat.mul_le_mul_right _ (Nat.le_succ i))⟩
end

/-- What New answers: a heap, or none. -/
def NewOk (o : Option Addr) (ok : Bool) (mo m' : Int) : Prop := (∃ g, o = some ⟨g, 0, none⟩ ∧ ok = true ∧ m' = mo ∧ 1 ≤ mo ∧ mo ≤ 1000) ∨ (o = none ∧ ok = false ∧ m' = 0 ∧ (mo < 1 ∨ 1000 < mo))
theorem any_newx (mo : Int) (w : World) (D : Nat → Prop) (hD : ∀ k, D k → k < w.heap.size) :
    Calls Try.prog 11 #[.int .i64 mo] w fun e w' => ∃ o ok m', e = .returned (.pointer o) ∧ Any w' (.pointer o) (fun _ => none) m' 0 0 D ∧ Kept w w' D ∧ NewOk o ok mo m' := by
  by_cases hm : 1 ≤ mo ∧ mo ≤ 1000
  · exact (any_new mo w D hD hm).mono fun _ _ ⟨g, e, h, k⟩ => ⟨_, true, mo, e, h, k, .inl ⟨g, rfl, rfl, rfl, hm.1, hm.2⟩⟩
  · have hm2 : mo < 1 ∨ 1000 < mo := by omega
    exact (any_none mo w D hD hm2).mono fun _ _ ⟨e, h, k⟩ => ⟨_, false, 0, e, h, k, .inr ⟨rfl, rfl, rfl, hm2⟩⟩
theorem rnewx (mo : Int) (w : World) (o : Option Addr) (ok : Bool) (m' : Int) (h : NewOk o ok mo m') :
    Calls Try.prog 12 #[.int .i64 mo] w fun e w' => e = .returned (.tuple #[.agg #[.slice none 0 0, .int .i64 m'], .bool ok]) ∧ Below w.heap.size w w' := by
  rcases h with ⟨g, -, rfl, rfl, h1, h2⟩ | ⟨-, rfl, rfl, h1⟩
  · exact rnew_ok _ w h1 h2
  · exact rnew_no mo w h1

theorem r_new (mo : Int) (w : World) (E : Nat → Prop) (hv : Value) (D : Nat → Prop) {V : World} {R : Nat} {most : Int} (hV : V = w.alloc (.cells #[.slice none 0 0, .int .i64 most] 30)) (hR : R = w.heap.size) (h : Any w hv (fun _ => none) most 0 0 D) (hE : ∀ k, E k → D k) :
    St V hv R (fun _ => none) [] most 0 0 E := by
  have b : Below w.heap.size w V := by rw [hV]; apply below_alloc; exact Below.refl _ _
  refine ⟨fun k => D k ∨ k = R, fun k => k = R, h.turned (Chg.of_below b (fun _ => False)) (fun _ e => e.elim) ?_, ⟨.slice none 0 0, ⟨by rw [hV, hR]; exact HeapM.blk_new _ _, World.ownsRow_nil _ _ _ _, by simp [Value.ownBlock]⟩, ?_, ?_⟩, fun k e => .inr e, fun k e => ⟨.inl (hE k e), fun x => ?_⟩⟩
  · rintro k (e | rfl)
    · exact .inl e
    · exact .inr ⟨by omega, by rw [hV, hR]; simp⟩
  · rintro k (e | e)
    · exact e
    · simp [Value.ownBlock] at e
  · rintro k rfl; rw [hV, hR]; simp
  · have := h.lt k (hE k e); omega

/-- A block of a function's code. -/
def blkOf (n : Nat) : Code → Option Code
  | .seq a b => (blkOf n a).or (blkOf n b)
  | .cond _ a b => (blkOf n a).or (blkOf n b)
  | .block k c => if k = n then some (.block k c) else blkOf n c
  | .loop c => blkOf n c
  | .scope c => blkOf n c
  | _ => none

set_option maxHeartbeats 8000000 in
set_option maxRecDepth 20000 in
theorem blk4 (code : Code) (hcode : Try.f3.body.bind (blkOf 4) = some code) (K : Act → World → Prop) (Q : Exit → Act → World → Prop) (V2 : World) (x0 x1 x2 x3 x4 x5 x6 x7 x8 x9 x11 x12 x14 x21 x22 x23 x24 x25 x26 x27 x28 x29 x30 x31 x32 x33 x34 x35 x36 x37 x38 x39 x40 x41 x42 x43 x44 x45 x46 x47 x48 x49 x50 x51 x52 x53 x54 x55 x56 x57 x58 x59 x60 x61 x62 x63 x64 x65 x66 x67 x68 x69 x70 x71 x72 x73 x74 x75 x76 x77 x78 x79 x80 x81 x82 x83 x84 x85 x86 x87 x88 x89 x90 x91 x92 x94 x95 x96 x97 x98 x99 x100 x101 x102 x103 x104 x105 x106 x107 x108 x109 x110 x111 x112 x113 x114 x115 x116 x117 x118 x119 x120 x121 x122 x123 x124 x125 x126 x127 x128 x129 x130 x131 x132 x133 x134 x135 x136 x137 x138 x139 x140 x141 x142 x143 x144 x145 x146 x147 x148 x149 x150 x151 x152 x153 x154 x155 x156 x157 x158 x159 x160 x161 x162 x163 x164 x165 x166 x167 x168 x169 x170 x171 x172 x173 x174 x175 x176 x177 x178 x179 x180 x181 x182 x183 x184 x185 x186 x187 x188 x189 x190 x191 x192 x193 x194 x195 x196 x197 x198 x199 x200 x201 x202 : Value) (o : Option Addr) (R X : Nat) (k p q m' : Int) (W : World) (C : Int → Option Int) (xs : List Itm) (n N i : Nat)
    (HT : Aside0 (Tied C xs n N i)) (hi : i ≤ 60) (wk : Aside0 ((Lit.int .i64 k).wf = true)) (hWX : Aside0 (W.heap.size ≤ X))
    (S2 : Aside0 (St V2 (.pointer o) R C xs m' n N (fun q => (q < W.heap.size ∨ q = X) ∨ q = X + 1))) (bX2 : Aside0 (V2.heap[X]? = some (.cells #[.int .i64 0, .int .i64 0] 36 (0, 0)))) (bY2 : Aside0 (V2.heap[X + 1]? = some (.cells #[.int .i64 0, .int .i64 0] 36 (0, 0)))) (K5 : Aside0 (Kept W V2 (fun q => q < W.heap.size)))
    (q0 : 0 ≤ q) (q1 : q < 7)
    (hK : ∀ (a : Bool) (x0_ x1_ : Int) (C2 : Int → Option Int) (xs2 : List Itm) (n2 N2 : Nat) (y21 y22 y94 y95 y96 y97 y98 y99 y100 y101 y102 y103 y104 y105 y106 y107 y108 y109 y110 y111 y112 y113 y114 y115 y116 y117 y118 y119 y120 y121 y122 y123 y124 y125 y126 y127 y128 y129 y130 y131 y132 y133 y134 y135 y136 y137 y138 y139 y140 y141 y142 y143 y144 y145 y146 y147 y148 y149 y150 y151 y152 : Value) (w' : World), St w' (.pointer o) R C2 xs2 m' n2 N2 (fun q => (q < W.heap.size ∨ q = X) ∨ q = X + 1) → Tied C2 xs2 n2 N2 (i + 1) → w'.heap[X]? = some (.cells #[.int .i64 x0_, .int .i64 x1_] 36 (0, 0)) → w'.heap[X + 1]? = some (.cells #[.int .i64 x0_, .int .i64 x1_] 36 (0, 0)) → Kept W w' (fun q => q < W.heap.size) → K { tmps := #[x0, x1, x2, x3, x4, x5, x6, x7, x8, x9, .pointer o, x11, x12, .pointer (some ⟨R, 0, none⟩), x14, .int .i64 k, .int .i64 p, .pointer (some ⟨X, 0, none⟩), .bool a, .pointer (some ⟨X + 1, 0, none⟩), .bool a, y21, y22, x23, x24, x25, x26, x27, x28, x29, x30, x31, x32, x33, x34, x35, x36, x37, x38, x39, x40, x41, x42, x43, x44, x45, x46, x47, x48, x49, x50, x51, x52, x53, x54, x55, x56, x57, x58, x59, x60, x61, x62, x63, x64, x65, x66, x67, x68, x69, x70, x71, x72, x73, x74, x75, x76, x77, x78, x79, x80, x81, x82, x83, x84, x85, x86, x87, x88, x89, x90, x91, x92, .int .i64 q, y94, y95, y96, y97, y98, y99, y100, y101, y102, y103, y104, y105, y106, y107, y108, y109, y110, y111, y112, y113, y114, y115, y116, y117, y118, y119, y120, y121, y122, y123, y124, y125, y126, y127, y128, y129, y130, y131, y132, y133, y134, y135, y136, y137, y138, y139, y140, y141, y142, y143, y144, y145, y146, y147, y148, y149, y150, y151, y152, x153, x154, x155, x156, x157, x158, x159, x160, x161, x162, x163, x164, x165, x166, x167, x168, x169, x170, x171, x172, x173, x174, x175, x176, x177, x178, x179, x180, x181, x182, x183, x184, x185, x186, x187, x188, x189, x190, x191, x192, x193, x194, x195, x196, x197, x198, x199, x200, x201, x202], defers := [] } w') :
    Code.wp Try.prog code (Exit.then K Q) { tmps := #[x0, x1, x2, x3, x4, x5, x6, x7, x8, x9, .pointer o, x11, x12, .pointer (some ⟨R, 0, none⟩), x14, .int .i64 k, .int .i64 p, .pointer (some ⟨X, 0, none⟩), .bool true, .pointer (some ⟨X + 1, 0, none⟩), .bool true, x21, x22, x23, x24, x25, x26, x27, x28, x29, x30, x31, x32, x33, x34, x35, x36, x37, x38, x39, x40, x41, x42, x43, x44, x45, x46, x47, x48, x49, x50, x51, x52, x53, x54, x55, x56, x57, x58, x59, x60, x61, x62, x63, x64, x65, x66, x67, x68, x69, x70, x71, x72, x73, x74, x75, x76, x77, x78, x79, x80, x81, x82, x83, x84, x85, x86, x87, x88, x89, x90, x91, x92, .int .i64 q, x94, x95, x96, x97, x98, x99, x100, x101, x102, x103, x104, x105, x106, x107, x108, x109, x110, x111, x112, x113, x114, x115, x116, x117, x118, x119, x120, x121, x122, x123, x124, x125, x126, x127, x128, x129, x130, x131, x132, x133, x134, x135, x136, x137, x138, x139, x140, x141, x142, x143, x144, x145, x146, x147, x148, x149, x150, x151, x152, x153, x154, x155, x156, x157, x158, x159, x160, x161, x162, x163, x164, x165, x166, x167, x168, x169, x170, x171, x172, x173, x174, x175, x176, x177, x178, x179, x180, x181, x182, x183, x184, x185, x186, x187, x188, x189, x190, x191, x192, x193, x194, x195, x196, x197, x198, x199, x200, x201, x202], defers := [] } V2 := by
  simp [blkOf, Try.f3] at hcode
  subst hcode
  have hK' := Lib.hid hK
  have hN9 : N < 3000000000000000000 := by have := HT.out.cnt; omega
  have hn9 : n ≤ 1000000 := by have := HT.out.few; omega
  have hln : xs.length ≤ 1000000 := by have := HT.out.len; omega
  have hqs : q = 0 ∨ q = 1 ∨ q = 2 ∨ q = 3 ∨ q = 4 ∨ q = 5 ∨ q = 6 := by omega
  clear q0 q1 hK
  rcases hqs with rfl | rfl | rfl | rfl | rfl | rfl | rfl
  · obtain ⟨D, hA, hstep⟩ := S2.out.step
    have HPu := Lib.hid (hA.push hN9 k p wk.out)
    have hstep' := Lib.hid hstep
    clear hA hstep
    go_wp2_with fail
    refine HPu.out.mono ?_
    rintro e w6 ⟨n6, N6, rfl, A6, K6, hN6, hn6, hna, hnb⟩
    obtain ⟨S6, K6b⟩ := hstep'.out _ _ _ _ A6 K6
    obtain ⟨G, hG, hrs⟩ := S6.rstep
    have HR6 := Lib.hid (rpush_any w6 R xs _ G hG C n HT.out.srt HT.out.len hn9 k p wk.out)
    have hrs' := Lib.hid hrs
    have bX6 := Aside0.mk (K6b.blk bX2.out (.inl (.inr rfl)))
    have bY6 := Aside0.mk (K6b.blk bY2.out (.inr rfl))
    have K6c := Aside0.mk (K5.out.trans (K6b.mono (fun q e => .inl (.inl e))))
    have hT6 := Lib.hid (fun xs' S => HT.out.push (xs' := xs') (p := p) wk.out S hN6 hn6 hna hnb)
    clear HPu hstep' A6 K6 S6 K6b hG hrs hN6 hn6 hna hnb
    go_wp2_with fail
    refine HR6.out.mono ?_
    rintro e w7 ⟨xs7, rfl, S7, P7⟩
    obtain ⟨St7, K7⟩ := hrs'.out _ _ P7
    have F7 := Aside0.mk (And.intro St7 (And.intro (hT6.out xs7 S7) (And.intro (K7.blk bX6.out (.inl (.inr rfl))) (And.intro (K7.blk bY6.out (.inr rfl)) (K6c.out.trans (K7.mono (fun q e => .inl (.inl e))))))))
    clear S7 P7 St7 K7 HR6 hrs' hT6
    go_wp2_with fail
    exact hK'.out true 0 0 _ xs7 n6 N6 _ _ _ _ _ _ _ _ _ _ _ _ _ _ _ _ _ _ _ _ _ _ _ _ _ _ _ _ _ _ _ _ _ _ _ _ _ _ _ _ _ _ _ _ _ _ _ _ _ _ _ _ _ _ _ _ _ _ _ _ _ _ F7.out.1 F7.out.2.1 F7.out.2.2.1 F7.out.2.2.2.1 F7.out.2.2.2.2
  · obtain ⟨D, hA, hstep⟩ := S2.out.step
    have HPu := Lib.hid (hA.push hN9 k p wk.out)
    have hstep' := Lib.hid hstep
    clear hA hstep
    go_wp2_with fail
    refine HPu.out.mono ?_
    rintro e w6 ⟨n6, N6, rfl, A6, K6, hN6, hn6, hna, hnb⟩
    obtain ⟨S6, K6b⟩ := hstep'.out _ _ _ _ A6 K6
    obtain ⟨G, hG, hrs⟩ := S6.rstep
    have HR6 := Lib.hid (rpush_any w6 R xs _ G hG C n HT.out.srt HT.out.len hn9 k p wk.out)
    have hrs' := Lib.hid hrs
    have bX6 := Aside0.mk (K6b.blk bX2.out (.inl (.inr rfl)))
    have bY6 := Aside0.mk (K6b.blk bY2.out (.inr rfl))
    have K6c := Aside0.mk (K5.out.trans (K6b.mono (fun q e => .inl (.inl e))))
    have hT6 := Lib.hid (fun xs' S => HT.out.push (xs' := xs') (p := p) wk.out S hN6 hn6 hna hnb)
    clear HPu hstep' A6 K6 S6 K6b hG hrs hN6 hn6 hna hnb
    go_wp2_with fail
    refine HR6.out.mono ?_
    rintro e w7 ⟨xs7, rfl, S7, P7⟩
    obtain ⟨St7, K7⟩ := hrs'.out _ _ P7
    have F7 := Aside0.mk (And.intro St7 (And.intro (hT6.out xs7 S7) (And.intro (K7.blk bX6.out (.inl (.inr rfl))) (And.intro (K7.blk bY6.out (.inr rfl)) (K6c.out.trans (K7.mono (fun q e => .inl (.inl e))))))))
    clear S7 P7 St7 K7 HR6 hrs' hT6
    go_wp2_with fail
    exact hK'.out true 0 0 _ xs7 n6 N6 _ _ _ _ _ _ _ _ _ _ _ _ _ _ _ _ _ _ _ _ _ _ _ _ _ _ _ _ _ _ _ _ _ _ _ _ _ _ _ _ _ _ _ _ _ _ _ _ _ _ _ _ _ _ _ _ _ _ _ _ _ _ F7.out.1 F7.out.2.1 F7.out.2.2.1 F7.out.2.2.2.1 F7.out.2.2.2.2
  · obtain ⟨D, hA, hstep⟩ := S2.out.step
    have HPu := Lib.hid (hA.push hN9 k p wk.out)
    have hstep' := Lib.hid hstep
    clear hA hstep
    go_wp2_with fail
    refine HPu.out.mono ?_
    rintro e w6 ⟨n6, N6, rfl, A6, K6, hN6, hn6, hna, hnb⟩
    obtain ⟨S6, K6b⟩ := hstep'.out _ _ _ _ A6 K6
    obtain ⟨G, hG, hrs⟩ := S6.rstep
    have HR6 := Lib.hid (rpush_any w6 R xs _ G hG C n HT.out.srt HT.out.len hn9 k p wk.out)
    have hrs' := Lib.hid hrs
    have bX6 := Aside0.mk (K6b.blk bX2.out (.inl (.inr rfl)))
    have bY6 := Aside0.mk (K6b.blk bY2.out (.inr rfl))
    have K6c := Aside0.mk (K5.out.trans (K6b.mono (fun q e => .inl (.inl e))))
    have hT6 := Lib.hid (fun xs' S => HT.out.push (xs' := xs') (p := p) wk.out S hN6 hn6 hna hnb)
    clear HPu hstep' A6 K6 S6 K6b hG hrs hN6 hn6 hna hnb
    go_wp2_with fail
    refine HR6.out.mono ?_
    rintro e w7 ⟨xs7, rfl, S7, P7⟩
    obtain ⟨St7, K7⟩ := hrs'.out _ _ P7
    have F7 := Aside0.mk (And.intro St7 (And.intro (hT6.out xs7 S7) (And.intro (K7.blk bX6.out (.inl (.inr rfl))) (And.intro (K7.blk bY6.out (.inr rfl)) (K6c.out.trans (K7.mono (fun q e => .inl (.inl e))))))))
    clear S7 P7 St7 K7 HR6 hrs' hT6
    go_wp2_with fail
    exact hK'.out true 0 0 _ xs7 n6 N6 _ _ _ _ _ _ _ _ _ _ _ _ _ _ _ _ _ _ _ _ _ _ _ _ _ _ _ _ _ _ _ _ _ _ _ _ _ _ _ _ _ _ _ _ _ _ _ _ _ _ _ _ _ _ _ _ _ _ _ _ _ _ F7.out.1 F7.out.2.1 F7.out.2.2.1 F7.out.2.2.2.1 F7.out.2.2.2.2
  · obtain ⟨D, hA, hstep⟩ := S2.out.step
    have HPu := Lib.hid (hA.pop hN9 hn9)
    have hstep' := Lib.hid hstep
    have x0 : V2.cell? ⟨X, 0, none⟩ = some (.int .i64 0) := (HeapM.blk_cell bX2.out 0).trans rfl
    clear hA hstep x0
    go_wp2_with fail
    refine HPu.out.mono ?_
    rintro e w6 ⟨a0, a1, ab, C6, N6, rfl, T6, A6, K6, hC6, hN6⟩
    obtain ⟨S6, K6b⟩ := hstep'.out _ _ _ _ A6 K6
    have bX6 := K6b.blk bX2.out (.inl (.inr rfl))
    have bY6 := K6b.blk bY2.out (.inr rfl)
    have x0 : w6.cell? ⟨X, 0, none⟩ = some (.int .i64 0) := (HeapM.blk_cell bX6 0).trans rfl
    have x1 : w6.cell? ⟨X, 1, none⟩ = some (.int .i64 0) := (HeapM.blk_cell bX6 1).trans rfl
    have f0 := HeapM.blk_free bX6 0
    have f1 := HeapM.blk_free bX6 1
    obtain ⟨W7, hW7⟩ : ∃ Q, Q = (w6.setCell ⟨X, 0, none⟩ (.int .i64 a0)).setCell ⟨X, 1, none⟩ (.int .i64 a1) := ⟨_, rfl⟩
    have bX7 : W7.heap[X]? = some (.cells #[.int .i64 a0, .int .i64 a1] 36 (0, 0)) := by rw [hW7]; exact set_two bX6 _ _
    have bY7 : W7.heap[X + 1]? = some (.cells #[.int .i64 0, .int .i64 0] 36 (0, 0)) := by rw [hW7]; exact oth_two bY6 (by omega) _ _
    have S7 := (S6.set X 0 (.int .i64 a0) (Or.inl (Or.inr (Eq.refl X)))).set X 1 (.int .i64 a1) (Or.inl (Or.inr (Eq.refl X)))
    rw [← hW7] at S7
    have hXn : ¬ X < W.heap.size := by have := hWX.out; omega
    have K7 := ((K5.out.trans (K6b.mono (fun q e => .inl (.inl e)))).set X 0 (.int .i64 a0) hXn).set X 1 (.int .i64 a1) hXn
    rw [← hW7] at K7
    obtain ⟨G, hG, hrs⟩ := S7.rstep
    have HR7 := Lib.hid (rpop_calls W7 R xs _ G hG hln C HT.out.srt)
    have hrs' := Lib.hid hrs
    have bX7' := Aside0.mk bX7
    have bY7' := Aside0.mk bY7
    have K7' := Aside0.mk K7
    have hW7' := Aside0.mk hW7
    have T6' := Aside0.mk T6
    have hT6 := Lib.hid (fun xs' S => HT.out.pop (xs' := xs') T6 hC6 S hN6)
    clear HPu hstep' A6 K6 S6 K6b hG hrs hN6 bX6 bY6 bX7 bY7 S7 K7 hW7 T6 hC6 hXn
    go_wp2_with fail
    rw [← hW7'.out]
    refine HR7.out.mono ?_
    rintro e w8 ⟨b0, b1, bb, xs8, rfl, T8, S8, P8⟩
    rw [HT.out.len] at T8
    obtain ⟨rfl, rfl, rfl⟩ := T6'.out.same T8
    clear x0 x1 f0 f1 T8
    obtain ⟨St8, K8⟩ := hrs'.out _ _ P8
    have bX8 := K8.blk bX7'.out (.inl (.inr rfl))
    have bY8 := K8.blk bY7'.out (.inr rfl)
    have x0 : w8.cell? ⟨X + 1, 0, none⟩ = some (.int .i64 0) := (HeapM.blk_cell bY8 0).trans rfl
    have x1 : w8.cell? ⟨X + 1, 1, none⟩ = some (.int .i64 0) := (HeapM.blk_cell bY8 1).trans rfl
    have f0 := HeapM.blk_free bY8 0
    have f1 := HeapM.blk_free bY8 1
    have A1 := Aside0.mk ((St8.set (X + 1) 0 (.int .i64 a0) (Or.inr (Eq.refl (X + 1)))).set (X + 1) 1 (.int .i64 a1) (Or.inr (Eq.refl (X + 1))))
    have A2 := Aside0.mk (hT6.out xs8 S8)
    have A3 := Aside0.mk (oth_two (X := X + 1) (i := 0) (j := 1) bX8 (by omega) (.int .i64 a0) (.int .i64 a1))
    have A4 := Aside0.mk (set_two bY8 (.int .i64 a0) (.int .i64 a1))
    have hYn : ¬ X + 1 < W.heap.size := by have := hWX.out; omega
    have A5 := Aside0.mk (((K7'.out.trans (K8.mono (fun q e => .inl (.inl e)))).set (X + 1) 0 (.int .i64 a0) hYn).set (X + 1) 1 (.int .i64 a1) hYn)
    clear S8 P8 St8 K8 HR7 hrs' hT6 bX8 bY8 hYn
    go_wp2_with fail
    exact hK'.out ab a0 a1 _ xs8 (n - 1) N6 _ _ _ _ _ _ _ _ _ _ _ _ _ _ _ _ _ _ _ _ _ _ _ _ _ _ _ _ _ _ _ _ _ _ _ _ _ _ _ _ _ _ _ _ _ _ _ _ _ _ _ _ _ _ _ _ _ _ _ _ _ _ A1.out A2.out A3.out A4.out A5.out
  · obtain ⟨D, hA, hstep⟩ := S2.out.step
    have HPu := Lib.hid (hA.change hN9 hn9 k p wk.out)
    have hstep' := Lib.hid hstep
    clear hA hstep
    go_wp2_with fail
    refine HPu.out.mono ?_
    rintro e w6 ⟨N6, rfl, A6, K6, hN6⟩
    obtain ⟨S6, K6b⟩ := hstep'.out _ _ _ _ A6 K6
    obtain ⟨G, hG, hrs⟩ := S6.rstep
    have HR6 := Lib.hid (rchange_calls w6 R xs _ G hG hln C HT.out.srt k p)
    have hrs' := Lib.hid hrs
    have bX6 := Aside0.mk (K6b.blk bX2.out (.inl (.inr rfl)))
    have bY6 := Aside0.mk (K6b.blk bY2.out (.inr rfl))
    have K6c := Aside0.mk (K5.out.trans (K6b.mono (fun q e => .inl (.inl e))))
    have hT6 := Lib.hid (fun xs' S => HT.out.change (xs' := xs') (k := k) (p := p) S hN6)
    clear HPu hstep' A6 K6 S6 K6b hG hrs hN6
    go_wp2_with fail
    refine HR6.out.mono ?_
    rintro e w7 ⟨xs7, rfl, S7, P7⟩
    obtain ⟨St7, K7⟩ := hrs'.out _ _ P7
    have F7 := Aside0.mk (And.intro St7 (And.intro (hT6.out xs7 S7) (And.intro (K7.blk bX6.out (.inl (.inr rfl))) (And.intro (K7.blk bY6.out (.inr rfl)) (K6c.out.trans (K7.mono (fun q e => .inl (.inl e))))))))
    clear S7 P7 St7 K7 HR6 hrs' hT6
    go_wp2_with fail
    exact hK'.out _ 0 0 _ xs7 n N6 _ _ _ _ _ _ _ _ _ _ _ _ _ _ _ _ _ _ _ _ _ _ _ _ _ _ _ _ _ _ _ _ _ _ _ _ _ _ _ _ _ _ _ _ _ _ _ _ _ _ _ _ _ _ _ _ _ _ _ _ _ _ F7.out.1 F7.out.2.1 F7.out.2.2.1 F7.out.2.2.2.1 F7.out.2.2.2.2
  · obtain ⟨D, hA, hstep⟩ := S2.out.step
    have HPu := Lib.hid (hA.remove hN9 hn9 k wk.out)
    have hstep' := Lib.hid hstep
    clear hA hstep
    go_wp2_with fail
    refine HPu.out.mono ?_
    rintro e w6 ⟨n6, N6, rfl, A6, K6, hN6, hn6, hna, hnb⟩
    obtain ⟨S6, K6b⟩ := hstep'.out _ _ _ _ A6 K6
    obtain ⟨G, hG, hrs⟩ := S6.rstep
    have HR6 := Lib.hid (rremove_calls w6 R xs _ G hG hln C HT.out.srt k)
    have hrs' := Lib.hid hrs
    have bX6 := Aside0.mk (K6b.blk bX2.out (.inl (.inr rfl)))
    have bY6 := Aside0.mk (K6b.blk bY2.out (.inr rfl))
    have K6c := Aside0.mk (K5.out.trans (K6b.mono (fun q e => .inl (.inl e))))
    have hT6 := Lib.hid (fun xs' S => HT.out.remove (xs' := xs') (k := k) S hN6 hn6 hna hnb)
    clear HPu hstep' A6 K6 S6 K6b hG hrs hN6 hn6 hna hnb
    go_wp2_with fail
    refine HR6.out.mono ?_
    rintro e w7 ⟨xs7, rfl, S7, P7⟩
    obtain ⟨St7, K7⟩ := hrs'.out _ _ P7
    have F7 := Aside0.mk (And.intro St7 (And.intro (hT6.out xs7 S7) (And.intro (K7.blk bX6.out (.inl (.inr rfl))) (And.intro (K7.blk bY6.out (.inr rfl)) (K6c.out.trans (K7.mono (fun q e => .inl (.inl e))))))))
    clear S7 P7 St7 K7 HR6 hrs' hT6
    go_wp2_with fail
    exact hK'.out _ 0 0 _ xs7 n6 N6 _ _ _ _ _ _ _ _ _ _ _ _ _ _ _ _ _ _ _ _ _ _ _ _ _ _ _ _ _ _ _ _ _ _ _ _ _ _ _ _ _ _ _ _ _ _ _ _ _ _ _ _ _ _ _ _ _ _ _ _ _ _ F7.out.1 F7.out.2.1 F7.out.2.2.1 F7.out.2.2.2.1 F7.out.2.2.2.2
  · obtain ⟨D, hA, hstep⟩ := S2.out.step
    have HPu := Lib.hid (hA.prio k wk.out)
    obtain ⟨pr, hpr⟩ : ∃ z, (C k).getD 0 = z := ⟨_, rfl⟩
    obtain ⟨pb, hpb⟩ : ∃ z, (C k).isSome = z := ⟨_, rfl⟩
    rw [hpr, hpb] at HPu
    have x0 : V2.cell? ⟨X, 0, none⟩ = some (.int .i64 0) := (HeapM.blk_cell bX2.out 0).trans rfl
    have x1 : V2.cell? ⟨X, 1, none⟩ = some (.int .i64 0) := (HeapM.blk_cell bX2.out 1).trans rfl
    have f1 := HeapM.blk_free bX2.out 1
    obtain ⟨W7, hW7⟩ : ∃ Q, Q = V2.setCell ⟨X, 1, none⟩ (.int .i64 pr) := ⟨_, rfl⟩
    have bX7 : W7.heap[X]? = some (.cells #[.int .i64 0, .int .i64 pr] 36 (0, 0)) := by rw [hW7]; exact set_snd bX2.out _
    have bY7 : W7.heap[X + 1]? = some (.cells #[.int .i64 0, .int .i64 0] 36 (0, 0)) := by rw [hW7]; exact oth_one bY2.out (by omega) _
    have S7 := S2.out.set X 1 (.int .i64 pr) (Or.inl (Or.inr (Eq.refl X)))
    rw [← hW7] at S7
    have hXn : ¬ X < W.heap.size := by have := hWX.out; omega
    have K7 := K5.out.set X 1 (.int .i64 pr) hXn
    rw [← hW7] at K7
    obtain ⟨G, hG, -⟩ := S7.rstep
    have HRp := rprio_calls W7 R xs _ G hG hln C HT.out.srt k
    rw [hpr, hpb] at HRp
    have HR7 := Lib.hid HRp
    have bX7' := Aside0.mk bX7
    have bY7' := Aside0.mk bY7
    have K7' := Aside0.mk K7
    have S7' := Aside0.mk S7
    have hW7' := Aside0.mk hW7
    clear hA hstep hG bX7 bY7 S7 K7 hW7 HRp hpr hpb hXn
    go_wp2_with fail
    refine HPu.out.mono ?_
    rintro e w6 ⟨rfl, rfl⟩
    go_wp2_with fail
    rw [← hW7'.out]
    refine HR7.out.mono ?_
    rintro e w8 ⟨rfl, rfl⟩
    clear x0 x1 f1
    have x0 : W7.cell? ⟨X + 1, 0, none⟩ = some (.int .i64 0) := (HeapM.blk_cell bY7'.out 0).trans rfl
    have x1 : W7.cell? ⟨X + 1, 1, none⟩ = some (.int .i64 0) := (HeapM.blk_cell bY7'.out 1).trans rfl
    have f1 := HeapM.blk_free bY7'.out 1
    have A1 := Aside0.mk (S7'.out.set (X + 1) 1 (.int .i64 pr) (Or.inr (Eq.refl (X + 1))))
    have A2 := Aside0.mk HT.out.next
    have A3 := Aside0.mk (oth_one (X := X + 1) (i := 1) bX7'.out (by omega) (.int .i64 pr))
    have A4 := Aside0.mk (set_snd bY7'.out (.int .i64 pr))
    have hYn : ¬ X + 1 < W.heap.size := by have := hWX.out; omega
    have A5 := Aside0.mk (K7'.out.set (X + 1) 1 (.int .i64 pr) hYn)
    clear HR7 hYn
    go_wp2_with fail
    exact hK'.out pb 0 pr C xs n N _ _ _ _ _ _ _ _ _ _ _ _ _ _ _ _ _ _ _ _ _ _ _ _ _ _ _ _ _ _ _ _ _ _ _ _ _ _ _ _ _ _ _ _ _ _ _ _ _ _ _ _ _ _ _ _ _ _ _ _ _ _ A1.out A2.out A3.out A4.out A5.out
end Go.Proofs.Ytmihpgdpgacgcaa.HeapC
