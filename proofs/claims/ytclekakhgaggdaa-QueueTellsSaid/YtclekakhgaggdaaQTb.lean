/- QueueTells' walk: the statement that compares, for itself. -/
import Derived.Test.YtclekakhgaggdaaQSt
import Derived.Deep.DeepCutAuto
namespace Go.Proofs.Ytclekakhgaggdaa.HeapC
open Go.RowKit Go.Proofs.Ytclekakhgaggdaa.HeapT Go.Proofs.Ytclekakhgaggdaa.HeapM Go.Proofs.Ytclekakhgaggdaa.QueueM Go.Proofs.YtclekakhgaggdaaW.PrintWords Go.Proofs.YtclekakhgaggdaaW.PrintLast Go.Proofs.YtclekakhgaggdaaW.PrintMore
set_option linter.unusedVariables false
set_option linter.unusedSimpArgs false
/-- The operations of a function's region. -/
def regOf (n : Nat) : Code → Option (Array Oper)
  | .region k ops _ => if k = n then some ops else none
  | .seq a b => (regOf n a).or (regOf n b)
  | .cond _ a b => (regOf n a).or (regOf n b)
  | .block _ c => regOf n c
  | .loop c => regOf n c
  | .scope c => regOf n c
  | _ => none
set_option maxHeartbeats 8000000 in
set_option maxRecDepth 20000 in
theorem reg37 (ops : Array Oper) (hops : Try.f3.body.bind (regOf 37) = some ops) (K : Act → World → Prop) (Q : Exit → Act → World → Prop) (hp : ∀ c (a : Act) (N : Option Tmp) (v : Value) w, Q (.panic c) (a.put N v) w → Q (.panic c) a w) (V9 : World) (x0 x1 x2 x3 x4 x5 x6 x7 x8 x9 x10 x11 qv x13 x14 x16 x17 x18 x19 x20 x21 x22 x23 x24 x25 x26 x27 x28 x29 x30 x31 x32 x33 x34 x35 x36 x37 x38 x39 x40 x41 x42 x43 x44 x45 x46 x47 x48 x49 x50 x51 x52 x53 x54 x55 x56 x57 x58 x59 x60 x61 x62 x63 x64 x65 x66 x67 x68 x69 x70 x71 x72 x73 x74 x75 x76 x77 x78 x79 x80 x81 x82 x83 x84 x85 x86 x87 x88 x89 x90 x91 x92 x93 x94 x95 x96 x97 x98 x99 x100 x101 x102 x103 x104 x105 x106 x107 x108 x109 x110 x111 x112 x113 x114 x115 x116 x117 x118 x119 x120 x121 x122 x123 x124 x125 x126 x127 x128 x129 x130 x131 x132 x133 x134 x135 x136 x137 x138 x139 x140 x141 x142 x143 x144 x145 x146 x147 x148 x149 x150 x151 x152 x153 x154 x155 x156 x157 x158 x159 x160 x161 x162 x163 x164 x165 x166 x167 x168 x169 x170 x171 x172 x173 : Value) (R dl dc : Nat) (da : Option Addr) (L1 ys : List Int)
    (hW : ∀ w', Below V9.heap.size V9 w' → Calls Try.prog 19 #[qv] w' fun e w2 => ∃ v, e = .returned v ∧ Rd w2 v L1 ∧ Below w'.heap.size w' w2)
    (hWR : ∀ w', Below V9.heap.size V9 w' → Calls Try.prog 20 #[.pointer (some ⟨R, 0, none⟩)] w' fun e w2 => ∃ v, e = .returned v ∧ Rd w2 v L1 ∧ Below w'.heap.size w' w2)
    (hD : ∀ w', Below V9.heap.size V9 w' → Calls Try.prog 21 #[qv] w' fun e w2 => ∃ v, e = .returned v ∧ Rd w2 v ys ∧ Below w'.heap.size w' w2)
    (hdc : V9.cell? ⟨R, 3, none⟩ = some (.slice da dl dc)) (hR : R < V9.heap.size) (hdv : Rd V9 (.slice da dl dc) ys) (hl1 : L1.length ≤ 1000000) (hl2 : ys.length ≤ 1000000)
    (hQ : ∀ (y156 y157 y158 y159 y160 y161 y162 y163 y164 y165 y166 y167 y168 y169 y170 : Value) (w' : World), Below V9.heap.size V9 w' → K { tmps := #[x0, x1, x2, x3, x4, x5, x6, x7, x8, x9, x10, x11, qv, x13, x14, .pointer (some ⟨R, 0, none⟩), x16, x17, x18, x19, x20, x21, x22, x23, x24, x25, x26, x27, x28, x29, x30, x31, x32, x33, x34, x35, x36, x37, x38, x39, x40, x41, x42, x43, x44, x45, x46, x47, x48, x49, x50, x51, x52, x53, x54, x55, x56, x57, x58, x59, x60, x61, x62, x63, x64, x65, x66, x67, x68, x69, x70, x71, x72, x73, x74, x75, x76, x77, x78, x79, x80, x81, x82, x83, x84, x85, x86, x87, x88, x89, x90, x91, x92, x93, x94, x95, x96, x97, x98, x99, x100, x101, x102, x103, x104, x105, x106, x107, x108, x109, x110, x111, x112, x113, x114, x115, x116, x117, x118, x119, x120, x121, x122, x123, x124, x125, x126, x127, x128, x129, x130, x131, x132, x133, x134, x135, x136, x137, x138, x139, x140, x141, x142, x143, x144, x145, x146, x147, x148, x149, x150, x151, x152, x153, x154, x155, y156, y157, y158, y159, y160, y161, y162, y163, y164, y165, y166, y167, y168, y169, y170, .bool false, x172, x173], defers := [] } w') :
    Code.wp Try.prog (Code.region 37 ops true) (Exit.then K Q) { tmps := #[x0, x1, x2, x3, x4, x5, x6, x7, x8, x9, x10, x11, qv, x13, x14, .pointer (some ⟨R, 0, none⟩), x16, x17, x18, x19, x20, x21, x22, x23, x24, x25, x26, x27, x28, x29, x30, x31, x32, x33, x34, x35, x36, x37, x38, x39, x40, x41, x42, x43, x44, x45, x46, x47, x48, x49, x50, x51, x52, x53, x54, x55, x56, x57, x58, x59, x60, x61, x62, x63, x64, x65, x66, x67, x68, x69, x70, x71, x72, x73, x74, x75, x76, x77, x78, x79, x80, x81, x82, x83, x84, x85, x86, x87, x88, x89, x90, x91, x92, x93, x94, x95, x96, x97, x98, x99, x100, x101, x102, x103, x104, x105, x106, x107, x108, x109, x110, x111, x112, x113, x114, x115, x116, x117, x118, x119, x120, x121, x122, x123, x124, x125, x126, x127, x128, x129, x130, x131, x132, x133, x134, x135, x136, x137, x138, x139, x140, x141, x142, x143, x144, x145, x146, x147, x148, x149, x150, x151, x152, x153, x154, x155, x156, x157, x158, x159, x160, x161, x162, x163, x164, x165, x166, x167, x168, x169, x170, x171, x172, x173], defers := [] } V9 := by
  simp [regOf, Try.f3] at hops
  subst hops
  have hW' := Lib.hid hW
  have hWR' := Lib.hid hWR
  have hD' := Lib.hid hD
  have hdv' := Aside0.mk hdv
  have hQ' := Lib.hid hQ
  have BB := Below.refl V9.heap.size V9
  clear hW hWR hD hdv hQ
  refine start_ (n := 16) (S := fun w' => w'.cell? ⟨R, 3, none⟩ = some (.slice da dl dc) ∧ Below V9.heap.size V9 w') (ds := []) #[false, false, false, false, false, false, false, false, false, false, false, false, false, false, false, false] (by kernel_rfl) rfl rfl ⟨hdc, (by apply below_drew1; exact BB)⟩ (fun hHeld => ?_)
  refine pure_ (i := 0) (N := some 156) (v := ?_) (a' := ?_) #[true, false, false, false, false, false, false, false, false, false, false, false, false, false, false, false] rfl rfl (by kernel_rfl) (fun _ _ _ h => hp _ _ _ _ _ h) (Or.inl ⟨by rfl, ?_⟩) ?_ ?_
  rotate_left
  · intro w'
    go_simp
    with_reducible rfl
  rotate_left
  · simp only [Act.put, List.setIfInBounds_toArray, List.set_cons_zero, List.set_cons_succ, i64_w, i32_w]
    rfl
  refine pure_ (i := 2) (N := some 158) (v := ?_) (a' := ?_) #[true, false, true, false, false, false, false, false, false, false, false, false, false, false, false, false] rfl rfl (by kernel_rfl) (fun _ _ _ h => hp _ _ _ _ _ h) (Or.inl ⟨by rfl, ?_⟩) ?_ ?_
  rotate_left
  · intro w'
    go_simp
    with_reducible rfl
  rotate_left
  · simp only [Act.put, List.setIfInBounds_toArray, List.set_cons_zero, List.set_cons_succ, i64_w, i32_w]
    rfl
  refine one_ (i := 1) (N := some 157) #[true, true, true, false, false, false, false, false, false, false, false, false, false, false, false, false] rfl rfl (by kernel_rfl) (by decide) (fun K hK => ?_)
  refine goes_ Try.func19 (by kernel_rfl) rfl #[qv] (by rfl) rfl rfl (by simp only [List.map_toArray, List.map_cons, List.map_nil]; rfl) ?_
  with_reducible refine (hW'.out _ hHeld.2).mono ?_
  rintro e w3 ⟨v1, rfl, R1, B1⟩
  refine ⟨_, rfl, ?_⟩
  refine hK.out _ _ ⟨((below_step hHeld.2 B1).cell (p := ⟨R, 3, none⟩) hR).trans hdc, below_step hHeld.2 B1⟩ (fun hHeld => ?_)
  clear hK K
  refine norm_ (a' := ?_) ?_ ?_
  rotate_left
  · show Act.put _ (some 157) _ = _
    simp only [Act.put, List.setIfInBounds_toArray, List.set_cons_zero, List.set_cons_succ, i64_w, i32_w]
    rfl
  refine one_ (i := 3) (N := some 159) #[true, true, true, true, false, false, false, false, false, false, false, false, false, false, false, false] rfl rfl (by kernel_rfl) (by decide) (fun K hK => ?_)
  refine goes_ Try.func20 (by kernel_rfl) rfl #[.pointer (some ⟨R, 0, none⟩)] (by rfl) rfl rfl (by simp only [List.map_toArray, List.map_cons, List.map_nil]; rfl) ?_
  with_reducible refine (hWR'.out _ hHeld.2).mono ?_
  rintro e w4 ⟨v2, rfl, R2, B2⟩
  refine ⟨_, rfl, ?_⟩
  have R1b := R1.below B2
  refine hK.out _ _ ⟨((below_step hHeld.2 B2).cell (p := ⟨R, 3, none⟩) hR).trans hdc, below_step hHeld.2 B2⟩ (fun hHeld => ?_)
  clear hK K
  refine norm_ (a' := ?_) ?_ ?_
  rotate_left
  · show Act.put _ (some 159) _ = _
    simp only [Act.put, List.setIfInBounds_toArray, List.set_cons_zero, List.set_cons_succ, i64_w, i32_w]
    rfl
  refine one_ (i := 4) (N := some 160) #[true, true, true, true, true, false, false, false, false, false, false, false, false, false, false, false] rfl rfl (by kernel_rfl) (by decide) (fun K hK => ?_)
  refine goes_ Try.func18 (by kernel_rfl) rfl #[v1, v2] (by rfl) rfl rfl (by simp only [List.map_toArray, List.map_cons, List.map_nil]; rfl) ?_
  with_reducible refine (ints_rd v1 v2 L1 _ R1b R2 hl1).mono ?_
  rintro e w5 ⟨rfl, B3⟩
  refine ⟨_, rfl, ?_⟩
  refine hK.out _ _ ⟨((below_step hHeld.2 B3).cell (p := ⟨R, 3, none⟩) hR).trans hdc, below_step hHeld.2 B3⟩ (fun hHeld => ?_)
  clear hK K
  refine norm_ (a' := ?_) ?_ ?_
  rotate_left
  · show Act.put _ (some 160) _ = _
    simp only [Act.put, List.setIfInBounds_toArray, List.set_cons_zero, List.set_cons_succ, i64_w, i32_w]
    rfl
  refine pure_ (i := 5) (N := some 161) (v := ?_) (a' := ?_) #[true, true, true, true, true, true, false, false, false, false, false, false, false, false, false, false] rfl rfl (by kernel_rfl) (fun _ _ _ h => hp _ _ _ _ _ h) (Or.inl ⟨by rfl, ?_⟩) ?_ ?_
  rotate_left
  · intro w'
    go_simp
    with_reducible rfl
  rotate_left
  · simp only [Act.put, List.setIfInBounds_toArray, List.set_cons_zero, List.set_cons_succ, i64_w, i32_w]
    rfl
  refine pure_ (i := 6) (N := some 162) (v := ?_) (a' := ?_) #[true, true, true, true, true, true, true, false, false, false, false, false, false, false, false, false] rfl rfl (by kernel_rfl) (fun _ _ _ h => hp _ _ _ _ _ h) (Or.inl ⟨by rfl, ?_⟩) ?_ ?_
  rotate_left
  · intro w'
    go_simp
    with_reducible rfl
  rotate_left
  · simp only [Act.put, List.setIfInBounds_toArray, List.set_cons_zero, List.set_cons_succ, i64_w, i32_w]
    rfl
  refine pure_ (i := 7) (N := some 163) (v := ?_) (a' := ?_) #[true, true, true, true, true, true, true, true, false, false, false, false, false, false, false, false] rfl rfl (by kernel_rfl) (fun _ _ _ h => hp _ _ _ _ _ h) (Or.inl ⟨by rfl, ?_⟩) ?_ ?_
  rotate_left
  · intro w'
    go_simp
    with_reducible rfl
  rotate_left
  · simp only [Act.put, List.setIfInBounds_toArray, List.set_cons_zero, List.set_cons_succ, i64_w, i32_w]
    rfl
  refine pure_ (i := 9) (N := some 165) (v := ?_) (a' := ?_) #[true, true, true, true, true, true, true, true, false, true, false, false, false, false, false, false] rfl rfl (by kernel_rfl) (fun _ _ _ h => hp _ _ _ _ _ h) (Or.inl ⟨by rfl, ?_⟩) ?_ ?_
  rotate_left
  · intro w'
    go_simp
    with_reducible rfl
  rotate_left
  · simp only [Act.put, List.setIfInBounds_toArray, List.set_cons_zero, List.set_cons_succ, i64_w, i32_w]
    rfl
  refine pure_ (i := 10) (N := some 166) (v := ?_) (a' := ?_) #[true, true, true, true, true, true, true, true, false, true, true, false, false, false, false, false] rfl rfl (by kernel_rfl) (fun _ _ _ h => hp _ _ _ _ _ h) (Or.inl ⟨by rfl, ?_⟩) ?_ ?_
  rotate_left
  · intro w'
    go_simp
    with_reducible rfl
  rotate_left
  · simp only [Act.put, List.setIfInBounds_toArray, List.set_cons_zero, List.set_cons_succ, i64_w, i32_w]
    rfl
  refine pure_ (i := 11) (N := some 167) (v := ?_) (a' := ?_) #[true, true, true, true, true, true, true, true, false, true, true, true, false, false, false, false] rfl rfl (by kernel_rfl) (fun _ _ _ h => hp _ _ _ _ _ h) (Or.inl ⟨by rfl, ?_⟩) ?_ ?_
  rotate_left
  · intro w'
    go_simp
    with_reducible rfl
  rotate_left
  · simp only [Act.put, List.setIfInBounds_toArray, List.set_cons_zero, List.set_cons_succ, i64_w, i32_w]
    rfl
  refine take_ (i := 12) (N := some 168) (v := ?_) (a' := ?_) #[true, true, true, true, true, true, true, true, false, true, true, true, true, false, false, false] rfl rfl (by kernel_rfl) (fun _ _ _ h => hp _ _ _ _ _ h) (Or.inl ⟨by rfl, ?_⟩) hHeld ?_ ?_
  rotate_left
  · rintro w' ⟨s0, s1⟩
    go_simp
    with_reducible rfl
  rotate_left
  · simp only [Act.put, List.setIfInBounds_toArray, List.set_cons_zero, List.set_cons_succ, i64_w, i32_w]
    rfl
  refine one_ (i := 8) (N := some 164) #[true, true, true, true, true, true, true, true, true, true, true, true, true, false, false, false] rfl rfl (by kernel_rfl) (by decide) (fun K hK => ?_)
  refine goes_ Try.func21 (by kernel_rfl) rfl #[qv] (by rfl) rfl rfl (by simp only [List.map_toArray, List.map_cons, List.map_nil]; rfl) ?_
  with_reducible refine (hD'.out _ hHeld.2).mono ?_
  rintro e w6 ⟨v3, rfl, R3, B4⟩
  refine ⟨_, rfl, ?_⟩
  refine hK.out _ _ ⟨((below_step hHeld.2 B4).cell (p := ⟨R, 3, none⟩) hR).trans hdc, below_step hHeld.2 B4⟩ (fun hHeld => ?_)
  clear hK K
  refine norm_ (a' := ?_) ?_ ?_
  rotate_left
  · show Act.put _ (some 164) _ = _
    simp only [Act.put, List.setIfInBounds_toArray, List.set_cons_zero, List.set_cons_succ, i64_w, i32_w]
    rfl
  refine one_ (i := 13) (N := some 169) #[true, true, true, true, true, true, true, true, true, true, true, true, true, true, false, false] rfl rfl (by kernel_rfl) (by decide) (fun K hK => ?_)
  refine goes_ Try.func18 (by kernel_rfl) rfl #[v3, .slice da dl dc] (by rfl) rfl rfl (by simp only [List.map_toArray, List.map_cons, List.map_nil]; rfl) ?_
  with_reducible refine (ints_rd v3 _ ys _ R3 (hdv'.out.below hHeld.2) hl2).mono ?_
  rintro e w7 ⟨rfl, B5⟩
  refine ⟨_, rfl, ?_⟩
  refine hK.out _ _ ⟨((below_step hHeld.2 B5).cell (p := ⟨R, 3, none⟩) hR).trans hdc, below_step hHeld.2 B5⟩ (fun hHeld => ?_)
  clear hK K
  refine norm_ (a' := ?_) ?_ ?_
  rotate_left
  · show Act.put _ (some 169) _ = _
    simp only [Act.put, List.setIfInBounds_toArray, List.set_cons_zero, List.set_cons_succ, i64_w, i32_w]
    rfl
  refine pure_ (i := 14) (N := some 170) (v := ?_) (a' := ?_) #[true, true, true, true, true, true, true, true, true, true, true, true, true, true, true, false] rfl rfl (by kernel_rfl) (fun _ _ _ h => hp _ _ _ _ _ h) (Or.inl ⟨by rfl, ?_⟩) ?_ ?_
  rotate_left
  · intro w'
    go_simp
    with_reducible rfl
  rotate_left
  · simp only [Act.put, List.setIfInBounds_toArray, List.set_cons_zero, List.set_cons_succ, i64_w, i32_w]
    rfl
  refine pure_ (i := 15) (N := some 171) (v := ?_) (a' := ?_) #[true, true, true, true, true, true, true, true, true, true, true, true, true, true, true, true] rfl rfl (by kernel_rfl) (fun _ _ _ h => hp _ _ _ _ _ h) (Or.inl ⟨by rfl, ?_⟩) ?_ ?_
  rotate_left
  · intro w'
    go_simp
    with_reducible rfl
  rotate_left
  · simp only [Act.put, List.setIfInBounds_toArray, List.set_cons_zero, List.set_cons_succ, i64_w, i32_w]
    rfl
  refine done_ (by kernel_rfl) ?_

  exact hQ'.out _ _ _ _ _ _ _ _ _ _ _ _ _ _ _ _ hHeld.2
end Go.Proofs.Ytclekakhgaggdaa.HeapC
/- QueueTells' walk: a step of both queues, for itself. -/
namespace Go.Proofs.Ytclekakhgaggdaa.HeapC
open Go.RowKit Go.Proofs.Ytclekakhgaggdaa.HeapT Go.Proofs.Ytclekakhgaggdaa.HeapM Go.Proofs.Ytclekakhgaggdaa.QueueM Go.Proofs.YtclekakhgaggdaaW.PrintWords Go.Proofs.YtclekakhgaggdaaW.PrintLast Go.Proofs.YtclekakhgaggdaaW.PrintMore
set_option linter.unusedVariables false
set_option linter.unusedSimpArgs false
set_option maxHeartbeats 8000000 in
set_option maxRecDepth 20000 in
theorem blk5 (code : Code) (hcode : Try.f3.body.bind (blkOf 5) = some code) (K : Act → World → Prop) (Q : Exit → Act → World → Prop) (V2 : World) (x0 x1 x2 x3 x4 x5 x6 x7 x8 x9 x10 x11 x13 x14 x16 x20 x21 x22 x23 x24 x25 x26 x27 x28 x29 x30 x31 x32 x33 x34 x35 x36 x37 x38 x39 x40 x41 x42 x43 x44 x45 x46 x47 x48 x49 x50 x51 x52 x53 x54 x55 x56 x57 x58 x59 x60 x61 x62 x63 x64 x65 x66 x67 x68 x69 x70 x71 x72 x73 x74 x75 x76 x77 x78 x79 x80 x81 x82 x83 x84 x85 x86 x87 x88 x89 x90 x91 x92 x93 x94 x95 x96 x97 x98 x99 x100 x101 x102 x103 x104 x105 x106 x107 x108 x109 x111 x112 x113 x114 x115 x116 x117 x118 x119 x120 x121 x122 x123 x124 x125 x126 x127 x128 x129 x130 x131 x132 x133 x134 x135 x136 x137 x138 x139 x140 x141 x142 x143 x144 x145 x146 x147 x148 x149 x150 x151 x152 x153 x154 x155 x156 x157 x158 x159 x160 x161 x162 x163 x164 x165 x166 x167 x168 x169 x170 x171 x172 x173 : Value) (o : Option Addr) (R : Nat) (s p t q : Int) (C : Int → Option Int) (S : Int → Bool) (age most : Int) (n N : Nat) (xs : List Itm) (ys : List Int) (E : Nat → Prop)
    (HT : Aside0 (TQ V2 (.pointer o) R C S age most n N xs ys E)) (hN : N ≤ 14000000000000) (wk : Aside0 ((Lit.int .i64 s).wf = true)) (q0 : 0 ≤ q) (q1 : q < 4)
    (hK : ∀ (y20 y21 y22 y23 y24 y25 y111 y112 y113 y114 y115 y116 y117 y118 y119 y120 y121 y122 y123 y124 y125 y126 y127 y128 y129 y130 y131 y132 y133 y134 y135 y136 y137 y138 y139 y140 y141 y142 y143 y144 y145 y146 y147 y148 y149 y150 y151 y152 y153 y154 y155 : Value) (w' : World), (∃ (C' : Int → Option Int) (S' : Int → Bool) (n' N' : Nat) (xs' : List Itm) (ys' : List Int), TQ w' (.pointer o) R C' S' age most n' N' xs' ys' E ∧ Kept V2 w' E ∧ N' ≤ N + 5000000000) → K { tmps := #[x0, x1, x2, x3, x4, x5, x6, x7, x8, x9, x10, x11, .pointer o, x13, x14, .pointer (some ⟨R, 0, none⟩), x16, .int .i64 s, .int .i64 p, .int .i64 t, y20, y21, y22, y23, y24, y25, x26, x27, x28, x29, x30, x31, x32, x33, x34, x35, x36, x37, x38, x39, x40, x41, x42, x43, x44, x45, x46, x47, x48, x49, x50, x51, x52, x53, x54, x55, x56, x57, x58, x59, x60, x61, x62, x63, x64, x65, x66, x67, x68, x69, x70, x71, x72, x73, x74, x75, x76, x77, x78, x79, x80, x81, x82, x83, x84, x85, x86, x87, x88, x89, x90, x91, x92, x93, x94, x95, x96, x97, x98, x99, x100, x101, x102, x103, x104, x105, x106, x107, x108, x109, .int .i64 q, y111, y112, y113, y114, y115, y116, y117, y118, y119, y120, y121, y122, y123, y124, y125, y126, y127, y128, y129, y130, y131, y132, y133, y134, y135, y136, y137, y138, y139, y140, y141, y142, y143, y144, y145, y146, y147, y148, y149, y150, y151, y152, y153, y154, y155, x156, x157, x158, x159, x160, x161, x162, x163, x164, x165, x166, x167, x168, x169, x170, x171, x172, x173], defers := [] } w') :
    Code.wp Try.prog code (Exit.then K Q) { tmps := #[x0, x1, x2, x3, x4, x5, x6, x7, x8, x9, x10, x11, .pointer o, x13, x14, .pointer (some ⟨R, 0, none⟩), x16, .int .i64 s, .int .i64 p, .int .i64 t, x20, x21, x22, x23, x24, x25, x26, x27, x28, x29, x30, x31, x32, x33, x34, x35, x36, x37, x38, x39, x40, x41, x42, x43, x44, x45, x46, x47, x48, x49, x50, x51, x52, x53, x54, x55, x56, x57, x58, x59, x60, x61, x62, x63, x64, x65, x66, x67, x68, x69, x70, x71, x72, x73, x74, x75, x76, x77, x78, x79, x80, x81, x82, x83, x84, x85, x86, x87, x88, x89, x90, x91, x92, x93, x94, x95, x96, x97, x98, x99, x100, x101, x102, x103, x104, x105, x106, x107, x108, x109, .int .i64 q, x111, x112, x113, x114, x115, x116, x117, x118, x119, x120, x121, x122, x123, x124, x125, x126, x127, x128, x129, x130, x131, x132, x133, x134, x135, x136, x137, x138, x139, x140, x141, x142, x143, x144, x145, x146, x147, x148, x149, x150, x151, x152, x153, x154, x155, x156, x157, x158, x159, x160, x161, x162, x163, x164, x165, x166, x167, x168, x169, x170, x171, x172, x173], defers := [] } V2 := by
  simp [blkOf, Try.f3] at hcode
  subst hcode
  have hK' := Lib.hid hK
  have hqs : q = 0 ∨ q = 1 ∨ q = 2 ∨ q = 3 := by omega
  clear q0 q1 hK
  rcases hqs with rfl | rfl | rfl | rfl
  · have HW := Lib.hid (HT.out.want hN s p t)
    go_wp2_with fail
    refine HW.out.mono ?_
    rintro e w1 ⟨a, rfl, HC⟩
    have HC' := Lib.hid HC
    clear HC HW
    go_wp2_with fail
    refine HC'.out.mono ?_
    rintro e w2 ⟨rfl, HR⟩
    have HR' := Aside0.mk HR
    clear HR HC'
    go_wp2_with fail
    exact hK'.out _ _ _ _ _ _ _ _ _ _ _ _ _ _ _ _ _ _ _ _ _ _ _ _ _ _ _ _ _ _ _ _ _ _ _ _ _ _ _ _ _ _ _ _ _ _ _ _ _ _ _ _ HR'.out
  · have HW := Lib.hid (HT.out.want hN s p t)
    go_wp2_with fail
    refine HW.out.mono ?_
    rintro e w1 ⟨a, rfl, HC⟩
    have HC' := Lib.hid HC
    clear HC HW
    go_wp2_with fail
    refine HC'.out.mono ?_
    rintro e w2 ⟨rfl, HR⟩
    have HR' := Aside0.mk HR
    clear HR HC'
    go_wp2_with fail
    exact hK'.out _ _ _ _ _ _ _ _ _ _ _ _ _ _ _ _ _ _ _ _ _ _ _ _ _ _ _ _ _ _ _ _ _ _ _ _ _ _ _ _ _ _ _ _ _ _ _ _ _ _ _ _ HR'.out
  · have HW := Lib.hid (HT.out.next hN t)
    go_wp2_with fail
    refine HW.out.mono ?_
    rintro e w1 ⟨k, b, rfl, HC⟩
    have HC' := Lib.hid HC
    clear HC HW
    go_wp2_with fail
    refine HC'.out.mono ?_
    rintro e w2 ⟨rfl, HR⟩
    have HR' := Aside0.mk HR
    clear HR HC'
    go_wp2_with fail
    exact hK'.out _ _ _ _ _ _ _ _ _ _ _ _ _ _ _ _ _ _ _ _ _ _ _ _ _ _ _ _ _ _ _ _ _ _ _ _ _ _ _ _ _ _ _ _ _ _ _ _ _ _ _ _ HR'.out
  · have HW := Lib.hid (HT.out.drop hN s wk.out)
    go_wp2_with fail
    refine HW.out.mono ?_
    rintro e w1 ⟨b, rfl, HC⟩
    have HC' := Lib.hid HC
    clear HC HW
    go_wp2_with fail
    refine HC'.out.mono ?_
    rintro e w2 ⟨rfl, HR⟩
    have HR' := Aside0.mk HR
    clear HR HC'
    go_wp2_with fail
    exact hK'.out _ _ _ _ _ _ _ _ _ _ _ _ _ _ _ _ _ _ _ _ _ _ _ _ _ _ _ _ _ _ _ _ _ _ _ _ _ _ _ _ _ _ _ _ _ _ _ _ _ _ _ _ HR'.out
end Go.Proofs.Ytclekakhgaggdaa.HeapC
