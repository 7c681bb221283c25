/- QueueKeeps: the merge of what waits and what is dirty, for itself. -/
import Derived.Test.YtclekakhgaggdaaQN
import Derived.Deep.DeepCutAuto
namespace Go.Proofs.Ytclekakhgaggdaa.HeapC
open Go.RowKit Go.Proofs.Ytclekakhgaggdaa.HeapT Go.Proofs.Ytclekakhgaggdaa.HeapM Go.Proofs.Ytclekakhgaggdaa.QueueM Go.Proofs.YtclekakhgaggdaaW.PrintWords Go.Proofs.YtclekakhgaggdaaW.PrintLast Go.Proofs.YtclekakhgaggdaaW.PrintMore
set_option linter.unusedVariables false
set_option linter.unusedSimpArgs false
theorem NRow.cells {w : World} {B n cap : Nat} {a : Option Addr} {xs : List Int} (h : NRow w B (.slice a n cap) xs) : n = xs.length ∧ ∀ i, i < xs.length → ∃ b, a = some ⟨b, 0, none⟩ ∧ b < w.heap.size ∧ w.cell? ⟨b, i, none⟩ = some (.int .i64 (xs.getD i 0)) := by
  obtain ⟨a', cap', e, _, hc⟩ := h.nums
  injection e with e1 e2 e3
  subst e1
  refine ⟨e2, fun i hi => ?_⟩
  obtain ⟨b, q1, _, q2, q3⟩ := hc i hi
  exact ⟨b, q1, q2, q3⟩
/-- A block of a function's code. -/
def blkOf (n : Nat) : Code → Option Code
  | .seq a b => (blkOf n a).or (blkOf n b)
  | .cond _ a b => (blkOf n a).or (blkOf n b)
  | .block k c => if k = n then some (.block k c) else blkOf n c
  | .loop c => blkOf n c
  | .scope c => blkOf n c
  | _ => none
set_option maxHeartbeats 8000000 in
set_option maxRecDepth 20000 in
theorem merge5 (code : Code) (hcode : Try.f4.body.bind (blkOf 5) = some code) (K : Act → World → Prop) (Q : Exit → Act → World → Prop) (hp : ∀ c (a : Act) (N : Option Tmp) (v : Value) w, Q (.panic c) (a.put N v) w → Q (.panic c) a w) (V2 : World) (x0 x1 x2 x3 x4 x5 x6 x7 x8 x9 x10 x11 x14 x15 x19 x20 x21 x22 x23 x24 x25 x26 x27 x28 x29 x30 x31 x32 x33 x34 x35 x36 x37 x38 x39 x40 x41 x42 x43 x44 x45 x46 x47 x48 x49 x50 x51 x52 x53 x54 x55 x56 x57 x58 x59 x60 x61 x62 x63 x64 x65 x66 x67 x68 x69 x70 x71 x72 x73 x74 x75 x76 x77 x78 x79 x80 x81 x82 x83 x84 x85 x86 x87 x88 x89 x90 x91 x92 x93 x94 x95 x96 x97 x98 x99 x100 x101 x102 x103 x104 x105 x106 x107 x108 x109 x110 x111 x112 x113 x114 x115 x116 x117 z118 z119 z120 z121 z122 z123 z124 z125 z126 z127 z128 z129 z130 z131 z132 z133 z134 z135 z136 z137 z138 z139 z140 z141 z142 z143 z144 z145 z146 z147 z148 z149 z150 z151 z152 z153 z154 z155 z156 z157 z158 z159 z160 z161 z162 z163 z164 z165 z166 x167 x168 x169 x170 x171 x172 x173 x174 x175 x176 x177 x178 x179 : Value) (a5 a6 : Option Addr) (kl yl cap5 cap6 : Nat) (ks ys : List Int)
    (HCK : Aside0 (∀ i, i < ks.length → ∃ b, a5 = some ⟨b, 0, none⟩ ∧ b < V2.heap.size ∧ V2.cell? ⟨b, i, none⟩ = some (.int .i64 (ks.getD i 0)))) (HCY : Aside0 (∀ i, i < ys.length → ∃ b, a6 = some ⟨b, 0, none⟩ ∧ b < V2.heap.size ∧ V2.cell? ⟨b, i, none⟩ = some (.int .i64 (ys.getD i 0))))
    (HKL : Aside0 (ks.length = kl)) (HYL : Aside0 (ys.length = yl)) (hkl : kl ≤ 12) (hyl : yl ≤ 12) (S5 : Aside0 (ks.Pairwise (· < ·))) (S6 : Aside0 (ys.Pairwise (· < ·))) (HD : Aside0 (∀ x ∈ ks, x ∉ ys))
    (hK : ∀ (G : List Int) (v y118 y119 y120 y121 y122 y123 y124 y125 y126 y127 y128 y129 y130 y131 y132 y133 y134 y135 y136 y137 y138 y139 y140 y141 y142 y143 y144 y145 y146 y147 y148 y149 y150 y151 y152 y153 y154 y155 y156 y157 y158 y159 y160 y161 y162 y163 y164 y165 y166 : Value) (w' : World), Mg ks ys G kl yl → NRow w' V2.heap.size v G → Below V2.heap.size V2 w' → K { tmps := #[x0, x1, x2, x3, x4, x5, x6, x7, x8, x9, x10, x11, .slice a5 kl cap5, .slice a6 yl cap6, x14, x15, v, .int .i64 kl, .int .i64 yl, x19, x20, x21, x22, x23, x24, x25, x26, x27, x28, x29, x30, x31, x32, x33, x34, x35, x36, x37, x38, x39, x40, x41, x42, x43, x44, x45, x46, x47, x48, x49, x50, x51, x52, x53, x54, x55, x56, x57, x58, x59, x60, x61, x62, x63, x64, x65, x66, x67, x68, x69, x70, x71, x72, x73, x74, x75, x76, x77, x78, x79, x80, x81, x82, x83, x84, x85, x86, x87, x88, x89, x90, x91, x92, x93, x94, x95, x96, x97, x98, x99, x100, x101, x102, x103, x104, x105, x106, x107, x108, x109, x110, x111, x112, x113, x114, x115, x116, x117, y118, y119, y120, y121, y122, y123, y124, y125, y126, y127, y128, y129, y130, y131, y132, y133, y134, y135, y136, y137, y138, y139, y140, y141, y142, y143, y144, y145, y146, y147, y148, y149, y150, y151, y152, y153, y154, y155, y156, y157, y158, y159, y160, y161, y162, y163, y164, y165, y166, x167, x168, x169, x170, x171, x172, x173, x174, x175, x176, x177, x178, x179], defers := [] } w') :
    Code.wp Try.prog code (Exit.then K Q) { tmps := #[x0, x1, x2, x3, x4, x5, x6, x7, x8, x9, x10, x11, .slice a5 kl cap5, .slice a6 yl cap6, x14, x15, .slice none 0 0, .int .i64 0, .int .i64 0, x19, x20, x21, x22, x23, x24, x25, x26, x27, x28, x29, x30, x31, x32, x33, x34, x35, x36, x37, x38, x39, x40, x41, x42, x43, x44, x45, x46, x47, x48, x49, x50, x51, x52, x53, x54, x55, x56, x57, x58, x59, x60, x61, x62, x63, x64, x65, x66, x67, x68, x69, x70, x71, x72, x73, x74, x75, x76, x77, x78, x79, x80, x81, x82, x83, x84, x85, x86, x87, x88, x89, x90, x91, x92, x93, x94, x95, x96, x97, x98, x99, x100, x101, x102, x103, x104, x105, x106, x107, x108, x109, x110, x111, x112, x113, x114, x115, x116, x117, z118, z119, z120, z121, z122, z123, z124, z125, z126, z127, z128, z129, z130, z131, z132, z133, z134, z135, z136, z137, z138, z139, z140, z141, z142, z143, z144, z145, z146, z147, z148, z149, z150, z151, z152, z153, z154, z155, z156, z157, z158, z159, z160, z161, z162, z163, z164, z165, z166, x167, x168, x169, x170, x171, x172, x173, x174, x175, x176, x177, x178, x179], defers := [] } V2 := by
  simp [blkOf, Try.f4] at hcode
  subst hcode
  have hK' := Lib.hid hK
  obtain ⟨inf, hi0, hi1, hi2, hi3⟩ := info_int
  have hinf := Aside0.mk (And.intro hi0 (And.intro hi1 (And.intro hi2 hi3)))
  have BV2 := Aside0.mk (Below.refl V2.heap.size V2)
  clear hK hi0 hi1 hi2 hi3
  go_wp2_with fail
  go_loopw [16, 17, 18] (fun vg va vb wx => ∃ (aa bb : Nat) (G : List Int), va = .int .i64 aa ∧ vb = .int .i64 bb ∧ aa ≤ kl ∧ bb ≤ yl ∧ G.length = aa + bb ∧ Aside0 (Mg ks ys G aa bb) ∧ Aside0 (NRow wx V2.heap.size vg G) ∧ Aside0 (Below V2.heap.size V2 wx)) (fun _ va vb _ => (kl + yl) - ((intOf va).toNat + (intOf vb).toNat))
  case atStart => exact ⟨0, 0, [], rfl, rfl, by omega, by omega, rfl, ⟨Mg.start ks ys⟩, ⟨by simp [NRow]; exact World.ownsRow_nil _ _ _ _⟩, BV2⟩
  case round =>
    clear BV2
    obtain ⟨aa, bb, G, rfl, rfl, ha, hb, hG, HM, HR, HKB⟩ := hrel
    by_cases hbb : bb < yl
    · have db : decide ((bb : Int) < (yl : Int)) = true := decide_eq_true (by omega)
      have ly : ((yl : Int) ≤ (bb : Int)) = False := eq_false (by omega)
      obtain ⟨by_, ey, qy, cy⟩ := HCY.out bb (by have := HYL.out; omega)
      subst ey
      obtain ⟨y, hy⟩ : ∃ y, ys.getD bb 0 = y := ⟨_, rfl⟩
      have HY := Aside0.mk hy
      rw [hy] at cy
      have dy := (HKB.out.cell (p := ⟨by_, bb, none⟩) qy).trans cy
      clear cy qy hy
      by_cases haa : aa < kl
      · have da : decide ((aa : Int) < (kl : Int)) = true := decide_eq_true (by omega)
        obtain ⟨bk, ek, qk, ck⟩ := HCK.out aa (by have := HKL.out; omega)
        subst ek
        obtain ⟨x, hx⟩ : ∃ x, ks.getD aa 0 = x := ⟨_, rfl⟩
        have HX := Aside0.mk hx
        rw [hx] at ck
        have dk := (HKB.out.cell (p := ⟨bk, aa, none⟩) qk).trans ck
        clear ck qk hx
        have lk : ((kl : Int) ≤ (aa : Int)) = False := eq_false (by omega)
        by_cases hxy : x < y
        · have dxy : decide (x < y) = true := decide_eq_true hxy
          go_wp2_with fail
          refine start_ (n := 21) (S := fun w' => NRow w' V2.heap.size u16 G ∧ Below V2.heap.size V2 w' ∧ w'.cell? ⟨bk, aa, none⟩ = some (.int .i64 x) ∧ w'.cell? ⟨by_, bb, none⟩ = some (.int .i64 y)) (ds := []) #[false, false, false, false, false, false, false, false, false, false, false, false, false, false, false, false, false, false, false, false, false] (by kernel_rfl) rfl rfl ⟨(HR.out.below (below_drew1 (Below.refl _ _))), (by apply below_drew1; exact HKB.out), dk, dy⟩ (fun hHeld => ?_)
          refine pure_ (i := 0) (N := some 128) (v := ?_) (a' := ?_) #[true, false, false, false, false, false, false, false, false, false, false, false, false, false, false, false, false, false, false, false, false] rfl rfl (by kernel_rfl) (fun _ _ _ h => hp _ _ _ _ _ h) (Or.inl ⟨by rfl, ?_⟩) ?_ ?_
          rotate_left
          · intro w'
            go_simp
            with_reducible rfl
          rotate_left
          · simp only [Act.put, List.setIfInBounds_toArray, List.set_cons_zero, List.set_cons_succ, i64_w, i32_w]
            rfl
          refine pure_ (i := 1) (N := some 129) (v := ?_) (a' := ?_) #[true, true, false, false, false, false, false, false, false, false, false, false, false, false, false, false, false, false, false, false, false] rfl rfl (by kernel_rfl) (fun _ _ _ h => hp _ _ _ _ _ h) (Or.inl ⟨by rfl, ?_⟩) ?_ ?_
          rotate_left
          · intro w'
            go_simp
            with_reducible rfl
          rotate_left
          · simp only [Act.put, List.setIfInBounds_toArray, List.set_cons_zero, List.set_cons_succ, i64_w, i32_w]
            rfl
          refine pure_ (i := 2) (N := some 130) (v := ?_) (a' := ?_) #[true, true, true, false, false, false, false, false, false, false, false, false, false, false, false, false, false, false, false, false, false] rfl rfl (by kernel_rfl) (fun _ _ _ h => hp _ _ _ _ _ h) (Or.inl ⟨by rfl, ?_⟩) ?_ ?_
          rotate_left
          · intro w'
            go_simp
            with_reducible rfl
          rotate_left
          · simp only [Act.put, List.setIfInBounds_toArray, List.set_cons_zero, List.set_cons_succ, i64_w, i32_w]
            rfl
          refine pure_ (i := 3) (N := some 131) (v := ?_) (a' := ?_) #[true, true, true, true, false, false, false, false, false, false, false, false, false, false, false, false, false, false, false, false, false] rfl rfl (by kernel_rfl) (fun _ _ _ h => hp _ _ _ _ _ h) (Or.inl ⟨by rfl, ?_⟩) ?_ ?_
          rotate_left
          · intro w'
            go_simp
            with_reducible rfl
          rotate_left
          · simp only [Act.put, List.setIfInBounds_toArray, List.set_cons_zero, List.set_cons_succ, i64_w, i32_w]
            rfl
          refine pure_ (i := 4) (N := some 132) (v := ?_) (a' := ?_) #[true, true, true, true, true, false, false, false, false, false, false, false, false, false, false, false, false, false, false, false, false] rfl rfl (by kernel_rfl) (fun _ _ _ h => hp _ _ _ _ _ h) (Or.inl ⟨by rfl, ?_⟩) ?_ ?_
          rotate_left
          · intro w'
            go_simp
            with_reducible rfl
          rotate_left
          · simp only [Act.put, List.setIfInBounds_toArray, List.set_cons_zero, List.set_cons_succ, i64_w, i32_w]
            rfl
          refine pure_ (i := 5) (N := some 133) (v := ?_) (a' := ?_) #[true, true, true, true, true, true, false, false, false, false, false, false, false, false, false, false, false, false, false, false, false] rfl rfl (by kernel_rfl) (fun _ _ _ h => hp _ _ _ _ _ h) (Or.inl ⟨by rfl, ?_⟩) ?_ ?_
          rotate_left
          · intro w'
            go_simp
            with_reducible rfl
          rotate_left
          · simp only [Act.put, List.setIfInBounds_toArray, List.set_cons_zero, List.set_cons_succ, i64_w, i32_w]
            rfl
          refine pure_ (i := 6) (N := some 134) (v := ?_) (a' := ?_) #[true, true, true, true, true, true, true, false, false, false, false, false, false, false, false, false, false, false, false, false, false] rfl rfl (by kernel_rfl) (fun _ _ _ h => hp _ _ _ _ _ h) (Or.inl ⟨by rfl, ?_⟩) ?_ ?_
          rotate_left
          · intro w'
            go_simp
            with_reducible rfl
          rotate_left
          · simp only [Act.put, List.setIfInBounds_toArray, List.set_cons_zero, List.set_cons_succ, i64_w, i32_w]
            rfl
          refine pure_ (i := 7) (N := some 135) (v := ?_) (a' := ?_) #[true, true, true, true, true, true, true, true, false, false, false, false, false, false, false, false, false, false, false, false, false] rfl rfl (by kernel_rfl) (fun _ _ _ h => hp _ _ _ _ _ h) (Or.inl ⟨by rfl, ?_⟩) ?_ ?_
          rotate_left
          · intro w'
            go_simp
            with_reducible rfl
          rotate_left
          · simp only [Act.put, List.setIfInBounds_toArray, List.set_cons_zero, List.set_cons_succ, i64_w, i32_w]
            rfl
          refine pure_ (i := 8) (N := some 136) (v := ?_) (a' := ?_) #[true, true, true, true, true, true, true, true, true, false, false, false, false, false, false, false, false, false, false, false, false] rfl rfl (by kernel_rfl) (fun _ _ _ h => hp _ _ _ _ _ h) (Or.inl ⟨by rfl, ?_⟩) ?_ ?_
          rotate_left
          · intro w'
            go_simp
            with_reducible rfl
          rotate_left
          · simp only [Act.put, List.setIfInBounds_toArray, List.set_cons_zero, List.set_cons_succ, i64_w, i32_w]
            rfl
          refine pure_ (i := 9) (N := some 137) (v := ?_) (a' := ?_) #[true, true, true, true, true, true, true, true, true, true, false, false, false, false, false, false, false, false, false, false, false] rfl rfl (by kernel_rfl) (fun _ _ _ h => hp _ _ _ _ _ h) (Or.inl ⟨by rfl, ?_⟩) ?_ ?_
          rotate_left
          · intro w'
            go_simp
            with_reducible rfl
          rotate_left
          · simp only [Act.put, List.setIfInBounds_toArray, List.set_cons_zero, List.set_cons_succ, i64_w, i32_w]
            rfl
          refine pure_ (i := 10) (N := some 138) (v := ?_) (a' := ?_) #[true, true, true, true, true, true, true, true, true, true, true, false, false, false, false, false, false, false, false, false, false] rfl rfl (by kernel_rfl) (fun _ _ _ h => hp _ _ _ _ _ h) (Or.inl ⟨by rfl, ?_⟩) ?_ ?_
          rotate_left
          · intro w'
            go_simp
            with_reducible rfl
          rotate_left
          · simp only [Act.put, List.setIfInBounds_toArray, List.set_cons_zero, List.set_cons_succ, i64_w, i32_w]
            rfl
          refine pure_ (i := 11) (N := some 139) (v := ?_) (a' := ?_) #[true, true, true, true, true, true, true, true, true, true, true, true, false, false, false, false, false, false, false, false, false] rfl rfl (by kernel_rfl) (fun _ _ _ h => hp _ _ _ _ _ h) (Or.inl ⟨by rfl, ?_⟩) ?_ ?_
          rotate_left
          · intro w'
            go_simp
            with_reducible rfl
          rotate_left
          · simp only [Act.put, List.setIfInBounds_toArray, List.set_cons_zero, List.set_cons_succ, i64_w, i32_w]
            rfl
          refine pure_ (i := 12) (N := some 140) (v := ?_) (a' := ?_) #[true, true, true, true, true, true, true, true, true, true, true, true, true, false, false, false, false, false, false, false, false] rfl rfl (by kernel_rfl) (fun _ _ _ h => hp _ _ _ _ _ h) (Or.inl ⟨by rfl, ?_⟩) ?_ ?_
          rotate_left
          · intro w'
            go_simp
            with_reducible rfl
          rotate_left
          · simp only [Act.put, List.setIfInBounds_toArray, List.set_cons_zero, List.set_cons_succ, i64_w, i32_w]
            rfl
          refine pure_ (i := 14) (N := some 142) (v := ?_) (a' := ?_) #[true, true, true, true, true, true, true, true, true, true, true, true, true, false, true, false, false, false, false, false, false] rfl rfl (by kernel_rfl) (fun _ _ _ h => hp _ _ _ _ _ h) (Or.inl ⟨by rfl, ?_⟩) ?_ ?_
          rotate_left
          · intro w'
            go_simp
            with_reducible rfl
          rotate_left
          · simp only [Act.put, List.setIfInBounds_toArray, List.set_cons_zero, List.set_cons_succ, i64_w, i32_w]
            rfl
          refine pure_ (i := 15) (N := some 143) (v := ?_) (a' := ?_) #[true, true, true, true, true, true, true, true, true, true, true, true, true, false, true, true, false, false, false, false, false] rfl rfl (by kernel_rfl) (fun _ _ _ h => hp _ _ _ _ _ h) (Or.inl ⟨by rfl, ?_⟩) ?_ ?_
          rotate_left
          · intro w'
            go_simp
            with_reducible rfl
          rotate_left
          · simp only [Act.put, List.setIfInBounds_toArray, List.set_cons_zero, List.set_cons_succ, i64_w, i32_w]
            rfl
          refine pure_ (i := 16) (N := some 144) (v := ?_) (a' := ?_) #[true, true, true, true, true, true, true, true, true, true, true, true, true, false, true, true, true, false, false, false, false] rfl rfl (by kernel_rfl) (fun _ _ _ h => hp _ _ _ _ _ h) (Or.inl ⟨by rfl, ?_⟩) ?_ ?_
          rotate_left
          · intro w'
            go_simp
            with_reducible rfl
          rotate_left
          · simp only [Act.put, List.setIfInBounds_toArray, List.set_cons_zero, List.set_cons_succ, i64_w, i32_w]
            rfl
          refine take_ (i := 13) (N := some 141) (v := ?_) (a' := ?_) #[true, true, true, true, true, true, true, true, true, true, true, true, true, true, true, true, true, false, false, false, false] rfl rfl (by kernel_rfl) (fun _ _ _ h => hp _ _ _ _ _ h) (Or.inl ⟨by rfl, ?_⟩) hHeld ?_ ?_
          rotate_left
          · rintro w' ⟨s0, s1, s2, s3⟩
            go_simp
            with_reducible rfl
          rotate_left
          · simp only [Act.put, List.setIfInBounds_toArray, List.set_cons_zero, List.set_cons_succ, i64_w, i32_w]
            rfl
          refine take_ (i := 17) (N := some 145) (v := ?_) (a' := ?_) #[true, true, true, true, true, true, true, true, true, true, true, true, true, true, true, true, true, true, false, false, false] rfl rfl (by kernel_rfl) (fun _ _ _ h => hp _ _ _ _ _ h) (Or.inl ⟨by rfl, ?_⟩) hHeld ?_ ?_
          rotate_left
          · rintro w' ⟨s0, s1, s2, s3⟩
            go_simp
            with_reducible rfl
          rotate_left
          · simp only [Act.put, List.setIfInBounds_toArray, List.set_cons_zero, List.set_cons_succ, i64_w, i32_w]
            rfl
          refine pure_ (i := 18) (N := some 146) (v := ?_) (a' := ?_) #[true, true, true, true, true, true, true, true, true, true, true, true, true, true, true, true, true, true, true, false, false] rfl rfl (by kernel_rfl) (fun _ _ _ h => hp _ _ _ _ _ h) (Or.inl ⟨by rfl, ?_⟩) ?_ ?_
          rotate_left
          · intro w'
            go_simp
            with_reducible rfl
          rotate_left
          · simp only [Act.put, List.setIfInBounds_toArray, List.set_cons_zero, List.set_cons_succ, i64_w, i32_w]
            rfl
          refine pure_ (i := 19) (N := some 147) (v := ?_) (a' := ?_) #[true, true, true, true, true, true, true, true, true, true, true, true, true, true, true, true, true, true, true, true, false] rfl rfl (by kernel_rfl) (fun _ _ _ h => hp _ _ _ _ _ h) (Or.inl ⟨by rfl, ?_⟩) ?_ ?_
          rotate_left
          · intro w'
            go_simp
            with_reducible rfl
          rotate_left
          · simp only [Act.put, List.setIfInBounds_toArray, List.set_cons_zero, List.set_cons_succ, i64_w, i32_w]
            rfl
          refine pure_ (i := 20) (N := some 148) (v := ?_) (a' := ?_) #[true, true, true, true, true, true, true, true, true, true, true, true, true, true, true, true, true, true, true, true, true] rfl rfl (by kernel_rfl) (fun _ _ _ h => hp _ _ _ _ _ h) (Or.inl ⟨by rfl, ?_⟩) ?_ ?_
          rotate_left
          · intro w'
            go_simp
            with_reducible rfl
          rotate_left
          · simp only [Act.put, List.setIfInBounds_toArray, List.set_cons_zero, List.set_cons_succ, i64_w, i32_w]
            rfl
          refine done_ (by kernel_rfl) ?_

          obtain ⟨wd, hwd⟩ : ∃ x, wr.drew = x := ⟨_, rfl⟩
          rw [hwd] at hHeld ⊢
          clear hwd
          have HR2 := Aside0.mk hHeld.1
          have HK2 := Aside0.mk hHeld.2.1
          have hcx : wd.cell? ⟨bk, aa, none⟩ = some (.int .i64 x) := hHeld.2.2.1
          have hLl : G.length ≤ 1000000 := by omega
          have HGL := Aside0.mk hG
          have la : ((kl : Int) ≤ (aa : Int)) = False := eq_false (by omega)
          have hwa : wrap64 ((aa : Int) + 1) = (aa : Int) + 1 := by unfold wrap64; omega
          clear hHeld hG
          have hown : (wd.alloc (.cells #[.int .i64 x] 3)).ownsRow V2.heap.size 3 1 _ G.length (G.map (Value.int .i64)) := HR2.out.below (by apply below_alloc; exact Below.refl _ _)
          have hnews := World.news_of_block (show (wd.alloc (.cells #[.int .i64 x] 3 (0, 0))).heap[wd.heap.size]? = some (.cells #[.int .i64 x] 3 (0, 0)) from HeapM.blk_new wd (.cells #[.int .i64 x] 3 (0, 0)))
          have hgx : (wd.alloc (.cells #[.int .i64 x] 3)).heap.size = wd.heap.size + 1 := by simp
          have hwB : V2.heap.size ≤ (wd.alloc (.cells #[.int .i64 x] 3)).heap.size := by rw [hgx]; have := HK2.out.size; omega
          have hLm : G.length + 1 ≤ maxLen := by unfold maxLen; omega
          have hLb : (G.length + 1) * 8 ≤ 140737488355328 := by omega
          obtain ⟨hi0, hi1, hi2, hi3⟩ := hinf.out
          have hown' := Lib.hid hown
          have hnews' := Lib.hid hnews
          have hgx' := Lib.hid hgx
          have hi0' := Lib.hid hi0
          have hi1' := Lib.hid hi1
          have hi2' := Lib.hid hi2
          have hi3' := Lib.hid hi3
          have BA : Below V2.heap.size V2 (wd.alloc (.cells #[.int .i64 x] 3)) := by apply below_alloc; exact HK2.out
          have BA' := Aside0.mk BA
          clear hown hnews hgx hi0 hi1 hi2 hi3 BA
          go_wp2_with (first | (at_builtin; go_loud (refine wpList_append_lies _ rfl _ _ 32 rfl V2.heap.size 3 inf (.int .i64 0) 1 8 Try.underlying32 hi0'.out hi1'.out hi2'.out hi3'.out rfl (by decide) _ G.length (G.map (Value.int .i64)) rfl hown'.out ⟨wd.heap.size, 0, none⟩ 1 1 [.int .i64 x] rfl rfl hnews'.out ?c1 (by decide) hLm hLb hwB (wd.heap.size + 1) hgx'.out ?_)))
          case c1 => first | rfl | exact ⟨rfl, rfl⟩
          intro g2 cap2 w2 hown2 hgr2 hat2 hlt2
          obtain ⟨R2, B2⟩ := nrow_app BA'.out hown'.out hown2 hgr2
          have R2' := Aside0.mk R2
          have B2' := Aside0.mk B2
          clear hown2 hgr2 hat2 hlt2 R2 B2 hown' hnews' hgx' hi0' hi1' hi2' hi3' hwB hLm hLb
          go_wp2_with fail
          go_roundw
          case rel => exact ⟨aa + 1, bb, G ++ [x], rfl, rfl, by omega, by omega, by rw [List.length_append, List.length_singleton]; have := HGL.out; omega, ⟨by rw [← HX.out]; exact HM.out.left S5.out S6.out (by have := HKL.out; omega) (fun _ => by rw [HX.out, HY.out]; exact hxy)⟩, R2', B2'⟩
          case measure => simp [intOf]; omega
        · have dxy : decide (x < y) = false := decide_eq_false hxy
          have hne : y < x := by
            have hax : x ∈ ks := by rw [← HX.out, List.getD_eq_getElem?_getD, List.getElem?_eq_getElem (by have := HKL.out; omega)]; exact List.getElem_mem _
            have hay : y ∈ ys := by rw [← HY.out, List.getD_eq_getElem?_getD, List.getElem?_eq_getElem (by have := HYL.out; omega)]; exact List.getElem_mem _
            rcases Int.lt_trichotomy x y with e | e | e
            · exact absurd e hxy
            · exact absurd (e ▸ hay) (HD.out x hax)
            · exact e
          go_wp2_with fail
          refine start_ (n := 21) (S := fun w' => NRow w' V2.heap.size u16 G ∧ Below V2.heap.size V2 w' ∧ w'.cell? ⟨bk, aa, none⟩ = some (.int .i64 x) ∧ w'.cell? ⟨by_, bb, none⟩ = some (.int .i64 y)) (ds := []) #[false, false, false, false, false, false, false, false, false, false, false, false, false, false, false, false, false, false, false, false, false] (by kernel_rfl) rfl rfl ⟨(HR.out.below (below_drew1 (Below.refl _ _))), (by apply below_drew1; exact HKB.out), dk, dy⟩ (fun hHeld => ?_)
          refine pure_ (i := 0) (N := some 128) (v := ?_) (a' := ?_) #[true, false, false, false, false, false, false, false, false, false, false, false, false, false, false, false, false, false, false, false, false] rfl rfl (by kernel_rfl) (fun _ _ _ h => hp _ _ _ _ _ h) (Or.inl ⟨by rfl, ?_⟩) ?_ ?_
          rotate_left
          · intro w'
            go_simp
            with_reducible rfl
          rotate_left
          · simp only [Act.put, List.setIfInBounds_toArray, List.set_cons_zero, List.set_cons_succ, i64_w, i32_w]
            rfl
          refine pure_ (i := 1) (N := some 129) (v := ?_) (a' := ?_) #[true, true, false, false, false, false, false, false, false, false, false, false, false, false, false, false, false, false, false, false, false] rfl rfl (by kernel_rfl) (fun _ _ _ h => hp _ _ _ _ _ h) (Or.inl ⟨by rfl, ?_⟩) ?_ ?_
          rotate_left
          · intro w'
            go_simp
            with_reducible rfl
          rotate_left
          · simp only [Act.put, List.setIfInBounds_toArray, List.set_cons_zero, List.set_cons_succ, i64_w, i32_w]
            rfl
          refine pure_ (i := 2) (N := some 130) (v := ?_) (a' := ?_) #[true, true, true, false, false, false, false, false, false, false, false, false, false, false, false, false, false, false, false, false, false] rfl rfl (by kernel_rfl) (fun _ _ _ h => hp _ _ _ _ _ h) (Or.inl ⟨by rfl, ?_⟩) ?_ ?_
          rotate_left
          · intro w'
            go_simp
            with_reducible rfl
          rotate_left
          · simp only [Act.put, List.setIfInBounds_toArray, List.set_cons_zero, List.set_cons_succ, i64_w, i32_w]
            rfl
          refine pure_ (i := 3) (N := some 131) (v := ?_) (a' := ?_) #[true, true, true, true, false, false, false, false, false, false, false, false, false, false, false, false, false, false, false, false, false] rfl rfl (by kernel_rfl) (fun _ _ _ h => hp _ _ _ _ _ h) (Or.inl ⟨by rfl, ?_⟩) ?_ ?_
          rotate_left
          · intro w'
            go_simp
            with_reducible rfl
          rotate_left
          · simp only [Act.put, List.setIfInBounds_toArray, List.set_cons_zero, List.set_cons_succ, i64_w, i32_w]
            rfl
          refine pure_ (i := 4) (N := some 132) (v := ?_) (a' := ?_) #[true, true, true, true, true, false, false, false, false, false, false, false, false, false, false, false, false, false, false, false, false] rfl rfl (by kernel_rfl) (fun _ _ _ h => hp _ _ _ _ _ h) (Or.inl ⟨by rfl, ?_⟩) ?_ ?_
          rotate_left
          · intro w'
            go_simp
            with_reducible rfl
          rotate_left
          · simp only [Act.put, List.setIfInBounds_toArray, List.set_cons_zero, List.set_cons_succ, i64_w, i32_w]
            rfl
          refine pure_ (i := 5) (N := some 133) (v := ?_) (a' := ?_) #[true, true, true, true, true, true, false, false, false, false, false, false, false, false, false, false, false, false, false, false, false] rfl rfl (by kernel_rfl) (fun _ _ _ h => hp _ _ _ _ _ h) (Or.inl ⟨by rfl, ?_⟩) ?_ ?_
          rotate_left
          · intro w'
            go_simp
            with_reducible rfl
          rotate_left
          · simp only [Act.put, List.setIfInBounds_toArray, List.set_cons_zero, List.set_cons_succ, i64_w, i32_w]
            rfl
          refine pure_ (i := 6) (N := some 134) (v := ?_) (a' := ?_) #[true, true, true, true, true, true, true, false, false, false, false, false, false, false, false, false, false, false, false, false, false] rfl rfl (by kernel_rfl) (fun _ _ _ h => hp _ _ _ _ _ h) (Or.inl ⟨by rfl, ?_⟩) ?_ ?_
          rotate_left
          · intro w'
            go_simp
            with_reducible rfl
          rotate_left
          · simp only [Act.put, List.setIfInBounds_toArray, List.set_cons_zero, List.set_cons_succ, i64_w, i32_w]
            rfl
          refine pure_ (i := 7) (N := some 135) (v := ?_) (a' := ?_) #[true, true, true, true, true, true, true, true, false, false, false, false, false, false, false, false, false, false, false, false, false] rfl rfl (by kernel_rfl) (fun _ _ _ h => hp _ _ _ _ _ h) (Or.inl ⟨by rfl, ?_⟩) ?_ ?_
          rotate_left
          · intro w'
            go_simp
            with_reducible rfl
          rotate_left
          · simp only [Act.put, List.setIfInBounds_toArray, List.set_cons_zero, List.set_cons_succ, i64_w, i32_w]
            rfl
          refine pure_ (i := 8) (N := some 136) (v := ?_) (a' := ?_) #[true, true, true, true, true, true, true, true, true, false, false, false, false, false, false, false, false, false, false, false, false] rfl rfl (by kernel_rfl) (fun _ _ _ h => hp _ _ _ _ _ h) (Or.inl ⟨by rfl, ?_⟩) ?_ ?_
          rotate_left
          · intro w'
            go_simp
            with_reducible rfl
          rotate_left
          · simp only [Act.put, List.setIfInBounds_toArray, List.set_cons_zero, List.set_cons_succ, i64_w, i32_w]
            rfl
          refine pure_ (i := 9) (N := some 137) (v := ?_) (a' := ?_) #[true, true, true, true, true, true, true, true, true, true, false, false, false, false, false, false, false, false, false, false, false] rfl rfl (by kernel_rfl) (fun _ _ _ h => hp _ _ _ _ _ h) (Or.inl ⟨by rfl, ?_⟩) ?_ ?_
          rotate_left
          · intro w'
            go_simp
            with_reducible rfl
          rotate_left
          · simp only [Act.put, List.setIfInBounds_toArray, List.set_cons_zero, List.set_cons_succ, i64_w, i32_w]
            rfl
          refine pure_ (i := 10) (N := some 138) (v := ?_) (a' := ?_) #[true, true, true, true, true, true, true, true, true, true, true, false, false, false, false, false, false, false, false, false, false] rfl rfl (by kernel_rfl) (fun _ _ _ h => hp _ _ _ _ _ h) (Or.inl ⟨by rfl, ?_⟩) ?_ ?_
          rotate_left
          · intro w'
            go_simp
            with_reducible rfl
          rotate_left
          · simp only [Act.put, List.setIfInBounds_toArray, List.set_cons_zero, List.set_cons_succ, i64_w, i32_w]
            rfl
          refine pure_ (i := 11) (N := some 139) (v := ?_) (a' := ?_) #[true, true, true, true, true, true, true, true, true, true, true, true, false, false, false, false, false, false, false, false, false] rfl rfl (by kernel_rfl) (fun _ _ _ h => hp _ _ _ _ _ h) (Or.inl ⟨by rfl, ?_⟩) ?_ ?_
          rotate_left
          · intro w'
            go_simp
            with_reducible rfl
          rotate_left
          · simp only [Act.put, List.setIfInBounds_toArray, List.set_cons_zero, List.set_cons_succ, i64_w, i32_w]
            rfl
          refine pure_ (i := 12) (N := some 140) (v := ?_) (a' := ?_) #[true, true, true, true, true, true, true, true, true, true, true, true, true, false, false, false, false, false, false, false, false] rfl rfl (by kernel_rfl) (fun _ _ _ h => hp _ _ _ _ _ h) (Or.inl ⟨by rfl, ?_⟩) ?_ ?_
          rotate_left
          · intro w'
            go_simp
            with_reducible rfl
          rotate_left
          · simp only [Act.put, List.setIfInBounds_toArray, List.set_cons_zero, List.set_cons_succ, i64_w, i32_w]
            rfl
          refine pure_ (i := 14) (N := some 142) (v := ?_) (a' := ?_) #[true, true, true, true, true, true, true, true, true, true, true, true, true, false, true, false, false, false, false, false, false] rfl rfl (by kernel_rfl) (fun _ _ _ h => hp _ _ _ _ _ h) (Or.inl ⟨by rfl, ?_⟩) ?_ ?_
          rotate_left
          · intro w'
            go_simp
            with_reducible rfl
          rotate_left
          · simp only [Act.put, List.setIfInBounds_toArray, List.set_cons_zero, List.set_cons_succ, i64_w, i32_w]
            rfl
          refine pure_ (i := 15) (N := some 143) (v := ?_) (a' := ?_) #[true, true, true, true, true, true, true, true, true, true, true, true, true, false, true, true, false, false, false, false, false] rfl rfl (by kernel_rfl) (fun _ _ _ h => hp _ _ _ _ _ h) (Or.inl ⟨by rfl, ?_⟩) ?_ ?_
          rotate_left
          · intro w'
            go_simp
            with_reducible rfl
          rotate_left
          · simp only [Act.put, List.setIfInBounds_toArray, List.set_cons_zero, List.set_cons_succ, i64_w, i32_w]
            rfl
          refine pure_ (i := 16) (N := some 144) (v := ?_) (a' := ?_) #[true, true, true, true, true, true, true, true, true, true, true, true, true, false, true, true, true, false, false, false, false] rfl rfl (by kernel_rfl) (fun _ _ _ h => hp _ _ _ _ _ h) (Or.inl ⟨by rfl, ?_⟩) ?_ ?_
          rotate_left
          · intro w'
            go_simp
            with_reducible rfl
          rotate_left
          · simp only [Act.put, List.setIfInBounds_toArray, List.set_cons_zero, List.set_cons_succ, i64_w, i32_w]
            rfl
          refine take_ (i := 13) (N := some 141) (v := ?_) (a' := ?_) #[true, true, true, true, true, true, true, true, true, true, true, true, true, true, true, true, true, false, false, false, false] rfl rfl (by kernel_rfl) (fun _ _ _ h => hp _ _ _ _ _ h) (Or.inl ⟨by rfl, ?_⟩) hHeld ?_ ?_
          rotate_left
          · rintro w' ⟨s0, s1, s2, s3⟩
            go_simp
            with_reducible rfl
          rotate_left
          · simp only [Act.put, List.setIfInBounds_toArray, List.set_cons_zero, List.set_cons_succ, i64_w, i32_w]
            rfl
          refine take_ (i := 17) (N := some 145) (v := ?_) (a' := ?_) #[true, true, true, true, true, true, true, true, true, true, true, true, true, true, true, true, true, true, false, false, false] rfl rfl (by kernel_rfl) (fun _ _ _ h => hp _ _ _ _ _ h) (Or.inl ⟨by rfl, ?_⟩) hHeld ?_ ?_
          rotate_left
          · rintro w' ⟨s0, s1, s2, s3⟩
            go_simp
            with_reducible rfl
          rotate_left
          · simp only [Act.put, List.setIfInBounds_toArray, List.set_cons_zero, List.set_cons_succ, i64_w, i32_w]
            rfl
          refine pure_ (i := 18) (N := some 146) (v := ?_) (a' := ?_) #[true, true, true, true, true, true, true, true, true, true, true, true, true, true, true, true, true, true, true, false, false] rfl rfl (by kernel_rfl) (fun _ _ _ h => hp _ _ _ _ _ h) (Or.inl ⟨by rfl, ?_⟩) ?_ ?_
          rotate_left
          · intro w'
            go_simp
            with_reducible rfl
          rotate_left
          · simp only [Act.put, List.setIfInBounds_toArray, List.set_cons_zero, List.set_cons_succ, i64_w, i32_w]
            rfl
          refine pure_ (i := 19) (N := some 147) (v := ?_) (a' := ?_) #[true, true, true, true, true, true, true, true, true, true, true, true, true, true, true, true, true, true, true, true, false] rfl rfl (by kernel_rfl) (fun _ _ _ h => hp _ _ _ _ _ h) (Or.inl ⟨by rfl, ?_⟩) ?_ ?_
          rotate_left
          · intro w'
            go_simp
            with_reducible rfl
          rotate_left
          · simp only [Act.put, List.setIfInBounds_toArray, List.set_cons_zero, List.set_cons_succ, i64_w, i32_w]
            rfl
          refine pure_ (i := 20) (N := some 148) (v := ?_) (a' := ?_) #[true, true, true, true, true, true, true, true, true, true, true, true, true, true, true, true, true, true, true, true, true] rfl rfl (by kernel_rfl) (fun _ _ _ h => hp _ _ _ _ _ h) (Or.inl ⟨by rfl, ?_⟩) ?_ ?_
          rotate_left
          · intro w'
            go_simp
            with_reducible rfl
          rotate_left
          · simp only [Act.put, List.setIfInBounds_toArray, List.set_cons_zero, List.set_cons_succ, i64_w, i32_w]
            rfl
          refine done_ (by kernel_rfl) ?_

          obtain ⟨wd, hwd⟩ : ∃ x, wr.drew = x := ⟨_, rfl⟩
          rw [hwd] at hHeld ⊢
          clear hwd
          have HR2 := Aside0.mk hHeld.1
          have HK2 := Aside0.mk hHeld.2.1
          have hcx : wd.cell? ⟨by_, bb, none⟩ = some (.int .i64 y) := hHeld.2.2.2
          have hLl : G.length ≤ 1000000 := by omega
          have HGL := Aside0.mk hG
          have la : ((yl : Int) ≤ (bb : Int)) = False := eq_false (by omega)
          have hwa : wrap64 ((bb : Int) + 1) = (bb : Int) + 1 := by unfold wrap64; omega
          clear hHeld hG
          have hown : (wd.alloc (.cells #[.int .i64 y] 3)).ownsRow V2.heap.size 3 1 _ G.length (G.map (Value.int .i64)) := HR2.out.below (by apply below_alloc; exact Below.refl _ _)
          have hnews := World.news_of_block (show (wd.alloc (.cells #[.int .i64 y] 3 (0, 0))).heap[wd.heap.size]? = some (.cells #[.int .i64 y] 3 (0, 0)) from HeapM.blk_new wd (.cells #[.int .i64 y] 3 (0, 0)))
          have hgx : (wd.alloc (.cells #[.int .i64 y] 3)).heap.size = wd.heap.size + 1 := by simp
          have hwB : V2.heap.size ≤ (wd.alloc (.cells #[.int .i64 y] 3)).heap.size := by rw [hgx]; have := HK2.out.size; omega
          have hLm : G.length + 1 ≤ maxLen := by unfold maxLen; omega
          have hLb : (G.length + 1) * 8 ≤ 140737488355328 := by omega
          obtain ⟨hi0, hi1, hi2, hi3⟩ := hinf.out
          have hown' := Lib.hid hown
          have hnews' := Lib.hid hnews
          have hgx' := Lib.hid hgx
          have hi0' := Lib.hid hi0
          have hi1' := Lib.hid hi1
          have hi2' := Lib.hid hi2
          have hi3' := Lib.hid hi3
          have BA : Below V2.heap.size V2 (wd.alloc (.cells #[.int .i64 y] 3)) := by apply below_alloc; exact HK2.out
          have BA' := Aside0.mk BA
          clear hown hnews hgx hi0 hi1 hi2 hi3 BA
          go_wp2_with (first | (at_builtin; go_loud (refine wpList_append_lies _ rfl _ _ 32 rfl V2.heap.size 3 inf (.int .i64 0) 1 8 Try.underlying32 hi0'.out hi1'.out hi2'.out hi3'.out rfl (by decide) _ G.length (G.map (Value.int .i64)) rfl hown'.out ⟨wd.heap.size, 0, none⟩ 1 1 [.int .i64 y] rfl rfl hnews'.out ?c1 (by decide) hLm hLb hwB (wd.heap.size + 1) hgx'.out ?_)))
          case c1 => first | rfl | exact ⟨rfl, rfl⟩
          intro g2 cap2 w2 hown2 hgr2 hat2 hlt2
          obtain ⟨R2, B2⟩ := nrow_app BA'.out hown'.out hown2 hgr2
          have R2' := Aside0.mk R2
          have B2' := Aside0.mk B2
          clear hown2 hgr2 hat2 hlt2 R2 B2 hown' hnews' hgx' hi0' hi1' hi2' hi3' hwB hLm hLb
          go_wp2_with fail
          go_roundw
          case rel => exact ⟨aa, bb + 1, G ++ [y], rfl, rfl, by omega, by omega, by rw [List.length_append, List.length_singleton]; have := HGL.out; omega, ⟨by rw [← HY.out]; exact (HM.out.swap.left S6.out S5.out (by have := HYL.out; omega) (fun _ => by rw [HX.out, HY.out]; exact hne)).swap⟩, R2', B2'⟩
          case measure => simp [intOf]; omega
      · have da : decide ((aa : Int) < (kl : Int)) = false := decide_eq_false (by omega)
        have da2 : ((aa : Int) < (kl : Int)) = False := eq_false (by omega)
        go_wp2_with fail
        refine start_ (n := 21) (S := fun w' => NRow w' V2.heap.size u16 G ∧ Below V2.heap.size V2 w' ∧ w'.cell? ⟨by_, bb, none⟩ = some (.int .i64 y)) (ds := []) #[false, false, false, false, false, false, false, false, false, false, false, false, false, false, false, false, false, false, false, false, false] (by kernel_rfl) rfl rfl ⟨(HR.out.below (below_drew1 (Below.refl _ _))), (by apply below_drew1; exact HKB.out), dy⟩ (fun hHeld => ?_)
        refine pure_ (i := 0) (N := some 128) (v := ?_) (a' := ?_) #[true, false, false, false, false, false, false, false, false, false, false, false, false, false, false, false, false, false, false, false, false] rfl rfl (by kernel_rfl) (fun _ _ _ h => hp _ _ _ _ _ h) (Or.inl ⟨by rfl, ?_⟩) ?_ ?_
        rotate_left
        · intro w'
          go_simp
          with_reducible rfl
        rotate_left
        · simp only [Act.put, List.setIfInBounds_toArray, List.set_cons_zero, List.set_cons_succ, i64_w, i32_w]
          rfl
        refine pure_ (i := 1) (N := some 129) (v := ?_) (a' := ?_) #[true, true, false, false, false, false, false, false, false, false, false, false, false, false, false, false, false, false, false, false, false] rfl rfl (by kernel_rfl) (fun _ _ _ h => hp _ _ _ _ _ h) (Or.inl ⟨by rfl, ?_⟩) ?_ ?_
        rotate_left
        · intro w'
          go_simp
          with_reducible rfl
        rotate_left
        · simp only [Act.put, List.setIfInBounds_toArray, List.set_cons_zero, List.set_cons_succ, i64_w, i32_w]
          rfl
        refine pure_ (i := 2) (N := some 130) (v := ?_) (a' := ?_) #[true, true, true, false, false, false, false, false, false, false, false, false, false, false, false, false, false, false, false, false, false] rfl rfl (by kernel_rfl) (fun _ _ _ h => hp _ _ _ _ _ h) (Or.inl ⟨by rfl, ?_⟩) ?_ ?_
        rotate_left
        · intro w'
          go_simp
          with_reducible rfl
        rotate_left
        · simp only [Act.put, List.setIfInBounds_toArray, List.set_cons_zero, List.set_cons_succ, i64_w, i32_w]
          rfl
        refine pure_ (i := 3) (N := some 131) (v := ?_) (a' := ?_) #[true, true, true, true, false, false, false, false, false, false, false, false, false, false, false, false, false, false, false, false, false] rfl rfl (by kernel_rfl) (fun _ _ _ h => hp _ _ _ _ _ h) (Or.inl ⟨by rfl, ?_⟩) ?_ ?_
        rotate_left
        · intro w'
          go_simp
          with_reducible rfl
        rotate_left
        · simp only [Act.put, List.setIfInBounds_toArray, List.set_cons_zero, List.set_cons_succ, i64_w, i32_w]
          rfl
        refine pure_ (i := 4) (N := some 132) (v := ?_) (a' := ?_) #[true, true, true, true, true, false, false, false, false, false, false, false, false, false, false, false, false, false, false, false, false] rfl rfl (by kernel_rfl) (fun _ _ _ h => hp _ _ _ _ _ h) (Or.inl ⟨by rfl, ?_⟩) ?_ ?_
        rotate_left
        · intro w'
          go_simp
          with_reducible rfl
        rotate_left
        · simp only [Act.put, List.setIfInBounds_toArray, List.set_cons_zero, List.set_cons_succ, i64_w, i32_w]
          rfl
        refine pure_ (i := 5) (N := some 133) (v := ?_) (a' := ?_) #[true, true, true, true, true, true, false, false, false, false, false, false, false, false, false, false, false, false, false, false, false] rfl rfl (by kernel_rfl) (fun _ _ _ h => hp _ _ _ _ _ h) (Or.inl ⟨by rfl, ?_⟩) ?_ ?_
        rotate_left
        · intro w'
          go_simp
          with_reducible rfl
        rotate_left
        · simp only [Act.put, List.setIfInBounds_toArray, List.set_cons_zero, List.set_cons_succ, i64_w, i32_w]
          rfl
        refine pure_ (i := 6) (N := some 134) (v := ?_) (a' := ?_) #[true, true, true, true, true, true, true, false, false, false, false, false, false, false, false, false, false, false, false, false, false] rfl rfl (by kernel_rfl) (fun _ _ _ h => hp _ _ _ _ _ h) (Or.inl ⟨by rfl, ?_⟩) ?_ ?_
        rotate_left
        · intro w'
          go_simp
          with_reducible rfl
        rotate_left
        · simp only [Act.put, List.setIfInBounds_toArray, List.set_cons_zero, List.set_cons_succ, i64_w, i32_w]
          rfl
        refine pure_ (i := 7) (N := some 135) (v := ?_) (a' := ?_) #[true, true, true, true, true, true, true, true, false, false, false, false, false, false, false, false, false, false, false, false, false] rfl rfl (by kernel_rfl) (fun _ _ _ h => hp _ _ _ _ _ h) (Or.inl ⟨by rfl, ?_⟩) ?_ ?_
        rotate_left
        · intro w'
          go_simp
          with_reducible rfl
        rotate_left
        · simp only [Act.put, List.setIfInBounds_toArray, List.set_cons_zero, List.set_cons_succ, i64_w, i32_w]
          rfl
        refine pure_ (i := 8) (N := some 136) (v := ?_) (a' := ?_) #[true, true, true, true, true, true, true, true, true, false, false, false, false, false, false, false, false, false, false, false, false] rfl rfl (by kernel_rfl) (fun _ _ _ h => hp _ _ _ _ _ h) (Or.inl ⟨by rfl, ?_⟩) ?_ ?_
        rotate_left
        · intro w'
          go_simp
          with_reducible rfl
        rotate_left
        · simp only [Act.put, List.setIfInBounds_toArray, List.set_cons_zero, List.set_cons_succ, i64_w, i32_w]
          rfl
        refine pure_ (i := 9) (N := some 137) (v := ?_) (a' := ?_) #[true, true, true, true, true, true, true, true, true, true, false, false, false, false, false, false, false, false, false, false, false] rfl rfl (by kernel_rfl) (fun _ _ _ h => hp _ _ _ _ _ h) (Or.inl ⟨by rfl, ?_⟩) ?_ ?_
        rotate_left
        · intro w'
          go_simp
          with_reducible rfl
        rotate_left
        · simp only [Act.put, List.setIfInBounds_toArray, List.set_cons_zero, List.set_cons_succ, i64_w, i32_w]
          rfl
        refine pure_ (i := 10) (N := some 138) (v := undef) (a' := ?_) #[true, true, true, true, true, true, true, true, true, true, true, false, false, false, false, false, false, false, false, false, false] rfl rfl (by kernel_rfl) (fun _ _ _ h => hp _ _ _ _ _ h) (Or.inr ⟨by rfl, rfl⟩) ?_ ?_
        rotate_left
        · simp only [Act.put, List.setIfInBounds_toArray, List.set_cons_zero, List.set_cons_succ, i64_w, i32_w]
          rfl
        refine pure_ (i := 11) (N := some 139) (v := undef) (a' := ?_) #[true, true, true, true, true, true, true, true, true, true, true, true, false, false, false, false, false, false, false, false, false] rfl rfl (by kernel_rfl) (fun _ _ _ h => hp _ _ _ _ _ h) (Or.inr ⟨by rfl, rfl⟩) ?_ ?_
        rotate_left
        · simp only [Act.put, List.setIfInBounds_toArray, List.set_cons_zero, List.set_cons_succ, i64_w, i32_w]
          rfl
        refine pure_ (i := 12) (N := some 140) (v := undef) (a' := ?_) #[true, true, true, true, true, true, true, true, true, true, true, true, true, false, false, false, false, false, false, false, false] rfl rfl (by kernel_rfl) (fun _ _ _ h => hp _ _ _ _ _ h) (Or.inr ⟨by rfl, rfl⟩) ?_ ?_
        rotate_left
        · simp only [Act.put, List.setIfInBounds_toArray, List.set_cons_zero, List.set_cons_succ, i64_w, i32_w]
          rfl
        refine pure_ (i := 13) (N := some 141) (v := undef) (a' := ?_) #[true, true, true, true, true, true, true, true, true, true, true, true, true, true, false, false, false, false, false, false, false] rfl rfl (by kernel_rfl) (fun _ _ _ h => hp _ _ _ _ _ h) (Or.inr ⟨by rfl, rfl⟩) ?_ ?_
        rotate_left
        · simp only [Act.put, List.setIfInBounds_toArray, List.set_cons_zero, List.set_cons_succ, i64_w, i32_w]
          rfl
        refine pure_ (i := 14) (N := some 142) (v := undef) (a' := ?_) #[true, true, true, true, true, true, true, true, true, true, true, true, true, true, true, false, false, false, false, false, false] rfl rfl (by kernel_rfl) (fun _ _ _ h => hp _ _ _ _ _ h) (Or.inr ⟨by rfl, rfl⟩) ?_ ?_
        rotate_left
        · simp only [Act.put, List.setIfInBounds_toArray, List.set_cons_zero, List.set_cons_succ, i64_w, i32_w]
          rfl
        refine pure_ (i := 15) (N := some 143) (v := undef) (a' := ?_) #[true, true, true, true, true, true, true, true, true, true, true, true, true, true, true, true, false, false, false, false, false] rfl rfl (by kernel_rfl) (fun _ _ _ h => hp _ _ _ _ _ h) (Or.inr ⟨by rfl, rfl⟩) ?_ ?_
        rotate_left
        · simp only [Act.put, List.setIfInBounds_toArray, List.set_cons_zero, List.set_cons_succ, i64_w, i32_w]
          rfl
        refine pure_ (i := 16) (N := some 144) (v := undef) (a' := ?_) #[true, true, true, true, true, true, true, true, true, true, true, true, true, true, true, true, true, false, false, false, false] rfl rfl (by kernel_rfl) (fun _ _ _ h => hp _ _ _ _ _ h) (Or.inr ⟨by rfl, rfl⟩) ?_ ?_
        rotate_left
        · simp only [Act.put, List.setIfInBounds_toArray, List.set_cons_zero, List.set_cons_succ, i64_w, i32_w]
          rfl
        refine pure_ (i := 17) (N := some 145) (v := undef) (a' := ?_) #[true, true, true, true, true, true, true, true, true, true, true, true, true, true, true, true, true, true, false, false, false] rfl rfl (by kernel_rfl) (fun _ _ _ h => hp _ _ _ _ _ h) (Or.inr ⟨by rfl, rfl⟩) ?_ ?_
        rotate_left
        · simp only [Act.put, List.setIfInBounds_toArray, List.set_cons_zero, List.set_cons_succ, i64_w, i32_w]
          rfl
        refine pure_ (i := 18) (N := some 146) (v := undef) (a' := ?_) #[true, true, true, true, true, true, true, true, true, true, true, true, true, true, true, true, true, true, true, false, false] rfl rfl (by kernel_rfl) (fun _ _ _ h => hp _ _ _ _ _ h) (Or.inr ⟨by rfl, rfl⟩) ?_ ?_
        rotate_left
        · simp only [Act.put, List.setIfInBounds_toArray, List.set_cons_zero, List.set_cons_succ, i64_w, i32_w]
          rfl
        refine pure_ (i := 19) (N := some 147) (v := ?_) (a' := ?_) #[true, true, true, true, true, true, true, true, true, true, true, true, true, true, true, true, true, true, true, true, false] rfl rfl (by kernel_rfl) (fun _ _ _ h => hp _ _ _ _ _ h) (Or.inl ⟨by rfl, ?_⟩) ?_ ?_
        rotate_left
        · intro w'
          go_simp
          with_reducible rfl
        rotate_left
        · simp only [Act.put, List.setIfInBounds_toArray, List.set_cons_zero, List.set_cons_succ, i64_w, i32_w]
          rfl
        refine pure_ (i := 20) (N := some 148) (v := ?_) (a' := ?_) #[true, true, true, true, true, true, true, true, true, true, true, true, true, true, true, true, true, true, true, true, true] rfl rfl (by kernel_rfl) (fun _ _ _ h => hp _ _ _ _ _ h) (Or.inl ⟨by rfl, ?_⟩) ?_ ?_
        rotate_left
        · intro w'
          go_simp
          with_reducible rfl
        rotate_left
        · simp only [Act.put, List.setIfInBounds_toArray, List.set_cons_zero, List.set_cons_succ, i64_w, i32_w]
          rfl
        refine done_ (by kernel_rfl) ?_

        obtain ⟨wd, hwd⟩ : ∃ x, wr.drew = x := ⟨_, rfl⟩
        rw [hwd] at hHeld ⊢
        clear hwd
        have HR2 := Aside0.mk hHeld.1
        have HK2 := Aside0.mk hHeld.2.1
        have hcx : wd.cell? ⟨by_, bb, none⟩ = some (.int .i64 y) := hHeld.2.2
        have hLl : G.length ≤ 1000000 := by omega
        have HGL := Aside0.mk hG
        have la : ((yl : Int) ≤ (bb : Int)) = False := eq_false (by omega)
        have hwa : wrap64 ((bb : Int) + 1) = (bb : Int) + 1 := by unfold wrap64; omega
        clear hHeld hG
        have hown : (wd.alloc (.cells #[.int .i64 y] 3)).ownsRow V2.heap.size 3 1 _ G.length (G.map (Value.int .i64)) := HR2.out.below (by apply below_alloc; exact Below.refl _ _)
        have hnews := World.news_of_block (show (wd.alloc (.cells #[.int .i64 y] 3 (0, 0))).heap[wd.heap.size]? = some (.cells #[.int .i64 y] 3 (0, 0)) from HeapM.blk_new wd (.cells #[.int .i64 y] 3 (0, 0)))
        have hgx : (wd.alloc (.cells #[.int .i64 y] 3)).heap.size = wd.heap.size + 1 := by simp
        have hwB : V2.heap.size ≤ (wd.alloc (.cells #[.int .i64 y] 3)).heap.size := by rw [hgx]; have := HK2.out.size; omega
        have hLm : G.length + 1 ≤ maxLen := by unfold maxLen; omega
        have hLb : (G.length + 1) * 8 ≤ 140737488355328 := by omega
        obtain ⟨hi0, hi1, hi2, hi3⟩ := hinf.out
        have hown' := Lib.hid hown
        have hnews' := Lib.hid hnews
        have hgx' := Lib.hid hgx
        have hi0' := Lib.hid hi0
        have hi1' := Lib.hid hi1
        have hi2' := Lib.hid hi2
        have hi3' := Lib.hid hi3
        have BA : Below V2.heap.size V2 (wd.alloc (.cells #[.int .i64 y] 3)) := by apply below_alloc; exact HK2.out
        have BA' := Aside0.mk BA
        clear hown hnews hgx hi0 hi1 hi2 hi3 BA
        go_wp2_with (first | (at_builtin; go_loud (refine wpList_append_lies _ rfl _ _ 32 rfl V2.heap.size 3 inf (.int .i64 0) 1 8 Try.underlying32 hi0'.out hi1'.out hi2'.out hi3'.out rfl (by decide) _ G.length (G.map (Value.int .i64)) rfl hown'.out ⟨wd.heap.size, 0, none⟩ 1 1 [.int .i64 y] rfl rfl hnews'.out ?c1 (by decide) hLm hLb hwB (wd.heap.size + 1) hgx'.out ?_)))
        case c1 => first | rfl | exact ⟨rfl, rfl⟩
        intro g2 cap2 w2 hown2 hgr2 hat2 hlt2
        obtain ⟨R2, B2⟩ := nrow_app BA'.out hown'.out hown2 hgr2
        have R2' := Aside0.mk R2
        have B2' := Aside0.mk B2
        clear hown2 hgr2 hat2 hlt2 R2 B2 hown' hnews' hgx' hi0' hi1' hi2' hi3' hwB hLm hLb
        go_wp2_with fail
        go_roundw
        case rel => exact ⟨aa, bb + 1, G ++ [y], rfl, rfl, by omega, by omega, by rw [List.length_append, List.length_singleton]; have := HGL.out; omega, ⟨by rw [← HY.out]; exact (HM.out.swap.left S6.out S5.out (by have := HYL.out; omega) (fun h => absurd h (by have := HKL.out; omega))).swap⟩, R2', B2'⟩
        case measure => simp [intOf]; omega
    · have db : decide ((bb : Int) < (yl : Int)) = false := decide_eq_false (by omega)
      have ly : ((yl : Int) ≤ (bb : Int)) = True := eq_true (by omega)
      by_cases haa : aa < kl
      · have da : decide ((aa : Int) < (kl : Int)) = true := decide_eq_true (by omega)
        obtain ⟨bk, ek, qk, ck⟩ := HCK.out aa (by have := HKL.out; omega)
        subst ek
        obtain ⟨x, hx⟩ : ∃ x, ks.getD aa 0 = x := ⟨_, rfl⟩
        have HX := Aside0.mk hx
        rw [hx] at ck
        have dk := (HKB.out.cell (p := ⟨bk, aa, none⟩) qk).trans ck
        clear ck qk hx
        go_wp2_with fail
        refine start_ (n := 21) (S := fun w' => NRow w' V2.heap.size u16 G ∧ Below V2.heap.size V2 w' ∧ w'.cell? ⟨bk, aa, none⟩ = some (.int .i64 x)) (ds := []) #[false, false, false, false, false, false, false, false, false, false, false, false, false, false, false, false, false, false, false, false, false] (by kernel_rfl) rfl rfl ⟨(HR.out.below (below_drew1 (Below.refl _ _))), (by apply below_drew1; exact HKB.out), dk⟩ (fun hHeld => ?_)
        refine pure_ (i := 0) (N := some 128) (v := ?_) (a' := ?_) #[true, false, false, false, false, false, false, false, false, false, false, false, false, false, false, false, false, false, false, false, false] rfl rfl (by kernel_rfl) (fun _ _ _ h => hp _ _ _ _ _ h) (Or.inl ⟨by rfl, ?_⟩) ?_ ?_
        rotate_left
        · intro w'
          go_simp
          with_reducible rfl
        rotate_left
        · simp only [Act.put, List.setIfInBounds_toArray, List.set_cons_zero, List.set_cons_succ, i64_w, i32_w]
          rfl
        refine pure_ (i := 1) (N := some 129) (v := ?_) (a' := ?_) #[true, true, false, false, false, false, false, false, false, false, false, false, false, false, false, false, false, false, false, false, false] rfl rfl (by kernel_rfl) (fun _ _ _ h => hp _ _ _ _ _ h) (Or.inl ⟨by rfl, ?_⟩) ?_ ?_
        rotate_left
        · intro w'
          go_simp
          with_reducible rfl
        rotate_left
        · simp only [Act.put, List.setIfInBounds_toArray, List.set_cons_zero, List.set_cons_succ, i64_w, i32_w]
          rfl
        refine pure_ (i := 2) (N := some 130) (v := ?_) (a' := ?_) #[true, true, true, false, false, false, false, false, false, false, false, false, false, false, false, false, false, false, false, false, false] rfl rfl (by kernel_rfl) (fun _ _ _ h => hp _ _ _ _ _ h) (Or.inl ⟨by rfl, ?_⟩) ?_ ?_
        rotate_left
        · intro w'
          go_simp
          with_reducible rfl
        rotate_left
        · simp only [Act.put, List.setIfInBounds_toArray, List.set_cons_zero, List.set_cons_succ, i64_w, i32_w]
          rfl
        refine pure_ (i := 3) (N := some 131) (v := ?_) (a' := ?_) #[true, true, true, true, false, false, false, false, false, false, false, false, false, false, false, false, false, false, false, false, false] rfl rfl (by kernel_rfl) (fun _ _ _ h => hp _ _ _ _ _ h) (Or.inl ⟨by rfl, ?_⟩) ?_ ?_
        rotate_left
        · intro w'
          go_simp
          with_reducible rfl
        rotate_left
        · simp only [Act.put, List.setIfInBounds_toArray, List.set_cons_zero, List.set_cons_succ, i64_w, i32_w]
          rfl
        refine pure_ (i := 4) (N := some 132) (v := ?_) (a' := ?_) #[true, true, true, true, true, false, false, false, false, false, false, false, false, false, false, false, false, false, false, false, false] rfl rfl (by kernel_rfl) (fun _ _ _ h => hp _ _ _ _ _ h) (Or.inl ⟨by rfl, ?_⟩) ?_ ?_
        rotate_left
        · intro w'
          go_simp
          with_reducible rfl
        rotate_left
        · simp only [Act.put, List.setIfInBounds_toArray, List.set_cons_zero, List.set_cons_succ, i64_w, i32_w]
          rfl
        refine pure_ (i := 5) (N := some 133) (v := undef) (a' := ?_) #[true, true, true, true, true, true, false, false, false, false, false, false, false, false, false, false, false, false, false, false, false] rfl rfl (by kernel_rfl) (fun _ _ _ h => hp _ _ _ _ _ h) (Or.inr ⟨by rfl, rfl⟩) ?_ ?_
        rotate_left
        · simp only [Act.put, List.setIfInBounds_toArray, List.set_cons_zero, List.set_cons_succ, i64_w, i32_w]
          rfl
        refine pure_ (i := 6) (N := some 134) (v := undef) (a' := ?_) #[true, true, true, true, true, true, true, false, false, false, false, false, false, false, false, false, false, false, false, false, false] rfl rfl (by kernel_rfl) (fun _ _ _ h => hp _ _ _ _ _ h) (Or.inr ⟨by rfl, rfl⟩) ?_ ?_
        rotate_left
        · simp only [Act.put, List.setIfInBounds_toArray, List.set_cons_zero, List.set_cons_succ, i64_w, i32_w]
          rfl
        refine pure_ (i := 7) (N := some 135) (v := undef) (a' := ?_) #[true, true, true, true, true, true, true, true, false, false, false, false, false, false, false, false, false, false, false, false, false] rfl rfl (by kernel_rfl) (fun _ _ _ h => hp _ _ _ _ _ h) (Or.inr ⟨by rfl, rfl⟩) ?_ ?_
        rotate_left
        · simp only [Act.put, List.setIfInBounds_toArray, List.set_cons_zero, List.set_cons_succ, i64_w, i32_w]
          rfl
        refine pure_ (i := 8) (N := some 136) (v := undef) (a' := ?_) #[true, true, true, true, true, true, true, true, true, false, false, false, false, false, false, false, false, false, false, false, false] rfl rfl (by kernel_rfl) (fun _ _ _ h => hp _ _ _ _ _ h) (Or.inr ⟨by rfl, rfl⟩) ?_ ?_
        rotate_left
        · simp only [Act.put, List.setIfInBounds_toArray, List.set_cons_zero, List.set_cons_succ, i64_w, i32_w]
          rfl
        refine pure_ (i := 9) (N := some 137) (v := undef) (a' := ?_) #[true, true, true, true, true, true, true, true, true, true, false, false, false, false, false, false, false, false, false, false, false] rfl rfl (by kernel_rfl) (fun _ _ _ h => hp _ _ _ _ _ h) (Or.inr ⟨by rfl, rfl⟩) ?_ ?_
        rotate_left
        · simp only [Act.put, List.setIfInBounds_toArray, List.set_cons_zero, List.set_cons_succ, i64_w, i32_w]
          rfl
        refine pure_ (i := 10) (N := some 138) (v := undef) (a' := ?_) #[true, true, true, true, true, true, true, true, true, true, true, false, false, false, false, false, false, false, false, false, false] rfl rfl (by kernel_rfl) (fun _ _ _ h => hp _ _ _ _ _ h) (Or.inr ⟨by rfl, rfl⟩) ?_ ?_
        rotate_left
        · simp only [Act.put, List.setIfInBounds_toArray, List.set_cons_zero, List.set_cons_succ, i64_w, i32_w]
          rfl
        refine pure_ (i := 11) (N := some 139) (v := undef) (a' := ?_) #[true, true, true, true, true, true, true, true, true, true, true, true, false, false, false, false, false, false, false, false, false] rfl rfl (by kernel_rfl) (fun _ _ _ h => hp _ _ _ _ _ h) (Or.inr ⟨by rfl, rfl⟩) ?_ ?_
        rotate_left
        · simp only [Act.put, List.setIfInBounds_toArray, List.set_cons_zero, List.set_cons_succ, i64_w, i32_w]
          rfl
        refine pure_ (i := 12) (N := some 140) (v := undef) (a' := ?_) #[true, true, true, true, true, true, true, true, true, true, true, true, true, false, false, false, false, false, false, false, false] rfl rfl (by kernel_rfl) (fun _ _ _ h => hp _ _ _ _ _ h) (Or.inr ⟨by rfl, rfl⟩) ?_ ?_
        rotate_left
        · simp only [Act.put, List.setIfInBounds_toArray, List.set_cons_zero, List.set_cons_succ, i64_w, i32_w]
          rfl
        refine pure_ (i := 13) (N := some 141) (v := undef) (a' := ?_) #[true, true, true, true, true, true, true, true, true, true, true, true, true, true, false, false, false, false, false, false, false] rfl rfl (by kernel_rfl) (fun _ _ _ h => hp _ _ _ _ _ h) (Or.inr ⟨by rfl, rfl⟩) ?_ ?_
        rotate_left
        · simp only [Act.put, List.setIfInBounds_toArray, List.set_cons_zero, List.set_cons_succ, i64_w, i32_w]
          rfl
        refine pure_ (i := 14) (N := some 142) (v := undef) (a' := ?_) #[true, true, true, true, true, true, true, true, true, true, true, true, true, true, true, false, false, false, false, false, false] rfl rfl (by kernel_rfl) (fun _ _ _ h => hp _ _ _ _ _ h) (Or.inr ⟨by rfl, rfl⟩) ?_ ?_
        rotate_left
        · simp only [Act.put, List.setIfInBounds_toArray, List.set_cons_zero, List.set_cons_succ, i64_w, i32_w]
          rfl
        refine pure_ (i := 15) (N := some 143) (v := undef) (a' := ?_) #[true, true, true, true, true, true, true, true, true, true, true, true, true, true, true, true, false, false, false, false, false] rfl rfl (by kernel_rfl) (fun _ _ _ h => hp _ _ _ _ _ h) (Or.inr ⟨by rfl, rfl⟩) ?_ ?_
        rotate_left
        · simp only [Act.put, List.setIfInBounds_toArray, List.set_cons_zero, List.set_cons_succ, i64_w, i32_w]
          rfl
        refine pure_ (i := 16) (N := some 144) (v := undef) (a' := ?_) #[true, true, true, true, true, true, true, true, true, true, true, true, true, true, true, true, true, false, false, false, false] rfl rfl (by kernel_rfl) (fun _ _ _ h => hp _ _ _ _ _ h) (Or.inr ⟨by rfl, rfl⟩) ?_ ?_
        rotate_left
        · simp only [Act.put, List.setIfInBounds_toArray, List.set_cons_zero, List.set_cons_succ, i64_w, i32_w]
          rfl
        refine pure_ (i := 17) (N := some 145) (v := undef) (a' := ?_) #[true, true, true, true, true, true, true, true, true, true, true, true, true, true, true, true, true, true, false, false, false] rfl rfl (by kernel_rfl) (fun _ _ _ h => hp _ _ _ _ _ h) (Or.inr ⟨by rfl, rfl⟩) ?_ ?_
        rotate_left
        · simp only [Act.put, List.setIfInBounds_toArray, List.set_cons_zero, List.set_cons_succ, i64_w, i32_w]
          rfl
        refine pure_ (i := 18) (N := some 146) (v := undef) (a' := ?_) #[true, true, true, true, true, true, true, true, true, true, true, true, true, true, true, true, true, true, true, false, false] rfl rfl (by kernel_rfl) (fun _ _ _ h => hp _ _ _ _ _ h) (Or.inr ⟨by rfl, rfl⟩) ?_ ?_
        rotate_left
        · simp only [Act.put, List.setIfInBounds_toArray, List.set_cons_zero, List.set_cons_succ, i64_w, i32_w]
          rfl
        refine pure_ (i := 19) (N := some 147) (v := undef) (a' := ?_) #[true, true, true, true, true, true, true, true, true, true, true, true, true, true, true, true, true, true, true, true, false] rfl rfl (by kernel_rfl) (fun _ _ _ h => hp _ _ _ _ _ h) (Or.inr ⟨by rfl, rfl⟩) ?_ ?_
        rotate_left
        · simp only [Act.put, List.setIfInBounds_toArray, List.set_cons_zero, List.set_cons_succ, i64_w, i32_w]
          rfl
        refine pure_ (i := 20) (N := some 148) (v := ?_) (a' := ?_) #[true, true, true, true, true, true, true, true, true, true, true, true, true, true, true, true, true, true, true, true, true] rfl rfl (by kernel_rfl) (fun _ _ _ h => hp _ _ _ _ _ h) (Or.inl ⟨by rfl, ?_⟩) ?_ ?_
        rotate_left
        · intro w'
          go_simp
          with_reducible rfl
        rotate_left
        · simp only [Act.put, List.setIfInBounds_toArray, List.set_cons_zero, List.set_cons_succ, i64_w, i32_w]
          rfl
        refine done_ (by kernel_rfl) ?_

        obtain ⟨wd, hwd⟩ : ∃ x, wr.drew = x := ⟨_, rfl⟩
        rw [hwd] at hHeld ⊢
        clear hwd
        have HR2 := Aside0.mk hHeld.1
        have HK2 := Aside0.mk hHeld.2.1
        have hcx : wd.cell? ⟨bk, aa, none⟩ = some (.int .i64 x) := hHeld.2.2
        have hLl : G.length ≤ 1000000 := by omega
        have HGL := Aside0.mk hG
        have la : ((kl : Int) ≤ (aa : Int)) = False := eq_false (by omega)
        have hwa : wrap64 ((aa : Int) + 1) = (aa : Int) + 1 := by unfold wrap64; omega
        clear hHeld hG
        have hown : (wd.alloc (.cells #[.int .i64 x] 3)).ownsRow V2.heap.size 3 1 _ G.length (G.map (Value.int .i64)) := HR2.out.below (by apply below_alloc; exact Below.refl _ _)
        have hnews := World.news_of_block (show (wd.alloc (.cells #[.int .i64 x] 3 (0, 0))).heap[wd.heap.size]? = some (.cells #[.int .i64 x] 3 (0, 0)) from HeapM.blk_new wd (.cells #[.int .i64 x] 3 (0, 0)))
        have hgx : (wd.alloc (.cells #[.int .i64 x] 3)).heap.size = wd.heap.size + 1 := by simp
        have hwB : V2.heap.size ≤ (wd.alloc (.cells #[.int .i64 x] 3)).heap.size := by rw [hgx]; have := HK2.out.size; omega
        have hLm : G.length + 1 ≤ maxLen := by unfold maxLen; omega
        have hLb : (G.length + 1) * 8 ≤ 140737488355328 := by omega
        obtain ⟨hi0, hi1, hi2, hi3⟩ := hinf.out
        have hown' := Lib.hid hown
        have hnews' := Lib.hid hnews
        have hgx' := Lib.hid hgx
        have hi0' := Lib.hid hi0
        have hi1' := Lib.hid hi1
        have hi2' := Lib.hid hi2
        have hi3' := Lib.hid hi3
        have BA : Below V2.heap.size V2 (wd.alloc (.cells #[.int .i64 x] 3)) := by apply below_alloc; exact HK2.out
        have BA' := Aside0.mk BA
        clear hown hnews hgx hi0 hi1 hi2 hi3 BA
        go_wp2_with (first | (at_builtin; go_loud (refine wpList_append_lies _ rfl _ _ 32 rfl V2.heap.size 3 inf (.int .i64 0) 1 8 Try.underlying32 hi0'.out hi1'.out hi2'.out hi3'.out rfl (by decide) _ G.length (G.map (Value.int .i64)) rfl hown'.out ⟨wd.heap.size, 0, none⟩ 1 1 [.int .i64 x] rfl rfl hnews'.out ?c1 (by decide) hLm hLb hwB (wd.heap.size + 1) hgx'.out ?_)))
        case c1 => first | rfl | exact ⟨rfl, rfl⟩
        intro g2 cap2 w2 hown2 hgr2 hat2 hlt2
        obtain ⟨R2, B2⟩ := nrow_app BA'.out hown'.out hown2 hgr2
        have R2' := Aside0.mk R2
        have B2' := Aside0.mk B2
        clear hown2 hgr2 hat2 hlt2 R2 B2 hown' hnews' hgx' hi0' hi1' hi2' hi3' hwB hLm hLb
        go_wp2_with fail
        go_roundw
        case rel => exact ⟨aa + 1, bb, G ++ [x], rfl, rfl, by omega, by omega, by rw [List.length_append, List.length_singleton]; have := HGL.out; omega, ⟨by rw [← HX.out]; exact HM.out.left S5.out S6.out (by have := HKL.out; omega) (fun h => absurd h (by have := HYL.out; omega))⟩, R2', B2'⟩
        case measure => simp [intOf]; omega
      · have da : decide ((aa : Int) < (kl : Int)) = false := decide_eq_false (by omega)
        obtain rfl : aa = kl := by omega
        obtain rfl : bb = yl := by omega
        go_wp2_with fail
        exact hK'.out G _ _ _ _ _ _ _ _ _ _ _ _ _ _ _ _ _ _ _ _ _ _ _ _ _ _ _ _ _ _ _ _ _ _ _ _ _ _ _ _ _ _ _ _ _ _ _ _ _ _ _ HM.out HR.out HKB.out
end Go.Proofs.Ytclekakhgaggdaa.HeapC
