/- A law's slice of arrays of ints; Made. -/
import Derived.Test.YtmihpgdpgacgcaaHeapW
import Derived.Deep.Slices
namespace Go.Proofs.Ytmihpgdpgacgcaa.HeapC
open Go.RowKit Go.Proofs.Ytmihpgdpgacgcaa.HeapT Go.Proofs.Ytmihpgdpgacgcaa.HeapM Go.Proofs.YtmihpgdpgacgcaaW.PrintWords Go.Proofs.YtmihpgdpgacgcaaW.PrintLast Go.Proofs.YtmihpgdpgacgcaaW.PrintMore
set_option linter.unusedVariables false
set_option linter.unusedSimpArgs false

/-- A slice of arrays of c ints that was handed in: len of them, Z tells which. -/
def Arrs (c : Nat) (w : World) (v : Value) (len : Nat) (Z : Nat → Nat → Int) : Prop :=
  ∃ a cap, v = .slice a len cap ∧ len ≤ maxLen ∧ ∀ i, i < len → ∃ b off, a = some ⟨b, off, none⟩ ∧ b < w.heap.size ∧ ∀ j, j < c → In64 (Z i j) ∧ w.cell? ⟨b, off + (i * c + j), none⟩ = some (.int .i64 (Z i j))
theorem arrs_nil (c : Nat) (w : World) : Arrs c w (.slice none 0 0) 0 (fun _ _ => 0) := ⟨none, 0, rfl, Nat.zero_le _, fun i h => absurd h (by simp)⟩
theorem Arrs.below {c : Nat} {w w' : World} {v : Value} {len : Nat} {Z : Nat → Nat → Int} (h : Arrs c w v len Z) (b : Below w.heap.size w w') : Arrs c w' v len Z := by
  obtain ⟨a, cap, h1, h2, h3⟩ := h
  refine ⟨a, cap, h1, h2, fun i hi => ?_⟩
  obtain ⟨bb, off, e1, e2, e3⟩ := h3 i hi
  exact ⟨bb, off, e1, Nat.lt_of_lt_of_le e2 b.size, fun j hj => ⟨(e3 j hj).1, (b.cell (p := ⟨bb, off + (i * c + j), none⟩) e2).trans (e3 j hj).2⟩⟩
def celled (w : World) (x : Addr) : Int := match w.cell? x with | some (.int _ z) => z | _ => 0

section
open Go.ChangeShapes Go.WideShapes Go.Deep
variable {H : Type} {enc : TypeId × Value → H} {P : Program} {w : World} {base : Nat} {spare : Nat → Bool} {held : Bool}
theorem open_arrs {t e i : TypeId} {c : Nat} {fuel : Nat} {cs : List Value} {x : DataW H × List MemPlace} (ht : P.underlying t = some (.slice e)) (he : P.underlying e = some (.array c i)) (hi : P.underlying i = some (.int .i64)) (hce : P.cellsOf e = c) (hci : P.cellsOf i = 1) (hc0 : 0 < c)
    (h : DataW.trod enc P w base spare held fuel t cs = some x) : ∃ v len Z, cs = [v] ∧ Arrs c w v len Z := by
  rcases open_slice ht h with ⟨h0, -⟩ | ⟨a, len, cap, m, n, D, Pl, hcs, hb, hl, hm, hmm, hx, hi'⟩
  · exact ⟨_, 0, _, h0, arrs_nil c w⟩
  · refine ⟨_, len, fun i j => celled w (a.add (i * c + j)), hcs, some a, cap, rfl, by omega, fun q hq => ?_⟩
    have hlm : len ≤ m := by rw [hmm]; split <;> omega
    have key : ∀ q, q < len → ∀ j, j < c → In64 (celled w (a.add (q * c + j))) ∧ w.cell? (a.add (q * c + j)) = some (.int .i64 (celled w (a.add (q * c + j)))) := by
      intro q hq j hj
      obtain ⟨cs', hc', hr'⟩ := hi' q (by omega)
      rw [hce] at hc'
      obtain ⟨-, hlen, hat⟩ := World.cells?_some hc'
      obtain ⟨xs, k, -, -, -, hxl, hxs⟩ := DataW.trod_array he hr'
      have h1 := hxs j hj
      rw [hci, Nat.mul_one, List.getElem?_eq_getElem (by omega : j < xs.length)] at h1
      obtain ⟨z, hz1, -, hz2⟩ := DataW.trod_int hi h1
      have h2 : cs'[j]? = some (.int .i64 z) := by
        have := congrArg (fun l => l[0]?) hz1
        simpa [List.getElem?_take, List.getElem?_drop] using this
      have h3 := hat j hj
      rw [h2, Deep.add_add] at h3
      have h4 : celled w (a.add (q * c + j)) = z := by unfold celled; rw [h3]
      rw [h4]
      exact ⟨in64_of hz2, h3⟩
    have h0 := (key 0 (by omega) 0 hc0).2
    rw [Nat.zero_mul, show a.add (0 + 0) = a from rfl] at h0
    obtain ⟨hs, s1⟩ := cell_addr h0
    refine ⟨a.block, a.off, by obtain ⟨b, o, s⟩ := a; simp at hs; subst hs; rfl, s1, fun j hj => ?_⟩
    rw [← add_addr a hs]
    exact key q hq j hj
end

section
variable {w : World} {g : Nat} {C : Int → Option Int} {most : Int} {n N : Nat} {D : Nat → Prop}
/-- A push, whatever is there. -/
theorem Held.push_any (h : Held w g C most n N D) (hN : N < 3000000000000000000) (hm1 : most ≤ 1000) (k p : Int) (hk : (Lit.int .i64 k).wf = true) (hn : n < most) :
    Calls Try.prog 13 #[.pointer (some ⟨g, 0, none⟩), .int .i64 k, .int .i64 p] w fun e w' => ∃ r C' n' N', e = .returned (.int .i64 r) ∧ Held w' g C' most n' N' D ∧ Kept w w' D ∧ C' = (if C k = none then upd C k (some p) else C) ∧ n ≤ n' ∧ n' ≤ n + 1 ∧ (C k = none → n' = n + 1) ∧ N' ≤ N + 4000000 := by
  by_cases hc : C k = none
  · refine (h.push_ok hN hm1 k p hk hc hn).mono ?_
    rintro e w' ⟨rfl, H, K⟩
    exact ⟨_, _, _, _, rfl, H, K, by rw [if_pos hc], by omega, by omega, fun _ => rfl, by omega⟩
  · refine (h.push_there k p hk hc).mono ?_
    rintro e w' ⟨rfl, rfl⟩
    exact ⟨_, _, _, _, rfl, h, Kept.refl _ _, by rw [if_neg hc], by omega, by omega, fun e => absurd e hc, by omega⟩
end

theorem most_same {C : Int → Option Int} {k p k' p' : Int} (h : Most C k p) (g : Most C k' p') : k = k' ∧ p = p' := by
  by_cases e : k = k'
  · subst e; have := h.1.symm.trans g.1; exact ⟨rfl, Option.some.inj this⟩
  · have a := h.2 k' p' g.1
    have b := g.2 k p h.1
    unfold Ahead at a b
    simp at a b
    omega
/-- What Top tells of n things. -/
def TopIs (C : Int → Option Int) (n : Nat) (k p : Int) (b : Bool) : Prop := (n = 0 ∧ k = 0 ∧ p = 0 ∧ b = false) ∨ (0 < n ∧ Most C k p ∧ b = true)
theorem TopIs.same {C : Int → Option Int} {n : Nat} {k p k' p' : Int} {b b' : Bool} (h : TopIs C n k p b) (g : TopIs C n k' p' b') : k = k' ∧ p = p' ∧ b = b' := by
  rcases h with ⟨h0, rfl, rfl, rfl⟩ | ⟨h0, h1, rfl⟩ <;> rcases g with ⟨g0, rfl, rfl, rfl⟩ | ⟨g0, g1, rfl⟩
  · exact ⟨rfl, rfl, rfl⟩
  · omega
  · omega
  · obtain ⟨e1, e2⟩ := most_same h1 g1; exact ⟨e1, e2, rfl⟩
def chg (C : Int → Option Int) (k p : Int) : Int → Option Int := fun j => if j = k ∧ C k ≠ none then some p else C j
theorem upd_none {C : Int → Option Int} {k : Int} (h : C k = none) : upd C k none = C := by
  funext j; unfold upd; split
  · rename_i e; subst e; exact h.symm
  · rfl
theorem chg_none {C : Int → Option Int} {k p : Int} (h : C k = none) : chg C k p = C := by
  funext j; unfold chg; rw [if_neg (fun e => e.2 h)]
theorem chg_some {C : Int → Option Int} {k p : Int} (h : C k ≠ none) : chg C k p = upd C k (some p) := by
  funext j; unfold chg upd
  by_cases e : j = k
  · rw [if_pos ⟨e, h⟩, if_pos e]
  · rw [if_neg (fun x => e x.1), if_neg e]
theorem chg_same {C : Int → Option Int} {k p : Int} (h : C k = some p ∨ C k = none) : chg C k p = C := by
  funext j; unfold chg; split
  · rename_i e; rw [e.1]; rcases h with h | h
    · exact h.symm
    · exact absurd h e.2
  · rfl
section
variable {w : World} {g : Nat} {C : Int → Option Int} {most : Int} {n N : Nat} {D : Nat → Prop}
theorem Held.top_any (h : Held w g C most n N D) :
    Calls Try.prog 23 #[.pointer (some ⟨g, 0, none⟩)] w fun e w' => ∃ k p b, e = .returned (.tuple #[.agg #[.int .i64 k, .int .i64 p], .bool b]) ∧ TopIs C n k p b ∧ (Lit.int .i64 k).wf = true ∧ Held w' g C most n N D ∧ Kept w w' D := by
  rcases Nat.eq_zero_or_pos n with rfl | hn
  · refine h.top_none.mono ?_
    rintro e w' ⟨rfl, B⟩
    exact ⟨_, _, _, rfl, .inl ⟨rfl, rfl, rfl, rfl⟩, by decide, h.below B, Kept.of_below B⟩
  · obtain ⟨k, p, m, wk, c⟩ := h.top_some hn
    refine c.mono ?_
    rintro e w' ⟨rfl, B⟩
    exact ⟨_, _, _, rfl, .inr ⟨hn, m, rfl⟩, wk, h.below B, Kept.of_below B⟩
theorem Held.pop_any (h : Held w g C most n N D) (hN : N < 3000000000000000000) (hn : n ≤ 1000000) :
    Calls Try.prog 15 #[.pointer (some ⟨g, 0, none⟩)] w fun e w' => ∃ k p b C' N', e = .returned (.tuple #[.agg #[.int .i64 k, .int .i64 p], .bool b]) ∧ TopIs C n k p b ∧ (Lit.int .i64 k).wf = true ∧ Held w' g C' most (n - 1) N' D ∧ Kept w w' D ∧ C' = (if b then upd C k none else C) ∧ N' ≤ N + 4000010 := by
  rcases Nat.eq_zero_or_pos n with rfl | hn0
  · refine h.pop_none.mono ?_
    rintro e w' ⟨rfl, B⟩
    exact ⟨_, _, _, _, _, rfl, .inl ⟨rfl, rfl, rfl, rfl⟩, by decide, h.below B, Kept.of_below B, rfl, by omega⟩
  · obtain ⟨k, p, m, wk, c⟩ := h.pop_some hN hn hn0
    refine c.mono ?_
    rintro e w' ⟨rfl, H, K⟩
    exact ⟨_, _, _, _, _, rfl, .inr ⟨hn0, m, rfl⟩, wk, H, K, rfl, by omega⟩
theorem Held.change_any (h : Held w g C most n N D) (hN : N < 3000000000000000000) (hn : n ≤ 1000000) (k p : Int) (hk : (Lit.int .i64 k).wf = true) :
    Calls Try.prog 17 #[.pointer (some ⟨g, 0, none⟩), .int .i64 k, .int .i64 p] w fun e w' => ∃ N', e = .returned (.bool (C k).isSome) ∧ Held w' g (chg C k p) most n N' D ∧ Kept w w' D ∧ N' ≤ N + 4000000 := by
  by_cases hc : C k = none
  · refine (h.change_none k p hk hc).mono ?_
    rintro e w' ⟨rfl, rfl⟩
    exact ⟨N, by rw [hc]; rfl, by rw [chg_none hc]; exact h, Kept.refl _ _, by omega⟩
  · refine (h.change_some hN hn k p hk hc).mono ?_
    rintro e w' ⟨rfl, H, K⟩
    exact ⟨_, by rw [Option.isSome_iff_ne_none.2 hc], by rw [chg_some hc]; exact H, K, by omega⟩
theorem Held.remove_any (h : Held w g C most n N D) (hN : N < 3000000000000000000) (hn : n ≤ 1000000) (k : Int) (hk : (Lit.int .i64 k).wf = true) :
    Calls Try.prog 19 #[.pointer (some ⟨g, 0, none⟩), .int .i64 k] w fun e w' => ∃ n' N', e = .returned (.bool (C k).isSome) ∧ Held w' g (upd C k none) most n' N' D ∧ Kept w w' D ∧ N' ≤ N + 4000010 ∧ n' ≤ n ∧ (C k ≠ none → n' + 1 = n) ∧ (C k = none → n' = n) := by
  by_cases hc : C k = none
  · refine (h.remove_none k hk hc).mono ?_
    rintro e w' ⟨rfl, rfl⟩
    exact ⟨n, N, by rw [hc]; rfl, by rw [upd_none hc]; exact h, Kept.refl _ _, by omega, by omega, fun e => absurd hc e, fun _ => rfl⟩
  · refine (h.remove_some hN hn k hk hc).mono ?_
    rintro e w' ⟨rfl, h0, H, K⟩
    exact ⟨_, _, by rw [Option.isSome_iff_ne_none.2 hc], H, K, by omega, by omega, fun _ => by omega, fun e => absurd e hc⟩
/-- A thing laid into a block of its own. -/
theorem Held.box (h : Held w g C most n N D) (k p : Int) {W : World} {X : Nat} (hW : W = w.alloc (.cells #[.int .i64 k, .int .i64 p] 36)) (hX : X = w.heap.size) :
    Held W g C most n N (fun q => D q ∨ q = X) ∧ Kept w W D ∧ W.heap[X]? = some (.cells #[.int .i64 k, .int .i64 p] 36 (0, 0)) := by
  subst hW; subst hX
  exact ⟨h.alloc _, (Kept.refl _ _).alloc _, HeapM.blk_new _ _⟩
end

/-- What is known of a heap that Made made, of i raw items. -/
structure MadeOf (C : Int → Option Int) (n N i : Nat) : Prop where
  hn : n ≤ i
  hN : N ≤ i * 4000000
  pos : 0 < i → 0 < n
  zero : n = 0 → ∀ k, C k = none
  keys : ∀ k, C k ≠ none → 0 ≤ k ∧ k < 50
theorem MadeOf.start : MadeOf (fun _ => none) 0 0 0 := ⟨Nat.le_refl _, Nat.le_refl _, fun h => h, fun _ _ => rfl, fun k h => absurd rfl h⟩
theorem MadeOf.push {C C' : Int → Option Int} {n N i n' N' : Nat} {k p : Int} (h : MadeOf C n N i) (k0 : 0 ≤ k) (k1 : k < 50) (hC : C' = (if C k = none then upd C k (some p) else C)) (h1 : n ≤ n') (h2 : n' ≤ n + 1) (h3 : C k = none → n' = n + 1) (h4 : N' ≤ N + 4000000) : MadeOf C' n' N' (i + 1) := by
  have hn : C k ≠ none → 0 < n := fun e => Nat.pos_of_ne_zero (fun z => e (h.zero z k))
  have hp : 0 < n' := by
    by_cases e : C k = none
    · have := h3 e; omega
    · have := hn e; omega
  refine ⟨by have := h.hn; omega, by have := h.hN; omega, fun _ => hp, fun z => by omega, fun q hq => ?_⟩
  subst hC
  split at hq
  · by_cases e : q = k
    · subst e; exact ⟨k0, k1⟩
    · rw [upd_other _ _ _ _ e] at hq; exact h.keys q hq
  · exact h.keys q hq

set_option maxHeartbeats 2000000 in
set_option maxRecDepth 20000 in
theorem made_calls (v : Value) (len : Nat) (Z : Nat → Nat → Int) (w : World) (hz : Arrs 2 w v len Z) :
    Calls Try.prog 28 #[v] w fun e w' => ∃ g C n N i, e = .returned (.pointer (some ⟨g, 0, none⟩)) ∧ Held w' g C 1000 n N (fun k => k < w.heap.size) ∧ MadeOf C n N i ∧ i ≤ 30 ∧ (0 < len → 0 < i) ∧ (0 < i → 0 < len) ∧ Kept w w' (fun k => k < w.heap.size) := by
  obtain ⟨a, cap, rfl, hmx, hcell⟩ := hz
  have hc' := Aside0.mk hcell
  have hmx2 : len ≤ 9223372036854775807 := hmx
  clear hcell hmx
  go_enter Try.func28, Try.ntmps28
  go_wp2_with fail
  refine (held_new 1000 w (by decide) (by decide) (fun k => k < w.heap.size) (fun _ e => e)).mono ?_
  rintro e w3 ⟨g, rfl, H3, K3⟩
  have H3' := Aside0.mk H3
  have K3' := Aside0.mk K3
  clear H3 K3
  go_wp2_with fail
  go_loopw [4] (fun vi wr => ∃ (i : Nat) (C : Int → Option Int) (n N : Nat), vi = .int .i64 i ∧ i ≤ len ∧ i ≤ 30 ∧ Aside0 (Held wr g C 1000 n N (fun k => k < w.heap.size)) ∧ Aside0 (MadeOf C n N i) ∧ Aside0 (Kept w wr (fun k => k < w.heap.size))) (fun vi _ => 30 - (intOf vi).toNat)
  case atStart => exact ⟨0, _, 0, 0, rfl, by omega, by omega, H3', ⟨MadeOf.start⟩, K3'⟩
  case round =>
    obtain ⟨i, C, n, N, rfl, hin, hi30, HH, HM, HK⟩ := hrel
    by_cases hlt : i < len
    · by_cases hl3 : i < 30
      · have hw1 : wrap64 ((i : Int) + 1) = i + 1 := by unfold wrap64; omega
        obtain ⟨b, off, rfl, hb, hcz⟩ := hc'.out i hlt
        obtain ⟨z0, c0⟩ := hcz 0 (by decide)
        obtain ⟨z1, c1⟩ := hcz 1 (by decide)
        have d0 : wr.cell? ⟨b, off + i * 2, none⟩ = some (.int .i64 (Z i 0)) := (HK.out.cell hb hb (off + (i * 2 + 0))).trans c0
        have d1 : wr.cell? ⟨b, off + i * 2 + 1, none⟩ = some (.int .i64 (Z i 1)) := (HK.out.cell hb hb (off + (i * 2 + 1))).trans c1
        obtain ⟨x, hx⟩ : ∃ x, Z i 0 = x := ⟨_, rfl⟩
        obtain ⟨y, hy⟩ : ∃ y, Z i 1 = y := ⟨_, rfl⟩
        rw [hx] at d0 z0
        rw [hy] at d1 z1
        obtain ⟨k0, k1⟩ := pk_range x 50 (by decide)
        have wk : (Lit.int .i64 (pk x 50)).wf = true := wf_of ⟨by omega, by omega⟩
        have hN9 : N < 3000000000000000000 := by have := HM.out.hN; omega
        have hn9 : (n : Int) < 1000 := by have := HM.out.hn; omega
        have hHD := HH.out.drew
        have K0 := Aside0.mk (And.intro k0 k1)
        have z0' := Aside0.mk z0
        have z1' := Aside0.mk z1
        have hcz' := Aside0.mk hcz
        clear c0 c1 hx hy hcz k0 k1 z0 z1
        go_wp2_with fail
        refine start_ (n := 14) (S := fun w' => w'.cell? ⟨b, off + i * 2, none⟩ = some (.int .i64 x) ∧ w'.cell? ⟨b, off + i * 2 + 1, none⟩ = some (.int .i64 y) ∧ Held w' g C 1000 n N (fun k => k < w.heap.size) ∧ Kept wr w' (fun k => k < w.heap.size)) (ds := [13]) #[false, false, false, false, false, false, false, false, false, false, false, false, false, false] (by kernel_rfl) rfl rfl ⟨d0, d1, hHD, (Kept.refl wr _).drew⟩ (fun hHeld => ?_)
        refine pure_ (i := 0) (N := some 16) (v := ?_) (a' := ?_) #[true, false, false, false, false, false, false, false, false, false, false, false, false, false] rfl rfl (by kernel_rfl) (fun _ _ _ h => h) (Or.inl ⟨by rfl, ?_⟩) ?_ ?_
        rotate_left
        · intro w'
          go_simp
          with_reducible rfl
        rotate_left
        · simp only [Act.put, List.setIfInBounds_toArray, List.set_cons_zero, List.set_cons_succ, i64_w, i32_w]
          rfl
        refine pure_ (i := 1) (N := some 17) (v := ?_) (a' := ?_) #[true, true, false, false, false, false, false, false, false, false, false, false, false, false] rfl rfl (by kernel_rfl) (fun _ _ _ h => h) (Or.inl ⟨by rfl, ?_⟩) ?_ ?_
        rotate_left
        · intro w'
          go_simp
          with_reducible rfl
        rotate_left
        · simp only [Act.put, List.setIfInBounds_toArray, List.set_cons_zero, List.set_cons_succ, i64_w, i32_w]
          rfl
        refine pure_ (i := 2) (N := some 18) (v := ?_) (a' := ?_) #[true, true, true, false, false, false, false, false, false, false, false, false, false, false] rfl rfl (by kernel_rfl) (fun _ _ _ h => h) (Or.inl ⟨by rfl, ?_⟩) ?_ ?_
        rotate_left
        · intro w'
          go_simp
          with_reducible rfl
        rotate_left
        · simp only [Act.put, List.setIfInBounds_toArray, List.set_cons_zero, List.set_cons_succ, i64_w, i32_w]
          rfl
        refine pure_ (i := 3) (N := some 19) (v := ?_) (a' := ?_) #[true, true, true, true, false, false, false, false, false, false, false, false, false, false] rfl rfl (by kernel_rfl) (fun _ _ _ h => h) (Or.inl ⟨by rfl, ?_⟩) ?_ ?_
        rotate_left
        · intro w'
          go_simp
          with_reducible rfl
        rotate_left
        · simp only [Act.put, List.setIfInBounds_toArray, List.set_cons_zero, List.set_cons_succ, i64_w, i32_w]
          rfl
        refine pure_ (i := 4) (N := some 20) (v := ?_) (a' := ?_) #[true, true, true, true, true, false, false, false, false, false, false, false, false, false] rfl rfl (by kernel_rfl) (fun _ _ _ h => h) (Or.inl ⟨by rfl, ?_⟩) ?_ ?_
        rotate_left
        · intro w'
          go_simp
          with_reducible rfl
        rotate_left
        · simp only [Act.put, List.setIfInBounds_toArray, List.set_cons_zero, List.set_cons_succ, i64_w, i32_w]
          rfl
        refine pure_ (i := 7) (N := some 23) (v := ?_) (a' := ?_) #[true, true, true, true, true, false, false, true, false, false, false, false, false, false] rfl rfl (by kernel_rfl) (fun _ _ _ h => h) (Or.inl ⟨by rfl, ?_⟩) ?_ ?_
        rotate_left
        · intro w'
          go_simp
          with_reducible rfl
        rotate_left
        · simp only [Act.put, List.setIfInBounds_toArray, List.set_cons_zero, List.set_cons_succ, i64_w, i32_w]
          rfl
        refine pure_ (i := 8) (N := some 24) (v := ?_) (a' := ?_) #[true, true, true, true, true, false, false, true, true, false, false, false, false, false] rfl rfl (by kernel_rfl) (fun _ _ _ h => h) (Or.inl ⟨by rfl, ?_⟩) ?_ ?_
        rotate_left
        · intro w'
          go_simp
          with_reducible rfl
        rotate_left
        · simp only [Act.put, List.setIfInBounds_toArray, List.set_cons_zero, List.set_cons_succ, i64_w, i32_w]
          rfl
        refine pure_ (i := 9) (N := some 25) (v := ?_) (a' := ?_) #[true, true, true, true, true, false, false, true, true, true, false, false, false, false] rfl rfl (by kernel_rfl) (fun _ _ _ h => h) (Or.inl ⟨by rfl, ?_⟩) ?_ ?_
        rotate_left
        · intro w'
          go_simp
          with_reducible rfl
        rotate_left
        · simp only [Act.put, List.setIfInBounds_toArray, List.set_cons_zero, List.set_cons_succ, i64_w, i32_w]
          rfl
        refine pure_ (i := 10) (N := some 26) (v := ?_) (a' := ?_) #[true, true, true, true, true, false, false, true, true, true, true, false, false, false] rfl rfl (by kernel_rfl) (fun _ _ _ h => h) (Or.inl ⟨by rfl, ?_⟩) ?_ ?_
        rotate_left
        · intro w'
          go_simp
          with_reducible rfl
        rotate_left
        · simp only [Act.put, List.setIfInBounds_toArray, List.set_cons_zero, List.set_cons_succ, i64_w, i32_w]
          rfl
        refine take_ (i := 5) (N := some 21) (v := ?_) (a' := ?_) #[true, true, true, true, true, true, false, true, true, true, true, false, false, false] rfl rfl (by kernel_rfl) (fun _ _ _ h => h) (Or.inl ⟨by rfl, ?_⟩) hHeld ?_ ?_
        rotate_left
        · rintro w' ⟨s0, s1, s2, s3⟩
          go_simp
          with_reducible rfl
        rotate_left
        · simp only [Act.put, List.setIfInBounds_toArray, List.set_cons_zero, List.set_cons_succ, i64_w, i32_w]
          rfl
        refine take_ (i := 11) (N := some 27) (v := ?_) (a' := ?_) #[true, true, true, true, true, true, false, true, true, true, true, true, false, false] rfl rfl (by kernel_rfl) (fun _ _ _ h => h) (Or.inl ⟨by rfl, ?_⟩) hHeld ?_ ?_
        rotate_left
        · rintro w' ⟨s0, s1, s2, s3⟩
          go_simp
          with_reducible rfl
        rotate_left
        · simp only [Act.put, List.setIfInBounds_toArray, List.set_cons_zero, List.set_cons_succ, i64_w, i32_w]
          rfl
        refine one_ (i := 6) (N := some 22) #[true, true, true, true, true, true, true, true, true, true, true, true, false, false] rfl rfl (by kernel_rfl) (by decide) (fun K hK => ?_)
        refine goes_ Try.func10 (by kernel_rfl) rfl #[.int .i64 x, .int .i64 50] (by rfl) rfl rfl (by simp only [List.map_toArray, List.map_cons, List.map_nil]; rfl) ?_
        with_reducible refine (pick_calls x 50 _ z0'.out (by decide) (by decide)).mono ?_
        rintro e w3 ⟨rfl, rfl⟩
        refine ⟨_, rfl, ?_⟩
        refine hK.out _ _ ⟨hHeld.1, hHeld.2.1, hHeld.2.2.1, hHeld.2.2.2⟩ (fun hHeld => ?_)
        clear hK K
        refine norm_ (a' := ?_) ?_ ?_
        rotate_left
        · show Act.put _ (some 22) _ = _
          simp only [Act.put, List.setIfInBounds_toArray, List.set_cons_zero, List.set_cons_succ, i64_w, i32_w]
          rfl
        refine one_ (i := 12) (N := some 28) #[true, true, true, true, true, true, true, true, true, true, true, true, true, false] rfl rfl (by kernel_rfl) (by decide) (fun K hK => ?_)
        refine goes_ Try.func10 (by kernel_rfl) rfl #[.int .i64 y, .int .i64 9] (by rfl) rfl rfl (by simp only [List.map_toArray, List.map_cons, List.map_nil]; rfl) ?_
        with_reducible refine (pick_calls y 9 _ z1'.out (by decide) (by decide)).mono ?_
        rintro e w3 ⟨rfl, rfl⟩
        refine ⟨_, rfl, ?_⟩
        refine hK.out _ _ ⟨hHeld.1, hHeld.2.1, hHeld.2.2.1, hHeld.2.2.2⟩ (fun hHeld => ?_)
        clear hK K
        refine norm_ (a' := ?_) ?_ ?_
        rotate_left
        · show Act.put _ (some 28) _ = _
          simp only [Act.put, List.setIfInBounds_toArray, List.set_cons_zero, List.set_cons_succ, i64_w, i32_w]
          rfl
        refine last_ (i := 13) (N := some 29) #[true, true, true, true, true, true, true, true, true, true, true, true, true, true] rfl rfl (by kernel_rfl) (by decide) (fun K hK => ?_)
        refine goes_ Try.func13 (by kernel_rfl) rfl #[.pointer (some ⟨g, 0, none⟩), .int .i64 (pk x 50), .int .i64 (pk y 9)] (by rfl) rfl rfl (by simp only [List.map_toArray, List.map_cons, List.map_nil]; rfl) ?_
        with_reducible refine (hHeld.2.2.1.push_any hN9 (by decide) (pk x 50) (pk y 9) wk hn9).mono ?_
        rintro e w3 ⟨r, C', n', N', rfl, H3, K3, hC', hn1, hn2, hn3, hN3⟩
        refine ⟨_, rfl, ?_⟩
        have K4 := hHeld.2.2.2.trans K3
        refine hK.out _ _ ?_
        clear hK K
        refine norm_ (a' := ?_) ?_ ?_
        rotate_left
        · show Act.put _ (some 29) _ = _
          simp only [Act.put, List.setIfInBounds_toArray, List.set_cons_zero, List.set_cons_succ, i64_w, i32_w]
          rfl
        refine done_ (by kernel_rfl) ?_

        have M3 := Aside0.mk (HM.out.push K0.out.1 K0.out.2 hC' hn1 hn2 hn3 hN3)
        have H5 := Aside0.mk H3
        have K5 := Aside0.mk (HK.out.trans K4)
        clear H3 K3 K4 hC' hn1 hn2 hn3 hN3 d0 d1 hHD
        go_wp2
        go_roundw
        case rel => exact ⟨i + 1, C', n', N', by go_num, by omega, by omega, H5, M3, K5⟩
        case measure => simp only [intOf]; omega
      · obtain rfl : i = 30 := by omega
        go_wp2_with fail
        go_ret
        exact ⟨g, C, n, N, _, rfl, HH.out, HM.out, by omega, fun _ => by omega, fun _ => by omega, HK.out⟩
    · obtain rfl : i = len := by omega
      go_wp2_with fail
      go_ret
      exact ⟨g, C, n, N, _, rfl, HH.out, HM.out, by omega, id, id, HK.out⟩
end Go.Proofs.Ytmihpgdpgacgcaa.HeapC
