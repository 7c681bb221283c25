/- A law's slice of arrays of ints; contracts whatever is there (HeapY without Made). -/
import Derived.Test.YtclekakhgaggdaaQW
import Derived.Deep.Slices
namespace Go.Proofs.Ytclekakhgaggdaa.HeapC
open Go.RowKit Go.Proofs.Ytclekakhgaggdaa.HeapT Go.Proofs.Ytclekakhgaggdaa.HeapM Go.Proofs.YtclekakhgaggdaaW.PrintWords Go.Proofs.YtclekakhgaggdaaW.PrintLast Go.Proofs.YtclekakhgaggdaaW.PrintMore
set_option linter.unusedVariables false
set_option linter.unusedSimpArgs false

/-- A slice of arrays of c ints that was handed in: len of them, Z tells which. -/
def Arrs (c : Nat) (w : World) (v : Value) (len : Nat) (Z : Nat → Nat → Int) : Prop :=
  ∃ a cap, v = .slice a len cap ∧ len ≤ maxLen ∧ ∀ i, i < len → ∃ b off, a = some ⟨b, off, none⟩ ∧ b < w.heap.size ∧ ∀ j, j < c → In64 (Z i j) ∧ w.cell? ⟨b, off + (i * c + j), none⟩ = some (.int .i64 (Z i j))
theorem arrs_nil (c : Nat) (w : World) : Arrs c w (.slice none 0 0) 0 (fun _ _ => 0) := ⟨none, 0, rfl, Nat.zero_le _, fun i h => absurd h (by simp)⟩
theorem Arrs.below {c : Nat} {w w' : World} {v : Value} {len : Nat} {Z : Nat → Nat → Int} (h : Arrs c w v len Z) (b : Below w.heap.size w w') : Arrs c w' v len Z := by
  obtain ⟨a, cap, h1, h2, h3⟩ := h
  refine ⟨a, cap, h1, h2, fun i hi => ?_⟩
  obtain ⟨bb, off, e1, e2, e3⟩ := h3 i hi
  exact ⟨bb, off, e1, Nat.lt_of_lt_of_le e2 b.size, fun j hj => ⟨(e3 j hj).1, (b.cell (p := ⟨bb, off + (i * c + j), none⟩) e2).trans (e3 j hj).2⟩⟩
def celled (w : World) (x : Addr) : Int := match w.cell? x with | some (.int _ z) => z | _ => 0

section
open Go.ChangeShapes Go.WideShapes Go.Deep
variable {H : Type} {enc : TypeId × Value → H} {P : Program} {w : World} {base : Nat} {spare : Nat → Bool} {held : Bool}
theorem open_arrs {t e i : TypeId} {c : Nat} {fuel : Nat} {cs : List Value} {x : DataW H × List MemPlace} (ht : P.underlying t = some (.slice e)) (he : P.underlying e = some (.array c i)) (hi : P.underlying i = some (.int .i64)) (hce : P.cellsOf e = c) (hci : P.cellsOf i = 1) (hc0 : 0 < c)
    (h : DataW.trod enc P w base spare held fuel t cs = some x) : ∃ v len Z, cs = [v] ∧ Arrs c w v len Z := by
  rcases open_slice ht h with ⟨h0, -⟩ | ⟨a, len, cap, m, n, D, Pl, hcs, hb, hl, hm, hmm, hx, hi'⟩
  · exact ⟨_, 0, _, h0, arrs_nil c w⟩
  · refine ⟨_, len, fun i j => celled w (a.add (i * c + j)), hcs, some a, cap, rfl, by omega, fun q hq => ?_⟩
    have hlm : len ≤ m := by rw [hmm]; split <;> omega
    have key : ∀ q, q < len → ∀ j, j < c → In64 (celled w (a.add (q * c + j))) ∧ w.cell? (a.add (q * c + j)) = some (.int .i64 (celled w (a.add (q * c + j)))) := by
      intro q hq j hj
      obtain ⟨cs', hc', hr'⟩ := hi' q (by omega)
      rw [hce] at hc'
      obtain ⟨-, hlen, hat⟩ := World.cells?_some hc'
      obtain ⟨xs, k, -, -, -, hxl, hxs⟩ := DataW.trod_array he hr'
      have h1 := hxs j hj
      rw [hci, Nat.mul_one, List.getElem?_eq_getElem (by omega : j < xs.length)] at h1
      obtain ⟨z, hz1, -, hz2⟩ := DataW.trod_int hi h1
      have h2 : cs'[j]? = some (.int .i64 z) := by
        have := congrArg (fun l => l[0]?) hz1
        simpa [List.getElem?_take, List.getElem?_drop] using this
      have h3 := hat j hj
      rw [h2, Deep.add_add] at h3
      have h4 : celled w (a.add (q * c + j)) = z := by unfold celled; rw [h3]
      rw [h4]
      exact ⟨in64_of hz2, h3⟩
    have h0 := (key 0 (by omega) 0 hc0).2
    rw [Nat.zero_mul, show a.add (0 + 0) = a from rfl] at h0
    obtain ⟨hs, s1⟩ := cell_addr h0
    refine ⟨a.block, a.off, by obtain ⟨b, o, s⟩ := a; simp at hs; subst hs; rfl, s1, fun j hj => ?_⟩
    rw [← add_addr a hs]
    exact key q hq j hj
end

section
variable {w : World} {g : Nat} {C : Int → Option Int} {most : Int} {n N : Nat} {D : Nat → Prop}
/-- A push, whatever is there. -/
theorem Held.push_any (h : Held w g C most n N D) (hN : N < 3000000000000000000) (hm1 : most ≤ 1000) (k p : Int) (hk : (Lit.int .i64 k).wf = true) (hn : n < most) :
    Calls Try.prog 26 #[.pointer (some ⟨g, 0, none⟩), .int .i64 k, .int .i64 p] w fun e w' => ∃ r C' n' N', e = .returned (.int .i64 r) ∧ Held w' g C' most n' N' D ∧ Kept w w' D ∧ C' = (if C k = none then upd C k (some p) else C) ∧ n ≤ n' ∧ n' ≤ n + 1 ∧ (C k = none → n' = n + 1) ∧ N' ≤ N + 4000000 := by
  by_cases hc : C k = none
  · refine (h.push_ok hN hm1 k p hk hc hn).mono ?_
    rintro e w' ⟨rfl, H, K⟩
    exact ⟨_, _, _, _, rfl, H, K, by rw [if_pos hc], by omega, by omega, fun _ => rfl, by omega⟩
  · refine (h.push_there k p hk hc).mono ?_
    rintro e w' ⟨rfl, rfl⟩
    exact ⟨_, _, _, _, rfl, h, Kept.refl _ _, by rw [if_neg hc], by omega, by omega, fun e => absurd e hc, by omega⟩
end

theorem most_same {C : Int → Option Int} {k p k' p' : Int} (h : Most C k p) (g : Most C k' p') : k = k' ∧ p = p' := by
  by_cases e : k = k'
  · subst e; have := h.1.symm.trans g.1; exact ⟨rfl, Option.some.inj this⟩
  · have a := h.2 k' p' g.1
    have b := g.2 k p h.1
    unfold Ahead at a b
    simp at a b
    omega
/-- What Top tells of n things. -/
def TopIs (C : Int → Option Int) (n : Nat) (k p : Int) (b : Bool) : Prop := (n = 0 ∧ k = 0 ∧ p = 0 ∧ b = false) ∨ (0 < n ∧ Most C k p ∧ b = true)
theorem TopIs.same {C : Int → Option Int} {n : Nat} {k p k' p' : Int} {b b' : Bool} (h : TopIs C n k p b) (g : TopIs C n k' p' b') : k = k' ∧ p = p' ∧ b = b' := by
  rcases h with ⟨h0, rfl, rfl, rfl⟩ | ⟨h0, h1, rfl⟩ <;> rcases g with ⟨g0, rfl, rfl, rfl⟩ | ⟨g0, g1, rfl⟩
  · exact ⟨rfl, rfl, rfl⟩
  · omega
  · omega
  · obtain ⟨e1, e2⟩ := most_same h1 g1; exact ⟨e1, e2, rfl⟩
def chg (C : Int → Option Int) (k p : Int) : Int → Option Int := fun j => if j = k ∧ C k ≠ none then some p else C j
theorem upd_none {C : Int → Option Int} {k : Int} (h : C k = none) : upd C k none = C := by
  funext j; unfold upd; split
  · rename_i e; subst e; exact h.symm
  · rfl
theorem chg_none {C : Int → Option Int} {k p : Int} (h : C k = none) : chg C k p = C := by
  funext j; unfold chg; rw [if_neg (fun e => e.2 h)]
theorem chg_some {C : Int → Option Int} {k p : Int} (h : C k ≠ none) : chg C k p = upd C k (some p) := by
  funext j; unfold chg upd
  by_cases e : j = k
  · rw [if_pos ⟨e, h⟩, if_pos e]
  · rw [if_neg (fun x => e x.1), if_neg e]
theorem chg_same {C : Int → Option Int} {k p : Int} (h : C k = some p ∨ C k = none) : chg C k p = C := by
  funext j; unfold chg; split
  · rename_i e; rw [e.1]; rcases h with h | h
    · exact h.symm
    · exact absurd h e.2
  · rfl
section
variable {w : World} {g : Nat} {C : Int → Option Int} {most : Int} {n N : Nat} {D : Nat → Prop}
theorem Held.top_any (h : Held w g C most n N D) :
    Calls Try.prog 44 #[.pointer (some ⟨g, 0, none⟩)] w fun e w' => ∃ k p b, e = .returned (.tuple #[.agg #[.int .i64 k, .int .i64 p], .bool b]) ∧ TopIs C n k p b ∧ (Lit.int .i64 k).wf = true ∧ Held w' g C most n N D ∧ Kept w w' D := by
  rcases Nat.eq_zero_or_pos n with rfl | hn
  · refine h.top_none.mono ?_
    rintro e w' ⟨rfl, B⟩
    exact ⟨_, _, _, rfl, .inl ⟨rfl, rfl, rfl, rfl⟩, by decide, h.below B, Kept.of_below B⟩
  · obtain ⟨k, p, m, wk, c⟩ := h.top_some hn
    refine c.mono ?_
    rintro e w' ⟨rfl, B⟩
    exact ⟨_, _, _, rfl, .inr ⟨hn, m, rfl⟩, wk, h.below B, Kept.of_below B⟩
theorem Held.pop_any (h : Held w g C most n N D) (hN : N < 3000000000000000000) (hn : n ≤ 1000000) :
    Calls Try.prog 31 #[.pointer (some ⟨g, 0, none⟩)] w fun e w' => ∃ k p b C' N', e = .returned (.tuple #[.agg #[.int .i64 k, .int .i64 p], .bool b]) ∧ TopIs C n k p b ∧ (Lit.int .i64 k).wf = true ∧ Held w' g C' most (n - 1) N' D ∧ Kept w w' D ∧ C' = (if b then upd C k none else C) ∧ N' ≤ N + 4000010 := by
  rcases Nat.eq_zero_or_pos n with rfl | hn0
  · refine h.pop_none.mono ?_
    rintro e w' ⟨rfl, B⟩
    exact ⟨_, _, _, _, _, rfl, .inl ⟨rfl, rfl, rfl, rfl⟩, by decide, h.below B, Kept.of_below B, rfl, by omega⟩
  · obtain ⟨k, p, m, wk, c⟩ := h.pop_some hN hn hn0
    refine c.mono ?_
    rintro e w' ⟨rfl, H, K⟩
    exact ⟨_, _, _, _, _, rfl, .inr ⟨hn0, m, rfl⟩, wk, H, K, rfl, by omega⟩
theorem Held.change_any (h : Held w g C most n N D) (hN : N < 3000000000000000000) (hn : n ≤ 1000000) (k p : Int) (hk : (Lit.int .i64 k).wf = true) :
    Calls Try.prog 25 #[.pointer (some ⟨g, 0, none⟩), .int .i64 k, .int .i64 p] w fun e w' => ∃ N', e = .returned (.bool (C k).isSome) ∧ Held w' g (chg C k p) most n N' D ∧ Kept w w' D ∧ N' ≤ N + 4000000 := by
  by_cases hc : C k = none
  · refine (h.change_none k p hk hc).mono ?_
    rintro e w' ⟨rfl, rfl⟩
    exact ⟨N, by rw [hc]; rfl, by rw [chg_none hc]; exact h, Kept.refl _ _, by omega⟩
  · refine (h.change_some hN hn k p hk hc).mono ?_
    rintro e w' ⟨rfl, H, K⟩
    exact ⟨_, by rw [Option.isSome_iff_ne_none.2 hc], by rw [chg_some hc]; exact H, K, by omega⟩
theorem Held.remove_any (h : Held w g C most n N D) (hN : N < 3000000000000000000) (hn : n ≤ 1000000) (k : Int) (hk : (Lit.int .i64 k).wf = true) :
    Calls Try.prog 34 #[.pointer (some ⟨g, 0, none⟩), .int .i64 k] w fun e w' => ∃ n' N', e = .returned (.bool (C k).isSome) ∧ Held w' g (upd C k none) most n' N' D ∧ Kept w w' D ∧ N' ≤ N + 4000010 ∧ n' ≤ n ∧ (C k ≠ none → n' + 1 = n) ∧ (C k = none → n' = n) := by
  by_cases hc : C k = none
  · refine (h.remove_none k hk hc).mono ?_
    rintro e w' ⟨rfl, rfl⟩
    exact ⟨n, N, by rw [hc]; rfl, by rw [upd_none hc]; exact h, Kept.refl _ _, by omega, by omega, fun e => absurd hc e, fun _ => rfl⟩
  · refine (h.remove_some hN hn k hk hc).mono ?_
    rintro e w' ⟨rfl, h0, H, K⟩
    exact ⟨_, _, by rw [Option.isSome_iff_ne_none.2 hc], H, K, by omega, by omega, fun _ => by omega, fun e => absurd e hc⟩
/-- A thing laid into a block of its own. -/
theorem Held.box (h : Held w g C most n N D) (k p : Int) {W : World} {X : Nat} (hW : W = w.alloc (.cells #[.int .i64 k, .int .i64 p] 63)) (hX : X = w.heap.size) :
    Held W g C most n N (fun q => D q ∨ q = X) ∧ Kept w W D ∧ W.heap[X]? = some (.cells #[.int .i64 k, .int .i64 p] 63 (0, 0)) := by
  subst hW; subst hX
  exact ⟨h.alloc _, (Kept.refl _ _).alloc _, HeapM.blk_new _ _⟩
end

end Go.Proofs.Ytclekakhgaggdaa.HeapC
