/- pick; a law's slice of ints (HeapW without HeapFull). -/
import Derived.Test.YtclekakhgaggdaaHeapU
namespace Go.Proofs.Ytclekakhgaggdaa.HeapC
open Go.RowKit Go.Proofs.Ytclekakhgaggdaa.HeapT Go.Proofs.Ytclekakhgaggdaa.HeapM Go.Proofs.YtclekakhgaggdaaW.PrintWords Go.Proofs.YtclekakhgaggdaaW.PrintLast Go.Proofs.YtclekakhgaggdaaW.PrintMore
set_option linter.unusedVariables false
set_option linter.unusedSimpArgs false

def In64 (c : Int) : Prop := -9223372036854775808 ≤ c ∧ c ≤ 9223372036854775807
theorem in64_of {c : Int} (h : (Lit.int .i64 c).wf = true) : In64 c := by
  unfold Lit.wf at h
  rw [Bool.and_eq_true, decide_eq_true_eq, decide_eq_true_eq] at h
  exact ⟨h.1, h.2⟩
theorem wf_of {c : Int} (h : In64 c) : (Lit.int .i64 c).wf = true := by
  unfold Lit.wf
  rw [Bool.and_eq_true, decide_eq_true_eq, decide_eq_true_eq]
  exact ⟨h.1, h.2⟩
/-- Which of n things a raw number speaks of. -/
def pk (c n : Int) : Int := Int.emod (if c < 0 then -(c + 1) else c) n
theorem pk_range (c n : Int) (h : 0 < n) : 0 ≤ pk c n ∧ pk c n < n := ⟨Int.emod_nonneg _ (by omega), Int.emod_lt_of_pos _ h⟩

set_option maxHeartbeats 1000000 in
theorem pick_calls (c n : Int) (w : World) (hc : In64 c) (h0 : 0 < n) (h1 : n ≤ 1000000) :
    Calls Try.prog 9 #[.int .i64 c, .int .i64 n] w fun e w' => e = .returned (.int .i64 (pk c n)) ∧ w = w' := by
  unfold In64 at hc
  have hr := pk_range c n h0
  have hn0 : (n == 0) = false := beq_eq_false_iff_ne.2 (by omega)
  have hn1 : (n == -1) = false := beq_eq_false_iff_ne.2 (by omega)
  by_cases hneg : c < 0
  · have e1 : wrap64 (c + 1) = c + 1 := by unfold wrap64; omega
    have e2 : wrap64 (-(c + 1)) = -(c + 1) := by unfold wrap64; omega
    have e3 : (-(c + 1)).tmod n = pk c n := by unfold pk; rw [if_pos hneg, Int.tmod_eq_emod_of_nonneg (by omega)]; rfl
    have e4 : wrap64 (pk c n) = pk c n := by unfold wrap64; omega
    have H := Lib.hid (And.intro e1 (And.intro e2 (And.intro e3 e4)))
    have d : decide (c < 0) = true := decide_eq_true hneg
    go_enter Try.func9, Try.ntmps9
    go_wp2
    go_returns
    obtain ⟨e1, e2, e3, e4⟩ := H.out
    exact ⟨rfl, rfl⟩
  · have e3 : c.tmod n = pk c n := by unfold pk; rw [if_neg hneg, Int.tmod_eq_emod_of_nonneg (by omega)]; rfl
    have e4 : wrap64 (pk c n) = pk c n := by unfold wrap64; omega
    have H := Lib.hid (And.intro e3 e4)
    have d : decide (c < 0) = false := decide_eq_false hneg
    go_enter Try.func9, Try.ntmps9
    go_wp2
    go_returns
    obtain ⟨e3, e4⟩ := H.out
    exact ⟨rfl, rfl⟩

/-- A slice of ints that was handed in. -/
def Ints (w : World) (v : Value) (zs : List Int) : Prop :=
  ∃ a cap, v = .slice a zs.length cap ∧ zs.length ≤ maxLen ∧ ∀ i, i < zs.length → ∃ b off, a = some ⟨b, off, none⟩ ∧ b < w.heap.size ∧ In64 (zs.getD i 0) ∧ w.cell? ⟨b, off + i, none⟩ = some (.int .i64 (zs.getD i 0))

theorem cell_addr {w : World} {x : Addr} {v : Value} (h : w.cell? x = some v) : x.spot = none ∧ x.block < w.heap.size := by
  unfold World.cell? at h
  split at h
  · rename_i e
    refine ⟨?_, (Array.getElem?_eq_some_iff.1 e).1⟩
    cases hs : x.spot with
    | none => rfl
    | some s => rw [hs] at h; simp at h
  · cases h
theorem add_addr (x : Addr) (h : x.spot = none) (i : Nat) : x.add i = ⟨x.block, x.off + i, none⟩ := by
  obtain ⟨b, o, s⟩ := x
  simp at h; subst h
  unfold Addr.add
  split
  · rename_i e; simp [e]
  · rfl
theorem ints_nil (w : World) : Ints w (.slice none 0 0) [] := ⟨none, 0, rfl, Nat.zero_le _, fun i h => absurd h (by simp)⟩
theorem ints_of {w : World} {x : Addr} {l c : Nat} {zs : List Int} (hl : l ≤ c) (hm : c ≤ maxLen) (hz : zs.length = c) (hc : ∀ i, i < zs.length → w.cell? (x.add i) = some (.int .i64 (zs.getD i 0))) (hw : ∀ n ∈ zs, (Lit.int .i64 n).wf = true) :
    Ints w (.slice (some x) l c) (zs.take l) := by
  have hlt : (zs.take l).length = l := by rw [List.length_take]; omega
  refine ⟨some x, c, by rw [hlt], by omega, fun i hi => ?_⟩
  rw [hlt] at hi
  have h0 := hc 0 (by omega)
  rw [show x.add 0 = x from rfl] at h0
  obtain ⟨s0, s1⟩ := cell_addr h0
  have e : (zs.take l).getD i 0 = zs.getD i 0 := by simp [List.getD, List.getElem?_take, hi]
  refine ⟨x.block, x.off, by obtain ⟨b, o, s⟩ := x; simp at s0; subst s0; rfl, s1, ?_, ?_⟩
  · rw [e]; refine in64_of (hw _ ?_)
    rw [List.getD_eq_getElem?_getD, List.getElem?_eq_getElem (by omega)]; exact List.getElem_mem _
  · rw [e, ← add_addr x s0]; exact hc i (by omega)

end Go.Proofs.Ytclekakhgaggdaa.HeapC
