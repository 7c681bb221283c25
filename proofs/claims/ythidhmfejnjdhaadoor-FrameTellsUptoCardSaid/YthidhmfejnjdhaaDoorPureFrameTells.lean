/- For every input FrameTells answers true, in plain Lean. -/
import Derived.Test.YthidhmfejnjdhaaDoorPureTellsD
namespace Go.Proofs.YthidhmfejnjdhaaDoor.Pure
open Go.RowKit Go.Proofs.YthidhmfejnjdhaaDoor.HFrameTells Go.Proofs.YthidhmfejnjdhaaDoorW.PrintWords Go.Proofs.YthidhmfejnjdhaaDoorW.PrintLast Go.Proofs.YthidhmfejnjdhaaDoorW.PrintMore
set_option linter.unusedVariables false
set_option linter.unusedSimpArgs false
open Go.Proofs.YthidhmfejnjdhaaDoor.FrameS Go.Proofs.YthidhmfejnjdhaaDoor.FrameC Go.Proofs.YthidhmfejnjdhaaDoor.FrameP
namespace FrameTellsP
/-! The law. -/
theorem all_right {l : List S24} (h : ∀ x ∈ l, Right (toR x)) : ∀ r ∈ l.map toR, Right r := by
  intro r hr
  obtain ⟨x, hx, rfl⟩ := List.mem_map.1 hr
  exact h x hx
theorem frames_count : ∀ (l : List Rec), (∀ r ∈ l, Right r) → 4 * l.length ≤ (framesL l).length
  | [], _ => by simp [framesL_nil]
  | r :: l, h => by
    have h2 := frame_length r
    have h3 := frames_count l (fun q hq => h q (List.mem_cons_of_mem r hq))
    rw [framesL_cons, List.length_append, List.length_cons]
    omega
theorem rdB_get (l : List ByteArray) (i : Nat) (h : i < l.length) : rdOf ByteArray.empty l (i : Int) = l[i] := by
  unfold rdOf
  rw [Int.toNat_natCast, List.getD_eq_getElem?_getD, List.getElem?_eq_getElem h]; rfl
theorem law_l1 (xs : List ByteArray) (hxs : ∀ x ∈ xs, x.size ≤ 4000000) (hlen : xs.length ≤ 10) : ∀ (d i k : Nat), i + d = xs.length → 100000000 + d ≤ k → hagglerlaw04_FrameTells.l1 k true xs (xs.length : Int) (i : Int) = some true := by
  intro d
  induction d with
  | zero =>
    intro i k hi hk
    obtain ⟨k, rfl⟩ : ∃ q, k = q + 1 := ⟨k - 1, by omega⟩
    simp only [hagglerlaw04_FrameTells.l1]
    rw [if_neg (by omega)]
  | succ d ih =>
    intro i k hi hk
    obtain ⟨k, rfl⟩ : ∃ q, k = q + 1 := ⟨k - 1, by omega⟩
    have hil : i < xs.length := by omega
    have g1 : 100000000 + d ≤ k := by omega
    have g2 : i + 1 + d = xs.length := by omega
    have hw : wrap64 ((i : Int) + 1) = ((i + 1 : Nat) : Int) := w_sum i 1 (i + 1) rfl (by omega)
    simp only [hagglerlaw04_FrameTells.l1]
    rw [if_pos (by omega), if_pos (by omega), if_pos (by omega), rdB_get xs i hil]
    have hx := hxs _ (List.getElem_mem hil)
    obtain ⟨x, hxx⟩ : ∃ x, x = xs[i] := ⟨_, rfl⟩
    rw [← hxx] at hx ⊢
    obtain ⟨m, n, e, hm⟩ := scan_total (tl x).length (tl x) (Nat.le_refl _)
    obtain ⟨m1, m2, m3⟩ := scan_again hm
    rw [tl_length] at m3
    have ms := frames_count m m1
    have ml : m.length ≤ 4000000 := by
      have := congrArg List.length m2
      rw [List.length_take] at this
      omega
    have k1 : 20000000 ≤ k := Nat.le_trans (by decide) (Nat.le_trans (Nat.le_add_right 100000000 d) g1)
    have k2 : 24 * (m.map ofR).length + 2 ≤ k := by
      rw [List.length_map]
      exact Nat.le_trans (show 24 * m.length + 2 ≤ 100000000 by omega) (Nat.le_trans (Nat.le_add_right 100000000 d) g1)
    rw [scan_ok hm (Nat.le_trans hx (by decide)), ref_scan_ok (Nat.le_trans hx (by decide)) hm k k1]
    simp only [Option.bind_some]
    rw [same_yes (m.map ofR) (by rw [List.length_map]; exact Nat.le_trans ml (by decide)) (fun y hy => by
      obtain ⟨r, hr, rfl⟩ := List.mem_map.1 hy
      exact (m1 r hr).2.2.1) k k2]
    simp only [Option.bind_some]
    rw [if_pos trivial, if_pos trivial, if_pos trivial, hw]
    exact ih (i + 1) k g2 g1
theorem law_l0 (a3 a5 : ByteArray) (a4 : Int) (l : List S24) (hr : ∀ x ∈ l, Right (toR x)) (hlen : l.length ≤ 12) (h3 : a3.size ≤ 1048576) (h5 : a5.size ≤ 1048576) (h4 : W64 a4) : ∀ (d i k : Nat) (acc : ByteArray), i + d = l.length → 200000000 + d ≤ k → acc.size ≤ 2382 * i →
    hagglerlaw04_FrameTells.l0 k a3 a4 a5 true l acc (i : Int) = some true := by
  intro d
  induction d with
  | zero =>
    intro i k acc hi hk ha
    obtain ⟨k, rfl⟩ : ∃ q, k = q + 1 := ⟨k - 1, by omega⟩
    have hacc : acc.size ≤ 30000 := by omega
    have kb : 100000000 + 5 ≤ k := by omega
    simp only [hagglerlaw04_FrameTells.l0]
    rw [if_neg (by omega)]
    have hw1 : wrap64 ((acc.size : Int) + 1) = ((acc.size + 1 : Nat) : Int) := w_sum acc.size 1 (acc.size + 1) rfl (by omega)
    rw [hw1]
    obtain ⟨p, p1, p2, p3⟩ := pick_ok a4 ((acc.size + 1 : Nat) : Int) h4 (by omega)
    rw [p1]
    simp only [Option.bind_some]
    obtain ⟨q, rfl⟩ := Int.eq_ofNat_of_zero_le p2
    have hw : wrap64 ((q : Int) + (a5.size : Int)) = ((q + a5.size : Nat) : Int) := w_sum q a5.size _ rfl (by omega)
    have m1 : 0 ≤ mn ((q + a5.size : Nat) : Int) (acc.size : Int) := by unfold mn; split <;> omega
    have m2 : mn ((q + a5.size : Nat) : Int) (acc.size : Int) ≤ (acc.size : Int) := by unfold mn; split <;> omega
    have e0 : ∀ a b, (acc.extract a b).size ≤ 30000 := fun a b => by rw [ByteArray.size_extract]; omega
    have e1 : ∀ a b c d, ((acc.extract a b ++ a5) ++ acc.extract c d).size ≤ 4000000 := fun a b c d => by
      have := e0 a b; have := e0 c d
      rw [ByteArray.size_append, ByteArray.size_append]; omega
    have e2 : ∀ a b c d, (acc.extract a b ++ a5).size + (acc.extract c d).size ≤ 9223372036854775807 := fun a b c d => by
      have := e0 a b; have := e0 c d
      rw [ByteArray.size_append]; omega
    have e3 : ∀ a b, (acc.extract a b).size + a5.size ≤ 9223372036854775807 := fun a b => by have := e0 a b; omega
    rw [hw, if_pos p2, if_pos (by omega), if_pos (e3 _ _), if_pos m1, if_pos m2, if_pos (e2 _ _ _ _), if_pos (e2 _ _ _ _)]
    have hz0 : ((0 : Nat) : Int) = 0 := rfl
    rw [← hz0]
    refine law_l1 _ ?_ (by simp) 5 0 k (by simp) kb
    intro x hx
    simp only [List.mem_cons, List.not_mem_nil, or_false] at hx
    rcases hx with rfl | rfl | rfl | rfl | rfl
    · omega
    · omega
    · exact Nat.le_trans (e0 _ _) (by decide)
    · exact e1 _ _ _ _
    · exact e1 _ _ _ _
  | succ d ih =>
    intro i k acc hi hk ha
    obtain ⟨k, rfl⟩ : ∃ q, k = q + 1 := ⟨k - 1, by omega⟩
    have hil : i < l.length := by omega
    have r0 := hr _ (List.getElem_mem hil)
    have g1 : 200000000 + d ≤ k := by omega
    have g2 : i + 1 + d = l.length := by omega
    have hw : wrap64 ((i : Int) + 1) = ((i + 1 : Nat) : Int) := w_sum i 1 (i + 1) rfl (by omega)
    have k1 : (toR l[i]).nums.length + 1000001 ≤ k := Nat.le_trans (Nat.add_le_add_right r0.2.2.1 1000001) (Nat.le_trans (by decide) (Nat.le_trans (Nat.le_add_right 200000000 d) g1))
    have n1 : (toR l[i]).nums.length ≤ 9223372036854775807 := Nat.le_trans r0.2.2.1 (by decide)
    have h1 := body_length _ r0
    have h2 := frame_length (toR l[i])
    have e1 : (⟨(frameL (toR l[i])).toArray⟩ : ByteArray).size = (frameL (toR l[i])).length := by show (frameL _).toArray.size = _; simp
    have g3 : acc.size + (⟨(frameL (toR l[i])).toArray⟩ : ByteArray).size ≤ 9223372036854775807 := by omega
    have g4 : (acc ++ (⟨(frameL (toR l[i])).toArray⟩ : ByteArray)).size ≤ 2382 * (i + 1) := by rw [ByteArray.size_append]; omega
    simp only [hagglerlaw04_FrameTells.l0]
    rw [if_pos (by omega), if_pos (by omega), rdT_get l i hil, Encode_ok (l[i]).f0 (l[i]).f1 (l[i]).f2 n1 k k1, encode_right _ r0]
    simp only [Option.bind_some]
    rw [if_pos trivial, if_pos trivial, if_pos g3, hw]
    exact ih (i + 1) k _ g2 g1 g4
theorem law_ok (a0 : Int) (z0 : List Int) (a2 : ByteArray) (x0 : List (List Int)) (x1 : List ByteArray) (a3 : ByteArray) (a4 : Int) (a5 : ByteArray) (hz : z0.length ≤ 9223372036854775807) (hx : ∀ r ∈ x0, ∀ n ∈ r, W64 n) (hx1 : x1.length ≤ 9223372036854775807) (h3 : a3.size ≤ 1048576) (h4 : W64 a4) (h5 : a5.size ≤ 1048576) :
    ∃ k, hagglerlaw04_FrameTells.f k a0 z0 a2 x0 x1 a3 a4 a5 = some true := by
  obtain ⟨k, hk⟩ : ∃ k : Nat, 300000000 + z0.length ≤ k := ⟨300000000 + z0.length, Nat.le_refl _⟩
  have k0 : 300000000 ≤ k := Nat.le_trans (Nat.le_add_right _ _) hk
  refine ⟨k + 1, ?_⟩
  unfold hagglerlaw04_FrameTells.f
  rw [awake_ok]
  simp only [Option.bind_some]
  rw [Encode_ok a0 z0 a2 hz (k + 1) (by omega), Right_ok a0 z0 a2 hz (k + 1) (by omega)]
  have hf : ∃ p, frame_Encode.f a0 z0 a2 = some p := by
    unfold frame_Encode.f
    split
    · exact ⟨_, rfl⟩
    · exact ⟨_, rfl⟩
  obtain ⟨p, hp⟩ := hf
  rw [hp]
  unfold frame_Right.f
  simp only [Option.bind_some]
  rw [if_pos trivial, if_pos trivial, bne_self_eq_false]
  simp only [hagglerlaw04_FrameTells.j0]
  rw [if_neg (by decide)]
  obtain ⟨l, h1, h2, h6⟩ := records_ok x0 x1 hx hx1 k (Nat.le_trans (by decide) k0)
  rw [h1]
  simp only [Option.bind_some]
  have h0 : ((0 : Nat) : Int) = 0 := rfl
  rw [← h0]
  exact law_l0 a3 a5 a4 l h2 h6 h3 h5 h4 l.length 0 k ⟨#[]⟩ (Nat.zero_add _) (by omega) (Nat.zero_le _)
end FrameTellsP
end Go.Proofs.YthidhmfejnjdhaaDoor.Pure
