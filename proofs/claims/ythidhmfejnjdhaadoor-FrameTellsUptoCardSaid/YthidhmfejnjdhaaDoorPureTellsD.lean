/- For every input FrameTells answers true, in plain Lean. -/
import Derived.Test.YthidhmfejnjdhaaDoorPureTellsC
namespace Go.Proofs.YthidhmfejnjdhaaDoor.Pure
open Go.RowKit Go.Proofs.YthidhmfejnjdhaaDoor.HFrameTells Go.Proofs.YthidhmfejnjdhaaDoorW.PrintWords Go.Proofs.YthidhmfejnjdhaaDoorW.PrintLast Go.Proofs.YthidhmfejnjdhaaDoorW.PrintMore
set_option linter.unusedVariables false
set_option linter.unusedSimpArgs false
open Go.Proofs.YthidhmfejnjdhaaDoor.FrameS Go.Proofs.YthidhmfejnjdhaaDoor.FrameC Go.Proofs.YthidhmfejnjdhaaDoor.FrameP
namespace FrameTellsP
/-! A text, scanned. -/
theorem lenOf_small (l : List UInt8) : lenOf l < 65536 := by
  unfold lenOf
  have := (l.getD 0 0).toNat_lt
  have := (l.getD 1 0).toNat_lt
  omega
theorem len_said (s : ByteArray) (p : Nat) (h : p + 1 < s.size) : wrap64 (wrap64 (wrap64 (bt s (p : Int)) * 256) + wrap64 (bt s ((p + 1 : Nat) : Int))) = ((lenOf ((tl s).drop p) : Nat) : Int) := by
  have hl := tl_length s
  have h0 : p < (tl s).length := by omega
  have h1 : p + 1 < (tl s).length := by omega
  rw [bt_val s p (by omega) h0, bt_val s (p + 1) h h1]
  have e : lenOf ((tl s).drop p) = (tl s)[p].toNat * 256 + (tl s)[p + 1].toNat := by
    unfold lenOf
    simp [List.getD, List.getElem?_drop, List.getElem?_eq_getElem h0, List.getElem?_eq_getElem h1]
  have := (tl s)[p].toNat_lt
  have := (tl s)[p + 1].toNat_lt
  rw [e]
  unfold wrap64
  omega
theorem w_add (a c : Nat) (h : a + c ≤ 1000000000) : wrap64 ((a : Int) + (c : Int)) = ((a + c : Nat) : Int) := by unfold wrap64; omega
theorem w_sum (a c e : Nat) (h : a + c = e) (h2 : e ≤ 1000000000) : wrap64 ((a : Int) + (c : Int)) = ((e : Nat) : Int) := by subst h; unfold wrap64; omega
theorem take_drop_part (l : List UInt8) (p a c : Nat) : (l.take (p + c)).drop (p + a) = ((l.drop p).take c).drop a := by
  rw [show p + c = p + c from rfl, ← List.drop_drop, List.drop_take, show p + c - p = c by omega]
/-- What is told behind a frame that is one. -/
theorem scan_next {left : List UInt8} {m : List Rec} {n : Nat} {e : Bool} (g : Scan left m n e) {r : Rec} (hr : Right r) (hl : left.take (lenOf left + 4) = frameL r) :
    ∃ m' n', m = r :: m' ∧ n = lenOf left + 4 + n' ∧ Scan (left.drop (lenOf left + 4)) m' n' e := by
  obtain ⟨m', n', e', g'⟩ := scan_total (left.drop (lenOf left + 4)).length _ (Nat.le_refl _)
  have hfl : (frameL r).length = lenOf left + 4 := by
    have e2 := List.take_append_drop (lenOf left + 4) left
    rw [hl] at e2
    have := lenOf_frame r hr (left.drop (lenOf left + 4))
    rw [e2] at this
    rw [frame_length, this]
  have g2 := Scan.step r _ _ _ _ hr g'
  rw [← hl, List.take_append_drop, hl, hfl] at g2
  obtain ⟨h1, h2, h3⟩ := scan_det g g2
  subst h3
  exact ⟨m', n', h1, h2, g'⟩
theorem scan_stops {left : List UInt8} {m : List Rec} {n : Nat} {e : Bool} (g : Scan left m n e) (h : ¬ Whole left) : m = [] ∧ n = 0 ∧ e = true := scan_det g (.stop left h)
theorem scan_ends {left : List UInt8} {m : List Rec} {n : Nat} {e : Bool} (g : Scan left m n e) (h : Whole left) (hn : ∀ q, Right q → left.take (lenOf left + 4) ≠ frameL q) : m = [] ∧ n = 0 ∧ e = false := scan_det g (.bad left h hn)
theorem two_said (l : List UInt8) : hagglerref03_Bytes.f (((sumL l).toNat : Nat) : Int) = some (bd (sumB l)) := Bytes_ok _ (by have := (sumL l).isLt; omega)
theorem tl_part (s : ByteArray) (p a c : Nat) : tl (s.extract (p + a) (p + c)) = (((tl s).drop p).take c).drop a := by rw [tl_ext, take_drop_part]
set_option maxHeartbeats 1000000 in
theorem ref_scan (s : ByteArray) (hs : s.size ≤ 10000000) : ∀ (d p k : Nat) (out : List S24), p + d = s.size → d + 1100000 ≤ k → out.length + d ≤ 100000000 → ∀ m n e, Scan ((tl s).drop p) m n e →
    hagglerref04_Scan.l0 k s out (p : Int) = some (out ++ m.map ofR, ((p + n : Nat) : Int), endE e) := by
  intro d
  induction d using Nat.strongRecOn with
  | _ d ih =>
  intro p k out hp hk ho m n e g
  have hl := tl_length s
  have hll : ((tl s).drop p).length = d := by rw [List.length_drop]; omega
  obtain ⟨k, rfl⟩ : ∃ q, k = q + 1 := ⟨k - 1, by omega⟩
  simp only [hagglerref04_Scan.l0]
  rw [show wrap64 ((s.size : Int) - (p : Int)) = ((d : Nat) : Int) by unfold wrap64; omega]
  by_cases h2 : d < 2
  · rw [if_pos (by omega)]
    obtain ⟨rfl, rfl, rfl⟩ := scan_stops g (fun h => by have := h.1; omega)
    simp [endE]
  · have p1 : p + 1 < s.size := by omega
    rw [if_neg (by omega), if_pos (by omega), if_pos (by omega), w_add p 1 (by omega) |> fun h => (show wrap64 ((p : Int) + 1) = ((p + 1 : Nat) : Int) from h), if_pos (by omega), if_pos (by omega), len_said s p p1]
    obtain ⟨left, hleft⟩ : ∃ l, (tl s).drop p = l := ⟨_, rfl⟩
    obtain ⟨N, hN⟩ : ∃ N, lenOf ((tl s).drop p) = N := ⟨_, rfl⟩
    have hsm : N < 65536 := by rw [← hN]; exact lenOf_small _
    rw [hN, show wrap64 ((N : Int) + 4) = ((N + 4 : Nat) : Int) by unfold wrap64; omega]
    by_cases hw : d < N + 4
    · rw [if_pos (by omega)]
      obtain ⟨rfl, rfl, rfl⟩ := scan_stops g (fun h => by have := h.2; omega)
      simp [endE]
    · have whole : Whole ((tl s).drop p) := ⟨by omega, by rw [hN]; omega⟩
      have c1 : p + (N + 4) ≤ s.size := by omega
      have z1 : (s.extract (p + 2) (p + (N + 2))).size ≤ 100000 := by rw [ByteArray.size_extract]; omega
      have z2 : (s.extract p (p + (N + 2))).size ≤ 100000 := by rw [ByteArray.size_extract]; omega
      have f1 : ¬ ((d : Nat) : Int) < ((N + 4 : Nat) : Int) := by omega
      have f2 : (0 : Int) ≤ ((p + 2 : Nat) : Int) := by omega
      have f3 : ((p + 2 : Nat) : Int) ≤ ((p + (N + 2) : Nat) : Int) := by omega
      have f4 : ((p + (N + 2) : Nat) : Int) ≤ (s.size : Int) := by omega
      have f5 : ((p : Nat) : Int) ≤ ((p + (N + 2) : Nat) : Int) := by omega
      have f6 : (0 : Int) ≤ ((p + (N + 2) : Nat) : Int) := by omega
      have f7 : ((p + (N + 2) : Nat) : Int) ≤ ((p + (N + 4) : Nat) : Int) := by omega
      have f8 : ((p + (N + 4) : Nat) : Int) ≤ (s.size : Int) := by omega
      have f9 : out.length < 2932031007402 := Nat.lt_of_le_of_lt (show out.length ≤ 100000000 by omega) (by decide)
      have k1 : 500000 ≤ k := by omega
      have k2 : 1000001 ≤ k := by omega
      have i1 : d - (N + 4) < d := by omega
      have i2 : p + (N + 4) + (d - (N + 4)) = s.size := by omega
      have i3 : d - (N + 4) + 1100000 ≤ k := by omega
      have i4 : out.length + 1 + (d - (N + 4)) ≤ 100000000 := by omega
      have b9 : p + (N + 4) ≤ 1000000000 := Nat.le_trans c1 (Nat.le_trans hs (by decide))
      have w2 : wrap64 ((p : Int) + 2) = ((p + 2 : Nat) : Int) := w_sum p 2 (p + 2) rfl (Nat.le_trans (Nat.add_le_add_left (Nat.le_trans (by decide) (Nat.le_add_left 4 N)) p) b9)
      have w4 : wrap64 ((p : Int) + 4) = ((p + 4 : Nat) : Int) := w_sum p 4 (p + 4) rfl (Nat.le_trans (Nat.add_le_add_left (Nat.le_trans (by decide) (Nat.le_add_left 4 N)) p) b9)
      have wn : wrap64 ((p : Int) + (N : Int)) = ((p + N : Nat) : Int) := w_sum p N (p + N) rfl (Nat.le_trans (Nat.add_le_add_left (Nat.le_add_right N 4) p) b9)
      have wn2 : wrap64 (((p + 2 : Nat) : Int) + (N : Int)) = ((p + (N + 2) : Nat) : Int) := w_sum (p + 2) N (p + (N + 2)) (by rw [Nat.add_assoc, Nat.add_comm 2 N]) (Nat.le_trans (Nat.add_le_add_left (Nat.add_le_add_left (by decide) N) p) b9)
      have wn4 : wrap64 (((p + 4 : Nat) : Int) + (N : Int)) = ((p + (N + 4) : Nat) : Int) := w_sum (p + 4) N (p + (N + 4)) (by rw [Nat.add_assoc, Nat.add_comm 4 N]) b9
      have wnn : wrap64 (((p + N : Nat) : Int) + 4) = ((p + (N + 4) : Nat) : Int) := w_sum (p + N) 4 (p + (N + 4)) (Nat.add_assoc p N 4) b9
      rw [if_neg f1, w2, wn2, w4, wn4, wn, wnn, if_pos f2, if_pos f3, if_pos f4, Int.toNat_natCast, Int.toNat_natCast, Int.toNat_natCast, Int.toNat_natCast]
      obtain ⟨r, ok, e1, s1, s2⟩ := record_ok (s.extract (p + 2) (p + (N + 2))) z1 k k1
      have ht : tl (s.extract (p + 2) (p + (N + 2))) = (((tl s).drop p).take (N + 2)).drop 2 := tl_part s p 2 (N + 2)
      have ht0 : tl (s.extract p (p + (N + 2))) = ((tl s).drop p).take (N + 2) := by
        have := tl_part s p 0 (N + 2)
        simpa using this
      have ht4 : tl (s.extract (p + (N + 2)) (p + (N + 4))) = (((tl s).drop p).take (N + 4)).drop (N + 2) := tl_part s p (N + 2) (N + 4)
      rw [ht] at s1 s2
      rw [e1]
      simp only [Option.bind_some]
      rw [if_pos f5, Of_ok _ z2 k k2]
      simp only [Option.bind_some]
      rw [ht0, two_said]
      simp only [Option.bind_some]
      cases ok with
      | false =>
        rw [if_neg (by decide)]
        obtain ⟨rfl, rfl, rfl⟩ := scan_ends g whole (fun q hq he => s2 rfl q hq (by have := (frame_parts whole hq he).1; rw [hN] at this; exact this))
        simp [endE]
      | true =>
        obtain ⟨hr, hb⟩ := s1 rfl
        rw [if_pos rfl, if_pos f6, if_pos f7, if_pos f8, bd_list]
        have hx : (s.extract (p + (N + 2)) (p + (N + 4))).toList = (((tl s).drop p).take (N + 4)).drop (N + 2) := by rw [toList_data]; exact ht4
        rw [hx]
        by_cases hq : sumB (((tl s).drop p).take (N + 2)) = (((tl s).drop p).take (N + 4)).drop (N + 2)
        · rw [if_pos hq, if_pos f9]
          have hfr : ((tl s).drop p).take (lenOf ((tl s).drop p) + 4) = frameL r := frame_of_parts whole (by rw [hN]; exact hb.symm) (by rw [hN]; exact hq)
          obtain ⟨m', n', rfl, rfl, g'⟩ := scan_next g hr hfr
          rw [hN] at g' ⊢
          rw [List.drop_drop] at g'
          have := ih (d - (N + 4)) i1 (p + (N + 4)) k (out ++ [(⟨r.kind, r.nums, r.text⟩ : S24)]) i2 i3 (by rw [List.length_append]; exact i4) m' n' e g'
          rw [this, List.append_assoc, Nat.add_assoc]
          rfl
        · rw [if_neg hq]
          obtain ⟨rfl, rfl, rfl⟩ := scan_ends g whole (fun q hq2 he => hq (by have := (frame_parts whole hq2 he).2; rw [hN] at this; exact this))
          simp [endE]
theorem ref_scan_ok {s : ByteArray} {m n e} (hs : s.size ≤ 10000000) (g : Scan (tl s) m n e) (k : Nat) (hk : 20000000 ≤ k) : hagglerref04_Scan.f k s = some (m.map ofR, (n : Int), endE e) := by
  have := ref_scan s hs s.size 0 k [] (by omega) (by omega) (by simp; omega) m n e (by rw [List.drop_zero]; exact g)
  rw [List.nil_append, Nat.zero_add] at this
  exact this
end FrameTellsP
end Go.Proofs.YthidhmfejnjdhaaDoor.Pure
