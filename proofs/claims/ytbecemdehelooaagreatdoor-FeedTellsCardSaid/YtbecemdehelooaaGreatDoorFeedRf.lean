/- The document's fields, number and price. -/
import Derived.Test.YtbecemdehelooaaGreatDoorFeedRc
import Derived.Test.YtbecemdehelooaaGreatDoorFeedFp
namespace Go.Proofs.YtbecemdehelooaaGreatDoor.FeedRf
open Go.RowKit Go.Proofs.YtbecemdehelooaaGreatDoor.FrameS Go.Proofs.YtbecemdehelooaaGreatDoor.FrameP Go.Proofs.YtbecemdehelooaaGreatDoor.FeedG Go.Proofs.YtbecemdehelooaaGreatDoor.FeedD Go.Proofs.YtbecemdehelooaaGreatDoor.FeedT Go.Proofs.YtbecemdehelooaaGreatDoor.FeedP Go.Proofs.YtbecemdehelooaaGreatDoor.FeedQ Go.Proofs.YtbecemdehelooaaGreatDoor.FeedX Go.Proofs.YtbecemdehelooaaGreatDoor.FeedN Go.Proofs.YtbecemdehelooaaGreatDoor.FeedW Go.Proofs.YtbecemdehelooaaGreatDoor.FeedE Go.Proofs.YtbecemdehelooaaGreatDoor.FeedDe Go.Proofs.YtbecemdehelooaaGreatDoor.FeedPl Go.Proofs.YtbecemdehelooaaGreatDoor.FeedPm Go.Proofs.YtbecemdehelooaaGreatDoor.FeedR Go.Proofs.YtbecemdehelooaaGreatDoor.FeedRp Go.Proofs.YtbecemdehelooaaGreatDoor.FeedRc Go.Proofs.YtbecemdehelooaaGreatDoor.FeedFp Go.Proofs.YtbecemdehelooaaGreatDoorW.PrintWords Go.Proofs.YtbecemdehelooaaGreatDoorW.PrintLast Go.Proofs.YtbecemdehelooaaGreatDoorW.PrintMore
set_option linter.unusedVariables false
set_option linter.unusedSimpArgs false
/-- A number that is read as the document reads it. -/
def seqR (s : ByteArray) : Int := if countL (tl s) 1000000000000 < 1 then 0 else countL (tl s) 1000000000000
set_option maxRecDepth 20000 in
theorem refseq_calls (s : ByteArray) (w : World) : Calls Tryz.prog 25 #[.string s] w fun e w' => e = .returned (.int .i64 (seqR s)) ∧ w = w' := by
  have HC := Aside0.mk (refcount_calls s 1000000000000 (by decide) (by decide) w)
  obtain ⟨n, hn⟩ : ∃ n, countL (tl s) 1000000000000 = n := ⟨_, rfl⟩
  have hR : seqR s = if n < 1 then 0 else n := by unfold seqR; rw [hn]
  rw [hn] at HC
  clear hn
  by_cases h : n < 1
  · have d : decide (n < 1) = true := decide_eq_true h
    have HR := Aside0.mk (show seqR s = 0 by rw [hR, if_pos h])
    clear hR h
    go_enter Tryz.func25, Tryz.ntmps25
    go_wp2_with fail
    refine HC.out.mono ?_
    rintro e w1 ⟨rfl, rfl⟩
    go_wp2_with fail
    go_ret
    exact ⟨by rw [HR.out]; rfl, rfl⟩
  · have d : decide (n < 1) = false := decide_eq_false h
    have HR := Aside0.mk (show seqR s = n by rw [hR, if_neg h])
    clear hR h
    go_enter Tryz.func25, Tryz.ntmps25
    go_wp2_with fail
    refine HC.out.mono ?_
    rintro e w1 ⟨rfl, rfl⟩
    go_wp2_with fail
    go_ret
    exact ⟨by rw [HR.out]; rfl, rfl⟩
/-- A price that is read as the document reads it. -/
def priceR (s : ByteArray) : Int := if tl s = goneL then 0 else if (parseL (tl s)).2 = 0 ∧ 1 ≤ (parseL (tl s)).1 then (parseL (tl s)).1 else -1
set_option maxRecDepth 20000 in
theorem refprice_calls (s : ByteArray) (hs : s.size ≤ 100000) (w : World) : Calls Tryz.prog 26 #[.string s] w fun e w' => e = .returned (.int .i64 (priceR s)) ∧ Below w.heap.size w w' := by
  have HC := Aside0.mk (refparse_calls s hs w)
  obtain ⟨n, hn⟩ : ∃ n, (parseL (tl s)).1 = n := ⟨_, rfl⟩
  obtain ⟨c, hc⟩ : ∃ n, (parseL (tl s)).2 = n := ⟨_, rfl⟩
  have hR : priceR s = if tl s = goneL then 0 else if c = 0 ∧ 1 ≤ n then n else -1 := by unfold priceR; rw [hn, hc]
  rw [hn, hc] at HC
  clear hn hc
  by_cases hg : tl s = goneL
  · have hq : (s.toList == ([103, 111, 110, 101] : List UInt8)) = true := beq_iff_eq.2 (by rw [toList_data]; exact hg)
    have HR := Aside0.mk (show priceR s = 0 by rw [hR, if_pos hg])
    clear hR hg
    go_enter Tryz.func26, Tryz.ntmps26
    go_wp2_with fail
    go_ret
    exact ⟨by rw [HR.out]; rfl, Below.refl _ _⟩
  · have hq : (s.toList == ([103, 111, 110, 101] : List UInt8)) = false := beq_eq_false_iff_ne.2 (by rw [toList_data]; exact hg)
    rw [if_neg hg] at hR
    by_cases h0 : c = 0
    · have d0 : (c != 0) = false := bne_eq_false_iff_eq.2 h0
      by_cases h1 : n < 1
      · have d1 : decide (n < 1) = true := decide_eq_true h1
        have HR := Aside0.mk (show priceR s = -1 by rw [hR, if_neg]; rintro ⟨-, h⟩; omega)
        clear hR hg h0 h1
        go_enter Tryz.func26, Tryz.ntmps26
        go_wp2_with fail
        refine HC.out.mono ?_
        rintro e w1 ⟨rfl, b⟩
        have B1 := Aside0.mk b
        clear b
        go_wp2_with fail
        go_ret
        exact ⟨by rw [HR.out]; rfl, B1.out⟩
      · have d1 : decide (n < 1) = false := decide_eq_false h1
        have HR := Aside0.mk (show priceR s = n by rw [hR, if_pos ⟨h0, by omega⟩])
        clear hR hg h0 h1
        go_enter Tryz.func26, Tryz.ntmps26
        go_wp2_with fail
        refine HC.out.mono ?_
        rintro e w1 ⟨rfl, b⟩
        have B1 := Aside0.mk b
        clear b
        go_wp2_with fail
        go_ret
        exact ⟨by rw [HR.out]; rfl, B1.out⟩
    · have d0 : (c != 0) = true := bne_iff_ne.2 h0
      have HR := Aside0.mk (show priceR s = -1 by rw [hR, if_neg]; rintro ⟨h, -⟩; exact h0 h)
      clear hR hg h0
      go_enter Tryz.func26, Tryz.ntmps26
      go_wp2_with fail
      refine HC.out.mono ?_
      rintro e w1 ⟨rfl, b⟩
      have B1 := Aside0.mk b
      clear b
      go_wp2_with fail
      go_ret
      exact ⟨by rw [HR.out]; rfl, B1.out⟩
/-- A row of strings that is our own. -/
def SRow (w : World) (B : Nat) (v : Value) (xs : List ByteArray) : Prop := w.ownsRow B 9 1 v xs.length (xs.map Value.string)
theorem SRow.val {w : World} {B : Nat} {v : Value} {xs : List ByteArray} (h : SRow w B v xs) : ∃ a cap, v = .slice a xs.length cap := by
  rcases h.2 with ⟨h1, h2⟩ | ⟨b, cap, cur, h1, _⟩
  · exact ⟨none, 0, by rw [h1, h2]⟩
  · exact ⟨_, _, h1⟩
theorem SRow.lt {w : World} {B : Nat} {v : Value} {xs : List ByteArray} (h : SRow w B v xs) (k : Nat) (e : v.ownBlock = some k) : B ≤ k := by
  rcases h.2 with ⟨h1, h2⟩ | ⟨b, cap, cur, h1, h2, _⟩
  · rw [h1] at e; cases e
  · rw [h1] at e
    simp [Value.ownBlock] at e
    omega
theorem SRow.below {w w' : World} {B : Nat} {v : Value} {xs : List ByteArray} (h : SRow w B v xs) (b : Below w.heap.size w w') : SRow w' B v xs := by
  obtain ⟨h0, h1 | ⟨g, cap, cur, h1, h2, h3, h4⟩⟩ := h
  · exact ⟨h0, .inl h1⟩
  · exact ⟨h0, .inr ⟨g, cap, cur, h1, h2, blk_below h3 b, h4⟩⟩
theorem srow_app {w0 w1 w2 : World} {v : Value} {xs : List ByteArray} {k : ByteArray} {g cap : Nat} (hb : Below w0.heap.size w0 w1) (hv : SRow w1 w0.heap.size v xs)
    (ho : w2.ownsRow w0.heap.size 9 1 (.slice (some ⟨g, 0, none⟩) (xs.length + 1) cap) (xs.length + 1) (xs.map Value.string ++ [.string k])) (hg : w1.grownBy w2 v.ownBlock) :
    SRow w2 w0.heap.size (.slice (some ⟨g, 0, none⟩) (xs.length + 1) cap) (xs ++ [k]) ∧ Below w0.heap.size w0 w2 := by
  refine ⟨?_, ?_⟩
  · unfold SRow
    have e1 : (xs ++ [k]).length = xs.length + 1 := by simp
    have e2 : (xs ++ [k]).map Value.string = xs.map Value.string ++ [.string k] := by simp
    rw [e1, e2]; exact ho
  · exact hb.grown hg hb.size (fun q e => hv.lt q e)
/-- Where a text is parted so far: whole words, and what stands behind the last blank. -/
def flat (out : List ByteArray) : List UInt8 := out.flatMap (fun x => tl x ++ [32])
theorem flat_snoc (out : List ByteArray) (x : ByteArray) : flat (out ++ [x]) = flat out ++ (tl x ++ [32]) := by unfold flat; simp
theorem flat_join : ∀ (out : List ByteArray) (x : ByteArray), flat out ++ tl x = (match out ++ [x] with | [] => [] | y :: ys => tl y ++ Lib.joinTail [32] (ys.map tl))
  | [], x => by simp [flat, Lib.joinTail]
  | y :: ys, x => by
    have h := flat_join ys x
    show tl y ++ [32] ++ flat ys ++ tl x = _
    cases ys with
    | nil => simp [flat, Lib.joinTail]
    | cons z zs =>
      simp only [List.cons_append] at h ⊢
      rw [List.map_cons, joinTail_cons']
      rw [List.append_assoc, h]
      simp
theorem words_flat (s : ByteArray) (out : List ByteArray) (x : ByteArray) (h : tl s = flat out ++ tl x) (ho : ∀ y ∈ out, ∀ b ∈ tl y, b ≠ 32) (hx : ∀ b ∈ tl x, b ≠ 32) : wordsOf s = out ++ [x] := by
  rw [flat_join] at h
  cases out with
  | nil => exact words_join x [] s hx (fun y hy => absurd hy (by simp)) (by simpa using h)
  | cons y ys =>
    refine words_join y (ys ++ [x]) s (ho y (by simp)) (fun z hz => ?_) (by simpa using h)
    rcases List.mem_append.1 hz with h | h
    · exact ho z (by simp [h])
    · rw [List.mem_singleton.1 h]; exact hx
theorem info_str : ∃ i, Tryz.prog.info? 9 = some i ∧ i.zero = some (.string ⟨#[]⟩) ∧ i.size = 1 ∧ i.bytes = 16 := by
  have h : (Tryz.prog.info? 9).map (fun i => (i.zero, i.size, i.bytes)) = some (some (.string ⟨#[]⟩), 1, 16) := by kernel_rfl
  obtain ⟨i, h1, h2⟩ := Option.map_eq_some_iff.1 h
  injection h2 with a b
  injection b with b c
  exact ⟨i, h1, a, b, c⟩
/-- How far a text is parted. -/
structure Fi (s : ByteArray) (i fr : Nat) (out : List ByteArray) : Prop where
  few : out.length ≤ i
  on : i ≤ s.size → fr ≤ i ∧ (tl s).take fr = flat out ∧ (∀ j, fr ≤ j → j < i → (tl s)[j]? ≠ some 32) ∧ ∀ y ∈ out, ∀ b ∈ tl y, b ≠ 32
  off : s.size < i → out = wordsOf s
theorem part_mem {l : List UInt8} {fr i : Nat} (h : ∀ j, fr ≤ j → j < i → l[j]? ≠ some 32) : ∀ b ∈ (l.take i).drop fr, b ≠ 32 := by
  intro b hb e
  obtain ⟨j, hj, rfl⟩ := List.getElem_of_mem hb
  rw [List.length_drop, List.length_take] at hj
  have := h (fr + j) (by omega) (by omega)
  apply this
  rw [← e, List.getElem_drop, List.getElem_take]
  exact List.getElem?_eq_getElem _
theorem part_app (l : List UInt8) (fr i : Nat) (h : fr ≤ i) : l.take fr ++ (l.take i).drop fr = l.take i := by
  have : l.take fr = (l.take i).take fr := by rw [List.take_take, Nat.min_eq_left h]
  rw [this, List.take_append_drop]
theorem Fi.last {s : ByteArray} {fr : Nat} {out : List ByteArray} (h : Fi s s.size fr out) : out ++ [s.extract fr s.size] = wordsOf s := by
  obtain ⟨h1, h2, h3, h4⟩ := h.on (Nat.le_refl _)
  have ht : tl (s.extract fr s.size) = ((tl s).take s.size).drop fr := FeedT.tl_ext s fr s.size
  refine (words_flat s out _ ?_ h4 ?_).symm
  · rw [ht, ← h2, part_app _ _ _ h1, List.take_of_length_le (by rw [tl_length]; exact Nat.le_refl _)]
  · rw [ht]; exact part_mem h3
theorem Fi.blank {s : ByteArray} {i fr : Nat} {out : List ByteArray} (h : Fi s i fr out) (hi : i < s.size) (hb : (tl s)[i]? = some 32) : Fi s (i + 1) (i + 1) (out ++ [s.extract fr i]) := by
  obtain ⟨h1, h2, h3, h4⟩ := h.on (by omega)
  have ht : tl (s.extract fr i) = ((tl s).take i).drop fr := FeedT.tl_ext s fr i
  have hw : ∀ b ∈ tl (s.extract fr i), b ≠ 32 := by rw [ht]; exact part_mem h3
  refine ⟨by rw [List.length_append, List.length_singleton]; have := h.few; omega, fun _ => ⟨Nat.le_refl _, ?_, fun j a b => by omega, fun y hy => ?_⟩, fun e => by omega⟩
  · rw [flat_snoc, ht, ← List.append_assoc, ← h2, part_app _ _ _ h1, List.take_add_one, hb]
    first | rfl | simp
  · rcases List.mem_append.1 hy with h | h
    · exact h4 y h
    · rw [List.mem_singleton.1 h]; exact hw
theorem Fi.other {s : ByteArray} {i fr : Nat} {out : List ByteArray} (h : Fi s i fr out) (hi : i < s.size) (hb : (tl s)[i]? ≠ some 32) : Fi s (i + 1) fr out := by
  obtain ⟨h1, h2, h3, h4⟩ := h.on (by omega)
  refine ⟨by have := h.few; omega, fun _ => ⟨by omega, h2, fun j a b => ?_, h4⟩, fun e => by omega⟩
  by_cases e : j = i
  · rw [e]; exact hb
  · exact h3 j a (by omega)
set_option maxHeartbeats 4000000 in
set_option maxRecDepth 20000 in
theorem reffields_calls (s : ByteArray) (hs : s.size ≤ 100) (w : World) : Calls Tryz.prog 24 #[.string s] w fun e w' => ∃ v, e = .returned v ∧ SRow w' w.heap.size v (wordsOf s) ∧ Below w.heap.size w w' := by
  have HL := Aside0.mk (tl_length s)
  obtain ⟨inf, hi0, hi1, hi2, hi3⟩ := info_str
  have hinf := Aside0.mk (And.intro hi0 (And.intro hi1 (And.intro hi2 hi3)))
  have BB := Aside0.mk (Below.refl w.heap.size w)
  clear hi0 hi1 hi2 hi3
  go_enter Tryz.func24, Tryz.ntmps24
  go_wp2_with fail
  go_loopw [3, 4, 5] (fun vo vf vi wx => ∃ (i fr : Nat) (out : List ByteArray), vi = .int .i64 (i : Int) ∧ vf = .int .i64 (fr : Int) ∧ i ≤ s.size + 1 ∧ Aside0 (Fi s i fr out) ∧ Aside0 (SRow wx w.heap.size vo out) ∧ Aside0 (Below w.heap.size w wx)) (fun _ _ vi _ => s.size + 1 - (intOf vi).toNat)
  case atStart => exact ⟨0, 0, [], rfl, rfl, by omega, ⟨⟨by simp, fun _ => ⟨Nat.le_refl _, by simp [flat], fun j a b => by omega, fun y hy => absurd hy (by simp)⟩, fun e => by omega⟩⟩, ⟨World.ownsRow_nil _ _ _ _⟩, BB⟩
  case round =>
    clear BB
    obtain ⟨i, fr, out, rfl, rfl, hi, HF, HR2, HK2⟩ := hrel
    by_cases hle : i ≤ s.size
    · have hLl : out.length ≤ 1000 := by have := HF.out.few; omega
      have hfi : fr ≤ i := (HF.out.on hle).1
      have hfiI : (fr : Int) ≤ (i : Int) := by omega
      have g0 : decide ((i : Int) ≤ (s.size : Int)) = true := decide_eq_true (by omega)
      by_cases he : i = s.size
      · subst he
        have HV := Aside0.mk HF.out.last
        obtain ⟨x, hx⟩ : ∃ x, s.extract fr s.size = x := ⟨_, rfl⟩
        rw [hx] at HV
        have hown : (wr.alloc (.cells #[.string x] 9)).ownsRow w.heap.size 9 1 _ out.length (out.map Value.string) := HR2.out.below (by apply below_alloc; exact Below.refl _ _)
        have hnews := World.news_of_block (show (wr.alloc (.cells #[.string x] 9 (0, 0))).heap[wr.heap.size]? = some (.cells #[.string x] 9 (0, 0)) from blk_new wr (.cells #[.string x] 9 (0, 0)))
        have hgx : (wr.alloc (.cells #[.string x] 9)).heap.size = wr.heap.size + 1 := by simp
        have hwB : w.heap.size ≤ (wr.alloc (.cells #[.string x] 9)).heap.size := by rw [hgx]; have := HK2.out.size; omega
        have hLm : out.length + 1 ≤ maxLen := by unfold maxLen; omega
        have hLb : (out.length + 1) * 16 ≤ 140737488355328 := by omega
        obtain ⟨hi0, hi1, hi2, hi3⟩ := hinf.out
        have hown' := Lib.hid hown
        have hnews' := Lib.hid hnews
        have hgx' := Lib.hid hgx
        have hi0' := Lib.hid hi0
        have hi1' := Lib.hid hi1
        have hi2' := Lib.hid hi2
        have hi3' := Lib.hid hi3
        have BA : Below w.heap.size w (wr.alloc (.cells #[.string x] 9)) := by apply below_alloc; exact HK2.out
        have BA' := Aside0.mk BA
        clear hown hnews hgx hi0 hi1 hi2 hi3 BA
        go_wp2_with (first | (at_builtin; go_loud (refine wpList_append_lies _ rfl _ _ 33 rfl w.heap.size 9 inf (.string ⟨#[]⟩) 1 16 Tryz.underlying33 hi0'.out hi1'.out hi2'.out hi3'.out rfl (by decide) _ out.length (out.map Value.string) rfl hown'.out ⟨wr.heap.size, 0, none⟩ 1 1 [.string x] rfl rfl hnews'.out ?c1 (by decide) hLm hLb hwB (wr.heap.size + 1) hgx'.out ?_)))
        case c1 => first | rfl | exact ⟨rfl, rfl⟩ | (simp [Value.oneCell']; done)
        intro g2 cap2 w2 hown2 hgr2 hat2 hlt2
        obtain ⟨R2, B2⟩ := srow_app BA'.out hown'.out hown2 hgr2
        have R2' := Aside0.mk R2
        have B2' := Aside0.mk B2
        clear hown2 hgr2 hat2 hlt2 R2 B2 hown' hnews' hgx' hi0' hi1' hi2' hi3' hwB hLm hLb
        clear hx
        go_wp2_with fail
        go_roundw
        case rel => exact ⟨s.size + 1, s.size + 1, out ++ [x], by first | rfl | (push_cast; rfl), by first | rfl | (push_cast; rfl), by omega, ⟨⟨by rw [List.length_append, List.length_singleton]; have := HF.out.few; omega, fun e => by omega, fun _ => HV.out⟩⟩, R2', B2'⟩
        case measure => first | (simp [intOf]; done) | (simp [intOf]; omega)
      · have hlt : i < s.size := by omega
        have be : ((i : Int) == (s.size : Int)) = false := beq_eq_false_iff_ne.2 (by omega)
        obtain ⟨c, hc⟩ : ∃ c, s[i]'hlt = c := ⟨_, rfl⟩
        have hsc : ∀ h : i < s.size, s[i]'h = c := fun h => hc
        have hge : (tl s)[i]? = some c := by
          rw [← hc]
          exact List.getElem?_eq_getElem (by rw [tl_length]; exact hlt)
        clear hc
        by_cases h32 : c.toNat = 32
        · have b32 : ((c.toNat : Int) == 32) = true := beq_iff_eq.2 (by omega)
          have hc32 : c = 32 := UInt8.toNat_inj.1 h32
          have HV := Aside0.mk (HF.out.blank hlt (by rw [hge, hc32]))
          obtain ⟨x, hx⟩ : ∃ x, s.extract fr i = x := ⟨_, rfl⟩
          rw [hx] at HV
          clear hge hc32 h32
          have hown : (wr.alloc (.cells #[.string x] 9)).ownsRow w.heap.size 9 1 _ out.length (out.map Value.string) := HR2.out.below (by apply below_alloc; exact Below.refl _ _)
          have hnews := World.news_of_block (show (wr.alloc (.cells #[.string x] 9 (0, 0))).heap[wr.heap.size]? = some (.cells #[.string x] 9 (0, 0)) from blk_new wr (.cells #[.string x] 9 (0, 0)))
          have hgx : (wr.alloc (.cells #[.string x] 9)).heap.size = wr.heap.size + 1 := by simp
          have hwB : w.heap.size ≤ (wr.alloc (.cells #[.string x] 9)).heap.size := by rw [hgx]; have := HK2.out.size; omega
          have hLm : out.length + 1 ≤ maxLen := by unfold maxLen; omega
          have hLb : (out.length + 1) * 16 ≤ 140737488355328 := by omega
          obtain ⟨hi0, hi1, hi2, hi3⟩ := hinf.out
          have hown' := Lib.hid hown
          have hnews' := Lib.hid hnews
          have hgx' := Lib.hid hgx
          have hi0' := Lib.hid hi0
          have hi1' := Lib.hid hi1
          have hi2' := Lib.hid hi2
          have hi3' := Lib.hid hi3
          have BA : Below w.heap.size w (wr.alloc (.cells #[.string x] 9)) := by apply below_alloc; exact HK2.out
          have BA' := Aside0.mk BA
          clear hown hnews hgx hi0 hi1 hi2 hi3 BA
          go_wp2_with (first | (at_builtin; go_loud (refine wpList_append_lies _ rfl _ _ 33 rfl w.heap.size 9 inf (.string ⟨#[]⟩) 1 16 Tryz.underlying33 hi0'.out hi1'.out hi2'.out hi3'.out rfl (by decide) _ out.length (out.map Value.string) rfl hown'.out ⟨wr.heap.size, 0, none⟩ 1 1 [.string x] rfl rfl hnews'.out ?c1 (by decide) hLm hLb hwB (wr.heap.size + 1) hgx'.out ?_)))
          case c1 => first | rfl | exact ⟨rfl, rfl⟩ | (simp [Value.oneCell']; done)
          intro g2 cap2 w2 hown2 hgr2 hat2 hlt2
          obtain ⟨R2, B2⟩ := srow_app BA'.out hown'.out hown2 hgr2
          have R2' := Aside0.mk R2
          have B2' := Aside0.mk B2
          clear hown2 hgr2 hat2 hlt2 R2 B2 hown' hnews' hgx' hi0' hi1' hi2' hi3' hwB hLm hLb
          clear hx
          go_wp2_with fail
          go_roundw
          case rel => exact ⟨i + 1, i + 1, out ++ [x], by first | rfl | (push_cast; rfl), by first | rfl | (push_cast; rfl), by omega, HV, R2', B2'⟩
          case measure => simp [intOf]; omega
        · have b32 : ((c.toNat : Int) == 32) = false := beq_eq_false_iff_ne.2 (by omega)
          have HV := Aside0.mk (HF.out.other hlt (by rw [hge]; intro e; apply h32; rw [Option.some.inj e]; rfl))
          clear hge h32
          go_wp2_with fail
          go_roundw
          case rel => exact ⟨i + 1, fr, out, by first | rfl | (push_cast; rfl), rfl, by omega, HV, HR2, HK2⟩
          case measure => simp [intOf]; omega
    · have g0 : decide ((i : Int) ≤ (s.size : Int)) = false := decide_eq_false (by omega)
      have HW := Aside0.mk (HF.out.off (by omega))
      obtain ⟨oa, oc, rfl⟩ := HR2.out.val
      go_wp2_with fail
      go_ret
      have h := HR2.out
      rw [HW.out] at h ⊢
      exact ⟨_, rfl, h, HK2.out⟩
end Go.Proofs.YtbecemdehelooaaGreatDoor.FeedRf
