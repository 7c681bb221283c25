/- DiskFull's walk, by hand. -/
import Derived.Test.YtjbgboaghphaeaaPureDiskCuts
import Derived.Outline
import Derived.Lib.Hide
import Derived.Handy
import Derived.Deep.QuietTactic
import Derived.BigQuiet
namespace Go.Proofs.Ytjbgboaghphaeaa.FullWalk
open Go.RowKit Go.Proofs.Ytjbgboaghphaeaa.HDiskCuts Go.Proofs.Ytjbgboaghphaeaa.Pure.DiskCutsP Go.Proofs.YtjbgboaghphaeaaW.PrintWords Go.Proofs.YtjbgboaghphaeaaW.PrintLast Go.Proofs.YtjbgboaghphaeaaW.PrintMore

set_option linter.unusedVariables false
set_option linter.unusedSimpArgs false

theorem awake_ok (w : World) : Calls Try.prog 20 #[] w fun e w' => e = .returned (.bool true) ∧ Below w.heap.size w w' := hagglerlaw05_awake.calls true w awake_f
theorem append_ok (x y t : ByteArray) (w : World) (h : x.size + y.size + t.size ≤ 1000000) : Calls Try.prog 27 #[.agg #[.string x, .string y], .string t] w fun e w' => e = .returned (.tuple #[.agg #[.string x, .string (y ++ t)], .int .i64 0]) ∧ Below w.heap.size w w' := disk_Append.calls x y t x (y ++ t) 0 w (append_f x y t h)
theorem append_no (x y t : ByteArray) (w : World) (h0 : x.size + y.size + t.size ≤ 4000000000) (h : 1000000 < x.size + y.size + t.size) : Calls Try.prog 27 #[.agg #[.string x, .string y], .string t] w fun e w' => e = .returned (.tuple #[.agg #[.string x, .string y], .int .i64 50]) ∧ Below w.heap.size w w' := disk_Append.calls x y t x y 50 w (append_full x y t h0 h)
theorem sync_ok (x y : ByteArray) (w : World) (h : x.size + y.size ≤ 2000000) : Calls Try.prog 29 #[.agg #[.string x, .string y]] w fun e w' => e = .returned (.agg #[.string (x ++ y), .string ⟨#[]⟩]) ∧ Below w.heap.size w w' := disk_Sync.calls x y _ _ w (sync_f x y h)
theorem sync_nil (A : ByteArray) (w : World) (h : A.size ≤ 2000000) : Calls Try.prog 29 #[.agg #[.string ⟨#[]⟩, .string A]] w fun e w' => e = .returned (.agg #[.string A, .string ⟨#[]⟩]) ∧ Below w.heap.size w w' := by
  have := sync_ok ⟨#[]⟩ A w (by rw [sz_nil]; omega)
  rw [nil_ap] at this
  exact this
theorem all_ok (x y : ByteArray) (w : World) (h : x.size + y.size ≤ 2000000) : Calls Try.prog 31 #[.agg #[.string x, .string y]] w fun e w' => e = .returned (.string (x ++ y)) ∧ Below w.heap.size w w' := disk_All.calls x y _ w (all_f x y h)
def In64 (c : Int) : Prop := -9223372036854775808 ≤ c ∧ c ≤ 9223372036854775807
theorem in64_of {c : Int} (h : (Lit.int .i64 c).wf = true) : In64 c := by
  unfold Lit.wf at h
  rw [Bool.and_eq_true, decide_eq_true_eq, decide_eq_true_eq] at h
  exact ⟨h.1, h.2⟩
theorem wf_of {c : Int} (h : In64 c) : (Lit.int .i64 c).wf = true := by
  unfold Lit.wf
  rw [Bool.and_eq_true, decide_eq_true_eq, decide_eq_true_eq]
  exact ⟨h.1, h.2⟩
/-- Which of n things a raw number speaks of. -/
def pk (c n : Int) : Int := Int.emod (if c < 0 then -(c + 1) else c) n
theorem pk_range (c n : Int) (h : 0 < n) : 0 ≤ pk c n ∧ pk c n < n := ⟨Int.emod_nonneg _ (by omega), Int.emod_lt_of_pos _ h⟩

set_option maxHeartbeats 1000000 in
theorem pick_calls (c n : Int) (w : World) (hc : In64 c) (h0 : 0 < n) (h1 : n ≤ 1000000) :
    Calls Try.prog 22 #[.int .i64 c, .int .i64 n] w fun e w' => e = .returned (.int .i64 (pk c n)) ∧ w = w' := by
  unfold In64 at hc
  have hr := pk_range c n h0
  have hn0 : (n == 0) = false := beq_eq_false_iff_ne.2 (by omega)
  have hn1 : (n == -1) = false := beq_eq_false_iff_ne.2 (by omega)
  by_cases hneg : c < 0
  · have e1 : wrap64 (c + 1) = c + 1 := by unfold wrap64; omega
    have e2 : wrap64 (-(c + 1)) = -(c + 1) := by unfold wrap64; omega
    have e3 : (-(c + 1)).tmod n = pk c n := by unfold pk; rw [if_pos hneg, Int.tmod_eq_emod_of_nonneg (by omega)]; rfl
    have e4 : wrap64 (pk c n) = pk c n := by unfold wrap64; omega
    have H := Lib.hid (And.intro e1 (And.intro e2 (And.intro e3 e4)))
    have d : decide (c < 0) = true := decide_eq_true hneg
    go_enter Try.func22, Try.ntmps22
    go_wp2
    go_returns
    obtain ⟨e1, e2, e3, e4⟩ := H.out
    exact ⟨rfl, rfl⟩
  · have e3 : c.tmod n = pk c n := by unfold pk; rw [if_neg hneg, Int.tmod_eq_emod_of_nonneg (by omega)]; rfl
    have e4 : wrap64 (pk c n) = pk c n := by unfold wrap64; omega
    have H := Lib.hid (And.intro e3 e4)
    have d : decide (c < 0) = false := decide_eq_false hneg
    go_enter Try.func22, Try.ntmps22
    go_wp2
    go_returns
    obtain ⟨e3, e4⟩ := H.out
    exact ⟨rfl, rfl⟩


set_option maxHeartbeats 2000000 in
set_option maxRecDepth 20000 in
theorem full_walk (n : Int) (s : ByteArray) (w : World) (hn : (Lit.int .i64 n).wf = true) (hs : s.size ≤ 140737488351232) :
    Calls Try.prog 11 #[.int .i64 n, .string s] w fun e w' => e = .returned (.bool true) ∧ Below w.heap.size w w' := by
  obtain ⟨r0, r1⟩ := pk_range n 3 (by decide)
  obtain ⟨r, hr⟩ : ∃ r : Nat, pk n 3 = r := ⟨(pk n 3).toNat, by omega⟩
  rw [hr] at r0 r1
  have HP := Lib.hid (fun w => pick_calls n 3 w (in64_of hn) (by decide) (by decide))
  have hr' := Aside0.mk hr
  clear hr hn r0
  go_enter Try.func11, Try.ntmps11
  go_wp2_with fail
  refine (awake_ok w).mono ?_
  rintro e w1 ⟨rfl, B1⟩
  have B1' := Aside0.mk B1
  clear B1
  go_wp2_with fail
  go_loopw [6] (fun vi wr => ∃ (b : ByteArray) (j : Nat), vi = .string b ∧ Aside0 (b.size * 2 ^ j = 1048576) ∧ wr = w1) (fun vi _ => match vi with | .string b => 1048576 - b.size | _ => 0)
  case atStart => exact ⟨_, 16, rfl, ⟨by decide⟩, rfl⟩
  case round =>
    obtain ⟨b, j, rfl, hj, rfl⟩ := hrel
    have hb1 : b.size ≤ 1048576 := by
      have := hj.out
      have h1 : 1 ≤ 2 ^ j := Nat.one_le_two_pow
      calc b.size = b.size * 1 := by omega
        _ ≤ b.size * 2 ^ j := Nat.mul_le_mul_left _ h1
        _ = 1048576 := this
    by_cases hb : b.size < 1000000
    · cases j with
      | zero => have := hj.out; rw [Nat.pow_zero] at this; omega
      | succ j =>
        have hj2 : Aside0 ((b ++ b).size * 2 ^ j = 1048576) := ⟨by rw [sz_ap]; have := hj.out; rw [Nat.pow_succ] at this; rw [← this, Nat.mul_comm (2 ^ j) 2, ← Nat.mul_assoc, Nat.mul_two]⟩
        have hpos : 0 < b.size := Nat.pos_of_ne_zero (fun e => by have := hj.out; rw [e] at this; simp at this)
        have hsz : Aside0 ((b ++ b).size = b.size + b.size) := ⟨sz_ap b b⟩
        have hf : ¬ (9223372036854775807 < b.size + b.size) := by omega
        have d0 : decide ((b.size : Int) < 1000000) = true := decide_eq_true (by omega)
        have d1 : decide (b.size < 1000000) = true := decide_eq_true hb
        have hb' := Aside0.mk hb
        clear hb1 hb
        go_wp2_with fail
        refine ⟨⟨_, j, rfl, hj2, trivial⟩, ?_⟩
        show 1048576 - (b ++ b).size < 1048576 - b.size
        rw [hsz.out]; have := hb'.out; omega
    · have hb2 : b.size = 1048576 := by
        cases j with
        | zero => have := hj.out; rw [Nat.pow_zero] at this; omega
        | succ j => 
          have := hj.out; rw [Nat.pow_succ] at this
          have h1 : 1 ≤ 2 ^ j := Nat.one_le_two_pow
          have h2 : b.size * (2 ^ j * 2) ≥ b.size * (1 * 2) := Nat.mul_le_mul_left _ (Nat.mul_le_mul_right _ h1)
          omega
      have hb2' := Aside0.mk hb2
      obtain ⟨k, hk⟩ : ∃ k : Nat, 999999 + r = k := ⟨_, rfl⟩
      have hw1 : wrap64 ((r : Int) + 999999) = k := by unfold wrap64; omega
      have hk' := Aside0.mk hk
      have d0 : decide ((b.size : Int) < 1000000) = false := decide_eq_false (by omega)
      have d1 : decide (b.size < 1000000) = false := decide_eq_false (by omega)
      by_cases hs1 : s.size ≤ 100
      · have hmi : min (s.size : Int) 100 = s.size := by omega
        have hT := Aside0.mk hs1
        clear hb1 hb2 hk hb hs1 hw1
        go_wp2_with fail
        refine (HP.out wr).mono ?_
        rintro e w2 ⟨rfl, rfl⟩
        rw [hr'.out]
        go_upto_region 6 with (fail)
        rw [show ((r : Int) + 999999) = (k : Int) by have := hk'.out; omega]
        have hk2 : k ≤ 1000001 := by have := hk'.out; omega
        have hk3 := Aside0.mk hk2
        have hmk : min (k : Int) (b.size : Int) = k := by have := hb2'.out; omega
        have hkb : (k : Int) ≤ b.size := by have := hb2'.out; omega
        have hkb2 : k ≤ b.size := by have := hb2'.out; omega
        have hA : (b.extract 0 k).size = k := by rw [ByteArray.size_extract]; have := hb2'.out; omega
        obtain ⟨A, hAA⟩ : ∃ A, b.extract 0 k = A := ⟨_, rfl⟩
        rw [hAA] at hA
        have hA' := Aside0.mk hA
        have hAA' := Aside0.mk hAA
        clear hk2 hAA hA d0 d1
        go_upto_region 7 with (fail)
        try simp only [hTT'.out]
        go_wp2_with fail
        rw [hAA'.out]
        have hT2 := hT.out
        have hk4 := hk3.out
        by_cases hkm : k ≤ 1000000
        · have dk0 : decide ((1000000 : Int) < k) = false := decide_eq_false (by omega)
          have dk1 : decide (1000000 < k) = false := decide_eq_false (by omega)
          refine (append_ok ⟨#[]⟩ ⟨#[]⟩ A wr (by rw [hA'.out]; rw [sz_nil]; omega)).mono ?_
          rintro e w3 ⟨rfl, B3⟩
          rw [nil_ap]
          have B3' := B1'.out.trans (B3.mono B1'.out.size)
          obtain ⟨V, hV⟩ : ∃ Q, Q = w3.alloc (.cells #[.string (⟨#[]⟩ : ByteArray), .string A] 33) := ⟨_, rfl⟩
          obtain ⟨X, hX⟩ : ∃ Q, Q = w3.heap.size := ⟨_, rfl⟩
          have BV : Below w.heap.size w V := by rw [hV]; apply below_alloc; exact B3'
          have bX : V.heap[X]? = some (.cells #[.string (⟨#[]⟩ : ByteArray), .string A] 33 (0, 0)) := by rw [hV, hX]; exact heap_alloc_new _ _
          have x0 : (w3.alloc (.cells #[.string (⟨#[]⟩ : ByteArray), .string A] 33)).cell? ⟨w3.heap.size, 0, none⟩ = some (.string (⟨#[]⟩ : ByteArray)) := by rw [← hV, ← hX]; exact (blk_cell bX 0).trans rfl
          have x1 : (w3.alloc (.cells #[.string (⟨#[]⟩ : ByteArray), .string A] 33)).cell? ⟨w3.heap.size, 1, none⟩ = some (.string A) := by rw [← hV, ← hX]; exact (blk_cell bX 1).trans rfl
          have hVa := Aside0.mk hV
          have hXa := Aside0.mk hX
          clear hV hX
          have BV' := Aside0.mk BV
          have bX' := Aside0.mk bX
          have hkm' := Aside0.mk hkm
          clear B3 B3' BV bX hT2 hk4 hkm hmk hkb hkb2
          go_wp2_with fail
          rw [← hVa.out, ← hXa.out]
          refine (sync_ok ⟨#[]⟩ A V (by rw [hA'.out]; rw [sz_nil]; have := hkm'.out; omega)).mono ?_
          rintro e w4 ⟨rfl, B4⟩
          rw [nil_ap]
          have bX4 := Aside0.mk ((B4.block _ (blk_lt bX'.out)).trans bX'.out)
          have B4' := Aside0.mk (BV'.out.trans (B4.mono BV'.out.size))
          clear x0 x1 B4
          go_wp2_with fail
          have hsz1 : Aside0 (A.size + (⟨#[]⟩ : ByteArray).size = k) := ⟨by rw [hA'.out]; rfl⟩
          by_cases hkt : k + s.size ≤ 1000000
          · have dt0 : decide (wrap64 ((1000000 : Int) - k) < s.size) = false := decide_eq_false (by unfold wrap64; omega)
            try rw [hTT'.out]
            have hw2 : wrap64 ((k : Int) + s.size) = k + s.size := by have := hT.out; have := hk3.out; unfold wrap64; omega
            with_reducible refine (append_ok A ⟨#[]⟩ s _ (by rw [hsz1.out]; exact hkt)).mono ?_
            rintro e w5 ⟨rfl, B5⟩
            rw [nil_ap]
            have B5' := B4'.out.trans (B5.mono B4'.out.size)
            obtain ⟨U, hU⟩ : ∃ Q, Q = w5.alloc (.cells #[.string A, .string s] 33) := ⟨_, rfl⟩
            obtain ⟨Y, hY⟩ : ∃ Q, Q = w5.heap.size := ⟨_, rfl⟩
            have BU : Below w.heap.size w U := by rw [hU]; apply below_alloc; exact B5'
            have bY : U.heap[Y]? = some (.cells #[.string A, .string s] 33 (0, 0)) := by rw [hU, hY]; exact heap_alloc_new _ _
            have y0 : (w5.alloc (.cells #[.string A, .string s] 33)).cell? ⟨w5.heap.size, 0, none⟩ = some (.string A) := by rw [← hU, ← hY]; exact (blk_cell bY 0).trans rfl
            have y1 : (w5.alloc (.cells #[.string A, .string s] 33)).cell? ⟨w5.heap.size, 1, none⟩ = some (.string s) := by rw [← hU, ← hY]; exact (blk_cell bY 1).trans rfl
            have hUa := Aside0.mk hU
            have hYa := Aside0.mk hY
            clear hU hY
            have BU' := Aside0.mk BU
            have hkt' := Aside0.mk hkt
            have hAs := hA'.out
            clear B5 B5' BU bY hkt
            go_wp2_with fail
            rw [← hUa.out]
            refine (all_ok A s _ (by rw [hA'.out]; have := hT.out; have := hk3.out; omega)).mono ?_
            rintro e w6 ⟨rfl, B6⟩
            have hS1 : (A ++ s).size = k + s.size := by rw [sz_ap, hA'.out]
            have B6' := Aside0.mk (BU'.out.trans (B6.mono BU'.out.size))
            clear y0 y1 B6
            go_wp2_with fail
            go_returns
            exact ⟨rfl, B6'.out⟩
          · have dt0 : decide (wrap64 ((1000000 : Int) - k) < s.size) = true := decide_eq_true (by have := hk3.out; unfold wrap64; omega)
            try rw [hTT'.out]
            with_reducible refine (append_no A ⟨#[]⟩ s _ (by rw [hsz1.out]; have := hT.out; have := hk3.out; omega) (by rw [hsz1.out]; omega)).mono ?_
            rintro e w5 ⟨rfl, B5⟩
            have B5' := B4'.out.trans (B5.mono B4'.out.size)
            obtain ⟨U, hU⟩ : ∃ Q, Q = w5.alloc (.cells #[.string A, .string (⟨#[]⟩ : ByteArray)] 33) := ⟨_, rfl⟩
            obtain ⟨Y, hY⟩ : ∃ Q, Q = w5.heap.size := ⟨_, rfl⟩
            have BU : Below w.heap.size w U := by rw [hU]; apply below_alloc; exact B5'
            have bY : U.heap[Y]? = some (.cells #[.string A, .string (⟨#[]⟩ : ByteArray)] 33 (0, 0)) := by rw [hU, hY]; exact heap_alloc_new _ _
            have y0 : (w5.alloc (.cells #[.string A, .string (⟨#[]⟩ : ByteArray)] 33)).cell? ⟨w5.heap.size, 0, none⟩ = some (.string A) := by rw [← hU, ← hY]; exact (blk_cell bY 0).trans rfl
            have y1 : (w5.alloc (.cells #[.string A, .string (⟨#[]⟩ : ByteArray)] 33)).cell? ⟨w5.heap.size, 1, none⟩ = some (.string (⟨#[]⟩ : ByteArray)) := by rw [← hU, ← hY]; exact (blk_cell bY 1).trans rfl
            have hUa := Aside0.mk hU
            have hYa := Aside0.mk hY
            clear hU hY
            have bX6 := Aside0.mk ((B5.block _ (blk_lt bX4.out)).trans bX4.out)
            have BU' := Aside0.mk BU
            have bYa := Aside0.mk bY
            clear B5 B5' BU bY hkt
            go_wp2_with fail
            rw [← hUa.out, ← hYa.out]
            have hb0 := bX6.out
            have y0' : U.cell? ⟨Y, 0, none⟩ = some (.string A) := (blk_cell bYa.out 0).trans rfl
            have y1' : U.cell? ⟨Y, 1, none⟩ = some (.string (⟨#[]⟩ : ByteArray)) := (blk_cell bYa.out 1).trans rfl
            have z0' : U.cell? ⟨X, 0, none⟩ = some (.string (⟨#[]⟩ : ByteArray)) := by rw [hUa.out]; exact (blk_cell (blk_alloc hb0 _) 0).trans rfl
            have z1' : U.cell? ⟨X, 1, none⟩ = some (.string A) := by rw [hUa.out]; exact (blk_cell (blk_alloc hb0 _) 1).trans rfl
            have lY := blk_lt bYa.out
            have lX : X < U.heap.size := by rw [hUa.out]; exact blk_lt (blk_alloc hb0 _)
            have hAs : A.size ≤ 2000000 := by rw [hA'.out]; have := hk3.out; omega
            clear y0 y1 hb0
            refine start_ (n := 16) (S := fun w' => w'.cell? ⟨Y, 0, none⟩ = some (.string A) ∧ w'.cell? ⟨Y, 1, none⟩ = some (.string (⟨#[]⟩ : ByteArray)) ∧ w'.cell? ⟨X, 0, none⟩ = some (.string (⟨#[]⟩ : ByteArray)) ∧ w'.cell? ⟨X, 1, none⟩ = some (.string A) ∧ Below U.heap.size U w') (ds := []) #[false, false, false, false, false, false, false, false, false, false, false, false, false, false, false, false] (by kernel_rfl) rfl rfl ⟨y0', y1', z0', z1', (by apply below_drew1; exact Below.refl _ _)⟩ (fun hHeld => ?_)
            refine pure_ (i := 0) (N := some 63) (v := ?_) (a' := ?_) #[true, false, false, false, false, false, false, false, false, false, false, false, false, false, false, false] rfl rfl (by kernel_rfl) (fun _ _ _ h => h) (Or.inl ⟨by rfl, ?_⟩) ?_ ?_
            rotate_left
            · intro w'
              go_simp
              with_reducible rfl
            rotate_left
            · simp only [Act.put, List.setIfInBounds_toArray, List.set_cons_zero, List.set_cons_succ, i64_w, i32_w]
              rfl
            refine pure_ (i := 1) (N := some 64) (v := ?_) (a' := ?_) #[true, true, false, false, false, false, false, false, false, false, false, false, false, false, false, false] rfl rfl (by kernel_rfl) (fun _ _ _ h => h) (Or.inl ⟨by rfl, ?_⟩) ?_ ?_
            rotate_left
            · intro w'
              go_simp
              with_reducible rfl
            rotate_left
            · simp only [Act.put, List.setIfInBounds_toArray, List.set_cons_zero, List.set_cons_succ, i64_w, i32_w]
              rfl
            refine pure_ (i := 2) (N := some 65) (v := ?_) (a' := ?_) #[true, true, true, false, false, false, false, false, false, false, false, false, false, false, false, false] rfl rfl (by kernel_rfl) (fun _ _ _ h => h) (Or.inl ⟨by rfl, ?_⟩) ?_ ?_
            rotate_left
            · intro w'
              go_simp
              with_reducible rfl
            rotate_left
            · simp only [Act.put, List.setIfInBounds_toArray, List.set_cons_zero, List.set_cons_succ, i64_w, i32_w]
              rfl
            refine pure_ (i := 3) (N := some 66) (v := ?_) (a' := ?_) #[true, true, true, true, false, false, false, false, false, false, false, false, false, false, false, false] rfl rfl (by kernel_rfl) (fun _ _ _ h => h) (Or.inl ⟨by rfl, ?_⟩) ?_ ?_
            rotate_left
            · intro w'
              go_simp
              with_reducible rfl
            rotate_left
            · simp only [Act.put, List.setIfInBounds_toArray, List.set_cons_zero, List.set_cons_succ, i64_w, i32_w]
              rfl
            refine pure_ (i := 4) (N := some 67) (v := ?_) (a' := ?_) #[true, true, true, true, true, false, false, false, false, false, false, false, false, false, false, false] rfl rfl (by kernel_rfl) (fun _ _ _ h => h) (Or.inl ⟨by rfl, ?_⟩) ?_ ?_
            rotate_left
            · intro w'
              go_simp
              with_reducible rfl
            rotate_left
            · simp only [Act.put, List.setIfInBounds_toArray, List.set_cons_zero, List.set_cons_succ, i64_w, i32_w]
              rfl
            refine pure_ (i := 5) (N := some 68) (v := ?_) (a' := ?_) #[true, true, true, true, true, true, false, false, false, false, false, false, false, false, false, false] rfl rfl (by kernel_rfl) (fun _ _ _ h => h) (Or.inl ⟨by rfl, ?_⟩) ?_ ?_
            rotate_left
            · intro w'
              go_simp
              with_reducible rfl
            rotate_left
            · simp only [Act.put, List.setIfInBounds_toArray, List.set_cons_zero, List.set_cons_succ, i64_w, i32_w]
              rfl
            refine pure_ (i := 6) (N := some 69) (v := ?_) (a' := ?_) #[true, true, true, true, true, true, true, false, false, false, false, false, false, false, false, false] rfl rfl (by kernel_rfl) (fun _ _ _ h => h) (Or.inl ⟨by rfl, ?_⟩) ?_ ?_
            rotate_left
            · intro w'
              go_simp
              with_reducible rfl
            rotate_left
            · simp only [Act.put, List.setIfInBounds_toArray, List.set_cons_zero, List.set_cons_succ, i64_w, i32_w]
              rfl
            refine pure_ (i := 7) (N := some 70) (v := ?_) (a' := ?_) #[true, true, true, true, true, true, true, true, false, false, false, false, false, false, false, false] rfl rfl (by kernel_rfl) (fun _ _ _ h => h) (Or.inl ⟨by rfl, ?_⟩) ?_ ?_
            rotate_left
            · intro w'
              go_simp
              with_reducible rfl
            rotate_left
            · simp only [Act.put, List.setIfInBounds_toArray, List.set_cons_zero, List.set_cons_succ, i64_w, i32_w]
              rfl
            refine pure_ (i := 8) (N := some 71) (v := ?_) (a' := ?_) #[true, true, true, true, true, true, true, true, true, false, false, false, false, false, false, false] rfl rfl (by kernel_rfl) (fun _ _ _ h => h) (Or.inl ⟨by rfl, ?_⟩) ?_ ?_
            rotate_left
            · intro w'
              go_simp
              with_reducible rfl
            rotate_left
            · simp only [Act.put, List.setIfInBounds_toArray, List.set_cons_zero, List.set_cons_succ, i64_w, i32_w]
              rfl
            refine pure_ (i := 9) (N := some 72) (v := ?_) (a' := ?_) #[true, true, true, true, true, true, true, true, true, true, false, false, false, false, false, false] rfl rfl (by kernel_rfl) (fun _ _ _ h => h) (Or.inl ⟨by rfl, ?_⟩) ?_ ?_
            rotate_left
            · intro w'
              go_simp
              with_reducible rfl
            rotate_left
            · simp only [Act.put, List.setIfInBounds_toArray, List.set_cons_zero, List.set_cons_succ, i64_w, i32_w]
              rfl
            refine take_ (i := 10) (N := some 73) (v := ?_) (a' := ?_) #[true, true, true, true, true, true, true, true, true, true, true, false, false, false, false, false] rfl rfl (by kernel_rfl) (fun _ _ _ h => h) (Or.inl ⟨by rfl, ?_⟩) hHeld ?_ ?_
            rotate_left
            · rintro w' ⟨s0, s1, s2, s3, s4⟩
              go_simp
              with_reducible rfl
            rotate_left
            · simp only [Act.put, List.setIfInBounds_toArray, List.set_cons_zero, List.set_cons_succ, i64_w, i32_w]
              rfl
            refine take_ (i := 11) (N := some 74) (v := ?_) (a' := ?_) #[true, true, true, true, true, true, true, true, true, true, true, true, false, false, false, false] rfl rfl (by kernel_rfl) (fun _ _ _ h => h) (Or.inl ⟨by rfl, ?_⟩) hHeld ?_ ?_
            rotate_left
            · rintro w' ⟨s0, s1, s2, s3, s4⟩
              go_simp
              with_reducible rfl
            rotate_left
            · simp only [Act.put, List.setIfInBounds_toArray, List.set_cons_zero, List.set_cons_succ, i64_w, i32_w]
              rfl
            refine one_ (i := 12) (N := some 75) #[true, true, true, true, true, true, true, true, true, true, true, true, true, false, false, false] rfl rfl (by kernel_rfl) (by decide) (fun K hK => ?_)
            refine goes_ Try.func29 (by kernel_rfl) rfl #[.agg #[.string ⟨#[]⟩, .string A]] (by rfl) rfl rfl (by simp only [List.map_toArray, List.map_cons, List.map_nil]; rfl) ?_
            with_reducible refine (sync_nil A _ hAs).mono ?_
            rintro e w7 ⟨rfl, B7⟩
            refine ⟨_, rfl, ?_⟩
            have B8 := hHeld.2.2.2.2.trans (B7.mono hHeld.2.2.2.2.size)
            refine hK.out _ _ ⟨(B8.cell (p := ⟨Y, 0, none⟩) lY).trans y0', (B8.cell (p := ⟨Y, 1, none⟩) lY).trans y1', (B8.cell (p := ⟨X, 0, none⟩) lX).trans z0', (B8.cell (p := ⟨X, 1, none⟩) lX).trans z1', B8⟩ (fun hHeld => ?_)
            clear hK K
            refine norm_ (a' := ?_) ?_ ?_
            rotate_left
            · show Act.put _ (some 75) _ = _
              simp only [Act.put, List.setIfInBounds_toArray, List.set_cons_zero, List.set_cons_succ, i64_w, i32_w]
              rfl
            refine pure_ (i := 13) (N := some 76) (v := ?_) (a' := ?_) #[true, true, true, true, true, true, true, true, true, true, true, true, true, true, false, false] rfl rfl (by kernel_rfl) (fun _ _ _ h => h) (Or.inl ⟨by rfl, ?_⟩) ?_ ?_
            rotate_left
            · intro w'
              go_simp
              with_reducible rfl
            rotate_left
            · simp only [Act.put, List.setIfInBounds_toArray, List.set_cons_zero, List.set_cons_succ, i64_w, i32_w]
              rfl
            refine pure_ (i := 14) (N := some 77) (v := ?_) (a' := ?_) #[true, true, true, true, true, true, true, true, true, true, true, true, true, true, true, false] rfl rfl (by kernel_rfl) (fun _ _ _ h => h) (Or.inl ⟨by rfl, ?_⟩) ?_ ?_
            rotate_left
            · intro w'
              go_simp
              with_reducible rfl
            rotate_left
            · simp only [Act.put, List.setIfInBounds_toArray, List.set_cons_zero, List.set_cons_succ, i64_w, i32_w]
              rfl
            refine pure_ (i := 15) (N := some 4) (v := ?_) (a' := ?_) #[true, true, true, true, true, true, true, true, true, true, true, true, true, true, true, true] rfl rfl (by kernel_rfl) (fun _ _ _ h => h) (Or.inl ⟨by rfl, ?_⟩) ?_ ?_
            rotate_left
            · intro w'
              go_simp
              with_reducible rfl
            rotate_left
            · simp only [Act.put, List.setIfInBounds_toArray, List.set_cons_zero, List.set_cons_succ, i64_w, i32_w]
              rfl
            refine done_ (by kernel_rfl) ?_

            have B9 := Aside0.mk (BU'.out.trans (hHeld.2.2.2.2.mono BU'.out.size))
            go_wp2
            go_returns
            exact ⟨rfl, B9.out⟩
        · have dk0 : decide ((1000000 : Int) < k) = true := decide_eq_true (by omega)
          refine (append_no ⟨#[]⟩ ⟨#[]⟩ A wr (by rw [hA'.out]; rw [sz_nil]; omega) (by rw [hA'.out]; rw [sz_nil]; omega)).mono ?_
          rintro e w3 ⟨rfl, B3⟩
          have B3' := B1'.out.trans (B3.mono B1'.out.size)
          obtain ⟨V, hV⟩ : ∃ Q, Q = w3.alloc (.cells #[.string (⟨#[]⟩ : ByteArray), .string (⟨#[]⟩ : ByteArray)] 33) := ⟨_, rfl⟩
          obtain ⟨X, hX⟩ : ∃ Q, Q = w3.heap.size := ⟨_, rfl⟩
          have BV : Below w.heap.size w V := by rw [hV]; apply below_alloc; exact B3'
          have bX : V.heap[X]? = some (.cells #[.string (⟨#[]⟩ : ByteArray), .string (⟨#[]⟩ : ByteArray)] 33 (0, 0)) := by rw [hV, hX]; exact heap_alloc_new _ _
          have x0 : (w3.alloc (.cells #[.string (⟨#[]⟩ : ByteArray), .string (⟨#[]⟩ : ByteArray)] 33)).cell? ⟨w3.heap.size, 0, none⟩ = some (.string (⟨#[]⟩ : ByteArray)) := by rw [← hV, ← hX]; exact (blk_cell bX 0).trans rfl
          have x1 : (w3.alloc (.cells #[.string (⟨#[]⟩ : ByteArray), .string (⟨#[]⟩ : ByteArray)] 33)).cell? ⟨w3.heap.size, 1, none⟩ = some (.string (⟨#[]⟩ : ByteArray)) := by rw [← hV, ← hX]; exact (blk_cell bX 1).trans rfl
          have hVa := Aside0.mk hV
          have hXa := Aside0.mk hX
          clear hV hX
          have BV' := Aside0.mk BV
          have hkm' := Aside0.mk hkm
          clear B3 B3' BV bX hT2 hk4 hkm hmk hkb hkb2
          go_wp2_with fail
          go_returns
          exact ⟨rfl, by first | exact BV'.out | (rw [← hVa.out]; exact BV'.out) | (have h_ := hVa.out; have h2_ := BV'.out; rw [h_] at h2_; exact h2_)⟩
      · have hmi : min (s.size : Int) 100 = 100 := by omega
        have hge : (100 : Int) ≤ s.size := by omega
        have hgn : ((s.size : Int) ≤ 100) = False := eq_false (by omega)
        have hge2 : 100 ≤ s.size := by omega
        have hge3 : 100 < s.size := by omega
        have hT : Aside0 ((s.extract 0 100).size ≤ 100) := ⟨by rw [ByteArray.size_extract]; omega⟩
        obtain ⟨T, hTT⟩ : ∃ T, s.extract 0 100 = T := ⟨_, rfl⟩
        rw [hTT] at hT
        have hTT' := Aside0.mk hTT
        clear hb1 hb2 hk hb hs1 hw1 hTT
        go_wp2_with fail
        · refine (HP.out wr).mono ?_
          rintro e w2 ⟨rfl, rfl⟩
          rw [hr'.out]
          go_upto_region 6 with (fail)
          rw [show ((r : Int) + 999999) = (k : Int) by have := hk'.out; omega]
          have hk2 : k ≤ 1000001 := by have := hk'.out; omega
          have hk3 := Aside0.mk hk2
          have hmk : min (k : Int) (b.size : Int) = k := by have := hb2'.out; omega
          have hkb : (k : Int) ≤ b.size := by have := hb2'.out; omega
          have hkb2 : k ≤ b.size := by have := hb2'.out; omega
          have hA : (b.extract 0 k).size = k := by rw [ByteArray.size_extract]; have := hb2'.out; omega
          obtain ⟨A, hAA⟩ : ∃ A, b.extract 0 k = A := ⟨_, rfl⟩
          rw [hAA] at hA
          have hA' := Aside0.mk hA
          have hAA' := Aside0.mk hAA
          clear hk2 hAA hA d0 d1
          go_upto_region 7 with (fail)
          try simp only [hTT'.out]
          go_wp2_with fail
          rw [hAA'.out]
          have hT2 := hT.out
          have hk4 := hk3.out
          by_cases hkm : k ≤ 1000000
          · have dk0 : decide ((1000000 : Int) < k) = false := decide_eq_false (by omega)
            have dk1 : decide (1000000 < k) = false := decide_eq_false (by omega)
            refine (append_ok ⟨#[]⟩ ⟨#[]⟩ A wr (by rw [hA'.out]; rw [sz_nil]; omega)).mono ?_
            rintro e w3 ⟨rfl, B3⟩
            rw [nil_ap]
            have B3' := B1'.out.trans (B3.mono B1'.out.size)
            obtain ⟨V, hV⟩ : ∃ Q, Q = w3.alloc (.cells #[.string (⟨#[]⟩ : ByteArray), .string A] 33) := ⟨_, rfl⟩
            obtain ⟨X, hX⟩ : ∃ Q, Q = w3.heap.size := ⟨_, rfl⟩
            have BV : Below w.heap.size w V := by rw [hV]; apply below_alloc; exact B3'
            have bX : V.heap[X]? = some (.cells #[.string (⟨#[]⟩ : ByteArray), .string A] 33 (0, 0)) := by rw [hV, hX]; exact heap_alloc_new _ _
            have x0 : (w3.alloc (.cells #[.string (⟨#[]⟩ : ByteArray), .string A] 33)).cell? ⟨w3.heap.size, 0, none⟩ = some (.string (⟨#[]⟩ : ByteArray)) := by rw [← hV, ← hX]; exact (blk_cell bX 0).trans rfl
            have x1 : (w3.alloc (.cells #[.string (⟨#[]⟩ : ByteArray), .string A] 33)).cell? ⟨w3.heap.size, 1, none⟩ = some (.string A) := by rw [← hV, ← hX]; exact (blk_cell bX 1).trans rfl
            have hVa := Aside0.mk hV
            have hXa := Aside0.mk hX
            clear hV hX
            have BV' := Aside0.mk BV
            have bX' := Aside0.mk bX
            have hkm' := Aside0.mk hkm
            clear B3 B3' BV bX hT2 hk4 hkm hmk hkb hkb2
            go_wp2_with fail
            rw [← hVa.out, ← hXa.out]
            refine (sync_ok ⟨#[]⟩ A V (by rw [hA'.out]; rw [sz_nil]; have := hkm'.out; omega)).mono ?_
            rintro e w4 ⟨rfl, B4⟩
            rw [nil_ap]
            have bX4 := Aside0.mk ((B4.block _ (blk_lt bX'.out)).trans bX'.out)
            have B4' := Aside0.mk (BV'.out.trans (B4.mono BV'.out.size))
            clear x0 x1 B4
            go_wp2_with fail
            have hsz1 : Aside0 (A.size + (⟨#[]⟩ : ByteArray).size = k) := ⟨by rw [hA'.out]; rfl⟩
            by_cases hkt : k + T.size ≤ 1000000
            · have dt0 : decide (wrap64 ((1000000 : Int) - k) < T.size) = false := decide_eq_false (by unfold wrap64; omega)
              try rw [hTT'.out]
              have hw2 : wrap64 ((k : Int) + T.size) = k + T.size := by have := hT.out; have := hk3.out; unfold wrap64; omega
              with_reducible refine (append_ok A ⟨#[]⟩ T _ (by rw [hsz1.out]; exact hkt)).mono ?_
              rintro e w5 ⟨rfl, B5⟩
              rw [nil_ap]
              have B5' := B4'.out.trans (B5.mono B4'.out.size)
              obtain ⟨U, hU⟩ : ∃ Q, Q = w5.alloc (.cells #[.string A, .string T] 33) := ⟨_, rfl⟩
              obtain ⟨Y, hY⟩ : ∃ Q, Q = w5.heap.size := ⟨_, rfl⟩
              have BU : Below w.heap.size w U := by rw [hU]; apply below_alloc; exact B5'
              have bY : U.heap[Y]? = some (.cells #[.string A, .string T] 33 (0, 0)) := by rw [hU, hY]; exact heap_alloc_new _ _
              have y0 : (w5.alloc (.cells #[.string A, .string T] 33)).cell? ⟨w5.heap.size, 0, none⟩ = some (.string A) := by rw [← hU, ← hY]; exact (blk_cell bY 0).trans rfl
              have y1 : (w5.alloc (.cells #[.string A, .string T] 33)).cell? ⟨w5.heap.size, 1, none⟩ = some (.string T) := by rw [← hU, ← hY]; exact (blk_cell bY 1).trans rfl
              have hUa := Aside0.mk hU
              have hYa := Aside0.mk hY
              clear hU hY
              have BU' := Aside0.mk BU
              have hkt' := Aside0.mk hkt
              have hAs := hA'.out
              clear B5 B5' BU bY hkt
              go_wp2_with fail
              rw [← hUa.out]
              refine (all_ok A T _ (by rw [hA'.out]; have := hT.out; have := hk3.out; omega)).mono ?_
              rintro e w6 ⟨rfl, B6⟩
              have hS1 : (A ++ T).size = k + T.size := by rw [sz_ap, hA'.out]
              have B6' := Aside0.mk (BU'.out.trans (B6.mono BU'.out.size))
              clear y0 y1 B6
              go_wp2_with fail
              go_returns
              exact ⟨rfl, B6'.out⟩
            · have dt0 : decide (wrap64 ((1000000 : Int) - k) < T.size) = true := decide_eq_true (by have := hk3.out; unfold wrap64; omega)
              try rw [hTT'.out]
              with_reducible refine (append_no A ⟨#[]⟩ T _ (by rw [hsz1.out]; have := hT.out; have := hk3.out; omega) (by rw [hsz1.out]; omega)).mono ?_
              rintro e w5 ⟨rfl, B5⟩
              have B5' := B4'.out.trans (B5.mono B4'.out.size)
              obtain ⟨U, hU⟩ : ∃ Q, Q = w5.alloc (.cells #[.string A, .string (⟨#[]⟩ : ByteArray)] 33) := ⟨_, rfl⟩
              obtain ⟨Y, hY⟩ : ∃ Q, Q = w5.heap.size := ⟨_, rfl⟩
              have BU : Below w.heap.size w U := by rw [hU]; apply below_alloc; exact B5'
              have bY : U.heap[Y]? = some (.cells #[.string A, .string (⟨#[]⟩ : ByteArray)] 33 (0, 0)) := by rw [hU, hY]; exact heap_alloc_new _ _
              have y0 : (w5.alloc (.cells #[.string A, .string (⟨#[]⟩ : ByteArray)] 33)).cell? ⟨w5.heap.size, 0, none⟩ = some (.string A) := by rw [← hU, ← hY]; exact (blk_cell bY 0).trans rfl
              have y1 : (w5.alloc (.cells #[.string A, .string (⟨#[]⟩ : ByteArray)] 33)).cell? ⟨w5.heap.size, 1, none⟩ = some (.string (⟨#[]⟩ : ByteArray)) := by rw [← hU, ← hY]; exact (blk_cell bY 1).trans rfl
              have hUa := Aside0.mk hU
              have hYa := Aside0.mk hY
              clear hU hY
              have bX6 := Aside0.mk ((B5.block _ (blk_lt bX4.out)).trans bX4.out)
              have BU' := Aside0.mk BU
              have bYa := Aside0.mk bY
              clear B5 B5' BU bY hkt
              go_wp2_with fail
              rw [← hUa.out, ← hYa.out]
              have hb0 := bX6.out
              have y0' : U.cell? ⟨Y, 0, none⟩ = some (.string A) := (blk_cell bYa.out 0).trans rfl
              have y1' : U.cell? ⟨Y, 1, none⟩ = some (.string (⟨#[]⟩ : ByteArray)) := (blk_cell bYa.out 1).trans rfl
              have z0' : U.cell? ⟨X, 0, none⟩ = some (.string (⟨#[]⟩ : ByteArray)) := by rw [hUa.out]; exact (blk_cell (blk_alloc hb0 _) 0).trans rfl
              have z1' : U.cell? ⟨X, 1, none⟩ = some (.string A) := by rw [hUa.out]; exact (blk_cell (blk_alloc hb0 _) 1).trans rfl
              have lY := blk_lt bYa.out
              have lX : X < U.heap.size := by rw [hUa.out]; exact blk_lt (blk_alloc hb0 _)
              have hAs : A.size ≤ 2000000 := by rw [hA'.out]; have := hk3.out; omega
              clear y0 y1 hb0
              refine start_ (n := 16) (S := fun w' => w'.cell? ⟨Y, 0, none⟩ = some (.string A) ∧ w'.cell? ⟨Y, 1, none⟩ = some (.string (⟨#[]⟩ : ByteArray)) ∧ w'.cell? ⟨X, 0, none⟩ = some (.string (⟨#[]⟩ : ByteArray)) ∧ w'.cell? ⟨X, 1, none⟩ = some (.string A) ∧ Below U.heap.size U w') (ds := []) #[false, false, false, false, false, false, false, false, false, false, false, false, false, false, false, false] (by kernel_rfl) rfl rfl ⟨y0', y1', z0', z1', (by apply below_drew1; exact Below.refl _ _)⟩ (fun hHeld => ?_)
              refine pure_ (i := 0) (N := some 63) (v := ?_) (a' := ?_) #[true, false, false, false, false, false, false, false, false, false, false, false, false, false, false, false] rfl rfl (by kernel_rfl) (fun _ _ _ h => h) (Or.inl ⟨by rfl, ?_⟩) ?_ ?_
              rotate_left
              · intro w'
                go_simp
                with_reducible rfl
              rotate_left
              · simp only [Act.put, List.setIfInBounds_toArray, List.set_cons_zero, List.set_cons_succ, i64_w, i32_w]
                rfl
              refine pure_ (i := 1) (N := some 64) (v := ?_) (a' := ?_) #[true, true, false, false, false, false, false, false, false, false, false, false, false, false, false, false] rfl rfl (by kernel_rfl) (fun _ _ _ h => h) (Or.inl ⟨by rfl, ?_⟩) ?_ ?_
              rotate_left
              · intro w'
                go_simp
                with_reducible rfl
              rotate_left
              · simp only [Act.put, List.setIfInBounds_toArray, List.set_cons_zero, List.set_cons_succ, i64_w, i32_w]
                rfl
              refine pure_ (i := 2) (N := some 65) (v := ?_) (a' := ?_) #[true, true, true, false, false, false, false, false, false, false, false, false, false, false, false, false] rfl rfl (by kernel_rfl) (fun _ _ _ h => h) (Or.inl ⟨by rfl, ?_⟩) ?_ ?_
              rotate_left
              · intro w'
                go_simp
                with_reducible rfl
              rotate_left
              · simp only [Act.put, List.setIfInBounds_toArray, List.set_cons_zero, List.set_cons_succ, i64_w, i32_w]
                rfl
              refine pure_ (i := 3) (N := some 66) (v := ?_) (a' := ?_) #[true, true, true, true, false, false, false, false, false, false, false, false, false, false, false, false] rfl rfl (by kernel_rfl) (fun _ _ _ h => h) (Or.inl ⟨by rfl, ?_⟩) ?_ ?_
              rotate_left
              · intro w'
                go_simp
                with_reducible rfl
              rotate_left
              · simp only [Act.put, List.setIfInBounds_toArray, List.set_cons_zero, List.set_cons_succ, i64_w, i32_w]
                rfl
              refine pure_ (i := 4) (N := some 67) (v := ?_) (a' := ?_) #[true, true, true, true, true, false, false, false, false, false, false, false, false, false, false, false] rfl rfl (by kernel_rfl) (fun _ _ _ h => h) (Or.inl ⟨by rfl, ?_⟩) ?_ ?_
              rotate_left
              · intro w'
                go_simp
                with_reducible rfl
              rotate_left
              · simp only [Act.put, List.setIfInBounds_toArray, List.set_cons_zero, List.set_cons_succ, i64_w, i32_w]
                rfl
              refine pure_ (i := 5) (N := some 68) (v := ?_) (a' := ?_) #[true, true, true, true, true, true, false, false, false, false, false, false, false, false, false, false] rfl rfl (by kernel_rfl) (fun _ _ _ h => h) (Or.inl ⟨by rfl, ?_⟩) ?_ ?_
              rotate_left
              · intro w'
                go_simp
                with_reducible rfl
              rotate_left
              · simp only [Act.put, List.setIfInBounds_toArray, List.set_cons_zero, List.set_cons_succ, i64_w, i32_w]
                rfl
              refine pure_ (i := 6) (N := some 69) (v := ?_) (a' := ?_) #[true, true, true, true, true, true, true, false, false, false, false, false, false, false, false, false] rfl rfl (by kernel_rfl) (fun _ _ _ h => h) (Or.inl ⟨by rfl, ?_⟩) ?_ ?_
              rotate_left
              · intro w'
                go_simp
                with_reducible rfl
              rotate_left
              · simp only [Act.put, List.setIfInBounds_toArray, List.set_cons_zero, List.set_cons_succ, i64_w, i32_w]
                rfl
              refine pure_ (i := 7) (N := some 70) (v := ?_) (a' := ?_) #[true, true, true, true, true, true, true, true, false, false, false, false, false, false, false, false] rfl rfl (by kernel_rfl) (fun _ _ _ h => h) (Or.inl ⟨by rfl, ?_⟩) ?_ ?_
              rotate_left
              · intro w'
                go_simp
                with_reducible rfl
              rotate_left
              · simp only [Act.put, List.setIfInBounds_toArray, List.set_cons_zero, List.set_cons_succ, i64_w, i32_w]
                rfl
              refine pure_ (i := 8) (N := some 71) (v := ?_) (a' := ?_) #[true, true, true, true, true, true, true, true, true, false, false, false, false, false, false, false] rfl rfl (by kernel_rfl) (fun _ _ _ h => h) (Or.inl ⟨by rfl, ?_⟩) ?_ ?_
              rotate_left
              · intro w'
                go_simp
                with_reducible rfl
              rotate_left
              · simp only [Act.put, List.setIfInBounds_toArray, List.set_cons_zero, List.set_cons_succ, i64_w, i32_w]
                rfl
              refine pure_ (i := 9) (N := some 72) (v := ?_) (a' := ?_) #[true, true, true, true, true, true, true, true, true, true, false, false, false, false, false, false] rfl rfl (by kernel_rfl) (fun _ _ _ h => h) (Or.inl ⟨by rfl, ?_⟩) ?_ ?_
              rotate_left
              · intro w'
                go_simp
                with_reducible rfl
              rotate_left
              · simp only [Act.put, List.setIfInBounds_toArray, List.set_cons_zero, List.set_cons_succ, i64_w, i32_w]
                rfl
              refine take_ (i := 10) (N := some 73) (v := ?_) (a' := ?_) #[true, true, true, true, true, true, true, true, true, true, true, false, false, false, false, false] rfl rfl (by kernel_rfl) (fun _ _ _ h => h) (Or.inl ⟨by rfl, ?_⟩) hHeld ?_ ?_
              rotate_left
              · rintro w' ⟨s0, s1, s2, s3, s4⟩
                go_simp
                with_reducible rfl
              rotate_left
              · simp only [Act.put, List.setIfInBounds_toArray, List.set_cons_zero, List.set_cons_succ, i64_w, i32_w]
                rfl
              refine take_ (i := 11) (N := some 74) (v := ?_) (a' := ?_) #[true, true, true, true, true, true, true, true, true, true, true, true, false, false, false, false] rfl rfl (by kernel_rfl) (fun _ _ _ h => h) (Or.inl ⟨by rfl, ?_⟩) hHeld ?_ ?_
              rotate_left
              · rintro w' ⟨s0, s1, s2, s3, s4⟩
                go_simp
                with_reducible rfl
              rotate_left
              · simp only [Act.put, List.setIfInBounds_toArray, List.set_cons_zero, List.set_cons_succ, i64_w, i32_w]
                rfl
              refine one_ (i := 12) (N := some 75) #[true, true, true, true, true, true, true, true, true, true, true, true, true, false, false, false] rfl rfl (by kernel_rfl) (by decide) (fun K hK => ?_)
              refine goes_ Try.func29 (by kernel_rfl) rfl #[.agg #[.string ⟨#[]⟩, .string A]] (by rfl) rfl rfl (by simp only [List.map_toArray, List.map_cons, List.map_nil]; rfl) ?_
              with_reducible refine (sync_nil A _ hAs).mono ?_
              rintro e w7 ⟨rfl, B7⟩
              refine ⟨_, rfl, ?_⟩
              have B8 := hHeld.2.2.2.2.trans (B7.mono hHeld.2.2.2.2.size)
              refine hK.out _ _ ⟨(B8.cell (p := ⟨Y, 0, none⟩) lY).trans y0', (B8.cell (p := ⟨Y, 1, none⟩) lY).trans y1', (B8.cell (p := ⟨X, 0, none⟩) lX).trans z0', (B8.cell (p := ⟨X, 1, none⟩) lX).trans z1', B8⟩ (fun hHeld => ?_)
              clear hK K
              refine norm_ (a' := ?_) ?_ ?_
              rotate_left
              · show Act.put _ (some 75) _ = _
                simp only [Act.put, List.setIfInBounds_toArray, List.set_cons_zero, List.set_cons_succ, i64_w, i32_w]
                rfl
              refine pure_ (i := 13) (N := some 76) (v := ?_) (a' := ?_) #[true, true, true, true, true, true, true, true, true, true, true, true, true, true, false, false] rfl rfl (by kernel_rfl) (fun _ _ _ h => h) (Or.inl ⟨by rfl, ?_⟩) ?_ ?_
              rotate_left
              · intro w'
                go_simp
                with_reducible rfl
              rotate_left
              · simp only [Act.put, List.setIfInBounds_toArray, List.set_cons_zero, List.set_cons_succ, i64_w, i32_w]
                rfl
              refine pure_ (i := 14) (N := some 77) (v := ?_) (a' := ?_) #[true, true, true, true, true, true, true, true, true, true, true, true, true, true, true, false] rfl rfl (by kernel_rfl) (fun _ _ _ h => h) (Or.inl ⟨by rfl, ?_⟩) ?_ ?_
              rotate_left
              · intro w'
                go_simp
                with_reducible rfl
              rotate_left
              · simp only [Act.put, List.setIfInBounds_toArray, List.set_cons_zero, List.set_cons_succ, i64_w, i32_w]
                rfl
              refine pure_ (i := 15) (N := some 4) (v := ?_) (a' := ?_) #[true, true, true, true, true, true, true, true, true, true, true, true, true, true, true, true] rfl rfl (by kernel_rfl) (fun _ _ _ h => h) (Or.inl ⟨by rfl, ?_⟩) ?_ ?_
              rotate_left
              · intro w'
                go_simp
                with_reducible rfl
              rotate_left
              · simp only [Act.put, List.setIfInBounds_toArray, List.set_cons_zero, List.set_cons_succ, i64_w, i32_w]
                rfl
              refine done_ (by kernel_rfl) ?_

              have B9 := Aside0.mk (BU'.out.trans (hHeld.2.2.2.2.mono BU'.out.size))
              go_wp2
              go_returns
              exact ⟨rfl, B9.out⟩
          · have dk0 : decide ((1000000 : Int) < k) = true := decide_eq_true (by omega)
            refine (append_no ⟨#[]⟩ ⟨#[]⟩ A wr (by rw [hA'.out]; rw [sz_nil]; omega) (by rw [hA'.out]; rw [sz_nil]; omega)).mono ?_
            rintro e w3 ⟨rfl, B3⟩
            have B3' := B1'.out.trans (B3.mono B1'.out.size)
            obtain ⟨V, hV⟩ : ∃ Q, Q = w3.alloc (.cells #[.string (⟨#[]⟩ : ByteArray), .string (⟨#[]⟩ : ByteArray)] 33) := ⟨_, rfl⟩
            obtain ⟨X, hX⟩ : ∃ Q, Q = w3.heap.size := ⟨_, rfl⟩
            have BV : Below w.heap.size w V := by rw [hV]; apply below_alloc; exact B3'
            have bX : V.heap[X]? = some (.cells #[.string (⟨#[]⟩ : ByteArray), .string (⟨#[]⟩ : ByteArray)] 33 (0, 0)) := by rw [hV, hX]; exact heap_alloc_new _ _
            have x0 : (w3.alloc (.cells #[.string (⟨#[]⟩ : ByteArray), .string (⟨#[]⟩ : ByteArray)] 33)).cell? ⟨w3.heap.size, 0, none⟩ = some (.string (⟨#[]⟩ : ByteArray)) := by rw [← hV, ← hX]; exact (blk_cell bX 0).trans rfl
            have x1 : (w3.alloc (.cells #[.string (⟨#[]⟩ : ByteArray), .string (⟨#[]⟩ : ByteArray)] 33)).cell? ⟨w3.heap.size, 1, none⟩ = some (.string (⟨#[]⟩ : ByteArray)) := by rw [← hV, ← hX]; exact (blk_cell bX 1).trans rfl
            have hVa := Aside0.mk hV
            have hXa := Aside0.mk hX
            clear hV hX
            have BV' := Aside0.mk BV
            have hkm' := Aside0.mk hkm
            clear B3 B3' BV bX hT2 hk4 hkm hmk hkb hkb2
            go_wp2_with fail
            go_returns
            exact ⟨rfl, by first | exact BV'.out | (rw [← hVa.out]; exact BV'.out) | (have h_ := hVa.out; have h2_ := BV'.out; rw [h_] at h2_; exact h2_)⟩
        all_goals (exfalso; omega)
end Go.Proofs.Ytjbgboaghphaeaa.FullWalk
