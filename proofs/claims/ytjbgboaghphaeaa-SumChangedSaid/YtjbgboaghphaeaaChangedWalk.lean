/- SumChanged's walk, by hand. -/
import Derived.Test.YtjbgboaghphaeaaPureSumNought
import Derived.Outline
import Derived.Lib.Hide
import Derived.Handy
import Derived.Lib.ConvBytes
import Derived.Laws.IdiomStrings
namespace Go.Proofs.Ytjbgboaghphaeaa.ChangedWalk
open Go.RowKit Go.Proofs.Ytjbgboaghphaeaa.PSumNought Go.Proofs.Ytjbgboaghphaeaa.Pure.SumNoughtP Go.Proofs.Ytjbgboaghphaeaa.Crc Go.Proofs.YtjbgboaghphaeaaW.PrintWords Go.Proofs.YtjbgboaghphaeaaW.PrintLast Go.Proofs.YtjbgboaghphaeaaW.PrintMore
set_option linter.unusedVariables false
set_option linter.unusedSimpArgs false

theorem awake_ok (w : World) : Calls Try.prog 14 #[] w fun e w' => e = .returned (.bool true) ∧ Below w.heap.size w w' := hagglerlaw03_awake.calls 100 true w (awake_f 100 (by omega))
theorem of_ok (a : ByteArray) (w : World) (hs : a.size ≤ 4000) : Calls Try.prog 15 #[.string a] w fun e w' => e = .returned (.int .i64 ((crc 0xffff#16 a.data.toList).toNat : Int)) ∧ Drawn0 w w' :=
  sum_Of.calls (10 * a.size + 1) a _ w (of_f a (by omega) _ (by omega))

def In64 (c : Int) : Prop := -9223372036854775808 ≤ c ∧ c ≤ 9223372036854775807
theorem in64_of {c : Int} (h : (Lit.int .i64 c).wf = true) : In64 c := by
  unfold Lit.wf at h
  rw [Bool.and_eq_true, decide_eq_true_eq, decide_eq_true_eq] at h
  exact ⟨h.1, h.2⟩
theorem wf_of {c : Int} (h : In64 c) : (Lit.int .i64 c).wf = true := by
  unfold Lit.wf
  rw [Bool.and_eq_true, decide_eq_true_eq, decide_eq_true_eq]
  exact ⟨h.1, h.2⟩
/-- Which of n things a raw number speaks of. -/
def pk (c n : Int) : Int := Int.emod (if c < 0 then -(c + 1) else c) n
theorem pk_range (c n : Int) (h : 0 < n) : 0 ≤ pk c n ∧ pk c n < n := ⟨Int.emod_nonneg _ (by omega), Int.emod_lt_of_pos _ h⟩

set_option maxHeartbeats 1000000 in
theorem pick_calls (c n : Int) (w : World) (hc : In64 c) (h0 : 0 < n) (h1 : n ≤ 1000000) :
    Calls Try.prog 19 #[.int .i64 c, .int .i64 n] w fun e w' => e = .returned (.int .i64 (pk c n)) ∧ w = w' := by
  unfold In64 at hc
  have hr := pk_range c n h0
  have hn0 : (n == 0) = false := beq_eq_false_iff_ne.2 (by omega)
  have hn1 : (n == -1) = false := beq_eq_false_iff_ne.2 (by omega)
  by_cases hneg : c < 0
  · have e1 : wrap64 (c + 1) = c + 1 := by unfold wrap64; omega
    have e2 : wrap64 (-(c + 1)) = -(c + 1) := by unfold wrap64; omega
    have e3 : (-(c + 1)).tmod n = pk c n := by unfold pk; rw [if_pos hneg, Int.tmod_eq_emod_of_nonneg (by omega)]; rfl
    have e4 : wrap64 (pk c n) = pk c n := by unfold wrap64; omega
    have H := Lib.hid (And.intro e1 (And.intro e2 (And.intro e3 e4)))
    have d : decide (c < 0) = true := decide_eq_true hneg
    go_enter Try.func19, Try.ntmps19
    go_wp2
    go_returns
    obtain ⟨e1, e2, e3, e4⟩ := H.out
    exact ⟨rfl, rfl⟩
  · have e3 : c.tmod n = pk c n := by unfold pk; rw [if_neg hneg, Int.tmod_eq_emod_of_nonneg (by omega)]; rfl
    have e4 : wrap64 (pk c n) = pk c n := by unfold wrap64; omega
    have H := Lib.hid (And.intro e3 e4)
    have d : decide (c < 0) = false := decide_eq_false hneg
    go_enter Try.func19, Try.ntmps19
    go_wp2
    go_returns
    obtain ⟨e3, e4⟩ := H.out
    exact ⟨rfl, rfl⟩


theorem cell_oth (W : World) (B i j : Nat) (u : Value) (h : i ≠ j) : (W.setCell ⟨B, i, none⟩ u).cell? ⟨B, j, none⟩ = W.cell? ⟨B, j, none⟩ := World.cell?_setCell_other W _ _ u (fun e => h (by injection e))
theorem ofInt8 (a : UInt8) : BitVec.ofInt 8 (a.toNat : Int) = a.toBitVec := by
  apply BitVec.eq_of_toNat_eq
  rw [BitVec.toNat_ofInt]
  have := a.toNat_lt
  show ((a.toNat : Int) % 256).toNat = a.toNat
  omega
theorem xor8 (a b : UInt8) : bits .xor .u8 (a.toNat : Int) (b.toNat : Int) = ((a ^^^ b).toNat : Int) := by
  show IntKind.u8.wrap ((BitVec.ofInt 8 (a.toNat : Int) ^^^ BitVec.ofInt 8 (b.toNat : Int)).toNat : Int) = _
  rw [ofInt8, ofInt8]
  have h : (a.toBitVec ^^^ b.toBitVec).toNat = (a ^^^ b).toNat := rfl
  rw [h]
  generalize a ^^^ b = c
  have := c.toNat_lt
  simp [IntKind.wrap, IntKind.bits, IntKind.signed]
  omega
theorem wrap8 (a : UInt8) : IntKind.u8.wrap (a.toNat : Int) = a.toNat := by
  have := a.toNat_lt
  simp [IntKind.wrap, IntKind.bits, IntKind.signed]
  omega
theorem byte_of (c : Int) (h0 : 0 ≤ c) (h1 : c < 256) : ∃ x : UInt8, c = (x.toNat : Int) := ⟨UInt8.ofNat c.toNat, by rw [UInt8.toNat_ofNat']; omega⟩

/-- Texts that are unlike in one byte, or in two side by side, have unlike sums. -/
def turned (l : List UInt8) (k : Nat) (x y : UInt8) : List UInt8 := (l.set k (l.getD k 0 ^^^ x)).set (k + 1) (l.getD (k + 1) 0 ^^^ y)
theorem xor_same (c x : UInt8) : c ^^^ x = c ↔ x = 0 := by
  constructor
  · intro h
    have h2 : c ^^^ (c ^^^ x) = c ^^^ c := by rw [h]
    rw [← UInt8.xor_assoc, UInt8.xor_self, UInt8.zero_xor] at h2
    exact h2
  · rintro rfl; simp
theorem crc_cons (n : BitVec 16) (c : UInt8) (l : List UInt8) : crc n (c :: l) = crc (upd n c) l := rfl
theorem turned_get (l : List UInt8) (k : Nat) (x y : UInt8) (j : Nat) (hj : j < (turned l k x y).length) : (turned l k x y)[j] = if j = k + 1 then l.getD (k + 1) 0 ^^^ y else if j = k then l.getD k 0 ^^^ x else l.getD j 0 := by
  have hl : j < l.length := by unfold turned at hj; simpa using hj
  simp only [turned, List.getElem_set]
  by_cases e1 : j = k + 1
  · rw [if_pos e1.symm, if_pos e1]
  · rw [if_neg (Ne.symm e1), if_neg e1]
    by_cases e2 : j = k
    · rw [if_pos e2.symm, if_pos e2]
    · rw [if_neg (Ne.symm e2), if_neg e2]
      simp [List.getD, List.getElem?_eq_getElem hl]
theorem turned_sum (l : List UInt8) (k : Nat) (x y : UInt8) (h : k + 1 < l.length) (n : BitVec 16) : crc n (turned l k x y) = crc n l ↔ (x = 0 ∧ y = 0) := by
  have e0 : l = l.take k ++ l[k] :: l[k + 1] :: l.drop (k + 2) := by
    rw [List.getElem_cons_drop, List.getElem_cons_drop, List.take_append_drop]
  have e1 : turned l k x y = l.take k ++ (l[k] ^^^ x) :: (l[k + 1] ^^^ y) :: l.drop (k + 2) := by
    unfold turned
    apply List.ext_getElem?
    intro j
    have hlk : (l.take k).length = k := by rw [List.length_take]; omega
    rw [List.getElem?_set, List.getElem?_set, List.getElem?_append, hlk]
    simp only [List.length_set]
    by_cases h1 : j < k
    · rw [if_neg (by omega), if_neg (by omega), if_pos h1, List.getElem?_take, if_pos h1]
    · rw [if_neg h1]
      by_cases h2 : j = k
      · subst h2
        rw [if_neg (by omega), if_pos rfl, if_pos (by omega), Nat.sub_self]
        simp [List.getD, List.getElem?_eq_getElem (show j < l.length by omega)]
      · by_cases h3 : j = k + 1
        · subst h3
          rw [if_pos rfl, if_pos h, show k + 1 - k = 1 by omega]
          simp [List.getD, List.getElem?_eq_getElem h]
        · rw [if_neg (by omega), if_neg (by omega), show j - k = (j - k - 2) + 1 + 1 by omega]
          simp only [List.getElem?_cons_succ, List.getElem?_drop]
          congr 1; omega
  rw [e1]
  conv => lhs; rhs; rw [e0]
  rw [crc_append, crc_append]
  rw [crc_cons, crc_cons, crc_cons, crc_cons, crc_inj, two_inj, xor_same, xor_same]

theorem frozen_bytes (w : World) (e : TypeId) (s : ByteArray) (j : Nat) (hj : j < s.size) : (Lib.bytesWorld w e s).frozen? ⟨w.heap.size, j, none⟩ = false := by
  have h : j < (Lib.bytesCells w e s).size := by unfold Lib.bytesCells; simp; have : s.data.size = s.size := rfl; omega
  simp [World.frozen?, Lib.bytesWorld_at_new]
  omega
theorem below_bytes (w : World) (e : TypeId) (s : ByteArray) : Below w.heap.size w (Lib.bytesWorld w e s) := by
  refine ⟨rfl, rfl, rfl, by rw [Lib.bytesWorld_size]; omega, fun k hk => Lib.bytesWorld_at_old w e s k hk⟩


set_option maxHeartbeats 2000000 in
set_option maxRecDepth 20000 in
theorem changed_walk (s : ByteArray) (at_ one two : Int) (w : World) (hs : s.size ≤ 140737488351232) (h1 : (Lit.int .i64 at_).wf = true) (h2 : (Lit.int .i64 one).wf = true) (h3 : (Lit.int .i64 two).wf = true) :
    Calls Try.prog 4 #[.string s, .int .i64 at_, .int .i64 one, .int .i64 two] w fun e w' => e = .returned (.bool true) ∧ Below w.heap.size w w' := by
  go_enter Try.func4, Try.ntmps4
  go_wp2_with fail
  refine (awake_ok w).mono ?_
  rintro e w1 ⟨rfl, B1⟩
  have B1' := Aside0.mk B1
  clear B1
  by_cases hc : (3000 : Int) < s.size
  · have d0 : decide ((3000 : Int) < s.size) = true := decide_eq_true hc
    have hge : (3000 : Int) ≤ s.size := by omega
    have hA : (s.extract 0 3000).size ≤ 3000 := by rw [ByteArray.size_extract]; omega
    go_wp2_with fail
    obtain ⟨T, hT⟩ : ∃ T, (s.extract 0 3000) ++ (⟨#[97, 98]⟩ : ByteArray) = T := ⟨_, rfl⟩
    have hTs : T.size = (s.extract 0 3000).size + 2 := by rw [← hT, ByteArray.size_append]; rfl
    have hT' := Aside0.mk hT
    have hcv := Lib.run_convert_string_bytes (P := Try.prog) w1 9 27 5 T Try.underlying9 Try.underlying27 Try.underlying5
    obtain ⟨B, hB⟩ : ∃ B, w1.heap.size = B := ⟨_, rfl⟩
    obtain ⟨V, hV⟩ : ∃ V, Lib.bytesWorld w1 5 T = V := ⟨_, rfl⟩
    obtain ⟨cap, hcap⟩ : ∃ c, grownCap w1 T.size 0 5 = c := ⟨_, rfl⟩
    obtain ⟨n, hn⟩ : ∃ n, T.size = n := ⟨_, rfl⟩
    have hn2 : 2 ≤ n := by omega
    have hn3 : n ≤ 3002 := by omega
    rw [hB, hV, hcap, hn] at hcv
    have BV : Below w.heap.size w V := by rw [← hV]; exact B1'.out.trans ((below_bytes w1 _ T).mono B1'.out.size)
    have cV : ∀ j, j < n → V.cell? ⟨B, j, none⟩ = some (.int .u8 (T.data.toList.getD j 0).toNat) := fun j hj => by rw [← hV, ← hB]; exact Lib.bytesWorld_cell w1 _ T j (by rw [hn]; exact hj)
    have fV : ∀ j, j < n → V.frozen? ⟨B, j, none⟩ = false := fun j hj => by rw [← hV, ← hB]; exact frozen_bytes w1 _ T j (by rw [hn]; exact hj)
    have lB : w.heap.size ≤ B := by rw [← hB]; exact B1'.out.size
    have hn' := Aside0.mk hn
    have BV' := Aside0.mk BV
    have cV' := Aside0.mk cV
    have fV' := Aside0.mk fV
    have hTs' := Aside0.mk hTs
    have hw1 : wrap64 ((n : Int) - 1) = n - 1 := by unfold wrap64; omega
    clear hT hB hV hcap hn BV cV fV hTs
    rw [hT'.out, hcv]
    clear hcv
    go_wp2_with fail
    refine (pick_calls at_ ((n : Int) - 1) V (in64_of h1) (by omega) (by omega)).mono ?_
    rintro e w3 ⟨rfl, rfl⟩
    obtain ⟨k0, k1⟩ := pk_range at_ ((n : Int) - 1) (by omega)
    obtain ⟨k, hk⟩ : ∃ k : Nat, pk at_ ((n : Int) - 1) = k := ⟨(pk at_ ((n : Int) - 1)).toNat, by omega⟩
    rw [hk] at k0 k1 ⊢
    have hkn : k + 1 < n := by omega
    have hkn' := Aside0.mk hkn
    clear hk k0 k1 hw1 hkn
    go_wp2_with fail
    refine (pick_calls one 256 V (in64_of h2) (by decide) (by decide)).mono ?_
    rintro e w3 ⟨rfl, rfl⟩
    obtain ⟨x0, x1⟩ := pk_range one 256 (by decide)
    obtain ⟨x, hx⟩ := byte_of _ x0 x1
    rw [hx]
    have wx := wrap8 x
    clear hx x0 x1
    go_wp2_with fail
    refine (pick_calls two 256 V (in64_of h3) (by decide) (by decide)).mono ?_
    rintro e w3 ⟨rfl, rfl⟩
    obtain ⟨y0, y1⟩ := pk_range two 256 (by decide)
    obtain ⟨y, hy⟩ := byte_of _ y0 y1
    rw [hy]
    have wy := wrap8 y
    have hln : T.data.toList.length = n := by rw [Array.length_toList]; exact hn'.out
    obtain ⟨c, hc0⟩ : ∃ c : UInt8, T.data.toList.getD k 0 = c := ⟨_, rfl⟩
    obtain ⟨d, hd0⟩ : ∃ c : UInt8, T.data.toList.getD (k + 1) 0 = c := ⟨_, rfl⟩
    have q0 : V.cell? ⟨B, k, none⟩ = some (.int .u8 c.toNat) := by rw [← hc0]; exact cV'.out k (by have := hkn'.out; omega)
    have q1 : V.cell? ⟨B, k + 1, none⟩ = some (.int .u8 d.toNat) := by rw [← hd0]; exact cV'.out (k + 1) (by have := hkn'.out; omega)
    have f0 := fV'.out k (by have := hkn'.out; omega)
    have f1 := fV'.out (k + 1) (by have := hkn'.out; omega)
    have xc := xor8 c x
    have xd := xor8 d y
    obtain ⟨c1, hc1⟩ : ∃ c1, c ^^^ x = c1 := ⟨_, rfl⟩
    obtain ⟨d1, hd1⟩ : ∃ c1, d ^^^ y = c1 := ⟨_, rfl⟩
    rw [hc1] at xc
    rw [hd1] at xd
    have hw2 : wrap64 ((k : Int) + 1) = k + 1 := by have := hkn'.out; unfold wrap64; omega
    have hlen : (turned T.data.toList k x y).length = n := by unfold turned; rw [List.length_set, List.length_set]; exact hln
    have hcell : ∀ j (hj : j < (turned T.data.toList k x y).length), (((V.setCell ⟨B, k, none⟩ (.int .u8 c1.toNat)).setCell ⟨B, k + 1, none⟩ (.int .u8 d1.toNat))).cell? ((⟨B, 0, none⟩ : Addr).add j) = some (.int .u8 ((turned T.data.toList k x y)[j].toNat : Int)) := by
      intro j hj
      rw [show ((⟨B, 0, none⟩ : Addr).add j) = ⟨B, j, none⟩ by unfold Addr.add; split <;> simp_all]
      have hjn : j < n := by rw [← hlen]; exact hj
      rw [turned_get T.data.toList k x y j hj]
      by_cases e1 : j = k + 1
      · subst e1
        rw [if_pos rfl, hd0, hd1]
        exact World.cell?_setCell_same (u := .int .u8 d.toNat) _ _ _ ((cell_oth V B k (k + 1) _ (by omega)).trans q1)
      · rw [if_neg e1, cell_oth _ _ _ _ _ (show k + 1 ≠ j by omega)]
        by_cases e2 : j = k
        · subst e2
          rw [if_pos rfl, hc0, hc1]
          exact World.cell?_setCell_same (u := .int .u8 c.toNat) _ _ _ q0
        · rw [if_neg e2, cell_oth _ _ _ _ _ (show k ≠ j by omega)]
          exact cV'.out j hjn
    have hcv2 := run_convert_bytes_back (P := Try.prog) ((V.setCell ⟨B, k, none⟩ (.int .u8 c1.toNat)).setCell ⟨B, k + 1, none⟩ (.int .u8 d1.toNat)) 27 9 5 ⟨B, 0, none⟩ cap (turned T.data.toList k x y) Try.underlying27 Try.underlying5 Try.underlying9 hcell
    rw [hlen] at hcv2
    have hsum := turned_sum T.data.toList k x y (by rw [hln]; exact hkn'.out) 0xffff#16
    obtain ⟨T2, hT2⟩ : ∃ T2 : ByteArray, (⟨(turned T.data.toList k x y).toArray⟩ : ByteArray) = T2 := ⟨_, rfl⟩
    have hT2s : T2.size ≤ 4000 := by rw [← hT2]; show (turned T.data.toList k x y).toArray.size ≤ 4000; rw [List.size_toArray, hlen]; omega
    have hT2d : T2.data.toList = turned T.data.toList k x y := by rw [← hT2]
    rw [hT2] at hcv2
    have hO1 := Lib.hid (fun w2 => of_ok T w2 (by rw [hn'.out]; omega))
    have hO2 := Lib.hid (fun w2 => of_ok T2 w2 hT2s)
    have hcv2' := Aside0.mk hcv2
    obtain ⟨bx, hbx⟩ : ∃ b, ((x.toNat : Int) == 0) = b := ⟨_, rfl⟩
    obtain ⟨by_, hby⟩ : ∃ b, ((y.toNat : Int) == 0) = b := ⟨_, rfl⟩
    have hres : (((crc 0xffff#16 T2.data.toList).toNat : Int) == ((crc 0xffff#16 T.data.toList).toNat : Int)) = (bx && by_) := by
      rw [beq16, hT2d, ← hbx, ← hby, Bool.eq_iff_iff, Bool.and_eq_true, decide_eq_true_eq, hsum, beq_iff_eq, beq_iff_eq]
      constructor
      · rintro ⟨rfl, rfl⟩; exact ⟨rfl, rfl⟩
      · rintro ⟨e1, e2⟩; exact ⟨UInt8.toNat_inj.1 (by show x.toNat = 0; omega), UInt8.toNat_inj.1 (by show y.toNat = 0; omega)⟩
    obtain ⟨r1, hr1⟩ : ∃ r, ((crc 0xffff#16 T2.data.toList).toNat : Int) = r := ⟨_, rfl⟩
    obtain ⟨r2, hr2⟩ : ∃ r, ((crc 0xffff#16 T.data.toList).toNat : Int) = r := ⟨_, rfl⟩
    rw [hr1, hr2] at hres
    rw [hr1] at hO2
    rw [hr2] at hO1
    have hT'2 := hT'
    clear hy y0 y1 hln hc0 hd0 hc1 hd1 hlen hcell hsum hT2 hT2s hT2d hcv2 hr1 hr2
    have hk1 : k < n := by have := hkn'.out; omega
    have hk2 : k + 1 < n := hkn'.out
    have hk3 : (k : Int) < n := by omega
    have hk4 : (k : Int) + 1 < n := by omega
    cases bx <;> cases by_
    all_goals
      go_wp2_with fail
      rw [hcv2'.out]
      go_wp2_with fail
      refine (hO2.out _).mono ?_
      rintro e w4 ⟨rfl, D4⟩
      obtain ⟨m1, rfl⟩ := D4
      go_wp2_with fail
      try rw [hT'2.out]
      refine (hO1.out _).mono ?_
      rintro e w5 ⟨rfl, D5⟩
      obtain ⟨m2, rfl⟩ := D5
      go_wp2_with fail
      go_returns
      exact ⟨rfl, by repeat (first | exact below_set (below_set BV'.out lB) lB | apply pw_below_drewN)⟩
  · have d0 : decide ((3000 : Int) < s.size) = false := decide_eq_false hc
    have hA : s.size ≤ 3000 := by omega
    go_wp2_with fail
    obtain ⟨T, hT⟩ : ∃ T, s ++ (⟨#[97, 98]⟩ : ByteArray) = T := ⟨_, rfl⟩
    have hTs : T.size = s.size + 2 := by rw [← hT, ByteArray.size_append]; rfl
    have hT' := Aside0.mk hT
    have hcv := Lib.run_convert_string_bytes (P := Try.prog) w1 9 27 5 T Try.underlying9 Try.underlying27 Try.underlying5
    obtain ⟨B, hB⟩ : ∃ B, w1.heap.size = B := ⟨_, rfl⟩
    obtain ⟨V, hV⟩ : ∃ V, Lib.bytesWorld w1 5 T = V := ⟨_, rfl⟩
    obtain ⟨cap, hcap⟩ : ∃ c, grownCap w1 T.size 0 5 = c := ⟨_, rfl⟩
    obtain ⟨n, hn⟩ : ∃ n, T.size = n := ⟨_, rfl⟩
    have hn2 : 2 ≤ n := by omega
    have hn3 : n ≤ 3002 := by omega
    rw [hB, hV, hcap, hn] at hcv
    have BV : Below w.heap.size w V := by rw [← hV]; exact B1'.out.trans ((below_bytes w1 _ T).mono B1'.out.size)
    have cV : ∀ j, j < n → V.cell? ⟨B, j, none⟩ = some (.int .u8 (T.data.toList.getD j 0).toNat) := fun j hj => by rw [← hV, ← hB]; exact Lib.bytesWorld_cell w1 _ T j (by rw [hn]; exact hj)
    have fV : ∀ j, j < n → V.frozen? ⟨B, j, none⟩ = false := fun j hj => by rw [← hV, ← hB]; exact frozen_bytes w1 _ T j (by rw [hn]; exact hj)
    have lB : w.heap.size ≤ B := by rw [← hB]; exact B1'.out.size
    have hn' := Aside0.mk hn
    have BV' := Aside0.mk BV
    have cV' := Aside0.mk cV
    have fV' := Aside0.mk fV
    have hTs' := Aside0.mk hTs
    have hw1 : wrap64 ((n : Int) - 1) = n - 1 := by unfold wrap64; omega
    clear hT hB hV hcap hn BV cV fV hTs
    rw [hT'.out, hcv]
    clear hcv
    go_wp2_with fail
    refine (pick_calls at_ ((n : Int) - 1) V (in64_of h1) (by omega) (by omega)).mono ?_
    rintro e w3 ⟨rfl, rfl⟩
    obtain ⟨k0, k1⟩ := pk_range at_ ((n : Int) - 1) (by omega)
    obtain ⟨k, hk⟩ : ∃ k : Nat, pk at_ ((n : Int) - 1) = k := ⟨(pk at_ ((n : Int) - 1)).toNat, by omega⟩
    rw [hk] at k0 k1 ⊢
    have hkn : k + 1 < n := by omega
    have hkn' := Aside0.mk hkn
    clear hk k0 k1 hw1 hkn
    go_wp2_with fail
    refine (pick_calls one 256 V (in64_of h2) (by decide) (by decide)).mono ?_
    rintro e w3 ⟨rfl, rfl⟩
    obtain ⟨x0, x1⟩ := pk_range one 256 (by decide)
    obtain ⟨x, hx⟩ := byte_of _ x0 x1
    rw [hx]
    have wx := wrap8 x
    clear hx x0 x1
    go_wp2_with fail
    refine (pick_calls two 256 V (in64_of h3) (by decide) (by decide)).mono ?_
    rintro e w3 ⟨rfl, rfl⟩
    obtain ⟨y0, y1⟩ := pk_range two 256 (by decide)
    obtain ⟨y, hy⟩ := byte_of _ y0 y1
    rw [hy]
    have wy := wrap8 y
    have hln : T.data.toList.length = n := by rw [Array.length_toList]; exact hn'.out
    obtain ⟨c, hc0⟩ : ∃ c : UInt8, T.data.toList.getD k 0 = c := ⟨_, rfl⟩
    obtain ⟨d, hd0⟩ : ∃ c : UInt8, T.data.toList.getD (k + 1) 0 = c := ⟨_, rfl⟩
    have q0 : V.cell? ⟨B, k, none⟩ = some (.int .u8 c.toNat) := by rw [← hc0]; exact cV'.out k (by have := hkn'.out; omega)
    have q1 : V.cell? ⟨B, k + 1, none⟩ = some (.int .u8 d.toNat) := by rw [← hd0]; exact cV'.out (k + 1) (by have := hkn'.out; omega)
    have f0 := fV'.out k (by have := hkn'.out; omega)
    have f1 := fV'.out (k + 1) (by have := hkn'.out; omega)
    have xc := xor8 c x
    have xd := xor8 d y
    obtain ⟨c1, hc1⟩ : ∃ c1, c ^^^ x = c1 := ⟨_, rfl⟩
    obtain ⟨d1, hd1⟩ : ∃ c1, d ^^^ y = c1 := ⟨_, rfl⟩
    rw [hc1] at xc
    rw [hd1] at xd
    have hw2 : wrap64 ((k : Int) + 1) = k + 1 := by have := hkn'.out; unfold wrap64; omega
    have hlen : (turned T.data.toList k x y).length = n := by unfold turned; rw [List.length_set, List.length_set]; exact hln
    have hcell : ∀ j (hj : j < (turned T.data.toList k x y).length), (((V.setCell ⟨B, k, none⟩ (.int .u8 c1.toNat)).setCell ⟨B, k + 1, none⟩ (.int .u8 d1.toNat))).cell? ((⟨B, 0, none⟩ : Addr).add j) = some (.int .u8 ((turned T.data.toList k x y)[j].toNat : Int)) := by
      intro j hj
      rw [show ((⟨B, 0, none⟩ : Addr).add j) = ⟨B, j, none⟩ by unfold Addr.add; split <;> simp_all]
      have hjn : j < n := by rw [← hlen]; exact hj
      rw [turned_get T.data.toList k x y j hj]
      by_cases e1 : j = k + 1
      · subst e1
        rw [if_pos rfl, hd0, hd1]
        exact World.cell?_setCell_same (u := .int .u8 d.toNat) _ _ _ ((cell_oth V B k (k + 1) _ (by omega)).trans q1)
      · rw [if_neg e1, cell_oth _ _ _ _ _ (show k + 1 ≠ j by omega)]
        by_cases e2 : j = k
        · subst e2
          rw [if_pos rfl, hc0, hc1]
          exact World.cell?_setCell_same (u := .int .u8 c.toNat) _ _ _ q0
        · rw [if_neg e2, cell_oth _ _ _ _ _ (show k ≠ j by omega)]
          exact cV'.out j hjn
    have hcv2 := run_convert_bytes_back (P := Try.prog) ((V.setCell ⟨B, k, none⟩ (.int .u8 c1.toNat)).setCell ⟨B, k + 1, none⟩ (.int .u8 d1.toNat)) 27 9 5 ⟨B, 0, none⟩ cap (turned T.data.toList k x y) Try.underlying27 Try.underlying5 Try.underlying9 hcell
    rw [hlen] at hcv2
    have hsum := turned_sum T.data.toList k x y (by rw [hln]; exact hkn'.out) 0xffff#16
    obtain ⟨T2, hT2⟩ : ∃ T2 : ByteArray, (⟨(turned T.data.toList k x y).toArray⟩ : ByteArray) = T2 := ⟨_, rfl⟩
    have hT2s : T2.size ≤ 4000 := by rw [← hT2]; show (turned T.data.toList k x y).toArray.size ≤ 4000; rw [List.size_toArray, hlen]; omega
    have hT2d : T2.data.toList = turned T.data.toList k x y := by rw [← hT2]
    rw [hT2] at hcv2
    have hO1 := Lib.hid (fun w2 => of_ok T w2 (by rw [hn'.out]; omega))
    have hO2 := Lib.hid (fun w2 => of_ok T2 w2 hT2s)
    have hcv2' := Aside0.mk hcv2
    obtain ⟨bx, hbx⟩ : ∃ b, ((x.toNat : Int) == 0) = b := ⟨_, rfl⟩
    obtain ⟨by_, hby⟩ : ∃ b, ((y.toNat : Int) == 0) = b := ⟨_, rfl⟩
    have hres : (((crc 0xffff#16 T2.data.toList).toNat : Int) == ((crc 0xffff#16 T.data.toList).toNat : Int)) = (bx && by_) := by
      rw [beq16, hT2d, ← hbx, ← hby, Bool.eq_iff_iff, Bool.and_eq_true, decide_eq_true_eq, hsum, beq_iff_eq, beq_iff_eq]
      constructor
      · rintro ⟨rfl, rfl⟩; exact ⟨rfl, rfl⟩
      · rintro ⟨e1, e2⟩; exact ⟨UInt8.toNat_inj.1 (by show x.toNat = 0; omega), UInt8.toNat_inj.1 (by show y.toNat = 0; omega)⟩
    obtain ⟨r1, hr1⟩ : ∃ r, ((crc 0xffff#16 T2.data.toList).toNat : Int) = r := ⟨_, rfl⟩
    obtain ⟨r2, hr2⟩ : ∃ r, ((crc 0xffff#16 T.data.toList).toNat : Int) = r := ⟨_, rfl⟩
    rw [hr1, hr2] at hres
    rw [hr1] at hO2
    rw [hr2] at hO1
    have hT'2 := hT'
    clear hy y0 y1 hln hc0 hd0 hc1 hd1 hlen hcell hsum hT2 hT2s hT2d hcv2 hr1 hr2
    have hk1 : k < n := by have := hkn'.out; omega
    have hk2 : k + 1 < n := hkn'.out
    have hk3 : (k : Int) < n := by omega
    have hk4 : (k : Int) + 1 < n := by omega
    cases bx <;> cases by_
    all_goals
      go_wp2_with fail
      rw [hcv2'.out]
      go_wp2_with fail
      refine (hO2.out _).mono ?_
      rintro e w4 ⟨rfl, D4⟩
      obtain ⟨m1, rfl⟩ := D4
      go_wp2_with fail
      try rw [hT'2.out]
      refine (hO1.out _).mono ?_
      rintro e w5 ⟨rfl, D5⟩
      obtain ⟨m2, rfl⟩ := D5
      go_wp2_with fail
      go_returns
      exact ⟨rfl, by repeat (first | exact below_set (below_set BV'.out lB) lB | apply pw_below_drewN)⟩
end Go.Proofs.Ytjbgboaghphaeaa.ChangedWalk
