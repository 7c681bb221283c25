/- The ones that wait, in order. -/
import Derived.Test.YtclekakhgaggdaaQF
namespace Go.Proofs.Ytclekakhgaggdaa.HeapC
open Go.RowKit Go.Proofs.Ytclekakhgaggdaa.HeapT Go.Proofs.Ytclekakhgaggdaa.HeapM Go.Proofs.Ytclekakhgaggdaa.QueueM Go.Proofs.YtclekakhgaggdaaW.PrintWords Go.Proofs.YtclekakhgaggdaaW.PrintLast Go.Proofs.YtclekakhgaggdaaW.PrintMore
set_option linter.unusedVariables false
set_option linter.unusedSimpArgs false
/-- A slice of the items ys, in blocks of D. -/
def Its (w : World) (D : Nat → Prop) (v : Value) (ys : List Itm) : Prop :=
  ∃ a cap, v = .slice a ys.length cap ∧ ys.length ≤ maxLen ∧ ∀ i, i < ys.length → ∃ b, a = some ⟨b, 0, none⟩ ∧ D b ∧ b < w.heap.size ∧ w.cell? ⟨b, i * 2, none⟩ = some (.int .i64 (it ys i).1) ∧ w.cell? ⟨b, i * 2 + 1, none⟩ = some (.int .i64 (it ys i).2)
theorem Its.kept {w w' : World} {D : Nat → Prop} {v : Value} {ys : List Itm} (h : Its w D v ys) (k : Kept w w' D) : Its w' D v ys := by
  obtain ⟨a, cap, h1, h2, h3⟩ := h
  refine ⟨a, cap, h1, h2, fun i hi => ?_⟩
  obtain ⟨b, e1, e2, e3, e4, e5⟩ := h3 i hi
  exact ⟨b, e1, e2, Nat.lt_of_lt_of_le e3 k.size, (k.cell e3 e2 _).trans e4, (k.cell e3 e2 _).trans e5⟩
theorem Its.mono {w : World} {D D' : Nat → Prop} {v : Value} {ys : List Itm} (h : Its w D v ys) (k : ∀ b, D b → D' b) : Its w D' v ys := by
  obtain ⟨a, cap, h1, h2, h3⟩ := h
  refine ⟨a, cap, h1, h2, fun i hi => ?_⟩
  obtain ⟨b, e1, e2, e3, e4, e5⟩ := h3 i hi
  exact ⟨b, e1, k b e2, e3, e4, e5⟩
theorem its_of {w : World} {base n : Nat} {v : Value} {ys : List Itm} (h : w.ownsRow base 63 2 v n (cellsL ys)) (hl : ys.length = n) (hm : n ≤ maxLen) : Its w (fun k => v.ownBlock = some k) v ys := by
  obtain ⟨-, ⟨rfl, rfl⟩ | ⟨g, cap, cur, rfl, hg, hb, h1, h2, h3, h4⟩⟩ := h
  · refine ⟨none, 0, by rw [hl], by omega, fun i hi => by omega⟩
  · refine ⟨_, cap, by rw [hl], by omega, fun i hi => ⟨g, rfl, rfl, HeapM.blk_lt hb, ?_, ?_⟩⟩
    · exact (HeapM.blk_cell hb _).trans (cur_get (by rw [hl]; exact h4) i hi).1
    · exact (HeapM.blk_cell hb _).trans (cur_get (by rw [hl]; exact h4) i hi).2
/-- A slice of numbers that is our own. -/
def NRow (w : World) (B : Nat) (v : Value) (xs : List Int) : Prop := w.ownsRow B 3 1 v xs.length (xs.map (Value.int .i64))
theorem NRow.below {w1 w2 : World} {B : Nat} {v : Value} {xs : List Int} (h : NRow w1 B v xs) (b : Below w1.heap.size w1 w2) : NRow w2 B v xs := row_keep (Chg.of_below b (fun _ => False)) h (fun _ e => e.elim)
theorem NRow.val {w : World} {B : Nat} {v : Value} {xs : List Int} (h : NRow w B v xs) : ∃ a cap, v = .slice a xs.length cap := by
  rcases h.2 with ⟨h1, h2⟩ | ⟨b, cap, cur, h1, _⟩
  · exact ⟨none, 0, by rw [h1, h2]⟩
  · exact ⟨_, _, h1⟩
theorem nrow_app {w0 w1 w2 : World} {v : Value} {xs : List Int} {k : Int} {g cap : Nat} (hb : Below w0.heap.size w0 w1) (hv : NRow w1 w0.heap.size v xs)
    (ho : w2.ownsRow w0.heap.size 3 1 (.slice (some ⟨g, 0, none⟩) (xs.length + 1) cap) (xs.length + 1) (xs.map (Value.int .i64) ++ [.int .i64 k])) (hg : w1.grownBy w2 v.ownBlock) :
    NRow w2 w0.heap.size (.slice (some ⟨g, 0, none⟩) (xs.length + 1) cap) (xs ++ [k]) ∧ Below w0.heap.size w0 w2 := by
  refine ⟨?_, ?_⟩
  · unfold NRow
    have e1 : (xs ++ [k]).length = xs.length + 1 := by simp
    have e2 : (xs ++ [k]).map (Value.int .i64) = xs.map (Value.int .i64) ++ [.int .i64 k] := by simp
    rw [e1, e2]; exact ho
  · exact ((Chg.of_below hb (fun q => w0.heap.size ≤ q)).grown hg (fun q e => .inl (hv.lt q e).1)).below (fun q e => e)
theorem info_int : ∃ i, Try.prog.info? 3 = some i ∧ i.zero = some (.int .i64 0) ∧ i.size = 1 ∧ i.bytes = 8 := by
  have h : (Try.prog.info? 3).map (fun i => (i.zero, i.size, i.bytes)) = some (some (.int .i64 0), 1, 8) := by kernel_rfl
  obtain ⟨i, h1, h2⟩ := Option.map_eq_some_iff.1 h
  injection h2 with a b
  injection b with b c
  exact ⟨i, h1, a, b, c⟩
/-- The keys of C, rising. -/
theorem SortedOf.keys {C : Int → Option Int} {ys : List Itm} (h : SortedOf C ys) : SetOf (fun x => (C x).isSome) (ys.map (·.1)) := by
  refine ⟨?_, fun x => ?_⟩
  · have := h.1
    exact List.pairwise_map.2 (this.imp (fun e => e))
  · rw [List.mem_map]
    constructor
    · rintro ⟨⟨k, p⟩, hm, rfl⟩
      show (C k).isSome = true
      rw [(h.mem k p).1 hm]; rfl
    · intro hx
      obtain ⟨p, hp⟩ := Option.isSome_iff_exists.1 hx
      exact ⟨(x, p), (h.mem x p).2 hp, rfl⟩
section
variable {w : World} {q g mb : Nat} {C : Int → Option Int} {S : Int → Bool} {age most : Int} {n N : Nat} {D : Nat → Prop}
set_option maxHeartbeats 2000000 in
set_option maxRecDepth 20000 in
theorem QHeld.waiting (h : QHeld w q g mb C S age most n N D) (hn : n ≤ 1000000) :
    Calls Try.prog 19 #[.pointer (some ⟨q, 0, none⟩)] w fun e w' => ∃ v ks, e = .returned v ∧ SetOf (fun x => (C x).isSome) ks ∧ ks.length = n ∧ NRow w' w.heap.size v ks ∧ Below w.heap.size w w' := by
  have c0 : w.cell? ⟨q, 0, none⟩ = some (.pointer (some ⟨g, 0, none⟩)) := (HeapM.blk_cell h.head 0).trans rfl
  have HA := Aside0.mk (h.heap.all hn)
  have HL := Aside0.mk hn
  obtain ⟨inf, hi0, hi1, hi2, hi3⟩ := info_int
  have hinf := Aside0.mk (And.intro hi0 (And.intro hi1 (And.intro hi2 hi3)))
  clear h hn hi0 hi1 hi2 hi3
  go_enter Try.func19, Try.ntmps19
  go_wp2_with fail
  refine HA.out.mono ?_
  rintro e w1 ⟨v, ys, rfl, S0, hyl, ho, B1⟩
  have hits : Its w1 (fun k => v.ownBlock = some k) v ys := its_of ho hyl (Nat.le_trans HL.out (by decide))
  obtain ⟨va, vc, hv, hlen, hcell⟩ := hits
  have HC := Aside0.mk hcell
  have HKS := Aside0.mk S0.keys
  have HB1 := Aside0.mk B1
  have HYL := Aside0.mk hyl
  have hlm : ys.length ≤ 1000000 := by have := HL.out; omega
  subst hv
  clear S0 ho B1 hcell c0 hyl HA
  obtain ⟨len, hle⟩ : ∃ len, len = ys.length := ⟨_, rfl⟩
  have HLE := Aside0.mk hle
  rw [← hle] at hlm ⊢
  clear hle
  have HB2 := Aside0.mk (Below.refl w1.heap.size w1)
  go_wp2_with fail
  go_loopw [2, 4, 13] (fun vo _ vi wr => ∃ (i : Nat), vi = .int .i64 i ∧ i ≤ len ∧ Aside0 (NRow wr w1.heap.size vo ((ys.take i).map (·.1))) ∧ Aside0 (Below w1.heap.size w1 wr)) (fun _ _ vi _ => len - (intOf vi).toNat)
  case atStart => exact ⟨0, rfl, by omega, ⟨by simp [NRow]; exact World.ownsRow_nil _ _ _ _⟩, HB2⟩
  case round =>
    obtain ⟨i, rfl, hil, HR, HK⟩ := hrel
    by_cases hlt : i < len
    · have hw1 : wrap64 ((i : Int) + 1) = i + 1 := by unfold wrap64; omega
      obtain ⟨b, e, hb, hbl, q0, q1⟩ := HC.out i (by have := HLE.out; omega)
      subst e
      obtain ⟨x, hx⟩ : ∃ x, (it ys i).1 = x := ⟨_, rfl⟩
      obtain ⟨y, hy⟩ : ∃ x, (it ys i).2 = x := ⟨_, rfl⟩
      rw [hx] at q0
      rw [hy] at q1
      have d0 := (HK.out.cell (p := ⟨b, i * 2, none⟩) hbl).trans q0
      have d1 := (HK.out.cell (p := ⟨b, i * 2 + 1, none⟩) hbl).trans q1
      have HX := Aside0.mk hx
      have hlt' := Aside0.mk hlt
      obtain ⟨L, hL⟩ : ∃ L, (ys.take i).map (·.1) = L := ⟨_, rfl⟩
      have hL' := Aside0.mk hL
      rw [hL] at HR
      have hLl : L.length ≤ 1000000 := by rw [← hL, List.length_map, List.length_take]; have := HLE.out; omega
      clear hb q0 q1 hx hy hL
      have KX := Aside0.mk (HeapM.blk_new wr (.cells #[.int .i64 x, .int .i64 y] 63))
      have HR2 := Aside0.mk (HR.out.below (by apply below_alloc; exact Below.refl _ _) : NRow (wr.alloc (.cells #[.int .i64 x, .int .i64 y] 63)) w1.heap.size _ L)
      have HK2 := Aside0.mk (show Below w1.heap.size w1 (wr.alloc (.cells #[.int .i64 x, .int .i64 y] 63)) by apply below_alloc; exact HK.out)
      have y0 : (wr.alloc (.cells #[.int .i64 x, .int .i64 y] 63)).cell? ⟨wr.heap.size, 0, none⟩ = some (.int .i64 x) := (HeapM.blk_cell KX.out 0).trans rfl
      have hown : ((wr.alloc (.cells #[.int .i64 x, .int .i64 y] 63)).alloc (.cells #[.int .i64 x] 3)).ownsRow w1.heap.size 3 1 _ L.length (L.map (Value.int .i64)) := HR2.out.below (by apply below_alloc; exact Below.refl _ _)
      have hnews := World.news_of_block (show ((wr.alloc (.cells #[.int .i64 x, .int .i64 y] 63)).alloc (.cells #[.int .i64 x] 3 (0, 0))).heap[(wr.heap.size + 1)]? = some (.cells #[.int .i64 x] 3 (0, 0)) by rw [show (wr.heap.size + 1) = (wr.alloc (.cells #[.int .i64 x, .int .i64 y] 63)).heap.size by simp]; exact HeapM.blk_new (wr.alloc (.cells #[.int .i64 x, .int .i64 y] 63)) (.cells #[.int .i64 x] 3 (0, 0)))
      have hgx : ((wr.alloc (.cells #[.int .i64 x, .int .i64 y] 63)).alloc (.cells #[.int .i64 x] 3)).heap.size = (wr.heap.size + 1) + 1 := by simp
      have hwB : w1.heap.size ≤ ((wr.alloc (.cells #[.int .i64 x, .int .i64 y] 63)).alloc (.cells #[.int .i64 x] 3)).heap.size := by rw [hgx]; have := HK2.out.size; have : (wr.heap.size + 1) = (wr.alloc (.cells #[.int .i64 x, .int .i64 y] 63)).heap.size := (by simp); omega
      have hLm : L.length + 1 ≤ maxLen := by unfold maxLen; omega
      have hLb : (L.length + 1) * 8 ≤ 140737488355328 := by omega
      obtain ⟨hi0, hi1, hi2, hi3⟩ := hinf.out
      have hown' := Lib.hid hown
      have hnews' := Lib.hid hnews
      have hgx' := Lib.hid hgx
      have hi0' := Lib.hid hi0
      have hi1' := Lib.hid hi1
      have hi2' := Lib.hid hi2
      have hi3' := Lib.hid hi3
      have BA : Below w1.heap.size w1 ((wr.alloc (.cells #[.int .i64 x, .int .i64 y] 63)).alloc (.cells #[.int .i64 x] 3)) := by apply below_alloc; exact HK2.out
      have BA' := Aside0.mk BA
      clear hown hnews hgx hi0 hi1 hi2 hi3 BA
      go_wp2_with (first | (at_builtin; go_loud (refine wpList_append_lies _ rfl _ _ 32 rfl w1.heap.size 3 inf (.int .i64 0) 1 8 Try.underlying32 hi0'.out hi1'.out hi2'.out hi3'.out rfl (by decide) _ L.length (L.map (Value.int .i64)) rfl hown'.out ⟨(wr.heap.size + 1), 0, none⟩ 1 1 [.int .i64 x] rfl rfl hnews'.out ?c1 (by decide) hLm hLb hwB ((wr.heap.size + 1) + 1) hgx'.out ?_)))
      case c1 => first | rfl | exact ⟨rfl, rfl⟩
      intro g2 cap2 w2 hown2 hgr2 hat2 hlt2
      obtain ⟨R2, B2⟩ := nrow_app BA'.out hown'.out hown2 hgr2
      have R2' := Aside0.mk R2
      have B2' := Aside0.mk B2
      clear hown2 hgr2 hat2 hlt2 R2 B2 hown' hnews' hgx' hi0' hi1' hi2' hi3' hwB hLm hLb
      go_wp2_with fail
      refine ⟨⟨i + 1, by push_cast; rfl, by have := hlt'.out; omega, ⟨?_⟩, B2'⟩, by simp only [intOf]; have := hlt'.out; omega⟩
      have e : (ys.take (i + 1)).map (·.1) = L ++ [x] := by
        have hi : i < ys.length := by have := hlt'.out; have := HLE.out; omega
        rw [List.take_add_one, List.getElem?_eq_getElem hi, List.map_append, hL'.out, ← HX.out]
        simp [it, List.getD_eq_getElem?_getD, List.getElem?_eq_getElem hi]
      rw [e]; exact R2'.out
    · obtain rfl : i = len := by omega
      obtain ⟨oa, oc, rfl⟩ := HR.out.val
      go_wp2_with fail
      go_ret
      have HR9 := HR.out
      rw [show ys.take i = ys by rw [HLE.out]; exact List.take_length] at HR9
      refine ⟨_, _, rfl, HKS.out, by rw [List.length_map]; exact HYL.out, ?_, HB1.out.trans (HK.out.mono HB1.out.size)⟩
      have := ownsRow_base_a HR9 HB1.out.size
      rw [show ys.take i = ys by rw [HLE.out]; exact List.take_length]
      exact this
end
end Go.Proofs.Ytclekakhgaggdaa.HeapC
