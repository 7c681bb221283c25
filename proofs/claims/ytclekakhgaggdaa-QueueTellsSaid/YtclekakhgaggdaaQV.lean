/- The document's queue: what waits. -/
import Derived.Test.YtclekakhgaggdaaQM
import Derived.Test.YtclekakhgaggdaaQRc
namespace Go.Proofs.Ytclekakhgaggdaa.HeapC
open Go.RowKit Go.Proofs.Ytclekakhgaggdaa.HeapT Go.Proofs.Ytclekakhgaggdaa.HeapM Go.Proofs.Ytclekakhgaggdaa.QueueM Go.Proofs.YtclekakhgaggdaaW.PrintWords Go.Proofs.YtclekakhgaggdaaW.PrintLast Go.Proofs.YtclekakhgaggdaaW.PrintMore
set_option linter.unusedVariables false
set_option linter.unusedSimpArgs false
variable {κ : TypeId × List Value}
set_option maxHeartbeats 2000000 in
set_option maxRecDepth 20000 in
theorem rwaiting (w : World) (r : Nat) (v : Value) (xs : List Itm) (most : Int) (h : RMem κ w r v xs most) (hl : xs.length ≤ 1000000) :
    Calls Try.prog 20 #[.pointer (some ⟨r, 0, none⟩)] w fun e w' => ∃ u, e = .returned u ∧ NRow w' w.heap.size u (xs.map (·.1)) ∧ Below w.heap.size w w' := by
  obtain ⟨a, cap, rfl⟩ := h.val
  have HH := Aside0.mk h
  obtain ⟨inf, hi0, hi1, hi2, hi3⟩ := info_int
  have hinf := Aside0.mk (And.intro hi0 (And.intro hi1 (And.intro hi2 hi3)))
  obtain ⟨len, hle⟩ : ∃ len, len = xs.length := ⟨_, rfl⟩
  have HLE := Aside0.mk hle
  rw [← hle] at hl
  have BB := Aside0.mk (Below.refl w.heap.size w)
  clear h hle hi0 hi1 hi2 hi3
  go_enter Try.func20, Try.ntmps20
  go_wp2_with fail
  go_loopw [3, 4] (fun vo vi wx => ∃ (i : Nat), vi = .int .i64 i ∧ i ≤ len ∧ Aside0 (NRow wx w.heap.size vo ((xs.take i).map (·.1))) ∧ Aside0 (Below w.heap.size w wx)) (fun _ vi _ => len - (intOf vi).toNat)
  case atStart => exact ⟨0, rfl, by omega, ⟨by simp [NRow]; exact World.ownsRow_nil _ _ _ _⟩, BB⟩
  case round =>
    clear BB
    obtain ⟨i, rfl, hil, HR2, HK2⟩ := hrel
    have c0 : wr.cell? ⟨r, 0, none⟩ = some (.slice a len cap) := by rw [HLE.out]; exact (HeapM.blk_cell (HH.out.below HK2.out).head 0).trans rfl
    by_cases hlt : i < len
    · have hw1 : wrap64 ((i : Int) + 1) = (i : Int) + 1 := by unfold wrap64; omega
      obtain ⟨b, cap', e, -, -, -, q0, -⟩ := (HH.out.below HK2.out).item i (by have := HLE.out; omega)
      injection e with e1 _ _
      subst e1
      obtain ⟨x, hx⟩ : ∃ x, (it xs i).1 = x := ⟨_, rfl⟩
      rw [hx] at q0
      have HX := Aside0.mk hx
      obtain ⟨L, hL⟩ : ∃ L, (xs.take i).map (·.1) = L := ⟨_, rfl⟩
      have HLL := Aside0.mk hL
      rw [hL] at HR2
      have hLl : L.length ≤ 1000000 := by rw [← hL, List.length_map, List.length_take]; have := HLE.out; omega
      have li : ((len : Int) ≤ (i : Int)) = False := eq_false (by omega)
      have hlt' := Aside0.mk hlt
      clear hx hL
      have hown : (wr.alloc (.cells #[.int .i64 x] 3)).ownsRow w.heap.size 3 1 _ L.length (L.map (Value.int .i64)) := HR2.out.below (by apply below_alloc; exact Below.refl _ _)
      have hnews := World.news_of_block (show (wr.alloc (.cells #[.int .i64 x] 3 (0, 0))).heap[wr.heap.size]? = some (.cells #[.int .i64 x] 3 (0, 0)) from HeapM.blk_new wr (.cells #[.int .i64 x] 3 (0, 0)))
      have hgx : (wr.alloc (.cells #[.int .i64 x] 3)).heap.size = wr.heap.size + 1 := by simp
      have hwB : w.heap.size ≤ (wr.alloc (.cells #[.int .i64 x] 3)).heap.size := by rw [hgx]; have := HK2.out.size; omega
      have hLm : L.length + 1 ≤ maxLen := by unfold maxLen; omega
      have hLb : (L.length + 1) * 8 ≤ 140737488355328 := by omega
      obtain ⟨hi0, hi1, hi2, hi3⟩ := hinf.out
      have hown' := Lib.hid hown
      have hnews' := Lib.hid hnews
      have hgx' := Lib.hid hgx
      have hi0' := Lib.hid hi0
      have hi1' := Lib.hid hi1
      have hi2' := Lib.hid hi2
      have hi3' := Lib.hid hi3
      have BA : Below w.heap.size w (wr.alloc (.cells #[.int .i64 x] 3)) := by apply below_alloc; exact HK2.out
      have BA' := Aside0.mk BA
      clear hown hnews hgx hi0 hi1 hi2 hi3 BA
      go_wp2_with (first | (at_builtin; go_loud (refine wpList_append_lies _ rfl _ _ 32 rfl w.heap.size 3 inf (.int .i64 0) 1 8 Try.underlying32 hi0'.out hi1'.out hi2'.out hi3'.out rfl (by decide) _ L.length (L.map (Value.int .i64)) rfl hown'.out ⟨wr.heap.size, 0, none⟩ 1 1 [.int .i64 x] rfl rfl hnews'.out ?c1 (by decide) hLm hLb hwB (wr.heap.size + 1) hgx'.out ?_)))
      case c1 => first | rfl | exact ⟨rfl, rfl⟩
      intro g2 cap2 w2 hown2 hgr2 hat2 hlt2
      obtain ⟨R2, B2⟩ := nrow_app BA'.out hown'.out hown2 hgr2
      have R2' := Aside0.mk R2
      have B2' := Aside0.mk B2
      clear hown2 hgr2 hat2 hlt2 R2 B2 hown' hnews' hgx' hi0' hi1' hi2' hi3' hwB hLm hLb
      go_wp2_with fail
      go_roundw
      case rel => exact ⟨i + 1, rfl, by have := hlt'.out; omega, ⟨by
        have e : (xs.take (i + 1)).map (·.1) = L ++ [x] := by
          have hi : i < xs.length := by have := hlt'.out; have := HLE.out; omega
          rw [List.take_add_one, List.getElem?_eq_getElem hi, List.map_append, HLL.out, ← HX.out]
          simp [it, List.getD_eq_getElem?_getD, List.getElem?_eq_getElem hi]
        rw [e]; exact R2'.out⟩, B2'⟩
      case measure => simp [intOf]; have := hlt'.out; omega
    · obtain rfl : i = len := by omega
      obtain ⟨oa, oc, rfl⟩ := HR2.out.val
      go_wp2_with fail
      go_ret
      have HR9 := HR2.out
      rw [show xs.take i = xs by rw [HLE.out]; exact List.take_length] at HR9 ⊢
      exact ⟨_, rfl, HR9, HK2.out⟩
end Go.Proofs.Ytclekakhgaggdaa.HeapC
