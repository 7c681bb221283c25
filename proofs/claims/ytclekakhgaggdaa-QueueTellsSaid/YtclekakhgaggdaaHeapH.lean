/- What each of the heap's methods does, told of what is in it (the third part: Remove, Pop). -/
import Derived.Test.YtclekakhgaggdaaHeapG
namespace Go.Proofs.Ytclekakhgaggdaa.HeapC
open Go.RowKit Go.Proofs.Ytclekakhgaggdaa.HeapT Go.Proofs.Ytclekakhgaggdaa.HeapM Go.Proofs.YtclekakhgaggdaaW.PrintWords Go.Proofs.YtclekakhgaggdaaW.PrintLast Go.Proofs.YtclekakhgaggdaaW.PrintMore
set_option linter.unusedVariables false
set_option linter.unusedSimpArgs false

theorem HPost.mk2 {w w' : World} {g mb : Nat} {v : Value} {xs' : List Itm} {M' : Int → Option Nat} {most : Int} {N' N2 n : Nat} {F : Nat → Prop} {C : Int → Option Int}
    (hf : ∀ k, (k = g ∨ OwnB v mb k) → F k ∨ w.heap.size ≤ k) (m : HMem w' g mb v xs' M' most N') (c : Chg w w' F) (hp : Places M' xs') (hh : Heaped xs') (hc : Cont M' xs' = C) (hn : xs'.length = n)
    (hw : ∀ q, q < xs'.length → (Lit.int .i64 (it xs' q).1).wf = true) (hN : N' ≤ N2) : HPost w w' g C most n N2 F := by
  have lt : ∀ k, (k = g ∨ OwnB v mb k) → k < w'.heap.size := by
    rintro k (e | e | e)
    · rw [e]; exact HeapM.blk_lt m.head
    · exact m.rowLt k e
    · rw [e]; exact m.mapLt
  exact ⟨fun k => k = g ∨ OwnB v mb k, ⟨⟨mb, v, xs', M', ⟨m.head, m.row, m.map.mono hN, m.gm, m.vg, m.vm⟩, hp, hh, hc, hn, hw, fun k e => e⟩, lt⟩, c, fun k e => (hf k e).imp id fun h => ⟨h, lt k e⟩⟩

theorem HMem.cut {w : World} {g mb r cap : Nat} {xs : List Itm} {M : Int → Option Nat} {most : Int} {N : Nat} (h : HMem w g mb (.slice (some ⟨r, 0, none⟩) xs.length cap) xs M most N) (hn : 0 < xs.length) (L : Nat) (hL : L ≤ xs.length) :
    HMem (w.setCell ⟨g, 0, none⟩ (.slice (some ⟨r, 0, none⟩) L cap)) g mb (.slice (some ⟨r, 0, none⟩) L cap) (xs.take L) M most N := by
  obtain ⟨r', cap', cur, e, hr, hrg, hrm, hlc, hcap, hsz, htk⟩ := h.at hn
  injection e with e1 _ e2
  injection e1 with e1
  injection e1 with e1
  subst e1; subst e2
  have hlt : (xs.take L).length = L := by rw [List.length_take]; omega
  refine ⟨HeapM.blk_set_same h.head _ _ (by simp), ?_, ?_, h.gm, by simp [Value.ownBlock]; exact hrg, by simp [Value.ownBlock]; exact hrm⟩
  · refine ⟨by rw [cellsL_length], .inr ⟨r, cap, cur, by rw [hlt], Nat.zero_le _, HeapM.blk_set_other hr _ _ hrg, by rw [hlt]; omega, hcap, by simp [hsz], ?_⟩⟩
    have : cellsL (xs.take L) = (cellsL xs).take (L * 2) := by
      have e := cellsL_append (xs.take L) (xs.drop L)
      rw [List.take_append_drop] at e
      have e2 : (cellsL (xs.take L)).length = L * 2 := by rw [cellsL_length, hlt]
      rw [e, ← e2, List.take_left]
    rw [hlt, this, ← htk, List.take_take]
    congr 1; omega
  · obtain ⟨o, ho⟩ := IMap.blk h.map
    exact h.map.congr ((HeapM.blk_set_other ho _ _ (Ne.symm h.gm)).trans ho.symm)

set_option maxHeartbeats 1000000 in
theorem remove_none (w : World) (g : Nat) (C : Int → Option Int) (most : Int) (n N : Nat) (F : Nat → Prop) (h : IsHeap w g C most n N F) (k : Int) (hk : (Lit.int .i64 k).wf = true) (hc : C k = none) :
    Calls Try.prog 34 #[.pointer (some ⟨g, 0, none⟩), .int .i64 k] w fun e w' => e = .returned (.bool false) ∧ w = w' := by
  obtain ⟨⟨mb, v, xs, M, hm, hp, hh, rfl, rfl, hw, hf⟩, hl⟩ := h
  have hpl := place_calls w g mb v xs M most N hm k hk
  rw [cont_none.1 hc] at hpl
  have HP := Lib.hid hpl
  clear hm hp hh hw hf hl hpl hc
  go_enter Try.func34, Try.ntmps34
  go_wp2_with (first | (go_at_call 39; refine HP.out.mono ?_; rintro e w' ⟨c, rfl, -, rfl⟩))
  go_ret
  exact ⟨rfl, rfl⟩

set_option maxHeartbeats 2000000 in
theorem remove_some (w : World) (g : Nat) (C : Int → Option Int) (most : Int) (n N : Nat) (F : Nat → Prop) (h : IsHeap w g C most n N F) (hN : N < 3000000000000000000) (hn : n ≤ 1000000) (k : Int) (hk : (Lit.int .i64 k).wf = true) (hc : C k ≠ none) :
    Calls Try.prog 34 #[.pointer (some ⟨g, 0, none⟩), .int .i64 k] w fun e w' => e = .returned (.bool true) ∧ 0 < n ∧ HPost w w' g (upd C k none) most (n - 1) (N + 4000010) F := by
  obtain ⟨⟨mb, v, xs, M, hm, hp, hh, rfl, rfl, hw, hf⟩, hl⟩ := h
  have hpl := place_calls w g mb v xs M most N hm k hk
  cases hM : M k with
  | none => exact absurd (cont_none.2 hM) hc
  | some i =>
    obtain ⟨hi, hik⟩ := (hp k i).1 hM
    obtain ⟨r, cap, cur, rfl, hr, hrg, hrm, hlc, hcap, hsz, htk⟩ := hm.at (by omega)
    obtain ⟨L, hL⟩ : ∃ L, xs.length = L + 1 := ⟨xs.length - 1, by omega⟩
    have hlen : xs.length ≤ 9223372036854775807 := by omega
    have h0 : w.cell? ⟨g, 0, none⟩ = some (.slice (some ⟨r, 0, none⟩) xs.length cap) := (HeapM.blk_cell hm.head 0).trans rfl
    have hw1 : wrap64 ((xs.length : Int) - 1) = (L : Int) := by unfold wrap64; omega
    rw [hM] at hpl
    have HP := Lib.hid hpl
    have hm' := Aside0.mk hm
    have hp' := Aside0.mk hp
    have hh' := Aside0.mk hh
    have hw' := Aside0.mk hw
    have hf' := Aside0.mk hf
    have hl' := Aside0.mk hl
    have hik' := Aside0.mk hik
    have hM' := Aside0.mk hM
    clear hm hp hh hw hf hl hpl hM hr htk hsz hc hik
    go_enter Try.func34, Try.ntmps34
    go_wp2_with fail
    refine HP.out.mono ?_
    rintro e w' ⟨c, rfl, hci, rfl⟩
    obtain rfl := hci i rfl
    clear hci HP
    go_wp2_with fail
    refine (swap_calls _ g mb _ _ M most N hm'.out (by omega) i L (by omega) (by omega) (by omega) (by omega) hw'.out).mono ?_
    rintro e w2 ⟨rfl, c2, m2⟩
    rw [Int.toNat_natCast, Int.toNat_natCast] at m2
    have hsl : (swp xs i L).length = xs.length := length_swp _ _ _
    have m2' := Aside0.mk m2
    have h2 : w2.cell? ⟨g, 0, none⟩ = some (.slice (some ⟨r, 0, none⟩) xs.length cap) := (HeapM.blk_cell m2.head 0).trans rfl
    have f2 : w2.frozen? ⟨g, 0, none⟩ = false := HeapM.blk_free m2.head 0
    have h21 : w2.cell? ⟨g, 1, none⟩ = some (.map (some mb)) := (HeapM.blk_cell m2.head 1).trans rfl
    have c2' := Aside0.mk c2
    have m3 := HMem.cut (hsl.symm ▸ m2) (by rw [hsl]; omega) L (by rw [hsl]; omega)
    obtain ⟨w4, dr, im4, gr4⟩ := IMap.drop (tm := 73) Try.underlying73 Try.underlying3 Try.underlying3 m3.map k hk 0
    have m3' := Aside0.mk m3
    have im4' := Aside0.mk im4
    have gr4' := Aside0.mk gr4
    have w4wf : Aside0 (∀ q, q < ((swp xs i L).take L).length → (Lit.int .i64 (it ((swp xs i L).take L) q).1).wf = true) := ⟨fun q hq => by
      rw [List.length_take, hsl] at hq
      rw [it_take _ _ _ (by omega)]
      exact swp_wf hw'.out hi (show L < xs.length by omega) q (by rw [hsl]; omega)⟩
    have hlast : (it (swp xs i L) ((swp xs i L).length - 1)).1 = k := by
      rw [hsl, it_swp _ _ _ _ hi (show L < xs.length by omega), show xs.length - 1 = L by omega, if_pos rfl]
      exact hik'.out
    have hP : Places (upd (upd M (it xs L).1 (some i)) (it xs i).1 (some L)) (swp xs i L) := places_swp hp'.out hi (by omega)
    have p4 : Places (upd (upd (upd M (it xs L).1 (some i)) (it xs i).1 (some L)) k none) ((swp xs i L).take L) := by
      have := places_take hP (by rw [hsl]; omega)
      rw [hlast, hsl, show xs.length - 1 = L by omega] at this
      exact this
    have c4 : Cont (upd (upd (upd M (it xs L).1 (some i)) (it xs i).1 (some L)) k none) ((swp xs i L).take L) = upd (Cont M xs) k none := by
      have := cont_take hP (by rw [hsl]; omega)
      rw [hlast, hsl, show xs.length - 1 = L by omega, cont_swp hp'.out hi (by omega)] at this
      exact this
    have m4 : HMem w4 g mb (.slice (some ⟨r, 0, none⟩) L cap) ((swp xs i L).take L) (upd (upd (upd M (it xs L).1 (some i)) (it xs i).1 (some L)) k none) most (N + 2) := by
      have cg : Chg (w2.setCell ⟨g, 0, none⟩ (.slice (some ⟨r, 0, none⟩) L cap)) w4 (fun q => q = mb) := (Chg.refl _ _).grown gr4 (fun q e => .inl (Option.some.inj e).symm)
      exact ⟨cg.blk m3.head (fun e => hm'.out.gm e), row_keep cg m3.row (fun q e => by rw [e]; exact m3.vm), im4, m3.gm, m3.vg, m3.vm⟩
    have ch4 : Chg w w4 F := by
      refine ((c2.mono (fun q e => .inl (hf'.out q (.inr e)))).setCell (.inl (hf'.out g (.inl rfl))) _).grown gr4 (fun q e => .inl ?_)
      exact (Option.some.inj e) ▸ hf'.out mb (.inr (.inr rfl))
    have len4 : ((swp xs i L).take L).length = L := by rw [List.length_take, hsl]; omega
    have HF : Aside0 (∀ q, (q = g ∨ OwnB (.slice (some ⟨r, 0, none⟩) L cap) mb q) → F q ∨ w.heap.size ≤ q) := ⟨fun q e => .inl (hf'.out q e)⟩
    have m4' := Aside0.mk m4
    have p4' := Aside0.mk p4
    have c4' := Aside0.mk c4
    have ch4' := Aside0.mk ch4
    clear m2 c2 h0 m3 im4 gr4 m4 p4 c4 ch4 hP hlast m3' im4' gr4'
    by_cases hiL : i < L
    · have x4 := Aside0.mk (take_exc hh'.out i (by omega))
      rw [show xs.length - 1 = L by omega] at x4
      go_wp2_with fail
      refine (up_calls _ g mb _ _ _ most _ m4'.out (by omega) i (by omega) (by omega) (by omega) w4wf.out p4'.out (by rw [Int.toNat_natCast]; exact x4.out)).mono ?_
      rintro e w5 ⟨rfl, xs5, M5, N5, T5, hN5, D5⟩
      rw [Int.toNat_natCast] at D5
      have hD5 : DownI xs5 i := by
        rcases D5 with ⟨e1, e2, e3⟩ | e
        · rw [e1]; exact e3
        · exact heaped_downI e _
      have hl5 : xs5.length = L := T5.len.trans len4
      have T5' := Aside0.mk T5
      have hD5' := Aside0.mk hD5
      clear T5 D5 hD5
      go_wp2_with fail
      refine (down_calls _ g mb _ _ _ most N5 T5'.out.mem (by omega) i (by omega) (by omega) (by omega) T5'.out.wf T5'.out.pl (by rw [Int.toNat_natCast]; exact hD5'.out)).mono ?_
      rintro e w6 ⟨rfl, xs6, M6, N6, T6, hN6, H6⟩
      have P : HPost w w6 g (upd (Cont M xs) k none) most (xs.length - 1) (N + 4000010) F := by
        refine HPost.mk2 HF.out T6.mem ?_ T6.pl H6 ?_ (by rw [T6.len, hl5]; omega) T6.wf (by omega)
        · exact (ch4'.out.trans T5'.out.chg (fun q e => .inl (hf'.out q (.inr e)))).trans T6.chg (fun q e => .inl (hf'.out q (.inr e)))
        · rw [T6.co, T5'.out.co, c4'.out]
      have P' := Aside0.mk P
      clear T6 H6 P
      go_wp2
      go_ret
      exact ⟨rfl, by omega, P'.out⟩
    · have hiL2 : i = L := by omega
      go_wp2_with fail
      go_ret
      refine ⟨rfl, by omega, HPost.mk2 HF.out m4'.out ch4'.out p4'.out ?_ c4'.out (by rw [len4]; omega) w4wf.out (by omega)⟩
      rw [hiL2, swp_self xs L (by omega)]
      exact take_heaped hh'.out L
end Go.Proofs.Ytclekakhgaggdaa.HeapC
