/- What the package-level variables hold; numbers and their texts; digits; counts. -/
import Derived.Test.YtbecemdehelooaaGreatDoorFrameS
import Derived.Test.YtbecemdehelooaaGreatDoorProg
import Derived.Below
import Derived.Deep.Draws
import Derived.Deep.AppendLies
import Derived.Maps.AppendAt
import Derived.OwnWalk
import Derived.Laws.BytesArg
import Derived.Laws.MakeOwn
import Derived.Laws.OwnMore
import Derived.Deep.OwnRows
import Derived.Tactics
import Derived.Lib.ConvBytes
import Derived.Laws.Slices
import Derived.WalkKit
import Derived.KernelRfl
import Derived.RowKit3
import Derived.Deep.LoopGhost
import Derived.Deep.QuietTactic
import Derived.BigQuiet
import Derived.WideLaws
import Derived.Deep.DeepCutAuto
import Derived.Deep.CutBlock
import Derived.Deep.RegionHeld3
import Derived.Laws.Rows
import Derived.Lib.AppendStr
import Derived.ArgAppend
import Derived.Laws.IdiomCopy
import Derived.OrdersHeld
import Derived.Laws.BitsLemmas
import Derived.RowKit
import Derived.Test.YtbecemdehelooaaGreatDoorWWords
import Derived.Test.YtbecemdehelooaaGreatDoorWLast
import Derived.Test.YtbecemdehelooaaGreatDoorWTab
import Derived.Test.YtbecemdehelooaaGreatDoorWFour
import Derived.Test.YtbecemdehelooaaGreatDoorWQPut
import Derived.Test.YtbecemdehelooaaGreatDoorWApart
import Derived.Test.YtbecemdehelooaaGreatDoorWArr
import Derived.Test.YtbecemdehelooaaGreatDoorWZeros
import Derived.Test.YtbecemdehelooaaGreatDoorWFoot
import Derived.Test.YtbecemdehelooaaGreatDoorWKept
import Derived.Test.YtbecemdehelooaaGreatDoorWShare
import Derived.Test.YtbecemdehelooaaGreatDoorWN
import Derived.Test.YtbecemdehelooaaGreatDoorWFootNe
import Derived.Test.YtbecemdehelooaaGreatDoorWAt
import Derived.Test.YtbecemdehelooaaGreatDoorWEqStruct
import Derived.Test.YtbecemdehelooaaGreatDoorWRepsOne
import Derived.Test.YtbecemdehelooaaGreatDoorWInv
import Derived.Test.YtbecemdehelooaaGreatDoorWInvWords
import Derived.Test.YtbecemdehelooaaGreatDoorWGuard
import Derived.Test.YtbecemdehelooaaGreatDoorWNEv
import Derived.Test.YtbecemdehelooaaGreatDoorWMore
import Derived.Laws.BytesArg
import Derived.Test.YtbecemdehelooaaGreatDoorShelf
import Derived.WalkKit
import Derived.KernelRfl
import Derived.Outline
import Derived.Lib.Hide
import Derived.Handy
import Derived.RegionTactic
import Derived.Deep.QuietTactic
import Derived.BigQuiet
import Derived.Laws.RangeString
import Derived.Laws.RangeAny
import Derived.LoopTactic
import Derived.WalkSmall
import Derived.Lib.OthersKept
namespace Go.Proofs.YtbecemdehelooaaGreatDoor.FeedG
open Go.RowKit Go.Proofs.YtbecemdehelooaaGreatDoor.FrameS Go.Proofs.YtbecemdehelooaaGreatDoorW.PrintWords Go.Proofs.YtbecemdehelooaaGreatDoorW.PrintLast Go.Proofs.YtbecemdehelooaaGreatDoorW.PrintMore
set_option linter.unusedVariables false
set_option linter.unusedSimpArgs false

structure G (w : World) : Prop where
  m0 : ∃ m, w.cell? ⟨0, 0, none⟩ = some (.int .i64 m)
  m1 : ∃ tp p, w.var? Tryz.prog "strconv.ErrSyntax" = some #[.iface tp p]
  m2 : ∃ tp p, w.var? Tryz.prog "strconv.ErrRange" = some #[.iface tp p]
  tab : Lib.TabIs Tryz.prog w "internal/strconv.uint64pow10" .u64 Lib.pow10Tab
theorem var_below {w w' : World} {n : String} {cs : Array Value} (h : w.var? Tryz.prog n = some cs) (b : Below w.heap.size w w') : w'.var? Tryz.prog n = some cs := by
  unfold World.var? at h ⊢
  cases hg : Tryz.prog.globalNamed n with
  | none => rw [hg] at h; cases h
  | some g =>
    rw [hg] at h
    simp only [Option.bind_some] at h ⊢
    have hlt : g < w.heap.size := by
      rcases Nat.lt_or_ge g w.heap.size with hl | hl
      · exact hl
      · rw [Array.getElem?_eq_none hl] at h; cases h
    rw [b.block g hlt]; exact h
theorem cell_lt {w : World} {a : Addr} {v : Value} (h : w.cell? a = some v) : a.block < w.heap.size := by
  rcases Nat.lt_or_ge a.block w.heap.size with hl | hl
  · exact hl
  · unfold World.cell? at h; rw [Array.getElem?_eq_none hl] at h; cases h
theorem G.below {w w' : World} (h : G w) (b : Below w.heap.size w w') : G w' := by
  obtain ⟨⟨m, h0⟩, ⟨t1, p1, h1⟩, ⟨t2, p2, h2⟩, h3⟩ := h
  exact ⟨⟨m, (b.cell (cell_lt h0)).trans h0⟩, ⟨t1, p1, var_below h1 b⟩, ⟨t2, p2, var_below h2 b⟩, var_below h3 b⟩

theorem below_grown' (w : World) (k : Nat) (os : Array Obj) : Below w.heap.size w (Sort.grow (w.drewN k) os) := by
  refine ⟨rfl, rfl, rfl, by simp [Sort.grow], fun i hi => ?_⟩
  show (w.heap ++ os)[i]? = _
  rw [Array.getElem?_append_left hi]

set_option maxHeartbeats 400000 in
theorem number_ok (n : Int) (w : World) (hG : G w) (h0 : -9223372036854775808 ≤ n) (h1 : n ≤ 9223372036854775807) :
    Calls Tryz.prog 16 #[.int .i64 n] w fun e w' => e = .returned (.string ⟨(Lib.itoa n).toArray⟩) ∧ Below w.heap.size w w' := by
  have ht := Aside0.mk hG.tab
  clear hG
  go_enter Tryz.func16, Tryz.ntmps16
  go_wp2_with (go_at_call 30; refine (Tryz.strconv_Itoa n h0 h1 _ ht.out).mono ?_; rintro e w' ⟨rfl, k, os, rfl⟩)
  go_ret
  exact ⟨rfl, below_grown' w k os⟩

def readW (s : ByteArray) : Lib.NumEnd Int := Lib.atoiAll s.data.toList
theorem below_bytes (w : World) (e : TypeId) (s : ByteArray) : Below w.heap.size w (Lib.bytesWorld w e s) := by
  refine ⟨rfl, rfl, rfl, by rw [Lib.bytesWorld_size]; omega, fun k hk => Lib.bytesWorld_at_old w e s k hk⟩
theorem atoi_yes (s : ByteArray) (n : Int) (w : World) (hs : s.size ≤ 281474976710656) (h : readW s = .ok n) :
    Calls Tryz.prog 40 #[.string s] w fun e w' => e = .returned (.tuple #[.int .i64 n, .nilIface]) ∧ Below w.heap.size w w' := by
  refine (Tryz.strconv_Atoi_ok s (by omega) n h w).mono ?_
  rintro e w' ⟨rfl, rfl | ⟨t, rfl⟩⟩
  · exact ⟨rfl, Below.refl _ _⟩
  · exact ⟨rfl, below_bytes w _ t⟩
def AtoiNo (w : World) (e : Ending) (w' : World) : Prop := ∃ (i : Int) (p : Nat), e = .returned (.tuple #[.int .i64 i, .iface 83 (.pointer (some ⟨p, 0, none⟩))]) ∧ Below w.heap.size w w'
theorem atoi_no (s : ByteArray) (w : World) (hG : G w) (hs : s.size ≤ 281474976710656) (h : ∀ n, readW s ≠ .ok n) :
    Calls Tryz.prog 40 #[.string s] w (AtoiNo w) := by
  obtain ⟨_, ⟨t1, p1, h1⟩, ⟨t2, p2, h2⟩, _⟩ := hG
  cases hr : Lib.atoiAll s.data.toList
  · exact absurd hr (h _)
  · have hc : Calls Tryz.prog 40 #[.string s] w fun e w' => ∃ N, e = .returned (.tuple #[.int .i64 0, .iface 83 (.pointer (some ⟨N, 0, none⟩))]) ∧ w.heap.size ≤ N ∧ w'.heap[N]? = some (.cells #[.string ⟨#[65, 116, 111, 105]⟩, .string s, .iface t1 p1] 99 (0, 0)) ∧ Below w.heap.size w w' := Go.Proofs.Any.strconv_Atoi_syntax_var Tryz.laysC172 s hs hr t1 p1 w h1
    refine hc.mono ?_
    rintro e w' ⟨N, rfl, _, _, hb⟩
    exact ⟨0, N, rfl, hb⟩
  · refine (Tryz.strconv_Atoi_range_var s hs hr t2 p2 w h2).mono ?_
    rintro e w' ⟨N, rfl, _, _, hb⟩
    exact ⟨_, N, rfl, hb⟩

/-! Digits. -/
def digB (b : UInt8) : Bool := decide (48 ≤ b.toNat) && decide (b.toNat ≤ 57)
def allB (l : List UInt8) : Bool := l.all digB && !l.isEmpty
theorem not_all {s : ByteArray} {p : Nat} (h : p < s.size) (hd : digB s[p] = false) : allB (tl s) = false := by
  unfold allB
  have : (tl s).all digB = false := by
    rw [List.all_eq_false]
    refine ⟨s[p], ?_, by simp [hd]⟩
    exact Array.getElem_mem_toList (xs := s.data) h
  rw [this]; rfl
theorem yes_all {s : ByteArray} (h : ∀ j, ∀ hj : j < s.size, digB s[j] = true) : allB (tl s) = !(tl s).isEmpty := by
  unfold allB
  have : (tl s).all digB = true := by
    rw [List.all_eq_true]
    intro x hx
    obtain ⟨j, hj, e⟩ := List.mem_iff_getElem.1 hx
    have hl := tl_length s
    rw [← e]
    exact h j (by omega)
  rw [this]; rfl
set_option maxHeartbeats 1000000 in
set_option maxRecDepth 100000 in
theorem all_calls (s : ByteArray) (w : World) :
    Calls Tryz.prog 41 #[.string s] w fun e w' => e = .returned (.bool (allB (tl s))) ∧ Below w.heap.size w w' := by
  go_enter Tryz.func41, Tryz.ntmps41
  go_wp2
  go_loopw [4] (fun c w' => ∃ (pos : Nat), w' = w.iter s pos ∧ Aside0 (∀ j, ∀ hj : j < s.size, j < pos → digB s[j] = true)) (fun _ w' => s.size - w'.iterPos w.heap.size)
  case atStart => exact ⟨0, rfl, ⟨fun j _ h => absurd h (Nat.not_lt_zero j)⟩⟩
  case round =>
    obtain ⟨pos, rfl, hall⟩ := hrel
    by_cases hp : pos < s.size
    · by_cases ha : (s[pos]'hp).toNat < 128
      · have hnx : ∀ ty, (Instr.next (.pointer (some ⟨w.heap.size, 0, none⟩)) true ty).run Tryz.prog (w.iter s pos) = .ok (.tuple #[.bool true, .int .i64 pos, .int .i32 (s[pos]'hp).toNat]) (w.iter s (pos + 1)) := fun ty => by rw [run_next_any w s pos ty hp, decode_ascii s pos hp ha]
        by_cases c1 : (s[pos]'hp).toNat < 48
        · have d1 : decide (((s[pos]'hp).toNat : Int) < 48) = true := decide_eq_true (by omega)
          have hr := Aside0.mk (not_all hp (show digB s[pos] = false by unfold digB; rw [decide_eq_false (by omega)]; rfl))
          go_wp2
          go_ret
          exact ⟨by rw [hr.out]; rfl, below_alloc (Below.refl _ _) _⟩
        · have d1 : decide (((s[pos]'hp).toNat : Int) < 48) = false := decide_eq_false (by omega)
          by_cases c2 : 57 < (s[pos]'hp).toNat
          · have d2 : decide (57 < ((s[pos]'hp).toNat : Int)) = true := decide_eq_true (by omega)
            have hr := Aside0.mk (not_all hp (show digB s[pos] = false by unfold digB; rw [decide_eq_false (show ¬ (s[pos]).toNat ≤ 57 by omega), Bool.and_false]))
            go_wp2
            go_ret
            exact ⟨by rw [hr.out]; rfl, below_alloc (Below.refl _ _) _⟩
          · have d2 : decide (57 < ((s[pos]'hp).toNat : Int)) = false := decide_eq_false (by omega)
            have hd := Aside0.mk (show digB s[pos] = true by unfold digB; rw [decide_eq_true (by omega), decide_eq_true (by omega)]; rfl)
            go_wp2
            go_roundw
            case rel =>
              refine ⟨pos + 1, rfl, ⟨fun j hj h => ?_⟩⟩
              by_cases e : j = pos
              · subst e; exact hd.out
              · exact hall.out j hj (by omega)
            case measure =>
              simp
              omega
      · obtain ⟨h1, h2⟩ := decode_high s pos hp (by omega)
        have hnx : ∀ ty, (Instr.next (.pointer (some ⟨w.heap.size, 0, none⟩)) true ty).run Tryz.prog (w.iter s pos) = _ := fun ty => run_next_any w s pos ty hp
        have d1 : decide (((Utf8.decode s pos).1 : Int) < 48) = false := decide_eq_false (by omega)
        have d2 : decide (57 < ((Utf8.decode s pos).1 : Int)) = true := decide_eq_true (by omega)
        have hr := Aside0.mk (not_all hp (show digB s[pos] = false by unfold digB; rw [decide_eq_false (show ¬ (s[pos]).toNat ≤ 57 by omega), Bool.and_false]))
        go_wp2
        go_ret
        exact ⟨by rw [hr.out]; rfl, below_alloc (Below.refl _ _) _⟩
    · have hnx : ∀ ty, (Instr.next (.pointer (some ⟨w.heap.size, 0, none⟩)) true ty).run Tryz.prog (w.iter s pos) = _ := fun ty => run_next_end w s pos ty hp
      have hr := Aside0.mk (yes_all (s := s) (fun j hj => hall.out j hj (by omega)))
      go_wp2
      go_ret
      refine ⟨?_, below_alloc (Below.refl _ _) _⟩
      rw [hr.out, toList_data]
      show _ = Ending.returned (.bool (!(tl s).isEmpty))
      cases h : tl s <;> simp_all [tl]
end Go.Proofs.YtbecemdehelooaaGreatDoor.FeedG
