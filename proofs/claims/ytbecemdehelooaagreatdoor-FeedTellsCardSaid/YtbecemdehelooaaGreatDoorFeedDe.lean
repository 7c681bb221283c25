/- Lines, read: the contract of Split, and what is told. -/
import Derived.Test.YtbecemdehelooaaGreatDoorFeedEn
import Derived.Test.YtbecemdehelooaaGreatDoorFeedPl
namespace Go.Proofs.YtbecemdehelooaaGreatDoor.FeedDe
open Go.RowKit Go.Proofs.YtbecemdehelooaaGreatDoor.FrameS Go.Proofs.YtbecemdehelooaaGreatDoor.FeedG Go.Proofs.YtbecemdehelooaaGreatDoor.FeedD Go.Proofs.YtbecemdehelooaaGreatDoor.FeedN Go.Proofs.YtbecemdehelooaaGreatDoor.FeedW Go.Proofs.YtbecemdehelooaaGreatDoor.FeedQ Go.Proofs.YtbecemdehelooaaGreatDoorW.PrintWords Go.Proofs.YtbecemdehelooaaGreatDoorW.PrintLast Go.Proofs.YtbecemdehelooaaGreatDoorW.PrintMore
set_option linter.unusedVariables false
set_option linter.unusedSimpArgs false
def sp : ByteArray := ⟨#[32]⟩
/-- A text's words. -/
def wordsOf (s : ByteArray) : List ByteArray := Lib.splitB sp 0 (Lib.countB s sp) s
theorem words_length (h : ByteArray) : (wordsOf h).length = Lib.countB h sp + 1 := Lib.splitB_all sp (by decide) 0 _ h rfl
theorem words_tl (h : ByteArray) : (wordsOf h).map tl = Lib.splitK [32] 0 (Lib.count (tl h) [32]) (tl h) := Lib.splitB_data sp 0 _ h
theorem split_calls (h : ByteArray) (w : World) (hG : G w) (hs : h.size ≤ 70000) :
    Calls Tryz.prog 21 #[.string h, .string ⟨#[32]⟩] w fun e w' => e = .returned (.slice (some ⟨w.heap.size, 0, none⟩) (wordsOf h).length (wordsOf h).length) ∧ w' = w.alloc (.cells ((wordsOf h).map Value.string).toArray 9) := by
  obtain ⟨m, hm⟩ := hG.m0
  have := Tryz.strings_Split h sp m w (by omega) hm (by decide)
  rw [words_length]
  exact this
/-- Which field is the first that may not be. -/
def firstBad (l : List Bool) : Option Nat := if l.any id then some (l.findIdx id) else none
def nth (l : List ByteArray) (i : Nat) : ByteArray := l.getD i ⟨#[]⟩
/-- What a text is read to: a line (its five fields), an error, a field. -/
def bads (ws : List ByteArray) : List Bool := [!nameB (nth ws 0), badSeq (countL (tl (nth ws 1)) 1000000000000), !nameB (nth ws 2), !nameB (nth ws 3), badPrice (priceL (tl (nth ws 4)))]
def feedV (so : ByteArray) (n : Int) (sk se : ByteArray) (p : Int) : Value := .agg #[.string so, .int .i64 n, .string sk, .string se, .int .i64 p]
def zeroV : Value := feedV ⟨#[]⟩ 0 ⟨#[]⟩ ⟨#[]⟩ 0
def decodeV (s : ByteArray) : Value × Int × Int :=
  if 100 < s.size then (zeroV, 60, 0)
  else if (wordsOf s).length ≠ 5 then (zeroV, 111, 0)
  else match firstBad (bads (wordsOf s)) with
    | some i => (zeroV, 112, (i : Int))
    | none => (feedV (nth (wordsOf s) 0) (countL (tl (nth (wordsOf s) 1)) 1000000000000) (nth (wordsOf s) 2) (nth (wordsOf s) 3) (priceL (tl (nth (wordsOf s) 4))), 0, 0)
end Go.Proofs.YtbecemdehelooaaGreatDoor.FeedDe
