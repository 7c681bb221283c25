-- Written by a program of ours (hprint.py) for this claim, over the print of the kit.
import Derived.Test.YtjbgboaghphaeaaHDiskStepsx0
import Derived.Test.YtjbgboaghphaeaaHDiskStepsx1
import Derived.Test.YtjbgboaghphaeaaHDiskStepsx2
import Derived.Test.YtjbgboaghphaeaaHDiskStepsx3
namespace Go.Proofs.Ytjbgboaghphaeaa.HDiskSteps
open Go.RowKit Go.Proofs.YtjbgboaghphaeaaW.PrintWords Go.Proofs.YtjbgboaghphaeaaW.PrintLast Go.Proofs.YtjbgboaghphaeaaW.PrintMore
attribute [local go_sem] max2_int min2_int max_two min_two max_three min_three max_four min_four   -- for this text's walks alone
set_option linter.unusedVariables false
set_option linter.unusedSimpArgs false

attribute [local go_sem high] eqA33
/-! ### hagglerlaw05_DiskSteps: function 13 -/
def hagglerlaw05_DiskSteps.f (a0 : ByteArray) (a1 : ByteArray) (a2 : ByteArray) (a3 : Int) : Option (Bool) := (hagglerlaw05_awake.f).bind fun t122 => (if 0 ≤ (mn (a0.size : Int) 500) then (if (mn (a0.size : Int) 500) ≤ (a0.size : Int) then (if 0 ≤ (mn (a1.size : Int) 500) then (if (mn (a1.size : Int) 500) ≤ (a1.size : Int) then (if 0 ≤ (mn (a2.size : Int) 500) then (if (mn (a2.size : Int) 500) ≤ (a2.size : Int) then ((disk_Append.f (⟨#[]⟩ : ByteArray) (⟨#[]⟩ : ByteArray) (a0.extract 0 ((mn (a0.size : Int) 500) : Int).toNat)).bind fun bt123 => ((disk_Append.f bt123.1 bt123.2.1 (a1.extract 0 ((mn (a1.size : Int) 500) : Int).toNat)).bind fun bt127 => ((disk_Sync.f bt127.1 bt127.2.1).bind fun bt131 => ((disk_Append.f bt131.1 bt131.2 (a2.extract 0 ((mn (a2.size : Int) 500) : Int).toNat)).bind fun bt133 => (if (a0.extract 0 ((mn (a0.size : Int) 500) : Int).toNat).size + (a1.extract 0 ((mn (a1.size : Int) 500) : Int).toNat).size ≤ 9223372036854775807 then ((disk_Append.f (⟨#[]⟩ : ByteArray) (⟨#[]⟩ : ByteArray) ((a0.extract 0 ((mn (a0.size : Int) 500) : Int).toNat) ++ (a1.extract 0 ((mn (a1.size : Int) 500) : Int).toNat))).bind fun bt137 => ((hagglerlaw05_pick.f a3 600).bind fun t141 => (if t122 = true then (if bt123.2.2 = 0 then (if bt127.2.2 = 0 then (if bt133.2.2 = 0 then (if bt137.2.2 = 0 then (if (bt127.1.toList == bt137.1.toList && (bt127.2.1.toList == bt137.2.1.toList)) = true then ((disk_All.f bt133.1 bt133.2.1).bind fun t142 => (if ((a0.extract 0 ((mn (a0.size : Int) 500) : Int).toNat) ++ (a1.extract 0 ((mn (a1.size : Int) 500) : Int).toNat)).size + (a2.extract 0 ((mn (a2.size : Int) 500) : Int).toNat).size ≤ 9223372036854775807 then (if t142.toList = (((a0.extract 0 ((mn (a0.size : Int) 500) : Int).toNat) ++ (a1.extract 0 ((mn (a1.size : Int) 500) : Int).toNat)) ++ (a2.extract 0 ((mn (a2.size : Int) 500) : Int).toNat)).toList then ((disk_Crash.f bt133.1 bt133.2.1 t141).bind fun bt143 => ((disk_All.f bt143.1 bt143.2).bind fun t145 => (if 0 ≤ (mn t141 ((a2.extract 0 ((mn (a2.size : Int) 500) : Int).toNat).size : Int)) then (if (mn t141 ((a2.extract 0 ((mn (a2.size : Int) 500) : Int).toNat).size : Int)) ≤ ((a2.extract 0 ((mn (a2.size : Int) 500) : Int).toNat).size : Int) then (if ((a0.extract 0 ((mn (a0.size : Int) 500) : Int).toNat) ++ (a1.extract 0 ((mn (a1.size : Int) 500) : Int).toNat)).size + ((a2.extract 0 ((mn (a2.size : Int) 500) : Int).toNat).extract 0 ((mn t141 ((a2.extract 0 ((mn (a2.size : Int) 500) : Int).toNat).size : Int)) : Int).toNat).size ≤ 9223372036854775807 then (if t145.toList = (((a0.extract 0 ((mn (a0.size : Int) 500) : Int).toNat) ++ (a1.extract 0 ((mn (a1.size : Int) 500) : Int).toNat)) ++ ((a2.extract 0 ((mn (a2.size : Int) 500) : Int).toNat).extract 0 ((mn t141 ((a2.extract 0 ((mn (a2.size : Int) 500) : Int).toNat).size : Int)) : Int).toNat)).toList then ((disk_Crash.f bt127.1 bt127.2.1 t141).bind fun bt146 => ((disk_All.f bt146.1 bt146.2).bind fun t148 => (if 0 ≤ (mn t141 (((a0.extract 0 ((mn (a0.size : Int) 500) : Int).toNat) ++ (a1.extract 0 ((mn (a1.size : Int) 500) : Int).toNat)).size : Int)) then (if (mn t141 (((a0.extract 0 ((mn (a0.size : Int) 500) : Int).toNat) ++ (a1.extract 0 ((mn (a1.size : Int) 500) : Int).toNat)).size : Int)) ≤ (((a0.extract 0 ((mn (a0.size : Int) 500) : Int).toNat) ++ (a1.extract 0 ((mn (a1.size : Int) 500) : Int).toNat)).size : Int) then (some (t148.toList == (((a0.extract 0 ((mn (a0.size : Int) 500) : Int).toNat) ++ (a1.extract 0 ((mn (a1.size : Int) 500) : Int).toNat)).extract 0 ((mn t141 (((a0.extract 0 ((mn (a0.size : Int) 500) : Int).toNat) ++ (a1.extract 0 ((mn (a1.size : Int) 500) : Int).toNat)).size : Int)) : Int).toNat).toList)) else (none)) else (none)))) else (some false)) else (none)) else (none)) else (none)))) else (some false)) else (none))) else (some false)) else (some false)) else (some false)) else (some false)) else (some false)) else (some false)))) else (none)))))) else (none)) else (none)) else (none)) else (none)) else (none)) else (none))
def hagglerlaw05_DiskSteps.T10 : Bool × List (List Nat × List Nat) := (true, [([], []), ([0], [0]), ([1], [1]), ([2, 1], [1, 2]), ([1, 3], [1, 3]), ([4, 1], [4]), ([5], [5]), ([6, 5], [5, 6]), ([5, 7], [5, 7]), ([8, 5], [8]), ([9], [9]), ([10, 9], [9, 10]), ([9, 11], [9, 11]), ([12, 9], [12]), ([13], [13]), ([14, 13], [13, 14]), ([13, 15], [13, 15]), ([16, 13], [16]), ([17], [17]), ([17], [17]), ([18, 19, 17], [17, 18, 19]), ([17, 20], [17, 20]), ([21, 17], [21]), ([22], [22]), ([23, 22, 22], [22, 23]), ([22], [22]), ([22], [22]), ([25, 26, 22], [22, 25, 26]), ([22], [22]), ([27, 28, 22], [22, 27, 28]), ([24, 29, 22], [22, 24, 29]), ([22, 30], [22, 30]), ([31, 24], [31]), ([32], [32]), ([32], [32]), ([33, 34, 32, 32], [32, 33, 34]), ([35, 35, 32], [32, 35]), ([32], [32]), ([32], [32]), ([37, 38, 32], [32, 37, 38]), ([32], [32]), ([32], [32]), ([32], [32]), ([42, 32], [32, 42]), ([41, 43, 32], [32, 41, 43]), ([40, 44, 32], [32, 40, 44]), ([39, 45, 32], [32, 39, 45]), ([36, 46, 32], [32, 36, 46]), ([32, 47], [32, 47]), ([48, 36], [48]), ([49], [49]), ([49], [49]), ([50, 51, 49, 49], [49, 50, 51]), ([52, 52, 49], [49, 52]), ([49], [49]), ([49], [49]), ([54, 55, 49], [49, 54, 55]), ([49], [49]), ([49], [49]), ([49], [49]), ([58, 59, 49], [49, 58, 59]), ([60, 49], [49, 60]), ([57, 61, 49], [49, 57, 61]), ([56, 62, 49], [49, 56, 62]), ([53, 63, 49], [49, 53, 63]), ([49, 64], [49, 64]), ([65, 53, 0, 1, 2, 3, 4, 5, 6, 7, 8, 9, 10, 11, 12, 13, 14, 15, 16, 17, 18, 19, 20, 21, 22, 23, 24, 25, 26, 27, 28, 29, 30, 31, 32, 33, 34, 35, 36, 37, 38, 39, 40, 41, 42, 43, 44, 45, 46, 47, 48, 49, 50, 51, 52, 53, 54, 55, 56, 57, 58, 59, 60, 61, 62, 63, 64, 65], [65])])
def hagglerlaw05_DiskSteps.B10 : List Nat := [0, 1, 3, 7, 15, 31, 63, 127, 255, 511, 1023, 2047, 4095, 8191, 16383, 32767, 65535, 131071, 262143, 262143, 1048575, 2097151, 4194303, 8388607, 16777215, 8388607, 8388607, 109051903, 8388607, 511705087, 1073741823, 2147483647, 4294967295, 8589934591, 8589934591, 34359738367, 68719476735, 8589934591, 8589934591, 420906795007, 8589934591, 8589934591, 8589934591, 4406636445695, 15401752723455, 34093450395647, 70239895158783, 140737488355327, 281474976710655, 562949953421311, 1125899906842623, 1125899906842623, 4503599627370495, 9007199254740991, 1125899906842623, 1125899906842623, 55169095435288575, 1125899906842623, 1125899906842623, 1125899906842623, 865817028361977855, 2018738532968824831, 4468696730258374655, 9206483538252136447, 18446744073709551615, 36893488147419103231, 73786976294838206463]
theorem hagglerlaw05_DiskSteps.tab10 : rtab .any (opsOf Try.f13 10) = hagglerlaw05_DiskSteps.T10 := by kernel_rfl
theorem hagglerlaw05_DiskSteps.bits10 : waitsOk hagglerlaw05_DiskSteps.T10.2 hagglerlaw05_DiskSteps.B10 = true := by kernel_rfl
set_option maxHeartbeats 8000000 in
set_option maxRecDepth 100000 in
theorem hagglerlaw05_DiskSteps.calls (a0 : ByteArray) (a1 : ByteArray) (a2 : ByteArray) (a3 : Int) (r : Bool) (w : World) (h : hagglerlaw05_DiskSteps.f a0 a1 a2 a3 = some r) (hr : Aside0 (r = true)) :
    Calls Try.prog 13 #[.string a0, .string a1, .string a2, .int .i64 a3] w fun e w' => e = .returned (.bool r) ∧ Below w.heap.size w w' := by
  have hu33 := Try.underlying33
  have HB := Aside0.mk (Below.refl w.heap.size w)
  have H : ((hagglerlaw05_awake.f).bind fun t122 => (if 0 ≤ (mn (a0.size : Int) 500) then (if (mn (a0.size : Int) 500) ≤ (a0.size : Int) then (if 0 ≤ (mn (a1.size : Int) 500) then (if (mn (a1.size : Int) 500) ≤ (a1.size : Int) then (if 0 ≤ (mn (a2.size : Int) 500) then (if (mn (a2.size : Int) 500) ≤ (a2.size : Int) then ((disk_Append.f (⟨#[]⟩ : ByteArray) (⟨#[]⟩ : ByteArray) (a0.extract 0 ((mn (a0.size : Int) 500) : Int).toNat)).bind fun bt123 => ((disk_Append.f bt123.1 bt123.2.1 (a1.extract 0 ((mn (a1.size : Int) 500) : Int).toNat)).bind fun bt127 => ((disk_Sync.f bt127.1 bt127.2.1).bind fun bt131 => ((disk_Append.f bt131.1 bt131.2 (a2.extract 0 ((mn (a2.size : Int) 500) : Int).toNat)).bind fun bt133 => (if (a0.extract 0 ((mn (a0.size : Int) 500) : Int).toNat).size + (a1.extract 0 ((mn (a1.size : Int) 500) : Int).toNat).size ≤ 9223372036854775807 then ((disk_Append.f (⟨#[]⟩ : ByteArray) (⟨#[]⟩ : ByteArray) ((a0.extract 0 ((mn (a0.size : Int) 500) : Int).toNat) ++ (a1.extract 0 ((mn (a1.size : Int) 500) : Int).toNat))).bind fun bt137 => ((hagglerlaw05_pick.f a3 600).bind fun t141 => (if t122 = true then (if bt123.2.2 = 0 then (if bt127.2.2 = 0 then (if bt133.2.2 = 0 then (if bt137.2.2 = 0 then (if (bt127.1.toList == bt137.1.toList && (bt127.2.1.toList == bt137.2.1.toList)) = true then ((disk_All.f bt133.1 bt133.2.1).bind fun t142 => (if ((a0.extract 0 ((mn (a0.size : Int) 500) : Int).toNat) ++ (a1.extract 0 ((mn (a1.size : Int) 500) : Int).toNat)).size + (a2.extract 0 ((mn (a2.size : Int) 500) : Int).toNat).size ≤ 9223372036854775807 then (if t142.toList = (((a0.extract 0 ((mn (a0.size : Int) 500) : Int).toNat) ++ (a1.extract 0 ((mn (a1.size : Int) 500) : Int).toNat)) ++ (a2.extract 0 ((mn (a2.size : Int) 500) : Int).toNat)).toList then ((disk_Crash.f bt133.1 bt133.2.1 t141).bind fun bt143 => ((disk_All.f bt143.1 bt143.2).bind fun t145 => (if 0 ≤ (mn t141 ((a2.extract 0 ((mn (a2.size : Int) 500) : Int).toNat).size : Int)) then (if (mn t141 ((a2.extract 0 ((mn (a2.size : Int) 500) : Int).toNat).size : Int)) ≤ ((a2.extract 0 ((mn (a2.size : Int) 500) : Int).toNat).size : Int) then (if ((a0.extract 0 ((mn (a0.size : Int) 500) : Int).toNat) ++ (a1.extract 0 ((mn (a1.size : Int) 500) : Int).toNat)).size + ((a2.extract 0 ((mn (a2.size : Int) 500) : Int).toNat).extract 0 ((mn t141 ((a2.extract 0 ((mn (a2.size : Int) 500) : Int).toNat).size : Int)) : Int).toNat).size ≤ 9223372036854775807 then (if t145.toList = (((a0.extract 0 ((mn (a0.size : Int) 500) : Int).toNat) ++ (a1.extract 0 ((mn (a1.size : Int) 500) : Int).toNat)) ++ ((a2.extract 0 ((mn (a2.size : Int) 500) : Int).toNat).extract 0 ((mn t141 ((a2.extract 0 ((mn (a2.size : Int) 500) : Int).toNat).size : Int)) : Int).toNat)).toList then ((disk_Crash.f bt127.1 bt127.2.1 t141).bind fun bt146 => ((disk_All.f bt146.1 bt146.2).bind fun t148 => (if 0 ≤ (mn t141 (((a0.extract 0 ((mn (a0.size : Int) 500) : Int).toNat) ++ (a1.extract 0 ((mn (a1.size : Int) 500) : Int).toNat)).size : Int)) then (if (mn t141 (((a0.extract 0 ((mn (a0.size : Int) 500) : Int).toNat) ++ (a1.extract 0 ((mn (a1.size : Int) 500) : Int).toNat)).size : Int)) ≤ (((a0.extract 0 ((mn (a0.size : Int) 500) : Int).toNat) ++ (a1.extract 0 ((mn (a1.size : Int) 500) : Int).toNat)).size : Int) then (some (t148.toList == (((a0.extract 0 ((mn (a0.size : Int) 500) : Int).toNat) ++ (a1.extract 0 ((mn (a1.size : Int) 500) : Int).toNat)).extract 0 ((mn t141 (((a0.extract 0 ((mn (a0.size : Int) 500) : Int).toNat) ++ (a1.extract 0 ((mn (a1.size : Int) 500) : Int).toNat)).size : Int)) : Int).toNat).toList)) else (none)) else (none)))) else (some false)) else (none)) else (none)) else (none)))) else (some false)) else (none))) else (some false)) else (some false)) else (some false)) else (some false)) else (some false)) else (some false)))) else (none)))))) else (none)) else (none)) else (none)) else (none)) else (none)) else (none))) = some r := h
  clear h
  replace H := Option.bind_eq_some_iff.mp H
  obtain ⟨t122, A50, H⟩ := H
  replace H : (if 0 ≤ (mn (a0.size : Int) 500) then (if (mn (a0.size : Int) 500) ≤ (a0.size : Int) then (if 0 ≤ (mn (a1.size : Int) 500) then (if (mn (a1.size : Int) 500) ≤ (a1.size : Int) then (if 0 ≤ (mn (a2.size : Int) 500) then (if (mn (a2.size : Int) 500) ≤ (a2.size : Int) then ((disk_Append.f (⟨#[]⟩ : ByteArray) (⟨#[]⟩ : ByteArray) (a0.extract 0 ((mn (a0.size : Int) 500) : Int).toNat)).bind fun bt123 => ((disk_Append.f bt123.1 bt123.2.1 (a1.extract 0 ((mn (a1.size : Int) 500) : Int).toNat)).bind fun bt127 => ((disk_Sync.f bt127.1 bt127.2.1).bind fun bt131 => ((disk_Append.f bt131.1 bt131.2 (a2.extract 0 ((mn (a2.size : Int) 500) : Int).toNat)).bind fun bt133 => (if (a0.extract 0 ((mn (a0.size : Int) 500) : Int).toNat).size + (a1.extract 0 ((mn (a1.size : Int) 500) : Int).toNat).size ≤ 9223372036854775807 then ((disk_Append.f (⟨#[]⟩ : ByteArray) (⟨#[]⟩ : ByteArray) ((a0.extract 0 ((mn (a0.size : Int) 500) : Int).toNat) ++ (a1.extract 0 ((mn (a1.size : Int) 500) : Int).toNat))).bind fun bt137 => ((hagglerlaw05_pick.f a3 600).bind fun t141 => (if t122 = true then (if bt123.2.2 = 0 then (if bt127.2.2 = 0 then (if bt133.2.2 = 0 then (if bt137.2.2 = 0 then (if (bt127.1.toList == bt137.1.toList && (bt127.2.1.toList == bt137.2.1.toList)) = true then ((disk_All.f bt133.1 bt133.2.1).bind fun t142 => (if ((a0.extract 0 ((mn (a0.size : Int) 500) : Int).toNat) ++ (a1.extract 0 ((mn (a1.size : Int) 500) : Int).toNat)).size + (a2.extract 0 ((mn (a2.size : Int) 500) : Int).toNat).size ≤ 9223372036854775807 then (if t142.toList = (((a0.extract 0 ((mn (a0.size : Int) 500) : Int).toNat) ++ (a1.extract 0 ((mn (a1.size : Int) 500) : Int).toNat)) ++ (a2.extract 0 ((mn (a2.size : Int) 500) : Int).toNat)).toList then ((disk_Crash.f bt133.1 bt133.2.1 t141).bind fun bt143 => ((disk_All.f bt143.1 bt143.2).bind fun t145 => (if 0 ≤ (mn t141 ((a2.extract 0 ((mn (a2.size : Int) 500) : Int).toNat).size : Int)) then (if (mn t141 ((a2.extract 0 ((mn (a2.size : Int) 500) : Int).toNat).size : Int)) ≤ ((a2.extract 0 ((mn (a2.size : Int) 500) : Int).toNat).size : Int) then (if ((a0.extract 0 ((mn (a0.size : Int) 500) : Int).toNat) ++ (a1.extract 0 ((mn (a1.size : Int) 500) : Int).toNat)).size + ((a2.extract 0 ((mn (a2.size : Int) 500) : Int).toNat).extract 0 ((mn t141 ((a2.extract 0 ((mn (a2.size : Int) 500) : Int).toNat).size : Int)) : Int).toNat).size ≤ 9223372036854775807 then (if t145.toList = (((a0.extract 0 ((mn (a0.size : Int) 500) : Int).toNat) ++ (a1.extract 0 ((mn (a1.size : Int) 500) : Int).toNat)) ++ ((a2.extract 0 ((mn (a2.size : Int) 500) : Int).toNat).extract 0 ((mn t141 ((a2.extract 0 ((mn (a2.size : Int) 500) : Int).toNat).size : Int)) : Int).toNat)).toList then ((disk_Crash.f bt127.1 bt127.2.1 t141).bind fun bt146 => ((disk_All.f bt146.1 bt146.2).bind fun t148 => (if 0 ≤ (mn t141 (((a0.extract 0 ((mn (a0.size : Int) 500) : Int).toNat) ++ (a1.extract 0 ((mn (a1.size : Int) 500) : Int).toNat)).size : Int)) then (if (mn t141 (((a0.extract 0 ((mn (a0.size : Int) 500) : Int).toNat) ++ (a1.extract 0 ((mn (a1.size : Int) 500) : Int).toNat)).size : Int)) ≤ (((a0.extract 0 ((mn (a0.size : Int) 500) : Int).toNat) ++ (a1.extract 0 ((mn (a1.size : Int) 500) : Int).toNat)).size : Int) then (some (t148.toList == (((a0.extract 0 ((mn (a0.size : Int) 500) : Int).toNat) ++ (a1.extract 0 ((mn (a1.size : Int) 500) : Int).toNat)).extract 0 ((mn t141 (((a0.extract 0 ((mn (a0.size : Int) 500) : Int).toNat) ++ (a1.extract 0 ((mn (a1.size : Int) 500) : Int).toNat)).size : Int)) : Int).toNat).toList)) else (none)) else (none)))) else (some false)) else (none)) else (none)) else (none)))) else (some false)) else (none))) else (some false)) else (some false)) else (some false)) else (some false)) else (some false)) else (some false)))) else (none)))))) else (none)) else (none)) else (none)) else (none)) else (none)) else (none)) = some r := H
  have A5 := Aside0.mk A50
  clear A50
  obtain ⟨ji6, hji6⟩ : ∃ j_ : Int, (mn (a0.size : Int) 500) = j_ := ⟨_, rfl⟩
  replace H : (if 0 ≤ (ji6) then (if (ji6) ≤ (a0.size : Int) then (if 0 ≤ (mn (a1.size : Int) 500) then (if (mn (a1.size : Int) 500) ≤ (a1.size : Int) then (if 0 ≤ (mn (a2.size : Int) 500) then (if (mn (a2.size : Int) 500) ≤ (a2.size : Int) then ((disk_Append.f (⟨#[]⟩ : ByteArray) (⟨#[]⟩ : ByteArray) (a0.extract 0 ((ji6) : Int).toNat)).bind fun bt123 => ((disk_Append.f bt123.1 bt123.2.1 (a1.extract 0 ((mn (a1.size : Int) 500) : Int).toNat)).bind fun bt127 => ((disk_Sync.f bt127.1 bt127.2.1).bind fun bt131 => ((disk_Append.f bt131.1 bt131.2 (a2.extract 0 ((mn (a2.size : Int) 500) : Int).toNat)).bind fun bt133 => (if (a0.extract 0 ((ji6) : Int).toNat).size + (a1.extract 0 ((mn (a1.size : Int) 500) : Int).toNat).size ≤ 9223372036854775807 then ((disk_Append.f (⟨#[]⟩ : ByteArray) (⟨#[]⟩ : ByteArray) ((a0.extract 0 ((ji6) : Int).toNat) ++ (a1.extract 0 ((mn (a1.size : Int) 500) : Int).toNat))).bind fun bt137 => ((hagglerlaw05_pick.f a3 600).bind fun t141 => (if t122 = true then (if bt123.2.2 = 0 then (if bt127.2.2 = 0 then (if bt133.2.2 = 0 then (if bt137.2.2 = 0 then (if (bt127.1.toList == bt137.1.toList && (bt127.2.1.toList == bt137.2.1.toList)) = true then ((disk_All.f bt133.1 bt133.2.1).bind fun t142 => (if ((a0.extract 0 ((ji6) : Int).toNat) ++ (a1.extract 0 ((mn (a1.size : Int) 500) : Int).toNat)).size + (a2.extract 0 ((mn (a2.size : Int) 500) : Int).toNat).size ≤ 9223372036854775807 then (if t142.toList = (((a0.extract 0 ((ji6) : Int).toNat) ++ (a1.extract 0 ((mn (a1.size : Int) 500) : Int).toNat)) ++ (a2.extract 0 ((mn (a2.size : Int) 500) : Int).toNat)).toList then ((disk_Crash.f bt133.1 bt133.2.1 t141).bind fun bt143 => ((disk_All.f bt143.1 bt143.2).bind fun t145 => (if 0 ≤ (mn t141 ((a2.extract 0 ((mn (a2.size : Int) 500) : Int).toNat).size : Int)) then (if (mn t141 ((a2.extract 0 ((mn (a2.size : Int) 500) : Int).toNat).size : Int)) ≤ ((a2.extract 0 ((mn (a2.size : Int) 500) : Int).toNat).size : Int) then (if ((a0.extract 0 ((ji6) : Int).toNat) ++ (a1.extract 0 ((mn (a1.size : Int) 500) : Int).toNat)).size + ((a2.extract 0 ((mn (a2.size : Int) 500) : Int).toNat).extract 0 ((mn t141 ((a2.extract 0 ((mn (a2.size : Int) 500) : Int).toNat).size : Int)) : Int).toNat).size ≤ 9223372036854775807 then (if t145.toList = (((a0.extract 0 ((ji6) : Int).toNat) ++ (a1.extract 0 ((mn (a1.size : Int) 500) : Int).toNat)) ++ ((a2.extract 0 ((mn (a2.size : Int) 500) : Int).toNat).extract 0 ((mn t141 ((a2.extract 0 ((mn (a2.size : Int) 500) : Int).toNat).size : Int)) : Int).toNat)).toList then ((disk_Crash.f bt127.1 bt127.2.1 t141).bind fun bt146 => ((disk_All.f bt146.1 bt146.2).bind fun t148 => (if 0 ≤ (mn t141 (((a0.extract 0 ((ji6) : Int).toNat) ++ (a1.extract 0 ((mn (a1.size : Int) 500) : Int).toNat)).size : Int)) then (if (mn t141 (((a0.extract 0 ((ji6) : Int).toNat) ++ (a1.extract 0 ((mn (a1.size : Int) 500) : Int).toNat)).size : Int)) ≤ (((a0.extract 0 ((ji6) : Int).toNat) ++ (a1.extract 0 ((mn (a1.size : Int) 500) : Int).toNat)).size : Int) then (some (t148.toList == (((a0.extract 0 ((ji6) : Int).toNat) ++ (a1.extract 0 ((mn (a1.size : Int) 500) : Int).toNat)).extract 0 ((mn t141 (((a0.extract 0 ((ji6) : Int).toNat) ++ (a1.extract 0 ((mn (a1.size : Int) 500) : Int).toNat)).size : Int)) : Int).toNat).toList)) else (none)) else (none)))) else (some false)) else (none)) else (none)) else (none)))) else (some false)) else (none))) else (some false)) else (some false)) else (some false)) else (some false)) else (some false)) else (some false)))) else (none)))))) else (none)) else (none)) else (none)) else (none)) else (none)) else (none)) = some r := by first | (rw [hji6] at H; exact H) | (simp only [hji6] at H ⊢; exact H)
  (try rw [hji6] at A5)
  (try (have hji6h : ji6 ≤ 500 := by (rw [← hji6]; unfold mn; (repeat' split) <;> omega)))
  (try (have hji6g : ji6 ≤ 64 := by omega))
  (try (have hji6l : 0 ≤ ji6 := by (rw [← hji6]; unfold mn; (repeat' split) <;> omega)))
  (try (have hji6m : 0 ≤ ji6 := by omega))
  have hji6_ : (if 500 < (a0.size : Int) then 500 else (a0.size : Int)) = ji6 := hji6
  by_cases c7 : 0 ≤ (ji6)
  · rw [if_pos c7] at H
    have c7b0 := eq_true c7
    have c7b1 : decide (0 ≤ (ji6)) = true := decide_eq_true c7
    clear c7
    by_cases c8 : (ji6) ≤ (a0.size : Int)
    · rw [if_pos c8] at H
      have c8b0 := eq_true c8
      have c8b1 : decide ((ji6) ≤ (a0.size : Int)) = true := decide_eq_true c8
      clear c8
      obtain ⟨ji9, hji9⟩ : ∃ j_ : Int, (mn (a1.size : Int) 500) = j_ := ⟨_, rfl⟩
      replace H : (if 0 ≤ (ji9) then (if (ji9) ≤ (a1.size : Int) then (if 0 ≤ (mn (a2.size : Int) 500) then (if (mn (a2.size : Int) 500) ≤ (a2.size : Int) then ((disk_Append.f (⟨#[]⟩ : ByteArray) (⟨#[]⟩ : ByteArray) (a0.extract 0 ((ji6) : Int).toNat)).bind fun bt123 => ((disk_Append.f bt123.1 bt123.2.1 (a1.extract 0 ((ji9) : Int).toNat)).bind fun bt127 => ((disk_Sync.f bt127.1 bt127.2.1).bind fun bt131 => ((disk_Append.f bt131.1 bt131.2 (a2.extract 0 ((mn (a2.size : Int) 500) : Int).toNat)).bind fun bt133 => (if (a0.extract 0 ((ji6) : Int).toNat).size + (a1.extract 0 ((ji9) : Int).toNat).size ≤ 9223372036854775807 then ((disk_Append.f (⟨#[]⟩ : ByteArray) (⟨#[]⟩ : ByteArray) ((a0.extract 0 ((ji6) : Int).toNat) ++ (a1.extract 0 ((ji9) : Int).toNat))).bind fun bt137 => ((hagglerlaw05_pick.f a3 600).bind fun t141 => (if t122 = true then (if bt123.2.2 = 0 then (if bt127.2.2 = 0 then (if bt133.2.2 = 0 then (if bt137.2.2 = 0 then (if (bt127.1.toList == bt137.1.toList && (bt127.2.1.toList == bt137.2.1.toList)) = true then ((disk_All.f bt133.1 bt133.2.1).bind fun t142 => (if ((a0.extract 0 ((ji6) : Int).toNat) ++ (a1.extract 0 ((ji9) : Int).toNat)).size + (a2.extract 0 ((mn (a2.size : Int) 500) : Int).toNat).size ≤ 9223372036854775807 then (if t142.toList = (((a0.extract 0 ((ji6) : Int).toNat) ++ (a1.extract 0 ((ji9) : Int).toNat)) ++ (a2.extract 0 ((mn (a2.size : Int) 500) : Int).toNat)).toList then ((disk_Crash.f bt133.1 bt133.2.1 t141).bind fun bt143 => ((disk_All.f bt143.1 bt143.2).bind fun t145 => (if 0 ≤ (mn t141 ((a2.extract 0 ((mn (a2.size : Int) 500) : Int).toNat).size : Int)) then (if (mn t141 ((a2.extract 0 ((mn (a2.size : Int) 500) : Int).toNat).size : Int)) ≤ ((a2.extract 0 ((mn (a2.size : Int) 500) : Int).toNat).size : Int) then (if ((a0.extract 0 ((ji6) : Int).toNat) ++ (a1.extract 0 ((ji9) : Int).toNat)).size + ((a2.extract 0 ((mn (a2.size : Int) 500) : Int).toNat).extract 0 ((mn t141 ((a2.extract 0 ((mn (a2.size : Int) 500) : Int).toNat).size : Int)) : Int).toNat).size ≤ 9223372036854775807 then (if t145.toList = (((a0.extract 0 ((ji6) : Int).toNat) ++ (a1.extract 0 ((ji9) : Int).toNat)) ++ ((a2.extract 0 ((mn (a2.size : Int) 500) : Int).toNat).extract 0 ((mn t141 ((a2.extract 0 ((mn (a2.size : Int) 500) : Int).toNat).size : Int)) : Int).toNat)).toList then ((disk_Crash.f bt127.1 bt127.2.1 t141).bind fun bt146 => ((disk_All.f bt146.1 bt146.2).bind fun t148 => (if 0 ≤ (mn t141 (((a0.extract 0 ((ji6) : Int).toNat) ++ (a1.extract 0 ((ji9) : Int).toNat)).size : Int)) then (if (mn t141 (((a0.extract 0 ((ji6) : Int).toNat) ++ (a1.extract 0 ((ji9) : Int).toNat)).size : Int)) ≤ (((a0.extract 0 ((ji6) : Int).toNat) ++ (a1.extract 0 ((ji9) : Int).toNat)).size : Int) then (some (t148.toList == (((a0.extract 0 ((ji6) : Int).toNat) ++ (a1.extract 0 ((ji9) : Int).toNat)).extract 0 ((mn t141 (((a0.extract 0 ((ji6) : Int).toNat) ++ (a1.extract 0 ((ji9) : Int).toNat)).size : Int)) : Int).toNat).toList)) else (none)) else (none)))) else (some false)) else (none)) else (none)) else (none)))) else (some false)) else (none))) else (some false)) else (some false)) else (some false)) else (some false)) else (some false)) else (some false)))) else (none)))))) else (none)) else (none)) else (none)) else (none)) = some r := by first | (rw [hji9] at H; exact H) | (simp only [hji9] at H ⊢; exact H)
      (try rw [hji9] at A5)
      (try (have hji9h : ji9 ≤ 500 := by (rw [← hji9]; unfold mn; (repeat' split) <;> omega)))
      (try (have hji9g : ji9 ≤ 64 := by omega))
      (try (have hji9l : 0 ≤ ji9 := by (rw [← hji9]; unfold mn; (repeat' split) <;> omega)))
      (try (have hji9m : 0 ≤ ji9 := by omega))
      have hji9_ : (if 500 < (a1.size : Int) then 500 else (a1.size : Int)) = ji9 := hji9
      by_cases c10 : 0 ≤ (ji9)
      · rw [if_pos c10] at H
        have c10b0 := eq_true c10
        have c10b1 : decide (0 ≤ (ji9)) = true := decide_eq_true c10
        clear c10
        by_cases c11 : (ji9) ≤ (a1.size : Int)
        · rw [if_pos c11] at H
          have c11b0 := eq_true c11
          have c11b1 : decide ((ji9) ≤ (a1.size : Int)) = true := decide_eq_true c11
          clear c11
          obtain ⟨ji12, hji12⟩ : ∃ j_ : Int, (mn (a2.size : Int) 500) = j_ := ⟨_, rfl⟩
          replace H : (if 0 ≤ (ji12) then (if (ji12) ≤ (a2.size : Int) then ((disk_Append.f (⟨#[]⟩ : ByteArray) (⟨#[]⟩ : ByteArray) (a0.extract 0 ((ji6) : Int).toNat)).bind fun bt123 => ((disk_Append.f bt123.1 bt123.2.1 (a1.extract 0 ((ji9) : Int).toNat)).bind fun bt127 => ((disk_Sync.f bt127.1 bt127.2.1).bind fun bt131 => ((disk_Append.f bt131.1 bt131.2 (a2.extract 0 ((ji12) : Int).toNat)).bind fun bt133 => (if (a0.extract 0 ((ji6) : Int).toNat).size + (a1.extract 0 ((ji9) : Int).toNat).size ≤ 9223372036854775807 then ((disk_Append.f (⟨#[]⟩ : ByteArray) (⟨#[]⟩ : ByteArray) ((a0.extract 0 ((ji6) : Int).toNat) ++ (a1.extract 0 ((ji9) : Int).toNat))).bind fun bt137 => ((hagglerlaw05_pick.f a3 600).bind fun t141 => (if t122 = true then (if bt123.2.2 = 0 then (if bt127.2.2 = 0 then (if bt133.2.2 = 0 then (if bt137.2.2 = 0 then (if (bt127.1.toList == bt137.1.toList && (bt127.2.1.toList == bt137.2.1.toList)) = true then ((disk_All.f bt133.1 bt133.2.1).bind fun t142 => (if ((a0.extract 0 ((ji6) : Int).toNat) ++ (a1.extract 0 ((ji9) : Int).toNat)).size + (a2.extract 0 ((ji12) : Int).toNat).size ≤ 9223372036854775807 then (if t142.toList = (((a0.extract 0 ((ji6) : Int).toNat) ++ (a1.extract 0 ((ji9) : Int).toNat)) ++ (a2.extract 0 ((ji12) : Int).toNat)).toList then ((disk_Crash.f bt133.1 bt133.2.1 t141).bind fun bt143 => ((disk_All.f bt143.1 bt143.2).bind fun t145 => (if 0 ≤ (mn t141 ((a2.extract 0 ((ji12) : Int).toNat).size : Int)) then (if (mn t141 ((a2.extract 0 ((ji12) : Int).toNat).size : Int)) ≤ ((a2.extract 0 ((ji12) : Int).toNat).size : Int) then (if ((a0.extract 0 ((ji6) : Int).toNat) ++ (a1.extract 0 ((ji9) : Int).toNat)).size + ((a2.extract 0 ((ji12) : Int).toNat).extract 0 ((mn t141 ((a2.extract 0 ((ji12) : Int).toNat).size : Int)) : Int).toNat).size ≤ 9223372036854775807 then (if t145.toList = (((a0.extract 0 ((ji6) : Int).toNat) ++ (a1.extract 0 ((ji9) : Int).toNat)) ++ ((a2.extract 0 ((ji12) : Int).toNat).extract 0 ((mn t141 ((a2.extract 0 ((ji12) : Int).toNat).size : Int)) : Int).toNat)).toList then ((disk_Crash.f bt127.1 bt127.2.1 t141).bind fun bt146 => ((disk_All.f bt146.1 bt146.2).bind fun t148 => (if 0 ≤ (mn t141 (((a0.extract 0 ((ji6) : Int).toNat) ++ (a1.extract 0 ((ji9) : Int).toNat)).size : Int)) then (if (mn t141 (((a0.extract 0 ((ji6) : Int).toNat) ++ (a1.extract 0 ((ji9) : Int).toNat)).size : Int)) ≤ (((a0.extract 0 ((ji6) : Int).toNat) ++ (a1.extract 0 ((ji9) : Int).toNat)).size : Int) then (some (t148.toList == (((a0.extract 0 ((ji6) : Int).toNat) ++ (a1.extract 0 ((ji9) : Int).toNat)).extract 0 ((mn t141 (((a0.extract 0 ((ji6) : Int).toNat) ++ (a1.extract 0 ((ji9) : Int).toNat)).size : Int)) : Int).toNat).toList)) else (none)) else (none)))) else (some false)) else (none)) else (none)) else (none)))) else (some false)) else (none))) else (some false)) else (some false)) else (some false)) else (some false)) else (some false)) else (some false)))) else (none)))))) else (none)) else (none)) = some r := by first | (rw [hji12] at H; exact H) | (simp only [hji12] at H ⊢; exact H)
          (try rw [hji12] at A5)
          (try (have hji12h : ji12 ≤ 500 := by (rw [← hji12]; unfold mn; (repeat' split) <;> omega)))
          (try (have hji12g : ji12 ≤ 64 := by omega))
          (try (have hji12l : 0 ≤ ji12 := by (rw [← hji12]; unfold mn; (repeat' split) <;> omega)))
          (try (have hji12m : 0 ≤ ji12 := by omega))
          have hji12_ : (if 500 < (a2.size : Int) then 500 else (a2.size : Int)) = ji12 := hji12
          by_cases c13 : 0 ≤ (ji12)
          · rw [if_pos c13] at H
            have c13b0 := eq_true c13
            have c13b1 : decide (0 ≤ (ji12)) = true := decide_eq_true c13
            clear c13
            by_cases c14 : (ji12) ≤ (a2.size : Int)
            · rw [if_pos c14] at H
              have c14b0 := eq_true c14
              have c14b1 : decide ((ji12) ≤ (a2.size : Int)) = true := decide_eq_true c14
              clear c14
              replace H := Option.bind_eq_some_iff.mp H
              obtain ⟨⟨t123, t124, t125⟩, A150, H⟩ := H
              replace H : ((disk_Append.f t123 t124 (a1.extract 0 ((ji9) : Int).toNat)).bind fun bt127 => ((disk_Sync.f bt127.1 bt127.2.1).bind fun bt131 => ((disk_Append.f bt131.1 bt131.2 (a2.extract 0 ((ji12) : Int).toNat)).bind fun bt133 => (if (a0.extract 0 ((ji6) : Int).toNat).size + (a1.extract 0 ((ji9) : Int).toNat).size ≤ 9223372036854775807 then ((disk_Append.f (⟨#[]⟩ : ByteArray) (⟨#[]⟩ : ByteArray) ((a0.extract 0 ((ji6) : Int).toNat) ++ (a1.extract 0 ((ji9) : Int).toNat))).bind fun bt137 => ((hagglerlaw05_pick.f a3 600).bind fun t141 => (if t122 = true then (if t125 = 0 then (if bt127.2.2 = 0 then (if bt133.2.2 = 0 then (if bt137.2.2 = 0 then (if (bt127.1.toList == bt137.1.toList && (bt127.2.1.toList == bt137.2.1.toList)) = true then ((disk_All.f bt133.1 bt133.2.1).bind fun t142 => (if ((a0.extract 0 ((ji6) : Int).toNat) ++ (a1.extract 0 ((ji9) : Int).toNat)).size + (a2.extract 0 ((ji12) : Int).toNat).size ≤ 9223372036854775807 then (if t142.toList = (((a0.extract 0 ((ji6) : Int).toNat) ++ (a1.extract 0 ((ji9) : Int).toNat)) ++ (a2.extract 0 ((ji12) : Int).toNat)).toList then ((disk_Crash.f bt133.1 bt133.2.1 t141).bind fun bt143 => ((disk_All.f bt143.1 bt143.2).bind fun t145 => (if 0 ≤ (mn t141 ((a2.extract 0 ((ji12) : Int).toNat).size : Int)) then (if (mn t141 ((a2.extract 0 ((ji12) : Int).toNat).size : Int)) ≤ ((a2.extract 0 ((ji12) : Int).toNat).size : Int) then (if ((a0.extract 0 ((ji6) : Int).toNat) ++ (a1.extract 0 ((ji9) : Int).toNat)).size + ((a2.extract 0 ((ji12) : Int).toNat).extract 0 ((mn t141 ((a2.extract 0 ((ji12) : Int).toNat).size : Int)) : Int).toNat).size ≤ 9223372036854775807 then (if t145.toList = (((a0.extract 0 ((ji6) : Int).toNat) ++ (a1.extract 0 ((ji9) : Int).toNat)) ++ ((a2.extract 0 ((ji12) : Int).toNat).extract 0 ((mn t141 ((a2.extract 0 ((ji12) : Int).toNat).size : Int)) : Int).toNat)).toList then ((disk_Crash.f bt127.1 bt127.2.1 t141).bind fun bt146 => ((disk_All.f bt146.1 bt146.2).bind fun t148 => (if 0 ≤ (mn t141 (((a0.extract 0 ((ji6) : Int).toNat) ++ (a1.extract 0 ((ji9) : Int).toNat)).size : Int)) then (if (mn t141 (((a0.extract 0 ((ji6) : Int).toNat) ++ (a1.extract 0 ((ji9) : Int).toNat)).size : Int)) ≤ (((a0.extract 0 ((ji6) : Int).toNat) ++ (a1.extract 0 ((ji9) : Int).toNat)).size : Int) then (some (t148.toList == (((a0.extract 0 ((ji6) : Int).toNat) ++ (a1.extract 0 ((ji9) : Int).toNat)).extract 0 ((mn t141 (((a0.extract 0 ((ji6) : Int).toNat) ++ (a1.extract 0 ((ji9) : Int).toNat)).size : Int)) : Int).toNat).toList)) else (none)) else (none)))) else (some false)) else (none)) else (none)) else (none)))) else (some false)) else (none))) else (some false)) else (some false)) else (some false)) else (some false)) else (some false)) else (some false)))) else (none))))) = some r := H
              have A15 := Aside0.mk A150
              clear A150
              replace H := Option.bind_eq_some_iff.mp H
              obtain ⟨⟨t127, t128, t129⟩, A160, H⟩ := H
              replace H : ((disk_Sync.f t127 t128).bind fun bt131 => ((disk_Append.f bt131.1 bt131.2 (a2.extract 0 ((ji12) : Int).toNat)).bind fun bt133 => (if (a0.extract 0 ((ji6) : Int).toNat).size + (a1.extract 0 ((ji9) : Int).toNat).size ≤ 9223372036854775807 then ((disk_Append.f (⟨#[]⟩ : ByteArray) (⟨#[]⟩ : ByteArray) ((a0.extract 0 ((ji6) : Int).toNat) ++ (a1.extract 0 ((ji9) : Int).toNat))).bind fun bt137 => ((hagglerlaw05_pick.f a3 600).bind fun t141 => (if t122 = true then (if t125 = 0 then (if t129 = 0 then (if bt133.2.2 = 0 then (if bt137.2.2 = 0 then (if (t127.toList == bt137.1.toList && (t128.toList == bt137.2.1.toList)) = true then ((disk_All.f bt133.1 bt133.2.1).bind fun t142 => (if ((a0.extract 0 ((ji6) : Int).toNat) ++ (a1.extract 0 ((ji9) : Int).toNat)).size + (a2.extract 0 ((ji12) : Int).toNat).size ≤ 9223372036854775807 then (if t142.toList = (((a0.extract 0 ((ji6) : Int).toNat) ++ (a1.extract 0 ((ji9) : Int).toNat)) ++ (a2.extract 0 ((ji12) : Int).toNat)).toList then ((disk_Crash.f bt133.1 bt133.2.1 t141).bind fun bt143 => ((disk_All.f bt143.1 bt143.2).bind fun t145 => (if 0 ≤ (mn t141 ((a2.extract 0 ((ji12) : Int).toNat).size : Int)) then (if (mn t141 ((a2.extract 0 ((ji12) : Int).toNat).size : Int)) ≤ ((a2.extract 0 ((ji12) : Int).toNat).size : Int) then (if ((a0.extract 0 ((ji6) : Int).toNat) ++ (a1.extract 0 ((ji9) : Int).toNat)).size + ((a2.extract 0 ((ji12) : Int).toNat).extract 0 ((mn t141 ((a2.extract 0 ((ji12) : Int).toNat).size : Int)) : Int).toNat).size ≤ 9223372036854775807 then (if t145.toList = (((a0.extract 0 ((ji6) : Int).toNat) ++ (a1.extract 0 ((ji9) : Int).toNat)) ++ ((a2.extract 0 ((ji12) : Int).toNat).extract 0 ((mn t141 ((a2.extract 0 ((ji12) : Int).toNat).size : Int)) : Int).toNat)).toList then ((disk_Crash.f t127 t128 t141).bind fun bt146 => ((disk_All.f bt146.1 bt146.2).bind fun t148 => (if 0 ≤ (mn t141 (((a0.extract 0 ((ji6) : Int).toNat) ++ (a1.extract 0 ((ji9) : Int).toNat)).size : Int)) then (if (mn t141 (((a0.extract 0 ((ji6) : Int).toNat) ++ (a1.extract 0 ((ji9) : Int).toNat)).size : Int)) ≤ (((a0.extract 0 ((ji6) : Int).toNat) ++ (a1.extract 0 ((ji9) : Int).toNat)).size : Int) then (some (t148.toList == (((a0.extract 0 ((ji6) : Int).toNat) ++ (a1.extract 0 ((ji9) : Int).toNat)).extract 0 ((mn t141 (((a0.extract 0 ((ji6) : Int).toNat) ++ (a1.extract 0 ((ji9) : Int).toNat)).size : Int)) : Int).toNat).toList)) else (none)) else (none)))) else (some false)) else (none)) else (none)) else (none)))) else (some false)) else (none))) else (some false)) else (some false)) else (some false)) else (some false)) else (some false)) else (some false)))) else (none)))) = some r := H
              have A16 := Aside0.mk A160
              clear A160
              replace H := Option.bind_eq_some_iff.mp H
              obtain ⟨⟨t131, t132⟩, A170, H⟩ := H
              replace H : ((disk_Append.f t131 t132 (a2.extract 0 ((ji12) : Int).toNat)).bind fun bt133 => (if (a0.extract 0 ((ji6) : Int).toNat).size + (a1.extract 0 ((ji9) : Int).toNat).size ≤ 9223372036854775807 then ((disk_Append.f (⟨#[]⟩ : ByteArray) (⟨#[]⟩ : ByteArray) ((a0.extract 0 ((ji6) : Int).toNat) ++ (a1.extract 0 ((ji9) : Int).toNat))).bind fun bt137 => ((hagglerlaw05_pick.f a3 600).bind fun t141 => (if t122 = true then (if t125 = 0 then (if t129 = 0 then (if bt133.2.2 = 0 then (if bt137.2.2 = 0 then (if (t127.toList == bt137.1.toList && (t128.toList == bt137.2.1.toList)) = true then ((disk_All.f bt133.1 bt133.2.1).bind fun t142 => (if ((a0.extract 0 ((ji6) : Int).toNat) ++ (a1.extract 0 ((ji9) : Int).toNat)).size + (a2.extract 0 ((ji12) : Int).toNat).size ≤ 9223372036854775807 then (if t142.toList = (((a0.extract 0 ((ji6) : Int).toNat) ++ (a1.extract 0 ((ji9) : Int).toNat)) ++ (a2.extract 0 ((ji12) : Int).toNat)).toList then ((disk_Crash.f bt133.1 bt133.2.1 t141).bind fun bt143 => ((disk_All.f bt143.1 bt143.2).bind fun t145 => (if 0 ≤ (mn t141 ((a2.extract 0 ((ji12) : Int).toNat).size : Int)) then (if (mn t141 ((a2.extract 0 ((ji12) : Int).toNat).size : Int)) ≤ ((a2.extract 0 ((ji12) : Int).toNat).size : Int) then (if ((a0.extract 0 ((ji6) : Int).toNat) ++ (a1.extract 0 ((ji9) : Int).toNat)).size + ((a2.extract 0 ((ji12) : Int).toNat).extract 0 ((mn t141 ((a2.extract 0 ((ji12) : Int).toNat).size : Int)) : Int).toNat).size ≤ 9223372036854775807 then (if t145.toList = (((a0.extract 0 ((ji6) : Int).toNat) ++ (a1.extract 0 ((ji9) : Int).toNat)) ++ ((a2.extract 0 ((ji12) : Int).toNat).extract 0 ((mn t141 ((a2.extract 0 ((ji12) : Int).toNat).size : Int)) : Int).toNat)).toList then ((disk_Crash.f t127 t128 t141).bind fun bt146 => ((disk_All.f bt146.1 bt146.2).bind fun t148 => (if 0 ≤ (mn t141 (((a0.extract 0 ((ji6) : Int).toNat) ++ (a1.extract 0 ((ji9) : Int).toNat)).size : Int)) then (if (mn t141 (((a0.extract 0 ((ji6) : Int).toNat) ++ (a1.extract 0 ((ji9) : Int).toNat)).size : Int)) ≤ (((a0.extract 0 ((ji6) : Int).toNat) ++ (a1.extract 0 ((ji9) : Int).toNat)).size : Int) then (some (t148.toList == (((a0.extract 0 ((ji6) : Int).toNat) ++ (a1.extract 0 ((ji9) : Int).toNat)).extract 0 ((mn t141 (((a0.extract 0 ((ji6) : Int).toNat) ++ (a1.extract 0 ((ji9) : Int).toNat)).size : Int)) : Int).toNat).toList)) else (none)) else (none)))) else (some false)) else (none)) else (none)) else (none)))) else (some false)) else (none))) else (some false)) else (some false)) else (some false)) else (some false)) else (some false)) else (some false)))) else (none))) = some r := H
              have A17 := Aside0.mk A170
              clear A170
              replace H := Option.bind_eq_some_iff.mp H
              obtain ⟨⟨t133, t134, t135⟩, A180, H⟩ := H
              replace H : (if (a0.extract 0 ((ji6) : Int).toNat).size + (a1.extract 0 ((ji9) : Int).toNat).size ≤ 9223372036854775807 then ((disk_Append.f (⟨#[]⟩ : ByteArray) (⟨#[]⟩ : ByteArray) ((a0.extract 0 ((ji6) : Int).toNat) ++ (a1.extract 0 ((ji9) : Int).toNat))).bind fun bt137 => ((hagglerlaw05_pick.f a3 600).bind fun t141 => (if t122 = true then (if t125 = 0 then (if t129 = 0 then (if t135 = 0 then (if bt137.2.2 = 0 then (if (t127.toList == bt137.1.toList && (t128.toList == bt137.2.1.toList)) = true then ((disk_All.f t133 t134).bind fun t142 => (if ((a0.extract 0 ((ji6) : Int).toNat) ++ (a1.extract 0 ((ji9) : Int).toNat)).size + (a2.extract 0 ((ji12) : Int).toNat).size ≤ 9223372036854775807 then (if t142.toList = (((a0.extract 0 ((ji6) : Int).toNat) ++ (a1.extract 0 ((ji9) : Int).toNat)) ++ (a2.extract 0 ((ji12) : Int).toNat)).toList then ((disk_Crash.f t133 t134 t141).bind fun bt143 => ((disk_All.f bt143.1 bt143.2).bind fun t145 => (if 0 ≤ (mn t141 ((a2.extract 0 ((ji12) : Int).toNat).size : Int)) then (if (mn t141 ((a2.extract 0 ((ji12) : Int).toNat).size : Int)) ≤ ((a2.extract 0 ((ji12) : Int).toNat).size : Int) then (if ((a0.extract 0 ((ji6) : Int).toNat) ++ (a1.extract 0 ((ji9) : Int).toNat)).size + ((a2.extract 0 ((ji12) : Int).toNat).extract 0 ((mn t141 ((a2.extract 0 ((ji12) : Int).toNat).size : Int)) : Int).toNat).size ≤ 9223372036854775807 then (if t145.toList = (((a0.extract 0 ((ji6) : Int).toNat) ++ (a1.extract 0 ((ji9) : Int).toNat)) ++ ((a2.extract 0 ((ji12) : Int).toNat).extract 0 ((mn t141 ((a2.extract 0 ((ji12) : Int).toNat).size : Int)) : Int).toNat)).toList then ((disk_Crash.f t127 t128 t141).bind fun bt146 => ((disk_All.f bt146.1 bt146.2).bind fun t148 => (if 0 ≤ (mn t141 (((a0.extract 0 ((ji6) : Int).toNat) ++ (a1.extract 0 ((ji9) : Int).toNat)).size : Int)) then (if (mn t141 (((a0.extract 0 ((ji6) : Int).toNat) ++ (a1.extract 0 ((ji9) : Int).toNat)).size : Int)) ≤ (((a0.extract 0 ((ji6) : Int).toNat) ++ (a1.extract 0 ((ji9) : Int).toNat)).size : Int) then (some (t148.toList == (((a0.extract 0 ((ji6) : Int).toNat) ++ (a1.extract 0 ((ji9) : Int).toNat)).extract 0 ((mn t141 (((a0.extract 0 ((ji6) : Int).toNat) ++ (a1.extract 0 ((ji9) : Int).toNat)).size : Int)) : Int).toNat).toList)) else (none)) else (none)))) else (some false)) else (none)) else (none)) else (none)))) else (some false)) else (none))) else (some false)) else (some false)) else (some false)) else (some false)) else (some false)) else (some false)))) else (none)) = some r := H
              have A18 := Aside0.mk A180
              clear A180
              by_cases c19 : (a0.extract 0 ((ji6) : Int).toNat).size + (a1.extract 0 ((ji9) : Int).toNat).size ≤ 9223372036854775807
              · rw [if_pos c19] at H
                have c19b0 := eq_true c19
                have c19b1 : decide ((a0.extract 0 ((ji6) : Int).toNat).size + (a1.extract 0 ((ji9) : Int).toNat).size ≤ 9223372036854775807) = true := decide_eq_true c19
                (try (have c19b1t := c19b1; simp only [Int.toNat_natCast] at c19b1t))
                try have c19b2 : (9223372036854775807 < (a0.extract 0 ((ji6) : Int).toNat).size + (a1.extract 0 ((ji9) : Int).toNat).size) = False := eq_false (Nat.not_lt.2 c19)
                (try have c19n : (9223372036854775807 < ji6.toNat + ji9.toNat) = False := eq_false (by have h_ := c19; simp only [ByteArray.size_append, ByteArray.size_extract] at h_ ⊢; omega))
                (try (have c19b2t := c19b2; simp only [Int.toNat_natCast] at c19b2t))
                replace H := Option.bind_eq_some_iff.mp H
                obtain ⟨⟨t137, t138, t139⟩, A200, H⟩ := H
                replace H : ((hagglerlaw05_pick.f a3 600).bind fun t141 => (if t122 = true then (if t125 = 0 then (if t129 = 0 then (if t135 = 0 then (if t139 = 0 then (if (t127.toList == t137.toList && (t128.toList == t138.toList)) = true then ((disk_All.f t133 t134).bind fun t142 => (if ((a0.extract 0 ((ji6) : Int).toNat) ++ (a1.extract 0 ((ji9) : Int).toNat)).size + (a2.extract 0 ((ji12) : Int).toNat).size ≤ 9223372036854775807 then (if t142.toList = (((a0.extract 0 ((ji6) : Int).toNat) ++ (a1.extract 0 ((ji9) : Int).toNat)) ++ (a2.extract 0 ((ji12) : Int).toNat)).toList then ((disk_Crash.f t133 t134 t141).bind fun bt143 => ((disk_All.f bt143.1 bt143.2).bind fun t145 => (if 0 ≤ (mn t141 ((a2.extract 0 ((ji12) : Int).toNat).size : Int)) then (if (mn t141 ((a2.extract 0 ((ji12) : Int).toNat).size : Int)) ≤ ((a2.extract 0 ((ji12) : Int).toNat).size : Int) then (if ((a0.extract 0 ((ji6) : Int).toNat) ++ (a1.extract 0 ((ji9) : Int).toNat)).size + ((a2.extract 0 ((ji12) : Int).toNat).extract 0 ((mn t141 ((a2.extract 0 ((ji12) : Int).toNat).size : Int)) : Int).toNat).size ≤ 9223372036854775807 then (if t145.toList = (((a0.extract 0 ((ji6) : Int).toNat) ++ (a1.extract 0 ((ji9) : Int).toNat)) ++ ((a2.extract 0 ((ji12) : Int).toNat).extract 0 ((mn t141 ((a2.extract 0 ((ji12) : Int).toNat).size : Int)) : Int).toNat)).toList then ((disk_Crash.f t127 t128 t141).bind fun bt146 => ((disk_All.f bt146.1 bt146.2).bind fun t148 => (if 0 ≤ (mn t141 (((a0.extract 0 ((ji6) : Int).toNat) ++ (a1.extract 0 ((ji9) : Int).toNat)).size : Int)) then (if (mn t141 (((a0.extract 0 ((ji6) : Int).toNat) ++ (a1.extract 0 ((ji9) : Int).toNat)).size : Int)) ≤ (((a0.extract 0 ((ji6) : Int).toNat) ++ (a1.extract 0 ((ji9) : Int).toNat)).size : Int) then (some (t148.toList == (((a0.extract 0 ((ji6) : Int).toNat) ++ (a1.extract 0 ((ji9) : Int).toNat)).extract 0 ((mn t141 (((a0.extract 0 ((ji6) : Int).toNat) ++ (a1.extract 0 ((ji9) : Int).toNat)).size : Int)) : Int).toNat).toList)) else (none)) else (none)))) else (some false)) else (none)) else (none)) else (none)))) else (some false)) else (none))) else (some false)) else (some false)) else (some false)) else (some false)) else (some false)) else (some false))) = some r := H
                have A20 := Aside0.mk A200
                clear A200
                replace H := Option.bind_eq_some_iff.mp H
                obtain ⟨t141, A210, H⟩ := H
                replace H : (if t122 = true then (if t125 = 0 then (if t129 = 0 then (if t135 = 0 then (if t139 = 0 then (if (t127.toList == t137.toList && (t128.toList == t138.toList)) = true then ((disk_All.f t133 t134).bind fun t142 => (if ((a0.extract 0 ((ji6) : Int).toNat) ++ (a1.extract 0 ((ji9) : Int).toNat)).size + (a2.extract 0 ((ji12) : Int).toNat).size ≤ 9223372036854775807 then (if t142.toList = (((a0.extract 0 ((ji6) : Int).toNat) ++ (a1.extract 0 ((ji9) : Int).toNat)) ++ (a2.extract 0 ((ji12) : Int).toNat)).toList then ((disk_Crash.f t133 t134 t141).bind fun bt143 => ((disk_All.f bt143.1 bt143.2).bind fun t145 => (if 0 ≤ (mn t141 ((a2.extract 0 ((ji12) : Int).toNat).size : Int)) then (if (mn t141 ((a2.extract 0 ((ji12) : Int).toNat).size : Int)) ≤ ((a2.extract 0 ((ji12) : Int).toNat).size : Int) then (if ((a0.extract 0 ((ji6) : Int).toNat) ++ (a1.extract 0 ((ji9) : Int).toNat)).size + ((a2.extract 0 ((ji12) : Int).toNat).extract 0 ((mn t141 ((a2.extract 0 ((ji12) : Int).toNat).size : Int)) : Int).toNat).size ≤ 9223372036854775807 then (if t145.toList = (((a0.extract 0 ((ji6) : Int).toNat) ++ (a1.extract 0 ((ji9) : Int).toNat)) ++ ((a2.extract 0 ((ji12) : Int).toNat).extract 0 ((mn t141 ((a2.extract 0 ((ji12) : Int).toNat).size : Int)) : Int).toNat)).toList then ((disk_Crash.f t127 t128 t141).bind fun bt146 => ((disk_All.f bt146.1 bt146.2).bind fun t148 => (if 0 ≤ (mn t141 (((a0.extract 0 ((ji6) : Int).toNat) ++ (a1.extract 0 ((ji9) : Int).toNat)).size : Int)) then (if (mn t141 (((a0.extract 0 ((ji6) : Int).toNat) ++ (a1.extract 0 ((ji9) : Int).toNat)).size : Int)) ≤ (((a0.extract 0 ((ji6) : Int).toNat) ++ (a1.extract 0 ((ji9) : Int).toNat)).size : Int) then (some (t148.toList == (((a0.extract 0 ((ji6) : Int).toNat) ++ (a1.extract 0 ((ji9) : Int).toNat)).extract 0 ((mn t141 (((a0.extract 0 ((ji6) : Int).toNat) ++ (a1.extract 0 ((ji9) : Int).toNat)).size : Int)) : Int).toNat).toList)) else (none)) else (none)))) else (some false)) else (none)) else (none)) else (none)))) else (some false)) else (none))) else (some false)) else (some false)) else (some false)) else (some false)) else (some false)) else (some false)) = some r := H
                have A21 := Aside0.mk A210
                clear A210
                by_cases c22 : t122 = true
                · subst c22
                  have H1 : (if t125 = 0 then (if t129 = 0 then (if t135 = 0 then (if t139 = 0 then (if (t127.toList == t137.toList && (t128.toList == t138.toList)) = true then ((disk_All.f t133 t134).bind fun t142 => (if ((a0.extract 0 ((ji6) : Int).toNat) ++ (a1.extract 0 ((ji9) : Int).toNat)).size + (a2.extract 0 ((ji12) : Int).toNat).size ≤ 9223372036854775807 then (if t142.toList = (((a0.extract 0 ((ji6) : Int).toNat) ++ (a1.extract 0 ((ji9) : Int).toNat)) ++ (a2.extract 0 ((ji12) : Int).toNat)).toList then ((disk_Crash.f t133 t134 t141).bind fun bt143 => ((disk_All.f bt143.1 bt143.2).bind fun t145 => (if 0 ≤ (mn t141 ((a2.extract 0 ((ji12) : Int).toNat).size : Int)) then (if (mn t141 ((a2.extract 0 ((ji12) : Int).toNat).size : Int)) ≤ ((a2.extract 0 ((ji12) : Int).toNat).size : Int) then (if ((a0.extract 0 ((ji6) : Int).toNat) ++ (a1.extract 0 ((ji9) : Int).toNat)).size + ((a2.extract 0 ((ji12) : Int).toNat).extract 0 ((mn t141 ((a2.extract 0 ((ji12) : Int).toNat).size : Int)) : Int).toNat).size ≤ 9223372036854775807 then (if t145.toList = (((a0.extract 0 ((ji6) : Int).toNat) ++ (a1.extract 0 ((ji9) : Int).toNat)) ++ ((a2.extract 0 ((ji12) : Int).toNat).extract 0 ((mn t141 ((a2.extract 0 ((ji12) : Int).toNat).size : Int)) : Int).toNat)).toList then ((disk_Crash.f t127 t128 t141).bind fun bt146 => ((disk_All.f bt146.1 bt146.2).bind fun t148 => (if 0 ≤ (mn t141 (((a0.extract 0 ((ji6) : Int).toNat) ++ (a1.extract 0 ((ji9) : Int).toNat)).size : Int)) then (if (mn t141 (((a0.extract 0 ((ji6) : Int).toNat) ++ (a1.extract 0 ((ji9) : Int).toNat)).size : Int)) ≤ (((a0.extract 0 ((ji6) : Int).toNat) ++ (a1.extract 0 ((ji9) : Int).toNat)).size : Int) then (some (t148.toList == (((a0.extract 0 ((ji6) : Int).toNat) ++ (a1.extract 0 ((ji9) : Int).toNat)).extract 0 ((mn t141 (((a0.extract 0 ((ji6) : Int).toNat) ++ (a1.extract 0 ((ji9) : Int).toNat)).size : Int)) : Int).toNat).toList)) else (none)) else (none)))) else (some false)) else (none)) else (none)) else (none)))) else (some false)) else (none))) else (some false)) else (some false)) else (some false)) else (some false)) else (some false)) = some r := by rw [if_pos rfl] at H; exact H
                  clear H
                  have H := H1
                  clear H1
                  by_cases c23 : t125 = 0
                  · rw [if_pos c23] at H
                    have c23b0 : (t125 == 0) = true := beq_iff_eq.mpr c23
                    have c23b1 : (t125 != 0) = false := bne_eq_false_iff_eq.mpr c23
                    clear c23
                    by_cases c24 : t129 = 0
                    · rw [if_pos c24] at H
                      have c24b0 : (t129 == 0) = true := beq_iff_eq.mpr c24
                      have c24b1 : (t129 != 0) = false := bne_eq_false_iff_eq.mpr c24
                      clear c24
                      by_cases c25 : t135 = 0
                      · rw [if_pos c25] at H
                        have c25b0 : (t135 == 0) = true := beq_iff_eq.mpr c25
                        have c25b1 : (t135 != 0) = false := bne_eq_false_iff_eq.mpr c25
                        clear c25
                        by_cases c26 : t139 = 0
                        · rw [if_pos c26] at H
                          have c26b0 : (t139 == 0) = true := beq_iff_eq.mpr c26
                          have c26b1 : (t139 != 0) = false := bne_eq_false_iff_eq.mpr c26
                          clear c26
                          by_cases c27 : (t127.toList == t137.toList && (t128.toList == t138.toList)) = true
                          · rw [if_pos c27] at H
                            have c27b0 : (t127.toList == t137.toList && (t128.toList == t138.toList)) = true := c27
                            (try (have c27q := c27; simp only [Bool.and_eq_true, beq_iff_eq] at c27q))
                            (try (have c27b1 : decide (t127.toList = t137.toList && (t128.toList == t138.toList)) = true := by simpa using c27))
                            (try (have c27b2 : (t127.toList == t137.toList && (t128.toList == t138.toList)) = true := by simpa using c27))
                            clear c27
                            replace H := Option.bind_eq_some_iff.mp H
                            obtain ⟨t142, A280, H⟩ := H
                            replace H : (if ((a0.extract 0 ((ji6) : Int).toNat) ++ (a1.extract 0 ((ji9) : Int).toNat)).size + (a2.extract 0 ((ji12) : Int).toNat).size ≤ 9223372036854775807 then (if t142.toList = (((a0.extract 0 ((ji6) : Int).toNat) ++ (a1.extract 0 ((ji9) : Int).toNat)) ++ (a2.extract 0 ((ji12) : Int).toNat)).toList then ((disk_Crash.f t133 t134 t141).bind fun bt143 => ((disk_All.f bt143.1 bt143.2).bind fun t145 => (if 0 ≤ (mn t141 ((a2.extract 0 ((ji12) : Int).toNat).size : Int)) then (if (mn t141 ((a2.extract 0 ((ji12) : Int).toNat).size : Int)) ≤ ((a2.extract 0 ((ji12) : Int).toNat).size : Int) then (if ((a0.extract 0 ((ji6) : Int).toNat) ++ (a1.extract 0 ((ji9) : Int).toNat)).size + ((a2.extract 0 ((ji12) : Int).toNat).extract 0 ((mn t141 ((a2.extract 0 ((ji12) : Int).toNat).size : Int)) : Int).toNat).size ≤ 9223372036854775807 then (if t145.toList = (((a0.extract 0 ((ji6) : Int).toNat) ++ (a1.extract 0 ((ji9) : Int).toNat)) ++ ((a2.extract 0 ((ji12) : Int).toNat).extract 0 ((mn t141 ((a2.extract 0 ((ji12) : Int).toNat).size : Int)) : Int).toNat)).toList then ((disk_Crash.f t127 t128 t141).bind fun bt146 => ((disk_All.f bt146.1 bt146.2).bind fun t148 => (if 0 ≤ (mn t141 (((a0.extract 0 ((ji6) : Int).toNat) ++ (a1.extract 0 ((ji9) : Int).toNat)).size : Int)) then (if (mn t141 (((a0.extract 0 ((ji6) : Int).toNat) ++ (a1.extract 0 ((ji9) : Int).toNat)).size : Int)) ≤ (((a0.extract 0 ((ji6) : Int).toNat) ++ (a1.extract 0 ((ji9) : Int).toNat)).size : Int) then (some (t148.toList == (((a0.extract 0 ((ji6) : Int).toNat) ++ (a1.extract 0 ((ji9) : Int).toNat)).extract 0 ((mn t141 (((a0.extract 0 ((ji6) : Int).toNat) ++ (a1.extract 0 ((ji9) : Int).toNat)).size : Int)) : Int).toNat).toList)) else (none)) else (none)))) else (some false)) else (none)) else (none)) else (none)))) else (some false)) else (none)) = some r := H
                            have A28 := Aside0.mk A280
                            clear A280
                            by_cases c29 : ((a0.extract 0 ((ji6) : Int).toNat) ++ (a1.extract 0 ((ji9) : Int).toNat)).size + (a2.extract 0 ((ji12) : Int).toNat).size ≤ 9223372036854775807
                            · rw [if_pos c29] at H
                              have c29b0 := eq_true c29
                              have c29b1 : decide (((a0.extract 0 ((ji6) : Int).toNat) ++ (a1.extract 0 ((ji9) : Int).toNat)).size + (a2.extract 0 ((ji12) : Int).toNat).size ≤ 9223372036854775807) = true := decide_eq_true c29
                              (try (have c29b1t := c29b1; simp only [Int.toNat_natCast] at c29b1t))
                              try have c29b2 : (9223372036854775807 < ((a0.extract 0 ((ji6) : Int).toNat) ++ (a1.extract 0 ((ji9) : Int).toNat)).size + (a2.extract 0 ((ji12) : Int).toNat).size) = False := eq_false (Nat.not_lt.2 c29)
                              (try have c29n : (9223372036854775807 < ji6.toNat + ji9.toNat + ji12.toNat) = False := eq_false (by have h_ := c29; simp only [ByteArray.size_append, ByteArray.size_extract] at h_ ⊢; omega))
                              (try (have c29b2t := c29b2; simp only [Int.toNat_natCast] at c29b2t))
                              by_cases c30 : t142.toList = (((a0.extract 0 ((ji6) : Int).toNat) ++ (a1.extract 0 ((ji9) : Int).toNat)) ++ (a2.extract 0 ((ji12) : Int).toNat)).toList
                              · rw [if_pos c30] at H
                                have c30b0 : (t142.toList == (((a0.extract 0 ((ji6) : Int).toNat) ++ (a1.extract 0 ((ji9) : Int).toNat)) ++ (a2.extract 0 ((ji12) : Int).toNat)).toList) = true := beq_iff_eq.mpr c30
                                (try (have c30b0t := c30b0; simp only [Int.toNat_natCast] at c30b0t))
                                have c30b1 : (t142.toList != (((a0.extract 0 ((ji6) : Int).toNat) ++ (a1.extract 0 ((ji9) : Int).toNat)) ++ (a2.extract 0 ((ji12) : Int).toNat)).toList) = false := bne_eq_false_iff_eq.mpr c30
                                (try (have c30b1t := c30b1; simp only [Int.toNat_natCast] at c30b1t))
                                clear c30
                                replace H := Option.bind_eq_some_iff.mp H
                                obtain ⟨⟨t143, t144⟩, A310, H⟩ := H
                                replace H : ((disk_All.f t143 t144).bind fun t145 => (if 0 ≤ (mn t141 ((a2.extract 0 ((ji12) : Int).toNat).size : Int)) then (if (mn t141 ((a2.extract 0 ((ji12) : Int).toNat).size : Int)) ≤ ((a2.extract 0 ((ji12) : Int).toNat).size : Int) then (if ((a0.extract 0 ((ji6) : Int).toNat) ++ (a1.extract 0 ((ji9) : Int).toNat)).size + ((a2.extract 0 ((ji12) : Int).toNat).extract 0 ((mn t141 ((a2.extract 0 ((ji12) : Int).toNat).size : Int)) : Int).toNat).size ≤ 9223372036854775807 then (if t145.toList = (((a0.extract 0 ((ji6) : Int).toNat) ++ (a1.extract 0 ((ji9) : Int).toNat)) ++ ((a2.extract 0 ((ji12) : Int).toNat).extract 0 ((mn t141 ((a2.extract 0 ((ji12) : Int).toNat).size : Int)) : Int).toNat)).toList then ((disk_Crash.f t127 t128 t141).bind fun bt146 => ((disk_All.f bt146.1 bt146.2).bind fun t148 => (if 0 ≤ (mn t141 (((a0.extract 0 ((ji6) : Int).toNat) ++ (a1.extract 0 ((ji9) : Int).toNat)).size : Int)) then (if (mn t141 (((a0.extract 0 ((ji6) : Int).toNat) ++ (a1.extract 0 ((ji9) : Int).toNat)).size : Int)) ≤ (((a0.extract 0 ((ji6) : Int).toNat) ++ (a1.extract 0 ((ji9) : Int).toNat)).size : Int) then (some (t148.toList == (((a0.extract 0 ((ji6) : Int).toNat) ++ (a1.extract 0 ((ji9) : Int).toNat)).extract 0 ((mn t141 (((a0.extract 0 ((ji6) : Int).toNat) ++ (a1.extract 0 ((ji9) : Int).toNat)).size : Int)) : Int).toNat).toList)) else (none)) else (none)))) else (some false)) else (none)) else (none)) else (none))) = some r := H
                                have A31 := Aside0.mk A310
                                clear A310
                                replace H := Option.bind_eq_some_iff.mp H
                                obtain ⟨t145, A320, H⟩ := H
                                replace H : (if 0 ≤ (mn t141 ((a2.extract 0 ((ji12) : Int).toNat).size : Int)) then (if (mn t141 ((a2.extract 0 ((ji12) : Int).toNat).size : Int)) ≤ ((a2.extract 0 ((ji12) : Int).toNat).size : Int) then (if ((a0.extract 0 ((ji6) : Int).toNat) ++ (a1.extract 0 ((ji9) : Int).toNat)).size + ((a2.extract 0 ((ji12) : Int).toNat).extract 0 ((mn t141 ((a2.extract 0 ((ji12) : Int).toNat).size : Int)) : Int).toNat).size ≤ 9223372036854775807 then (if t145.toList = (((a0.extract 0 ((ji6) : Int).toNat) ++ (a1.extract 0 ((ji9) : Int).toNat)) ++ ((a2.extract 0 ((ji12) : Int).toNat).extract 0 ((mn t141 ((a2.extract 0 ((ji12) : Int).toNat).size : Int)) : Int).toNat)).toList then ((disk_Crash.f t127 t128 t141).bind fun bt146 => ((disk_All.f bt146.1 bt146.2).bind fun t148 => (if 0 ≤ (mn t141 (((a0.extract 0 ((ji6) : Int).toNat) ++ (a1.extract 0 ((ji9) : Int).toNat)).size : Int)) then (if (mn t141 (((a0.extract 0 ((ji6) : Int).toNat) ++ (a1.extract 0 ((ji9) : Int).toNat)).size : Int)) ≤ (((a0.extract 0 ((ji6) : Int).toNat) ++ (a1.extract 0 ((ji9) : Int).toNat)).size : Int) then (some (t148.toList == (((a0.extract 0 ((ji6) : Int).toNat) ++ (a1.extract 0 ((ji9) : Int).toNat)).extract 0 ((mn t141 (((a0.extract 0 ((ji6) : Int).toNat) ++ (a1.extract 0 ((ji9) : Int).toNat)).size : Int)) : Int).toNat).toList)) else (none)) else (none)))) else (some false)) else (none)) else (none)) else (none)) = some r := H
                                have A32 := Aside0.mk A320
                                clear A320
                                obtain ⟨ji33, hji33⟩ : ∃ j_ : Int, (mn t141 ((a2.extract 0 ((ji12) : Int).toNat).size : Int)) = j_ := ⟨_, rfl⟩
                                replace H : (if 0 ≤ (ji33) then (if (ji33) ≤ ((a2.extract 0 ((ji12) : Int).toNat).size : Int) then (if ((a0.extract 0 ((ji6) : Int).toNat) ++ (a1.extract 0 ((ji9) : Int).toNat)).size + ((a2.extract 0 ((ji12) : Int).toNat).extract 0 ((ji33) : Int).toNat).size ≤ 9223372036854775807 then (if t145.toList = (((a0.extract 0 ((ji6) : Int).toNat) ++ (a1.extract 0 ((ji9) : Int).toNat)) ++ ((a2.extract 0 ((ji12) : Int).toNat).extract 0 ((ji33) : Int).toNat)).toList then ((disk_Crash.f t127 t128 t141).bind fun bt146 => ((disk_All.f bt146.1 bt146.2).bind fun t148 => (if 0 ≤ (mn t141 (((a0.extract 0 ((ji6) : Int).toNat) ++ (a1.extract 0 ((ji9) : Int).toNat)).size : Int)) then (if (mn t141 (((a0.extract 0 ((ji6) : Int).toNat) ++ (a1.extract 0 ((ji9) : Int).toNat)).size : Int)) ≤ (((a0.extract 0 ((ji6) : Int).toNat) ++ (a1.extract 0 ((ji9) : Int).toNat)).size : Int) then (some (t148.toList == (((a0.extract 0 ((ji6) : Int).toNat) ++ (a1.extract 0 ((ji9) : Int).toNat)).extract 0 ((mn t141 (((a0.extract 0 ((ji6) : Int).toNat) ++ (a1.extract 0 ((ji9) : Int).toNat)).size : Int)) : Int).toNat).toList)) else (none)) else (none)))) else (some false)) else (none)) else (none)) else (none)) = some r := by first | (rw [hji33] at H; exact H) | (simp only [hji33] at H ⊢; exact H)
                                (try rw [hji33] at A5)
                                (try rw [hji33] at A15)
                                (try rw [hji33] at A16)
                                (try rw [hji33] at A17)
                                (try rw [hji33] at A18)
                                (try rw [hji33] at A20)
                                (try rw [hji33] at A21)
                                (try rw [hji33] at A28)
                                (try rw [hji33] at A31)
                                (try rw [hji33] at A32)
                                have hji33_ : (if ((a2.extract 0 ((ji12) : Int).toNat).size : Int) < t141 then ((a2.extract 0 ((ji12) : Int).toNat).size : Int) else t141) = ji33 := hji33
                                have hji33e := Aside0.mk (show ((a2.extract 0 ((ji12) : Int).toNat).size : Int) = max ji12 0 by simp only [ByteArray.size_append, ByteArray.size_extract]; omega)
                                have hji33w : (if max ji12 0 < t141 then max ji12 0 else t141) = ji33 := by have h_ := hji33_; rw [hji33e.out] at h_; exact h_
                                by_cases c34 : 0 ≤ (ji33)
                                · rw [if_pos c34] at H
                                  have c34b0 := eq_true c34
                                  have c34b1 : decide (0 ≤ (ji33)) = true := decide_eq_true c34
                                  clear c34
                                  by_cases c35 : (ji33) ≤ ((a2.extract 0 ((ji12) : Int).toNat).size : Int)
                                  · rw [if_pos c35] at H
                                    have c35w : (ji33 ≤ max ji12 0) = True := eq_true (by rw [← hji33e.out]; exact c35)
                                    have c35b0 := eq_true c35
                                    have c35b1 : decide ((ji33) ≤ ((a2.extract 0 ((ji12) : Int).toNat).size : Int)) = true := decide_eq_true c35
                                    (try (have c35b1t := c35b1; simp only [Int.toNat_natCast] at c35b1t))
                                    clear c35
                                    by_cases c36 : ((a0.extract 0 ((ji6) : Int).toNat) ++ (a1.extract 0 ((ji9) : Int).toNat)).size + ((a2.extract 0 ((ji12) : Int).toNat).extract 0 ((ji33) : Int).toNat).size ≤ 9223372036854775807
                                    · rw [if_pos c36] at H
                                      have c36b0 := eq_true c36
                                      have c36b1 : decide (((a0.extract 0 ((ji6) : Int).toNat) ++ (a1.extract 0 ((ji9) : Int).toNat)).size + ((a2.extract 0 ((ji12) : Int).toNat).extract 0 ((ji33) : Int).toNat).size ≤ 9223372036854775807) = true := decide_eq_true c36
                                      (try (have c36b1t := c36b1; simp only [Int.toNat_natCast] at c36b1t))
                                      try have c36b2 : (9223372036854775807 < ((a0.extract 0 ((ji6) : Int).toNat) ++ (a1.extract 0 ((ji9) : Int).toNat)).size + ((a2.extract 0 ((ji12) : Int).toNat).extract 0 ((ji33) : Int).toNat).size) = False := eq_false (Nat.not_lt.2 c36)
                                      (try have c36n : (9223372036854775807 < ji6.toNat + ji9.toNat + min ji33.toNat ji12.toNat) = False := eq_false (by have h_ := c36; simp only [ByteArray.size_append, ByteArray.size_extract] at h_ ⊢; omega))
                                      (try (have c36b2t := c36b2; simp only [Int.toNat_natCast] at c36b2t))
                                      by_cases c37 : t145.toList = (((a0.extract 0 ((ji6) : Int).toNat) ++ (a1.extract 0 ((ji9) : Int).toNat)) ++ ((a2.extract 0 ((ji12) : Int).toNat).extract 0 ((ji33) : Int).toNat)).toList
                                      · rw [if_pos c37] at H
                                        have c37b0 : (t145.toList == (((a0.extract 0 ((ji6) : Int).toNat) ++ (a1.extract 0 ((ji9) : Int).toNat)) ++ ((a2.extract 0 ((ji12) : Int).toNat).extract 0 ((ji33) : Int).toNat)).toList) = true := beq_iff_eq.mpr c37
                                        (try (have c37b0t := c37b0; simp only [Int.toNat_natCast] at c37b0t))
                                        have c37b1 : (t145.toList != (((a0.extract 0 ((ji6) : Int).toNat) ++ (a1.extract 0 ((ji9) : Int).toNat)) ++ ((a2.extract 0 ((ji12) : Int).toNat).extract 0 ((ji33) : Int).toNat)).toList) = false := bne_eq_false_iff_eq.mpr c37
                                        (try (have c37b1t := c37b1; simp only [Int.toNat_natCast] at c37b1t))
                                        clear c37
                                        replace H := Option.bind_eq_some_iff.mp H
                                        obtain ⟨⟨t146, t147⟩, A380, H⟩ := H
                                        replace H : ((disk_All.f t146 t147).bind fun t148 => (if 0 ≤ (mn t141 (((a0.extract 0 ((ji6) : Int).toNat) ++ (a1.extract 0 ((ji9) : Int).toNat)).size : Int)) then (if (mn t141 (((a0.extract 0 ((ji6) : Int).toNat) ++ (a1.extract 0 ((ji9) : Int).toNat)).size : Int)) ≤ (((a0.extract 0 ((ji6) : Int).toNat) ++ (a1.extract 0 ((ji9) : Int).toNat)).size : Int) then (some (t148.toList == (((a0.extract 0 ((ji6) : Int).toNat) ++ (a1.extract 0 ((ji9) : Int).toNat)).extract 0 ((mn t141 (((a0.extract 0 ((ji6) : Int).toNat) ++ (a1.extract 0 ((ji9) : Int).toNat)).size : Int)) : Int).toNat).toList)) else (none)) else (none))) = some r := H
                                        have A38 := Aside0.mk A380
                                        clear A380
                                        replace H := Option.bind_eq_some_iff.mp H
                                        obtain ⟨t148, A390, H⟩ := H
                                        replace H : (if 0 ≤ (mn t141 (((a0.extract 0 ((ji6) : Int).toNat) ++ (a1.extract 0 ((ji9) : Int).toNat)).size : Int)) then (if (mn t141 (((a0.extract 0 ((ji6) : Int).toNat) ++ (a1.extract 0 ((ji9) : Int).toNat)).size : Int)) ≤ (((a0.extract 0 ((ji6) : Int).toNat) ++ (a1.extract 0 ((ji9) : Int).toNat)).size : Int) then (some (t148.toList == (((a0.extract 0 ((ji6) : Int).toNat) ++ (a1.extract 0 ((ji9) : Int).toNat)).extract 0 ((mn t141 (((a0.extract 0 ((ji6) : Int).toNat) ++ (a1.extract 0 ((ji9) : Int).toNat)).size : Int)) : Int).toNat).toList)) else (none)) else (none)) = some r := H
                                        have A39 := Aside0.mk A390
                                        clear A390
                                        obtain ⟨ji40, hji40⟩ : ∃ j_ : Int, (mn t141 (((a0.extract 0 ((ji6) : Int).toNat) ++ (a1.extract 0 ((ji9) : Int).toNat)).size : Int)) = j_ := ⟨_, rfl⟩
                                        replace H : (if 0 ≤ (ji40) then (if (ji40) ≤ (((a0.extract 0 ((ji6) : Int).toNat) ++ (a1.extract 0 ((ji9) : Int).toNat)).size : Int) then (some (t148.toList == (((a0.extract 0 ((ji6) : Int).toNat) ++ (a1.extract 0 ((ji9) : Int).toNat)).extract 0 ((ji40) : Int).toNat).toList)) else (none)) else (none)) = some r := by first | (rw [hji40] at H; exact H) | (simp only [hji40] at H ⊢; exact H)
                                        (try rw [hji40] at A5)
                                        (try rw [hji40] at A15)
                                        (try rw [hji40] at A16)
                                        (try rw [hji40] at A17)
                                        (try rw [hji40] at A18)
                                        (try rw [hji40] at A20)
                                        (try rw [hji40] at A21)
                                        (try rw [hji40] at A28)
                                        (try rw [hji40] at A31)
                                        (try rw [hji40] at A32)
                                        (try rw [hji40] at A38)
                                        (try rw [hji40] at A39)
                                        have hji40_ : (if (((a0.extract 0 ((ji6) : Int).toNat) ++ (a1.extract 0 ((ji9) : Int).toNat)).size : Int) < t141 then (((a0.extract 0 ((ji6) : Int).toNat) ++ (a1.extract 0 ((ji9) : Int).toNat)).size : Int) else t141) = ji40 := hji40
                                        have hji40e := Aside0.mk (show (((a0.extract 0 ((ji6) : Int).toNat) ++ (a1.extract 0 ((ji9) : Int).toNat)).size : Int) = max ji6 0 + max ji9 0 by simp only [ByteArray.size_append, ByteArray.size_extract]; omega)
                                        have hji40w : (if (max ji6 0 + max ji9 0) < t141 then (max ji6 0 + max ji9 0) else t141) = ji40 := by have h_ := hji40_; rw [hji40e.out] at h_; exact h_
                                        by_cases c41 : 0 ≤ (ji40)
                                        · rw [if_pos c41] at H
                                          have c41b0 := eq_true c41
                                          have c41b1 : decide (0 ≤ (ji40)) = true := decide_eq_true c41
                                          clear c41
                                          by_cases c42 : (ji40) ≤ (((a0.extract 0 ((ji6) : Int).toNat) ++ (a1.extract 0 ((ji9) : Int).toNat)).size : Int)
                                          · rw [if_pos c42] at H
                                            have c42w : (ji40 ≤ max ji6 0 + max ji9 0) = True := eq_true (by rw [← hji40e.out]; exact c42)
                                            have c42b0 := eq_true c42
                                            have c42b1 : decide ((ji40) ≤ (((a0.extract 0 ((ji6) : Int).toNat) ++ (a1.extract 0 ((ji9) : Int).toNat)).size : Int)) = true := decide_eq_true c42
                                            (try (have c42b1t := c42b1; simp only [Int.toNat_natCast] at c42b1t))
                                            obtain rfl := Option.some.inj H
                                            go_enter Try.func13, Try.ntmps13
                                            try go_wp2_with (first | ((with_reducible refine gate_callee (f := 20) rfl ?_); refine goesL_ (some 22) rfl rfl Try.func20 (by kernel_rfl) rfl #[] rfl (by (try simp only [List.map_toArray, List.map_cons, List.map_nil]); first | done | rfl | (simp only [List.length_drop, List.length_take]; rfl)) ?_; (with_reducible refine (hagglerlaw05_awake.calls  true _ A5.out).mono ?_); rintro e w43 ⟨rfl, hb⟩; refine ⟨_, rfl, ?_⟩; have n0_ := Aside0.mk (below_step (by repeat (first | (with_reducible first | exact HB.out | apply below_alloc | apply pw_below_drewN | apply below_drew1) | exact HB.out)) hb); clear HB; have HB := n0_; clear n0_; (try clear hb); (try clear hb2); (try clear hk); (try clear hi)) | ((with_reducible refine gate_callee (f := 27) rfl ?_); refine goesL_ (some 41) rfl rfl Try.func27 (by kernel_rfl) rfl #[.agg #[.string (⟨#[]⟩ : ByteArray), .string (⟨#[]⟩ : ByteArray)], .string (a0.extract 0 ((ji6) : Int).toNat)] rfl (by (try simp only [List.map_toArray, List.map_cons, List.map_nil]); first | done | (simp only [hji6]; rfl) | rfl | (simp only [List.length_drop, List.length_take]; rfl)) ?_; (with_reducible refine (disk_Append.calls (⟨#[]⟩ : ByteArray) (⟨#[]⟩ : ByteArray) (a0.extract 0 ((ji6) : Int).toNat) t123 t124 t125 _ A15.out).mono ?_); rintro e w44 ⟨rfl, hb⟩; refine ⟨_, rfl, ?_⟩; have n0_ := Aside0.mk (below_step (by repeat (first | (with_reducible first | exact HB.out | apply below_alloc | apply pw_below_drewN | apply below_drew1) | exact HB.out)) hb); clear HB; have HB := n0_; clear n0_; (try clear hb); (try clear hb2); (try clear hk); (try clear hi)) | ((with_reducible refine gate_dst (N := 13) rfl ?_); (try (refine gate_guard (by rfl) ?_; dsimp only)); refine box_event ?hg (N := 13) ?hd (cs := #[.string (⟨#[]⟩ : ByteArray), .string (⟨#[]⟩ : ByteArray)]) (t := 33) ?hr ?_; (case hd => rfl); (case hg => rfl); (case hr => first | (go_simp; done) | (go_simp; rfl)); intro gb126 hg w45 hbox hb; have n0_ := Aside0.mk (below_step (by repeat (first | (with_reducible first | exact HB.out | apply below_alloc | apply pw_below_drewN | apply below_drew1) | exact HB.out)) hb); have n1_ := Aside0.mk (hbox); have n2_ := Aside0.mk ((by rw [hg]; exact (below_size (by repeat (first | (with_reducible first | exact HB.out | apply below_alloc | apply pw_below_drewN | apply below_drew1) | exact HB.out))) : w.heap.size ≤ gb126)); have n3_ := Aside0.mk ((by rw [hg]; exact (below_size (by repeat (first | (with_reducible first | exact HB.out | apply below_alloc | apply pw_below_drewN | apply below_drew1) | exact HB.out))) : w.heap.size ≤ gb126)); clear HB; have HB := n0_; have BK126 := n1_; have GW126 := n2_; have GE126 := n3_; clear n0_ n1_ n2_ n3_; clear hb hbox hg; have hcz46_0 : w45.cell? ⟨gb126, 0, none⟩ = some (.string (⟨#[]⟩ : ByteArray)) := (blk_cell BK126.out 0).trans rfl; have hcz46_1 : w45.cell? ⟨gb126, 1, none⟩ = some (.string (⟨#[]⟩ : ByteArray)) := (blk_cell BK126.out 1).trans rfl; have hfz46_0 := blk_frozen BK126.out 0; have hfz46_1 := blk_frozen BK126.out 1) | ((with_reducible refine gate_callee (f := 27) rfl ?_); refine goesL_ (some 47) rfl rfl Try.func27 (by kernel_rfl) rfl #[.agg #[.string t123, .string t124], .string (a1.extract 0 ((ji9) : Int).toNat)] rfl (by (try simp only [List.map_toArray, List.map_cons, List.map_nil]); first | done | (simp only [hji9]; rfl) | rfl | (simp only [List.length_drop, List.length_take]; rfl)) ?_; (with_reducible refine (disk_Append.calls t123 t124 (a1.extract 0 ((ji9) : Int).toNat) t127 t128 t129 _ A16.out).mono ?_); rintro e w47 ⟨rfl, hb⟩; refine ⟨_, rfl, ?_⟩; have n0_ := Aside0.mk (blk_below (g := gb126) (o := .cells #[.string t123, .string t124] 33 (0, 0)) (by (with_reducible repeat (first | refine blk_drewN ?_ _ | refine blk_drew ?_ | refine blk_alloc ?_ _)); refine blk_put (cs := #[.string t123, .string (⟨#[]⟩ : ByteArray)]) ?_ 1 _ rfl; (with_reducible repeat (first | refine blk_drewN ?_ _ | refine blk_drew ?_ | refine blk_alloc ?_ _)); refine blk_put (cs := #[.string (⟨#[]⟩ : ByteArray), .string (⟨#[]⟩ : ByteArray)]) ?_ 0 _ rfl; (with_reducible repeat (first | refine blk_drewN ?_ _ | refine blk_drew ?_ | refine blk_alloc ?_ _)); exact BK126.out) hb); have n1_ := Aside0.mk (below_step (by repeat (first | (with_reducible first | exact HB.out | apply below_alloc | apply pw_below_drewN | apply below_drew1 | refine below_set ?_ GE126.out) | exact HB.out)) hb); clear BK126; clear HB; have BK126 := n0_; have HB := n1_; clear n0_ n1_; (try clear hb); (try clear hb2); (try clear hk); (try clear hi)) | ((with_reducible refine gate_dst (N := 15) rfl ?_); (try (refine gate_guard (by rfl) ?_; dsimp only)); refine box_event ?hg (N := 15) ?hd (cs := #[.string (⟨#[]⟩ : ByteArray), .string (⟨#[]⟩ : ByteArray)]) (t := 33) ?hr ?_; (case hd => rfl); (case hg => rfl); (case hr => first | (go_simp; done) | (go_simp; rfl)); intro gb130 hg w48 hbox hb; have n0_ := Aside0.mk (blk_below (g := gb126) (o := .cells #[.string t123, .string t124] 33 (0, 0)) (by (with_reducible repeat (first | refine blk_drewN ?_ _ | refine blk_drew ?_ | refine blk_alloc ?_ _)); exact BK126.out) hb); have n1_ := Aside0.mk (below_step (by repeat (first | (with_reducible first | exact HB.out | apply below_alloc | apply pw_below_drewN | apply below_drew1 | refine below_set ?_ GE126.out) | exact HB.out)) hb); have n2_ := Aside0.mk (hbox); have n3_ := Aside0.mk ((by rw [hg]; exact (below_size (by repeat (first | (with_reducible first | exact HB.out | apply below_alloc | apply pw_below_drewN | apply below_drew1 | refine below_set ?_ GE126.out) | exact HB.out))) : w.heap.size ≤ gb130)); have n4_ := Aside0.mk ((by rw [hg]; exact (below_size (by repeat (first | (with_reducible first | exact HB.out | apply below_alloc | apply pw_below_drewN | apply below_drew1 | refine below_set ?_ GE126.out) | exact HB.out))) : w.heap.size ≤ gb130)); have n5_ := Aside0.mk ((by rw [hg]; exact Nat.ne_of_lt (blk_lt (g := gb126) (o := .cells #[.string t123, .string t124] 33 (0, 0)) (by (with_reducible repeat (first | refine blk_drewN ?_ _ | refine blk_drew ?_ | refine blk_alloc ?_ _)); exact BK126.out)) : gb126 ≠ gb130)); have n6_ := Aside0.mk ((by rw [hg]; exact Nat.ne_of_gt (blk_lt (g := gb126) (o := .cells #[.string t123, .string t124] 33 (0, 0)) (by (with_reducible repeat (first | refine blk_drewN ?_ _ | refine blk_drew ?_ | refine blk_alloc ?_ _)); exact BK126.out)) : gb130 ≠ gb126)); clear BK126; clear HB; have BK126 := n0_; have HB := n1_; have BK130 := n2_; have GW130 := n3_; have GE130 := n4_; have NB126_130 := n5_; have NB130_126 := n6_; clear n0_ n1_ n2_ n3_ n4_ n5_ n6_; clear hb hbox hg; have hnb49 := NB130_126.out; have hnc49 := NB126_130.out; have hcz50_0 : w48.cell? ⟨gb130, 0, none⟩ = some (.string (⟨#[]⟩ : ByteArray)) := (blk_cell BK130.out 0).trans rfl; have hcz50_1 : w48.cell? ⟨gb130, 1, none⟩ = some (.string (⟨#[]⟩ : ByteArray)) := (blk_cell BK130.out 1).trans rfl; have hfz50_0 := blk_frozen BK130.out 0; have hfz50_1 := blk_frozen BK130.out 1) | ((with_reducible refine gate_callee (f := 29) rfl ?_); refine goesL_ (some 52) rfl rfl Try.func29 (by kernel_rfl) rfl #[.agg #[.string t127, .string t128]] rfl (by (try simp only [List.map_toArray, List.map_cons, List.map_nil]); first | done | rfl | (simp only [List.length_drop, List.length_take]; rfl)) ?_; (with_reducible refine (disk_Sync.calls t127 t128 t131 t132 _ A17.out).mono ?_); rintro e w51 ⟨rfl, hb⟩; refine ⟨_, rfl, ?_⟩; have n0_ := Aside0.mk (blk_below (g := gb126) (o := .cells #[.string t123, .string t124] 33 (0, 0)) (by (with_reducible repeat (first | refine blk_drewN ?_ _ | refine blk_drew ?_ | refine blk_alloc ?_ _)); refine blk_far ?_ NB126_130.out _; (with_reducible repeat (first | refine blk_drewN ?_ _ | refine blk_drew ?_ | refine blk_alloc ?_ _)); refine blk_far ?_ NB126_130.out _; (with_reducible repeat (first | refine blk_drewN ?_ _ | refine blk_drew ?_ | refine blk_alloc ?_ _)); exact BK126.out) hb); have n1_ := Aside0.mk (blk_below (g := gb130) (o := .cells #[.string t127, .string t128] 33 (0, 0)) (by (with_reducible repeat (first | refine blk_drewN ?_ _ | refine blk_drew ?_ | refine blk_alloc ?_ _)); refine blk_put (cs := #[.string t127, .string (⟨#[]⟩ : ByteArray)]) ?_ 1 _ rfl; (with_reducible repeat (first | refine blk_drewN ?_ _ | refine blk_drew ?_ | refine blk_alloc ?_ _)); refine blk_put (cs := #[.string (⟨#[]⟩ : ByteArray), .string (⟨#[]⟩ : ByteArray)]) ?_ 0 _ rfl; (with_reducible repeat (first | refine blk_drewN ?_ _ | refine blk_drew ?_ | refine blk_alloc ?_ _)); exact BK130.out) hb); have n2_ := Aside0.mk (below_step (by repeat (first | (with_reducible first | exact HB.out | apply below_alloc | apply pw_below_drewN | apply below_drew1 | refine below_set ?_ GE126.out | refine below_set ?_ GE130.out) | exact HB.out)) hb); clear BK126; clear BK130; clear HB; have BK126 := n0_; have BK130 := n1_; have HB := n2_; clear n0_ n1_ n2_; (try clear hb); (try clear hb2); (try clear hk); (try clear hi)) | ((with_reducible refine gate_callee (f := 27) rfl ?_); refine goesL_ (some 54) rfl rfl Try.func27 (by kernel_rfl) rfl #[.agg #[.string t131, .string t132], .string (a2.extract 0 ((ji12) : Int).toNat)] rfl (by (try simp only [List.map_toArray, List.map_cons, List.map_nil]); first | done | (simp only [hji12]; rfl) | rfl | (simp only [List.length_drop, List.length_take]; rfl)) ?_; (with_reducible refine (disk_Append.calls t131 t132 (a2.extract 0 ((ji12) : Int).toNat) t133 t134 t135 _ A18.out).mono ?_); rintro e w52 ⟨rfl, hb⟩; refine ⟨_, rfl, ?_⟩; have n0_ := Aside0.mk (blk_below (g := gb126) (o := .cells #[.string t123, .string t124] 33 (0, 0)) (by (with_reducible repeat (first | refine blk_drewN ?_ _ | refine blk_drew ?_ | refine blk_alloc ?_ _)); exact BK126.out) hb); have n1_ := Aside0.mk (blk_below (g := gb130) (o := .cells #[.string t127, .string t128] 33 (0, 0)) (by (with_reducible repeat (first | refine blk_drewN ?_ _ | refine blk_drew ?_ | refine blk_alloc ?_ _)); exact BK130.out) hb); have n2_ := Aside0.mk (below_step (by repeat (first | (with_reducible first | exact HB.out | apply below_alloc | apply pw_below_drewN | apply below_drew1 | refine below_set ?_ GE126.out | refine below_set ?_ GE130.out) | exact HB.out)) hb); clear BK126; clear BK130; clear HB; have BK126 := n0_; have BK130 := n1_; have HB := n2_; clear n0_ n1_ n2_; (try clear hb); (try clear hb2); (try clear hk); (try clear hi)) | ((with_reducible refine gate_dst (N := 17) rfl ?_); (try (refine gate_guard (by rfl) ?_; dsimp only)); refine box_event ?hg (N := 17) ?hd (cs := #[.string (⟨#[]⟩ : ByteArray), .string (⟨#[]⟩ : ByteArray)]) (t := 33) ?hr ?_; (case hd => rfl); (case hg => rfl); (case hr => first | (go_simp; done) | (go_simp; rfl)); intro gb136 hg w53 hbox hb; have n0_ := Aside0.mk (blk_below (g := gb126) (o := .cells #[.string t123, .string t124] 33 (0, 0)) (by (with_reducible repeat (first | refine blk_drewN ?_ _ | refine blk_drew ?_ | refine blk_alloc ?_ _)); exact BK126.out) hb); have n1_ := Aside0.mk (blk_below (g := gb130) (o := .cells #[.string t127, .string t128] 33 (0, 0)) (by (with_reducible repeat (first | refine blk_drewN ?_ _ | refine blk_drew ?_ | refine blk_alloc ?_ _)); exact BK130.out) hb); have n2_ := Aside0.mk (below_step (by repeat (first | (with_reducible first | exact HB.out | apply below_alloc | apply pw_below_drewN | apply below_drew1 | refine below_set ?_ GE126.out | refine below_set ?_ GE130.out) | exact HB.out)) hb); have n3_ := Aside0.mk (hbox); have n4_ := Aside0.mk ((by rw [hg]; exact (below_size (by repeat (first | (with_reducible first | exact HB.out | apply below_alloc | apply pw_below_drewN | apply below_drew1 | refine below_set ?_ GE126.out | refine below_set ?_ GE130.out) | exact HB.out))) : w.heap.size ≤ gb136)); have n5_ := Aside0.mk ((by rw [hg]; exact (below_size (by repeat (first | (with_reducible first | exact HB.out | apply below_alloc | apply pw_below_drewN | apply below_drew1 | refine below_set ?_ GE126.out | refine below_set ?_ GE130.out) | exact HB.out))) : w.heap.size ≤ gb136)); have n6_ := Aside0.mk ((by rw [hg]; exact Nat.ne_of_lt (blk_lt (g := gb126) (o := .cells #[.string t123, .string t124] 33 (0, 0)) (by (with_reducible repeat (first | refine blk_drewN ?_ _ | refine blk_drew ?_ | refine blk_alloc ?_ _)); exact BK126.out)) : gb126 ≠ gb136)); have n7_ := Aside0.mk ((by rw [hg]; exact Nat.ne_of_gt (blk_lt (g := gb126) (o := .cells #[.string t123, .string t124] 33 (0, 0)) (by (with_reducible repeat (first | refine blk_drewN ?_ _ | refine blk_drew ?_ | refine blk_alloc ?_ _)); exact BK126.out)) : gb136 ≠ gb126)); have n8_ := Aside0.mk ((by rw [hg]; exact Nat.ne_of_lt (blk_lt (g := gb130) (o := .cells #[.string t127, .string t128] 33 (0, 0)) (by (with_reducible repeat (first | refine blk_drewN ?_ _ | refine blk_drew ?_ | refine blk_alloc ?_ _)); exact BK130.out)) : gb130 ≠ gb136)); have n9_ := Aside0.mk ((by rw [hg]; exact Nat.ne_of_gt (blk_lt (g := gb130) (o := .cells #[.string t127, .string t128] 33 (0, 0)) (by (with_reducible repeat (first | refine blk_drewN ?_ _ | refine blk_drew ?_ | refine blk_alloc ?_ _)); exact BK130.out)) : gb136 ≠ gb130)); clear BK126; clear BK130; clear HB; have BK126 := n0_; have BK130 := n1_; have HB := n2_; have BK136 := n3_; have GW136 := n4_; have GE136 := n5_; have NB126_136 := n6_; have NB136_126 := n7_; have NB130_136 := n8_; have NB136_130 := n9_; clear n0_ n1_ n2_ n3_ n4_ n5_ n6_ n7_ n8_ n9_; clear hb hbox hg; have hnb54 := NB136_126.out; have hnc54 := NB126_136.out; have hnb55 := NB136_130.out; have hnc55 := NB130_136.out; have hcz56_0 : w53.cell? ⟨gb136, 0, none⟩ = some (.string (⟨#[]⟩ : ByteArray)) := (blk_cell BK136.out 0).trans rfl; have hcz56_1 : w53.cell? ⟨gb136, 1, none⟩ = some (.string (⟨#[]⟩ : ByteArray)) := (blk_cell BK136.out 1).trans rfl; have hfz56_0 := blk_frozen BK136.out 0; have hfz56_1 := blk_frozen BK136.out 1) | ((with_reducible refine gate_callee (f := 27) rfl ?_); refine goesL_ (some 62) rfl rfl Try.func27 (by kernel_rfl) rfl #[.agg #[.string (⟨#[]⟩ : ByteArray), .string (⟨#[]⟩ : ByteArray)], .string ((a0.extract 0 ((ji6) : Int).toNat) ++ (a1.extract 0 ((ji9) : Int).toNat))] rfl (by (try simp only [List.map_toArray, List.map_cons, List.map_nil]); first | done | (simp only [hji6, hji9]; rfl) | rfl | (simp only [List.length_drop, List.length_take]; rfl)) ?_; (with_reducible refine (disk_Append.calls (⟨#[]⟩ : ByteArray) (⟨#[]⟩ : ByteArray) ((a0.extract 0 ((ji6) : Int).toNat) ++ (a1.extract 0 ((ji9) : Int).toNat)) t137 t138 t139 _ A20.out).mono ?_); rintro e w57 ⟨rfl, hb⟩; refine ⟨_, rfl, ?_⟩; have n0_ := Aside0.mk (blk_below (g := gb126) (o := .cells #[.string t123, .string t124] 33 (0, 0)) (by (with_reducible repeat (first | refine blk_drewN ?_ _ | refine blk_drew ?_ | refine blk_alloc ?_ _)); refine blk_far ?_ NB126_136.out _; (with_reducible repeat (first | refine blk_drewN ?_ _ | refine blk_drew ?_ | refine blk_alloc ?_ _)); refine blk_far ?_ NB126_136.out _; (with_reducible repeat (first | refine blk_drewN ?_ _ | refine blk_drew ?_ | refine blk_alloc ?_ _)); exact BK126.out) hb); have n1_ := Aside0.mk (blk_below (g := gb130) (o := .cells #[.string t127, .string t128] 33 (0, 0)) (by (with_reducible repeat (first | refine blk_drewN ?_ _ | refine blk_drew ?_ | refine blk_alloc ?_ _)); refine blk_far ?_ NB130_136.out _; (with_reducible repeat (first | refine blk_drewN ?_ _ | refine blk_drew ?_ | refine blk_alloc ?_ _)); refine blk_far ?_ NB130_136.out _; (with_reducible repeat (first | refine blk_drewN ?_ _ | refine blk_drew ?_ | refine blk_alloc ?_ _)); exact BK130.out) hb); have n2_ := Aside0.mk (blk_below (g := gb136) (o := .cells #[.string t133, .string t134] 33 (0, 0)) (by (with_reducible repeat (first | refine blk_drewN ?_ _ | refine blk_drew ?_ | refine blk_alloc ?_ _)); refine blk_put (cs := #[.string t133, .string (⟨#[]⟩ : ByteArray)]) ?_ 1 _ rfl; (with_reducible repeat (first | refine blk_drewN ?_ _ | refine blk_drew ?_ | refine blk_alloc ?_ _)); refine blk_put (cs := #[.string (⟨#[]⟩ : ByteArray), .string (⟨#[]⟩ : ByteArray)]) ?_ 0 _ rfl; (with_reducible repeat (first | refine blk_drewN ?_ _ | refine blk_drew ?_ | refine blk_alloc ?_ _)); exact BK136.out) hb); have n3_ := Aside0.mk (below_step (by repeat (first | (with_reducible first | exact HB.out | apply below_alloc | apply pw_below_drewN | apply below_drew1 | refine below_set ?_ GE126.out | refine below_set ?_ GE130.out | refine below_set ?_ GE136.out) | exact HB.out)) hb); clear BK126; clear BK130; clear BK136; clear HB; have BK126 := n0_; have BK130 := n1_; have BK136 := n2_; have HB := n3_; clear n0_ n1_ n2_ n3_; (try clear hb); (try clear hb2); (try clear hk); (try clear hi)) | ((with_reducible refine gate_dst (N := 19) rfl ?_); (try (refine gate_guard (by rfl) ?_; dsimp only)); refine box_event ?hg (N := 19) ?hd (cs := #[.string (⟨#[]⟩ : ByteArray), .string (⟨#[]⟩ : ByteArray)]) (t := 33) ?hr ?_; (case hd => rfl); (case hg => rfl); (case hr => first | (go_simp; done) | (go_simp; rfl)); intro gb140 hg w58 hbox hb; have n0_ := Aside0.mk (blk_below (g := gb126) (o := .cells #[.string t123, .string t124] 33 (0, 0)) (by (with_reducible repeat (first | refine blk_drewN ?_ _ | refine blk_drew ?_ | refine blk_alloc ?_ _)); exact BK126.out) hb); have n1_ := Aside0.mk (blk_below (g := gb130) (o := .cells #[.string t127, .string t128] 33 (0, 0)) (by (with_reducible repeat (first | refine blk_drewN ?_ _ | refine blk_drew ?_ | refine blk_alloc ?_ _)); exact BK130.out) hb); have n2_ := Aside0.mk (blk_below (g := gb136) (o := .cells #[.string t133, .string t134] 33 (0, 0)) (by (with_reducible repeat (first | refine blk_drewN ?_ _ | refine blk_drew ?_ | refine blk_alloc ?_ _)); exact BK136.out) hb); have n3_ := Aside0.mk (below_step (by repeat (first | (with_reducible first | exact HB.out | apply below_alloc | apply pw_below_drewN | apply below_drew1 | refine below_set ?_ GE126.out | refine below_set ?_ GE130.out | refine below_set ?_ GE136.out) | exact HB.out)) hb); have n4_ := Aside0.mk (hbox); have n5_ := Aside0.mk ((by rw [hg]; exact (below_size (by repeat (first | (with_reducible first | exact HB.out | apply below_alloc | apply pw_below_drewN | apply below_drew1 | refine below_set ?_ GE126.out | refine below_set ?_ GE130.out | refine below_set ?_ GE136.out) | exact HB.out))) : w.heap.size ≤ gb140)); have n6_ := Aside0.mk ((by rw [hg]; exact (below_size (by repeat (first | (with_reducible first | exact HB.out | apply below_alloc | apply pw_below_drewN | apply below_drew1 | refine below_set ?_ GE126.out | refine below_set ?_ GE130.out | refine below_set ?_ GE136.out) | exact HB.out))) : w.heap.size ≤ gb140)); have n7_ := Aside0.mk ((by rw [hg]; exact Nat.ne_of_lt (blk_lt (g := gb126) (o := .cells #[.string t123, .string t124] 33 (0, 0)) (by (with_reducible repeat (first | refine blk_drewN ?_ _ | refine blk_drew ?_ | refine blk_alloc ?_ _)); exact BK126.out)) : gb126 ≠ gb140)); have n8_ := Aside0.mk ((by rw [hg]; exact Nat.ne_of_gt (blk_lt (g := gb126) (o := .cells #[.string t123, .string t124] 33 (0, 0)) (by (with_reducible repeat (first | refine blk_drewN ?_ _ | refine blk_drew ?_ | refine blk_alloc ?_ _)); exact BK126.out)) : gb140 ≠ gb126)); have n9_ := Aside0.mk ((by rw [hg]; exact Nat.ne_of_lt (blk_lt (g := gb130) (o := .cells #[.string t127, .string t128] 33 (0, 0)) (by (with_reducible repeat (first | refine blk_drewN ?_ _ | refine blk_drew ?_ | refine blk_alloc ?_ _)); exact BK130.out)) : gb130 ≠ gb140)); have n10_ := Aside0.mk ((by rw [hg]; exact Nat.ne_of_gt (blk_lt (g := gb130) (o := .cells #[.string t127, .string t128] 33 (0, 0)) (by (with_reducible repeat (first | refine blk_drewN ?_ _ | refine blk_drew ?_ | refine blk_alloc ?_ _)); exact BK130.out)) : gb140 ≠ gb130)); have n11_ := Aside0.mk ((by rw [hg]; exact Nat.ne_of_lt (blk_lt (g := gb136) (o := .cells #[.string t133, .string t134] 33 (0, 0)) (by (with_reducible repeat (first | refine blk_drewN ?_ _ | refine blk_drew ?_ | refine blk_alloc ?_ _)); exact BK136.out)) : gb136 ≠ gb140)); have n12_ := Aside0.mk ((by rw [hg]; exact Nat.ne_of_gt (blk_lt (g := gb136) (o := .cells #[.string t133, .string t134] 33 (0, 0)) (by (with_reducible repeat (first | refine blk_drewN ?_ _ | refine blk_drew ?_ | refine blk_alloc ?_ _)); exact BK136.out)) : gb140 ≠ gb136)); clear BK126; clear BK130; clear BK136; clear HB; have BK126 := n0_; have BK130 := n1_; have BK136 := n2_; have HB := n3_; have BK140 := n4_; have GW140 := n5_; have GE140 := n6_; have NB126_140 := n7_; have NB140_126 := n8_; have NB130_140 := n9_; have NB140_130 := n10_; have NB136_140 := n11_; have NB140_136 := n12_; clear n0_ n1_ n2_ n3_ n4_ n5_ n6_ n7_ n8_ n9_ n10_ n11_ n12_; clear hb hbox hg; have hnb59 := NB140_126.out; have hnc59 := NB126_140.out; have hnb60 := NB140_130.out; have hnc60 := NB130_140.out; have hnb61 := NB140_136.out; have hnc61 := NB136_140.out; have hcz62_0 : w58.cell? ⟨gb140, 0, none⟩ = some (.string (⟨#[]⟩ : ByteArray)) := (blk_cell BK140.out 0).trans rfl; have hcz62_1 : w58.cell? ⟨gb140, 1, none⟩ = some (.string (⟨#[]⟩ : ByteArray)) := (blk_cell BK140.out 1).trans rfl; have hfz62_0 := blk_frozen BK140.out 0; have hfz62_1 := blk_frozen BK140.out 1) | ((with_reducible refine gate_callee (f := 22) rfl ?_); refine goesL_ (some 66) rfl rfl Try.func22 (by kernel_rfl) rfl #[.int .i64 a3, .int .i64 600] rfl (by (try simp only [List.map_toArray, List.map_cons, List.map_nil]); first | done | rfl | (simp only [List.length_drop, List.length_take]; rfl)) ?_; (with_reducible refine (hagglerlaw05_pick.calls a3 600 t141 _ A21.out).mono ?_); rintro e w' ⟨rfl, ⟨nd, rfl⟩⟩; refine ⟨_, rfl, ?_⟩))
                                            have n0_ : Aside0 (((w58.setCell ⟨gb140, 0, none⟩ (.string t137)).setCell ⟨gb140, 1, none⟩ (.string t138)).heap[gb126]? = some (.cells #[.string t123, .string t124] 33 (0, 0))) := ⟨by (with_reducible repeat (first | refine blk_drewN ?_ _ | refine blk_drew ?_ | refine blk_alloc ?_ _)); refine blk_far ?_ NB126_140.out _; (with_reducible repeat (first | refine blk_drewN ?_ _ | refine blk_drew ?_ | refine blk_alloc ?_ _)); refine blk_far ?_ NB126_140.out _; (with_reducible repeat (first | refine blk_drewN ?_ _ | refine blk_drew ?_ | refine blk_alloc ?_ _)); exact BK126.out⟩
                                            have n1_ : Aside0 (((w58.setCell ⟨gb140, 0, none⟩ (.string t137)).setCell ⟨gb140, 1, none⟩ (.string t138)).heap[gb130]? = some (.cells #[.string t127, .string t128] 33 (0, 0))) := ⟨by (with_reducible repeat (first | refine blk_drewN ?_ _ | refine blk_drew ?_ | refine blk_alloc ?_ _)); refine blk_far ?_ NB130_140.out _; (with_reducible repeat (first | refine blk_drewN ?_ _ | refine blk_drew ?_ | refine blk_alloc ?_ _)); refine blk_far ?_ NB130_140.out _; (with_reducible repeat (first | refine blk_drewN ?_ _ | refine blk_drew ?_ | refine blk_alloc ?_ _)); exact BK130.out⟩
                                            have n2_ : Aside0 (((w58.setCell ⟨gb140, 0, none⟩ (.string t137)).setCell ⟨gb140, 1, none⟩ (.string t138)).heap[gb136]? = some (.cells #[.string t133, .string t134] 33 (0, 0))) := ⟨by (with_reducible repeat (first | refine blk_drewN ?_ _ | refine blk_drew ?_ | refine blk_alloc ?_ _)); refine blk_far ?_ NB136_140.out _; (with_reducible repeat (first | refine blk_drewN ?_ _ | refine blk_drew ?_ | refine blk_alloc ?_ _)); refine blk_far ?_ NB136_140.out _; (with_reducible repeat (first | refine blk_drewN ?_ _ | refine blk_drew ?_ | refine blk_alloc ?_ _)); exact BK136.out⟩
                                            have n3_ : Aside0 (((w58.setCell ⟨gb140, 0, none⟩ (.string t137)).setCell ⟨gb140, 1, none⟩ (.string t138)).heap[gb140]? = some (.cells #[.string t137, .string t138] 33 (0, 0))) := ⟨by (with_reducible repeat (first | refine blk_drewN ?_ _ | refine blk_drew ?_ | refine blk_alloc ?_ _)); refine blk_put (cs := #[.string t137, .string (⟨#[]⟩ : ByteArray)]) ?_ 1 _ rfl; (with_reducible repeat (first | refine blk_drewN ?_ _ | refine blk_drew ?_ | refine blk_alloc ?_ _)); refine blk_put (cs := #[.string (⟨#[]⟩ : ByteArray), .string (⟨#[]⟩ : ByteArray)]) ?_ 0 _ rfl; (with_reducible repeat (first | refine blk_drewN ?_ _ | refine blk_drew ?_ | refine blk_alloc ?_ _)); exact BK140.out⟩
                                            have n4_ : Aside0 (Below w.heap.size w ((w58.setCell ⟨gb140, 0, none⟩ (.string t137)).setCell ⟨gb140, 1, none⟩ (.string t138))) := ⟨by repeat (first | (with_reducible first | exact HB.out | apply below_alloc | apply pw_below_drewN | apply below_drew1 | refine below_set ?_ GE126.out | refine below_set ?_ GE130.out | refine below_set ?_ GE136.out | refine below_set ?_ GE140.out) | exact HB.out)⟩
                                            (try clear BK126)
                                            (try clear BK130)
                                            (try clear BK136)
                                            (try clear BK140)
                                            (try clear HB)
                                            generalize ((w58.setCell ⟨gb140, 0, none⟩ (.string t137)).setCell ⟨gb140, 1, none⟩ (.string t138)) = w63 at n0_ n1_ n2_ n3_ n4_ ⊢
                                            have BK126 := n0_
                                            have BK130 := n1_
                                            have BK136 := n2_
                                            have BK140 := n3_
                                            have HB := n4_
                                            clear n0_ n1_ n2_ n3_ n4_
                                            (try (rw [drewN_self w63]; generalize hq_ : World.drewN w63 _ = w63; have n0_ : Aside0 (w63.heap[gb126]? = some (.cells #[.string t123, .string t124] 33 (0, 0))) := ⟨by rw [← hq_]; exact (by (with_reducible repeat (first | refine blk_drewN ?_ _ | refine blk_drew ?_ | refine blk_alloc ?_ _)); exact BK126.out)⟩; have n1_ : Aside0 (w63.heap[gb130]? = some (.cells #[.string t127, .string t128] 33 (0, 0))) := ⟨by rw [← hq_]; exact (by (with_reducible repeat (first | refine blk_drewN ?_ _ | refine blk_drew ?_ | refine blk_alloc ?_ _)); exact BK130.out)⟩; have n2_ : Aside0 (w63.heap[gb136]? = some (.cells #[.string t133, .string t134] 33 (0, 0))) := ⟨by rw [← hq_]; exact (by (with_reducible repeat (first | refine blk_drewN ?_ _ | refine blk_drew ?_ | refine blk_alloc ?_ _)); exact BK136.out)⟩; have n3_ : Aside0 (w63.heap[gb140]? = some (.cells #[.string t137, .string t138] 33 (0, 0))) := ⟨by rw [← hq_]; exact (by (with_reducible repeat (first | refine blk_drewN ?_ _ | refine blk_drew ?_ | refine blk_alloc ?_ _)); exact BK140.out)⟩; have n4_ : Aside0 (Below w.heap.size w w63) := ⟨by rw [← hq_]; exact (by repeat (first | (with_reducible first | exact HB.out | apply below_alloc | apply pw_below_drewN | apply below_drew1 | refine below_set ?_ GE126.out | refine below_set ?_ GE130.out | refine below_set ?_ GE136.out | refine below_set ?_ GE140.out) | exact HB.out))⟩; clear BK126 BK130 BK136 BK140 HB hq_; have BK126 := n0_; have BK130 := n1_; have BK136 := n2_; have BK140 := n3_; have HB := n4_; clear n0_ n1_ n2_ n3_ n4_))
                                            have n0_ := Aside0.mk (blk_drew BK126.out)
                                            have n1_ := Aside0.mk (blk_drew BK130.out)
                                            have n2_ := Aside0.mk (blk_drew BK136.out)
                                            have n3_ := Aside0.mk (blk_drew BK140.out)
                                            have n4_ := Aside0.mk (below_drew1 HB.out)
                                            clear BK126
                                            clear BK130
                                            clear BK136
                                            clear BK140
                                            clear HB
                                            have BK126 := n0_
                                            have BK130 := n1_
                                            have BK136 := n2_
                                            have BK140 := n3_
                                            have HB := n4_
                                            clear n0_ n1_ n2_ n3_ n4_
                                            refine start_ (n := 67) (S := fun w' => w'.cell? ⟨gb130, 0, none⟩ = some (.string t127) ∧ w'.cell? ⟨gb130, 1, none⟩ = some (.string t128) ∧ w'.cell? ⟨gb140, 0, none⟩ = some (.string t137) ∧ w'.cell? ⟨gb140, 1, none⟩ = some (.string t138) ∧ w'.cell? ⟨gb136, 0, none⟩ = some (.string t133) ∧ w'.cell? ⟨gb136, 1, none⟩ = some (.string t134)) (ds := []) #[false, false, false, false, false, false, false, false, false, false, false, false, false, false, false, false, false, false, false, false, false, false, false, false, false, false, false, false, false, false, false, false, false, false, false, false, false, false, false, false, false, false, false, false, false, false, false, false, false, false, false, false, false, false, false, false, false, false, false, false, false, false, false, false, false, false, false] (by kernel_rfl) rfl rfl ⟨(blk_cell BK130.out 0).trans rfl, (blk_cell BK130.out 1).trans rfl, (blk_cell BK140.out 0).trans rfl, (blk_cell BK140.out 1).trans rfl, (blk_cell BK136.out 0).trans rfl, (blk_cell BK136.out 1).trans rfl⟩ (fun hHeld => ?_); refine with_tabW hagglerlaw05_DiskSteps.tab10 hagglerlaw05_DiskSteps.bits10 (fun HT_ HW_ => ?_)
                                            generalize w63.drew = w64 at BK126 BK130 BK136 BK140 HB hHeld ⊢
                                            refine pure_ (i := 0) (N := some 67) (v := ?_) (a' := ?_) #[true, false, false, false, false, false, false, false, false, false, false, false, false, false, false, false, false, false, false, false, false, false, false, false, false, false, false, false, false, false, false, false, false, false, false, false, false, false, false, false, false, false, false, false, false, false, false, false, false, false, false, false, false, false, false, false, false, false, false, false, false, false, false, false, false, false, false] rfl rfl (any_of HT_.out (by kernel_rfl)) (fun _ _ _ h => h) (Or.inl ⟨by rfl, ?_⟩) ?_ ?_
                                            rotate_left
                                            · intro w'
                                              go_simp
                                              with_reducible rfl
                                            rotate_left
                                            · simp only [Act.put, List.setIfInBounds_toArray, List.set_cons_zero, List.set_cons_succ, i64_w, i32_w]
                                              rfl
                                            refine pure_ (i := 1) (N := some 68) (v := ?_) (a' := ?_) #[true, true, false, false, false, false, false, false, false, false, false, false, false, false, false, false, false, false, false, false, false, false, false, false, false, false, false, false, false, false, false, false, false, false, false, false, false, false, false, false, false, false, false, false, false, false, false, false, false, false, false, false, false, false, false, false, false, false, false, false, false, false, false, false, false, false, false] rfl rfl (any_of HT_.out (by kernel_rfl)) (fun _ _ _ h => h) (Or.inl ⟨by rfl, ?_⟩) ?_ ?_
                                            rotate_left
                                            · intro w'
                                              go_simp
                                              with_reducible rfl
                                            rotate_left
                                            · simp only [Act.put, List.setIfInBounds_toArray, List.set_cons_zero, List.set_cons_succ, i64_w, i32_w]
                                              rfl
                                            refine pure_ (i := 2) (N := some 69) (v := ?_) (a' := ?_) #[true, true, true, false, false, false, false, false, false, false, false, false, false, false, false, false, false, false, false, false, false, false, false, false, false, false, false, false, false, false, false, false, false, false, false, false, false, false, false, false, false, false, false, false, false, false, false, false, false, false, false, false, false, false, false, false, false, false, false, false, false, false, false, false, false, false, false] rfl rfl (any_of HT_.out (by kernel_rfl)) (fun _ _ _ h => h) (Or.inl ⟨by rfl, ?_⟩) ?_ ?_
                                            rotate_left
                                            · intro w'
                                              go_simp
                                              with_reducible rfl
                                            rotate_left
                                            · simp only [Act.put, List.setIfInBounds_toArray, List.set_cons_zero, List.set_cons_succ, i64_w, i32_w]
                                              rfl
                                            refine pure_ (i := 3) (N := some 70) (v := ?_) (a' := ?_) #[true, true, true, true, false, false, false, false, false, false, false, false, false, false, false, false, false, false, false, false, false, false, false, false, false, false, false, false, false, false, false, false, false, false, false, false, false, false, false, false, false, false, false, false, false, false, false, false, false, false, false, false, false, false, false, false, false, false, false, false, false, false, false, false, false, false, false] rfl rfl (any_of HT_.out (by kernel_rfl)) (fun _ _ _ h => h) (Or.inl ⟨by rfl, ?_⟩) ?_ ?_
                                            rotate_left
                                            · intro w'
                                              go_simp
                                              with_reducible rfl
                                            rotate_left
                                            · simp only [Act.put, List.setIfInBounds_toArray, List.set_cons_zero, List.set_cons_succ, i64_w, i32_w]
                                              rfl
                                            refine pure_ (i := 4) (N := some 71) (v := ?_) (a' := ?_) #[true, true, true, true, true, false, false, false, false, false, false, false, false, false, false, false, false, false, false, false, false, false, false, false, false, false, false, false, false, false, false, false, false, false, false, false, false, false, false, false, false, false, false, false, false, false, false, false, false, false, false, false, false, false, false, false, false, false, false, false, false, false, false, false, false, false, false] rfl rfl (any_of HT_.out (by kernel_rfl)) (fun _ _ _ h => h) (Or.inl ⟨by rfl, ?_⟩) ?_ ?_
                                            rotate_left
                                            · intro w'
                                              go_simp
                                              with_reducible rfl
                                            rotate_left
                                            · simp only [Act.put, List.setIfInBounds_toArray, List.set_cons_zero, List.set_cons_succ, i64_w, i32_w]
                                              rfl
                                            refine pure_ (i := 5) (N := some 72) (v := ?_) (a' := ?_) #[true, true, true, true, true, true, false, false, false, false, false, false, false, false, false, false, false, false, false, false, false, false, false, false, false, false, false, false, false, false, false, false, false, false, false, false, false, false, false, false, false, false, false, false, false, false, false, false, false, false, false, false, false, false, false, false, false, false, false, false, false, false, false, false, false, false, false] rfl rfl (any_of HT_.out (by kernel_rfl)) (fun _ _ _ h => h) (Or.inl ⟨by rfl, ?_⟩) ?_ ?_
                                            rotate_left
                                            · intro w'
                                              go_simp
                                              with_reducible rfl
                                            rotate_left
                                            · simp only [Act.put, List.setIfInBounds_toArray, List.set_cons_zero, List.set_cons_succ, i64_w, i32_w]
                                              rfl
                                            refine pure_ (i := 6) (N := some 73) (v := ?_) (a' := ?_) #[true, true, true, true, true, true, true, false, false, false, false, false, false, false, false, false, false, false, false, false, false, false, false, false, false, false, false, false, false, false, false, false, false, false, false, false, false, false, false, false, false, false, false, false, false, false, false, false, false, false, false, false, false, false, false, false, false, false, false, false, false, false, false, false, false, false, false] rfl rfl (any_of HT_.out (by kernel_rfl)) (fun _ _ _ h => h) (Or.inl ⟨by rfl, ?_⟩) ?_ ?_
                                            rotate_left
                                            · intro w'
                                              go_simp
                                              with_reducible rfl
                                            rotate_left
                                            · simp only [Act.put, List.setIfInBounds_toArray, List.set_cons_zero, List.set_cons_succ, i64_w, i32_w]
                                              rfl
                                            refine pure_ (i := 7) (N := some 74) (v := ?_) (a' := ?_) #[true, true, true, true, true, true, true, true, false, false, false, false, false, false, false, false, false, false, false, false, false, false, false, false, false, false, false, false, false, false, false, false, false, false, false, false, false, false, false, false, false, false, false, false, false, false, false, false, false, false, false, false, false, false, false, false, false, false, false, false, false, false, false, false, false, false, false] rfl rfl (any_of HT_.out (by kernel_rfl)) (fun _ _ _ h => h) (Or.inl ⟨by rfl, ?_⟩) ?_ ?_
                                            rotate_left
                                            · intro w'
                                              go_simp
                                              with_reducible rfl
                                            rotate_left
                                            · simp only [Act.put, List.setIfInBounds_toArray, List.set_cons_zero, List.set_cons_succ, i64_w, i32_w]
                                              rfl
                                            refine pure_ (i := 8) (N := some 75) (v := ?_) (a' := ?_) #[true, true, true, true, true, true, true, true, true, false, false, false, false, false, false, false, false, false, false, false, false, false, false, false, false, false, false, false, false, false, false, false, false, false, false, false, false, false, false, false, false, false, false, false, false, false, false, false, false, false, false, false, false, false, false, false, false, false, false, false, false, false, false, false, false, false, false] rfl rfl (any_of HT_.out (by kernel_rfl)) (fun _ _ _ h => h) (Or.inl ⟨by rfl, ?_⟩) ?_ ?_
                                            rotate_left
                                            · intro w'
                                              go_simp
                                              with_reducible rfl
                                            rotate_left
                                            · simp only [Act.put, List.setIfInBounds_toArray, List.set_cons_zero, List.set_cons_succ, i64_w, i32_w]
                                              rfl
                                            refine pure_ (i := 9) (N := some 76) (v := ?_) (a' := ?_) #[true, true, true, true, true, true, true, true, true, true, false, false, false, false, false, false, false, false, false, false, false, false, false, false, false, false, false, false, false, false, false, false, false, false, false, false, false, false, false, false, false, false, false, false, false, false, false, false, false, false, false, false, false, false, false, false, false, false, false, false, false, false, false, false, false, false, false] rfl rfl (any_of HT_.out (by kernel_rfl)) (fun _ _ _ h => h) (Or.inl ⟨by rfl, ?_⟩) ?_ ?_
                                            rotate_left
                                            · intro w'
                                              go_simp
                                              with_reducible rfl
                                            rotate_left
                                            · simp only [Act.put, List.setIfInBounds_toArray, List.set_cons_zero, List.set_cons_succ, i64_w, i32_w]
                                              rfl
                                            refine pure_ (i := 10) (N := some 77) (v := ?_) (a' := ?_) #[true, true, true, true, true, true, true, true, true, true, true, false, false, false, false, false, false, false, false, false, false, false, false, false, false, false, false, false, false, false, false, false, false, false, false, false, false, false, false, false, false, false, false, false, false, false, false, false, false, false, false, false, false, false, false, false, false, false, false, false, false, false, false, false, false, false, false] rfl rfl (any_of HT_.out (by kernel_rfl)) (fun _ _ _ h => h) (Or.inl ⟨by rfl, ?_⟩) ?_ ?_
                                            rotate_left
                                            · intro w'
                                              go_simp
                                              with_reducible rfl
                                            rotate_left
                                            · simp only [Act.put, List.setIfInBounds_toArray, List.set_cons_zero, List.set_cons_succ, i64_w, i32_w]
                                              rfl
                                            refine pure_ (i := 11) (N := some 78) (v := ?_) (a' := ?_) #[true, true, true, true, true, true, true, true, true, true, true, true, false, false, false, false, false, false, false, false, false, false, false, false, false, false, false, false, false, false, false, false, false, false, false, false, false, false, false, false, false, false, false, false, false, false, false, false, false, false, false, false, false, false, false, false, false, false, false, false, false, false, false, false, false, false, false] rfl rfl (any_of HT_.out (by kernel_rfl)) (fun _ _ _ h => h) (Or.inl ⟨by rfl, ?_⟩) ?_ ?_
                                            rotate_left
                                            · intro w'
                                              go_simp
                                              with_reducible rfl
                                            rotate_left
                                            · simp only [Act.put, List.setIfInBounds_toArray, List.set_cons_zero, List.set_cons_succ, i64_w, i32_w]
                                              rfl
                                            refine pure_ (i := 12) (N := some 79) (v := ?_) (a' := ?_) #[true, true, true, true, true, true, true, true, true, true, true, true, true, false, false, false, false, false, false, false, false, false, false, false, false, false, false, false, false, false, false, false, false, false, false, false, false, false, false, false, false, false, false, false, false, false, false, false, false, false, false, false, false, false, false, false, false, false, false, false, false, false, false, false, false, false, false] rfl rfl (any_of HT_.out (by kernel_rfl)) (fun _ _ _ h => h) (Or.inl ⟨by rfl, ?_⟩) ?_ ?_
                                            rotate_left
                                            · intro w'
                                              go_simp
                                              with_reducible rfl
                                            rotate_left
                                            · simp only [Act.put, List.setIfInBounds_toArray, List.set_cons_zero, List.set_cons_succ, i64_w, i32_w]
                                              rfl
                                            refine pure_ (i := 13) (N := some 80) (v := ?_) (a' := ?_) #[true, true, true, true, true, true, true, true, true, true, true, true, true, true, false, false, false, false, false, false, false, false, false, false, false, false, false, false, false, false, false, false, false, false, false, false, false, false, false, false, false, false, false, false, false, false, false, false, false, false, false, false, false, false, false, false, false, false, false, false, false, false, false, false, false, false, false] rfl rfl (any_of HT_.out (by kernel_rfl)) (fun _ _ _ h => h) (Or.inl ⟨by rfl, ?_⟩) ?_ ?_
                                            rotate_left
                                            · intro w'
                                              go_simp
                                              with_reducible rfl
                                            rotate_left
                                            · simp only [Act.put, List.setIfInBounds_toArray, List.set_cons_zero, List.set_cons_succ, i64_w, i32_w]
                                              rfl
                                            refine pure_ (i := 14) (N := some 81) (v := ?_) (a' := ?_) #[true, true, true, true, true, true, true, true, true, true, true, true, true, true, true, false, false, false, false, false, false, false, false, false, false, false, false, false, false, false, false, false, false, false, false, false, false, false, false, false, false, false, false, false, false, false, false, false, false, false, false, false, false, false, false, false, false, false, false, false, false, false, false, false, false, false, false] rfl rfl (any_of HT_.out (by kernel_rfl)) (fun _ _ _ h => h) (Or.inl ⟨by rfl, ?_⟩) ?_ ?_
                                            rotate_left
                                            · intro w'
                                              go_simp
                                              with_reducible rfl
                                            rotate_left
                                            · simp only [Act.put, List.setIfInBounds_toArray, List.set_cons_zero, List.set_cons_succ, i64_w, i32_w]
                                              rfl
                                            refine pure_ (i := 15) (N := some 82) (v := ?_) (a' := ?_) #[true, true, true, true, true, true, true, true, true, true, true, true, true, true, true, true, false, false, false, false, false, false, false, false, false, false, false, false, false, false, false, false, false, false, false, false, false, false, false, false, false, false, false, false, false, false, false, false, false, false, false, false, false, false, false, false, false, false, false, false, false, false, false, false, false, false, false] rfl rfl (any_of HT_.out (by kernel_rfl)) (fun _ _ _ h => h) (Or.inl ⟨by rfl, ?_⟩) ?_ ?_
                                            rotate_left
                                            · intro w'
                                              go_simp
                                              with_reducible rfl
                                            rotate_left
                                            · simp only [Act.put, List.setIfInBounds_toArray, List.set_cons_zero, List.set_cons_succ, i64_w, i32_w]
                                              rfl
                                            refine pure_ (i := 16) (N := some 83) (v := ?_) (a' := ?_) #[true, true, true, true, true, true, true, true, true, true, true, true, true, true, true, true, true, false, false, false, false, false, false, false, false, false, false, false, false, false, false, false, false, false, false, false, false, false, false, false, false, false, false, false, false, false, false, false, false, false, false, false, false, false, false, false, false, false, false, false, false, false, false, false, false, false, false] rfl rfl (any_of HT_.out (by kernel_rfl)) (fun _ _ _ h => h) (Or.inl ⟨by rfl, ?_⟩) ?_ ?_
                                            rotate_left
                                            · intro w'
                                              go_simp
                                              with_reducible rfl
                                            rotate_left
                                            · simp only [Act.put, List.setIfInBounds_toArray, List.set_cons_zero, List.set_cons_succ, i64_w, i32_w]
                                              rfl
                                            refine pure_ (i := 17) (N := some 84) (v := ?_) (a' := ?_) #[true, true, true, true, true, true, true, true, true, true, true, true, true, true, true, true, true, true, false, false, false, false, false, false, false, false, false, false, false, false, false, false, false, false, false, false, false, false, false, false, false, false, false, false, false, false, false, false, false, false, false, false, false, false, false, false, false, false, false, false, false, false, false, false, false, false, false] rfl rfl (any_of HT_.out (by kernel_rfl)) (fun _ _ _ h => h) (Or.inl ⟨by rfl, ?_⟩) ?_ ?_
                                            rotate_left
                                            · intro w'
                                              go_simp
                                              with_reducible rfl
                                            rotate_left
                                            · simp only [Act.put, List.setIfInBounds_toArray, List.set_cons_zero, List.set_cons_succ, i64_w, i32_w]
                                              rfl
                                            refine take_ (i := 18) (N := some 85) (v := ?_) (a' := ?_) #[true, true, true, true, true, true, true, true, true, true, true, true, true, true, true, true, true, true, true, false, false, false, false, false, false, false, false, false, false, false, false, false, false, false, false, false, false, false, false, false, false, false, false, false, false, false, false, false, false, false, false, false, false, false, false, false, false, false, false, false, false, false, false, false, false, false, false] rfl rfl (take_ofW HT_.out HW_.out (by kernel_rfl)) (fun _ _ _ h => h) (Or.inl ⟨by rfl, ?_⟩) hHeld ?_ ?_
                                            rotate_left
                                            · rintro w' ⟨s0, s1, s2, s3, s4, s5⟩
                                              go_simp
                                              with_reducible rfl
                                            rotate_left
                                            · simp only [Act.put, List.setIfInBounds_toArray, List.set_cons_zero, List.set_cons_succ, i64_w, i32_w]
                                              rfl
                                            refine take_ (i := 19) (N := some 86) (v := ?_) (a' := ?_) #[true, true, true, true, true, true, true, true, true, true, true, true, true, true, true, true, true, true, true, true, false, false, false, false, false, false, false, false, false, false, false, false, false, false, false, false, false, false, false, false, false, false, false, false, false, false, false, false, false, false, false, false, false, false, false, false, false, false, false, false, false, false, false, false, false, false, false] rfl rfl (take_ofW HT_.out HW_.out (by kernel_rfl)) (fun _ _ _ h => h) (Or.inl ⟨by rfl, ?_⟩) hHeld ?_ ?_
                                            rotate_left
                                            · rintro w' ⟨s0, s1, s2, s3, s4, s5⟩
                                              go_simp
                                              with_reducible rfl
                                            rotate_left
                                            · simp only [Act.put, List.setIfInBounds_toArray, List.set_cons_zero, List.set_cons_succ, i64_w, i32_w]
                                              rfl
                                            refine pure_ (i := 20) (N := some 87) (v := ?_) (a' := ?_) #[true, true, true, true, true, true, true, true, true, true, true, true, true, true, true, true, true, true, true, true, true, false, false, false, false, false, false, false, false, false, false, false, false, false, false, false, false, false, false, false, false, false, false, false, false, false, false, false, false, false, false, false, false, false, false, false, false, false, false, false, false, false, false, false, false, false, false] rfl rfl (any_of HT_.out (by kernel_rfl)) (fun _ _ _ h => h) (Or.inl ⟨by rfl, ?_⟩) ?_ ?_
                                            rotate_left
                                            · intro w'
                                              go_simp
                                              with_reducible rfl
                                            rotate_left
                                            · simp only [Act.put, List.setIfInBounds_toArray, List.set_cons_zero, List.set_cons_succ, i64_w, i32_w]
                                              rfl
                                            refine pure_ (i := 21) (N := some 88) (v := ?_) (a' := ?_) #[true, true, true, true, true, true, true, true, true, true, true, true, true, true, true, true, true, true, true, true, true, true, false, false, false, false, false, false, false, false, false, false, false, false, false, false, false, false, false, false, false, false, false, false, false, false, false, false, false, false, false, false, false, false, false, false, false, false, false, false, false, false, false, false, false, false, false] rfl rfl (any_of HT_.out (by kernel_rfl)) (fun _ _ _ h => h) (Or.inl ⟨by rfl, ?_⟩) ?_ ?_
                                            rotate_left
                                            · intro w'
                                              go_simp
                                              with_reducible rfl
                                            rotate_left
                                            · simp only [Act.put, List.setIfInBounds_toArray, List.set_cons_zero, List.set_cons_succ, i64_w, i32_w]
                                              rfl
                                            refine pure_ (i := 22) (N := some 89) (v := ?_) (a' := ?_) #[true, true, true, true, true, true, true, true, true, true, true, true, true, true, true, true, true, true, true, true, true, true, true, false, false, false, false, false, false, false, false, false, false, false, false, false, false, false, false, false, false, false, false, false, false, false, false, false, false, false, false, false, false, false, false, false, false, false, false, false, false, false, false, false, false, false, false] rfl rfl (any_of HT_.out (by kernel_rfl)) (fun _ _ _ h => h) (Or.inl ⟨by rfl, ?_⟩) ?_ ?_
                                            rotate_left
                                            · intro w'
                                              go_simp
                                              with_reducible rfl
                                            rotate_left
                                            · simp only [Act.put, List.setIfInBounds_toArray, List.set_cons_zero, List.set_cons_succ, i64_w, i32_w]
                                              rfl
                                            refine pure_ (i := 25) (N := some 92) (v := ?_) (a' := ?_) #[true, true, true, true, true, true, true, true, true, true, true, true, true, true, true, true, true, true, true, true, true, true, true, false, false, true, false, false, false, false, false, false, false, false, false, false, false, false, false, false, false, false, false, false, false, false, false, false, false, false, false, false, false, false, false, false, false, false, false, false, false, false, false, false, false, false, false] rfl rfl (any_of HT_.out (by kernel_rfl)) (fun _ _ _ h => h) (Or.inl ⟨by rfl, ?_⟩) ?_ ?_
                                            rotate_left
                                            · intro w'
                                              go_simp
                                              with_reducible rfl
                                            rotate_left
                                            · simp only [Act.put, List.setIfInBounds_toArray, List.set_cons_zero, List.set_cons_succ, i64_w, i32_w]
                                              rfl
                                            refine pure_ (i := 26) (N := some 93) (v := ?_) (a' := ?_) #[true, true, true, true, true, true, true, true, true, true, true, true, true, true, true, true, true, true, true, true, true, true, true, false, false, true, true, false, false, false, false, false, false, false, false, false, false, false, false, false, false, false, false, false, false, false, false, false, false, false, false, false, false, false, false, false, false, false, false, false, false, false, false, false, false, false, false] rfl rfl (any_of HT_.out (by kernel_rfl)) (fun _ _ _ h => h) (Or.inl ⟨by rfl, ?_⟩) ?_ ?_
                                            rotate_left
                                            · intro w'
                                              go_simp
                                              with_reducible rfl
                                            rotate_left
                                            · simp only [Act.put, List.setIfInBounds_toArray, List.set_cons_zero, List.set_cons_succ, i64_w, i32_w]
                                              rfl
                                            refine pure_ (i := 27) (N := some 94) (v := ?_) (a' := ?_) #[true, true, true, true, true, true, true, true, true, true, true, true, true, true, true, true, true, true, true, true, true, true, true, false, false, true, true, true, false, false, false, false, false, false, false, false, false, false, false, false, false, false, false, false, false, false, false, false, false, false, false, false, false, false, false, false, false, false, false, false, false, false, false, false, false, false, false] rfl rfl (any_of HT_.out (by kernel_rfl)) (fun _ _ _ h => h) (Or.inl ⟨by rfl, ?_⟩) ?_ ?_
                                            rotate_left
                                            · intro w'
                                              go_simp
                                              with_reducible rfl
                                            rotate_left
                                            · simp only [Act.put, List.setIfInBounds_toArray, List.set_cons_zero, List.set_cons_succ, i64_w, i32_w]
                                              rfl
                                            refine pure_ (i := 28) (N := some 95) (v := ?_) (a' := ?_) #[true, true, true, true, true, true, true, true, true, true, true, true, true, true, true, true, true, true, true, true, true, true, true, false, false, true, true, true, true, false, false, false, false, false, false, false, false, false, false, false, false, false, false, false, false, false, false, false, false, false, false, false, false, false, false, false, false, false, false, false, false, false, false, false, false, false, false] rfl rfl (any_of HT_.out (by kernel_rfl)) (fun _ _ _ h => h) (Or.inl ⟨by rfl, ?_⟩) ?_ ?_
                                            rotate_left
                                            · intro w'
                                              go_simp
                                              with_reducible rfl
                                            rotate_left
                                            · simp only [Act.put, List.setIfInBounds_toArray, List.set_cons_zero, List.set_cons_succ, i64_w, i32_w]
                                              rfl
                                            refine pure_ (i := 29) (N := some 96) (v := ?_) (a' := ?_) #[true, true, true, true, true, true, true, true, true, true, true, true, true, true, true, true, true, true, true, true, true, true, true, false, false, true, true, true, true, true, false, false, false, false, false, false, false, false, false, false, false, false, false, false, false, false, false, false, false, false, false, false, false, false, false, false, false, false, false, false, false, false, false, false, false, false, false] rfl rfl (any_of HT_.out (by kernel_rfl)) (fun _ _ _ h => h) (Or.inl ⟨by rfl, ?_⟩) ?_ ?_
                                            rotate_left
                                            · intro w'
                                              go_simp
                                              with_reducible rfl
                                            rotate_left
                                            · simp only [Act.put, List.setIfInBounds_toArray, List.set_cons_zero, List.set_cons_succ, i64_w, i32_w]
                                              rfl
                                            refine take_ (i := 23) (N := some 90) (v := ?_) (a' := ?_) #[true, true, true, true, true, true, true, true, true, true, true, true, true, true, true, true, true, true, true, true, true, true, true, true, false, true, true, true, true, true, false, false, false, false, false, false, false, false, false, false, false, false, false, false, false, false, false, false, false, false, false, false, false, false, false, false, false, false, false, false, false, false, false, false, false, false, false] rfl rfl (take_ofW HT_.out HW_.out (by kernel_rfl)) (fun _ _ _ h => h) (Or.inl ⟨by rfl, ?_⟩) hHeld ?_ ?_
                                            rotate_left
                                            · rintro w' ⟨s0, s1, s2, s3, s4, s5⟩
                                              go_simp
                                              with_reducible rfl
                                            rotate_left
                                            · simp only [Act.put, List.setIfInBounds_toArray, List.set_cons_zero, List.set_cons_succ, i64_w, i32_w]
                                              rfl
                                            refine one_ (i := 24) (N := some 91) #[true, true, true, true, true, true, true, true, true, true, true, true, true, true, true, true, true, true, true, true, true, true, true, true, true, true, true, true, true, true, false, false, false, false, false, false, false, false, false, false, false, false, false, false, false, false, false, false, false, false, false, false, false, false, false, false, false, false, false, false, false, false, false, false, false, false, false] rfl rfl (one_of HT_.out (by kernel_rfl)) (by decide) (fun K hK => ?_)
                                            refine goes_ Try.func31 (by kernel_rfl) rfl #[.agg #[.string t133, .string t134]] (by rfl) rfl rfl (by (try simp only [List.map_toArray, List.map_cons, List.map_nil]); first | done | rfl | (simp only [List.length_drop, List.length_take]; rfl)) ?_
                                            with_reducible refine (disk_All.calls t133 t134 t142 _ A28.out).mono ?_
                                            rintro e w65 ⟨rfl, hb⟩
                                            refine ⟨_, rfl, ?_⟩
                                            have n0_ := Aside0.mk (blk_below (g := gb126) (o := .cells #[.string t123, .string t124] 33 (0, 0)) (by (with_reducible repeat (first | refine blk_drewN ?_ _ | refine blk_drew ?_ | refine blk_alloc ?_ _)); exact BK126.out) hb)
                                            have n1_ := Aside0.mk (blk_below (g := gb130) (o := .cells #[.string t127, .string t128] 33 (0, 0)) (by (with_reducible repeat (first | refine blk_drewN ?_ _ | refine blk_drew ?_ | refine blk_alloc ?_ _)); exact BK130.out) hb)
                                            have n2_ := Aside0.mk (blk_below (g := gb136) (o := .cells #[.string t133, .string t134] 33 (0, 0)) (by (with_reducible repeat (first | refine blk_drewN ?_ _ | refine blk_drew ?_ | refine blk_alloc ?_ _)); exact BK136.out) hb)
                                            have n3_ := Aside0.mk (blk_below (g := gb140) (o := .cells #[.string t137, .string t138] 33 (0, 0)) (by (with_reducible repeat (first | refine blk_drewN ?_ _ | refine blk_drew ?_ | refine blk_alloc ?_ _)); exact BK140.out) hb)
                                            have n4_ := Aside0.mk (below_step (by repeat (first | (with_reducible first | exact HB.out | apply below_alloc | apply pw_below_drewN | apply below_drew1 | refine below_set ?_ GE126.out | refine below_set ?_ GE130.out | refine below_set ?_ GE136.out | refine below_set ?_ GE140.out) | exact HB.out)) hb)
                                            clear BK126
                                            clear BK130
                                            clear BK136
                                            clear BK140
                                            clear HB
                                            have BK126 := n0_
                                            have BK130 := n1_
                                            have BK136 := n2_
                                            have BK140 := n3_
                                            have HB := n4_
                                            clear n0_ n1_ n2_ n3_ n4_
                                            (try clear hb)
                                            (try clear hb2)
                                            (try clear hk)
                                            (try clear hi)
                                            refine hK.out _ _ ⟨(blk_cell BK130.out 0).trans rfl, (blk_cell BK130.out 1).trans rfl, (blk_cell BK140.out 0).trans rfl, (blk_cell BK140.out 1).trans rfl, (blk_cell BK136.out 0).trans rfl, (blk_cell BK136.out 1).trans rfl⟩ (fun hHeld => ?_)
                                            clear hK K
                                            refine norm_ (a' := ?_) ?_ ?_
                                            rotate_left
                                            · show Act.put _ (some 91) _ = _
                                              simp only [Act.put, List.setIfInBounds_toArray, List.set_cons_zero, List.set_cons_succ, i64_w, i32_w]
                                              rfl
                                            refine pure_ (i := 30) (N := some 97) (v := ?_) (a' := ?_) #[true, true, true, true, true, true, true, true, true, true, true, true, true, true, true, true, true, true, true, true, true, true, true, true, true, true, true, true, true, true, true, false, false, false, false, false, false, false, false, false, false, false, false, false, false, false, false, false, false, false, false, false, false, false, false, false, false, false, false, false, false, false, false, false, false, false, false] rfl rfl (any_of HT_.out (by kernel_rfl)) (fun _ _ _ h => h) (Or.inl ⟨by rfl, ?_⟩) ?_ ?_
                                            rotate_left
                                            · intro w'
                                              go_simp
                                              with_reducible rfl
                                            rotate_left
                                            · simp only [Act.put, List.setIfInBounds_toArray, List.set_cons_zero, List.set_cons_succ, i64_w, i32_w]
                                              rfl
                                            refine pure_ (i := 31) (N := some 98) (v := ?_) (a' := ?_) #[true, true, true, true, true, true, true, true, true, true, true, true, true, true, true, true, true, true, true, true, true, true, true, true, true, true, true, true, true, true, true, true, false, false, false, false, false, false, false, false, false, false, false, false, false, false, false, false, false, false, false, false, false, false, false, false, false, false, false, false, false, false, false, false, false, false, false] rfl rfl (any_of HT_.out (by kernel_rfl)) (fun _ _ _ h => h) (Or.inl ⟨by rfl, ?_⟩) ?_ ?_
                                            rotate_left
                                            · intro w'
                                              go_simp
                                              with_reducible rfl
                                            rotate_left
                                            · simp only [Act.put, List.setIfInBounds_toArray, List.set_cons_zero, List.set_cons_succ, i64_w, i32_w]
                                              rfl
                                            refine pure_ (i := 32) (N := some 99) (v := ?_) (a' := ?_) #[true, true, true, true, true, true, true, true, true, true, true, true, true, true, true, true, true, true, true, true, true, true, true, true, true, true, true, true, true, true, true, true, true, false, false, false, false, false, false, false, false, false, false, false, false, false, false, false, false, false, false, false, false, false, false, false, false, false, false, false, false, false, false, false, false, false, false] rfl rfl (any_of HT_.out (by kernel_rfl)) (fun _ _ _ h => h) (Or.inl ⟨by rfl, ?_⟩) ?_ ?_
                                            rotate_left
                                            · intro w'
                                              go_simp
                                              with_reducible rfl
                                            rotate_left
                                            · simp only [Act.put, List.setIfInBounds_toArray, List.set_cons_zero, List.set_cons_succ, i64_w, i32_w]
                                              rfl
                                            refine pure_ (i := 34) (N := some 101) (v := ?_) (a' := ?_) #[true, true, true, true, true, true, true, true, true, true, true, true, true, true, true, true, true, true, true, true, true, true, true, true, true, true, true, true, true, true, true, true, true, false, true, false, false, false, false, false, false, false, false, false, false, false, false, false, false, false, false, false, false, false, false, false, false, false, false, false, false, false, false, false, false, false, false] rfl rfl (any_of HT_.out (by kernel_rfl)) (fun _ _ _ h => h) (Or.inl ⟨by rfl, ?_⟩) ?_ ?_
                                            rotate_left
                                            · intro w'
                                              go_simp
                                              with_reducible rfl
                                            rotate_left
                                            · simp only [Act.put, List.setIfInBounds_toArray, List.set_cons_zero, List.set_cons_succ, i64_w, i32_w]
                                              rfl
                                            refine pure_ (i := 37) (N := some 104) (v := ?_) (a' := ?_) #[true, true, true, true, true, true, true, true, true, true, true, true, true, true, true, true, true, true, true, true, true, true, true, true, true, true, true, true, true, true, true, true, true, false, true, false, false, true, false, false, false, false, false, false, false, false, false, false, false, false, false, false, false, false, false, false, false, false, false, false, false, false, false, false, false, false, false] rfl rfl (any_of HT_.out (by kernel_rfl)) (fun _ _ _ h => h) (Or.inl ⟨by rfl, ?_⟩) ?_ ?_
                                            rotate_left
                                            · intro w'
                                              go_simp
                                              with_reducible rfl
                                            rotate_left
                                            · simp only [Act.put, List.setIfInBounds_toArray, List.set_cons_zero, List.set_cons_succ, i64_w, i32_w]
                                              rfl
                                            refine pure_ (i := 38) (N := some 105) (v := ?_) (a' := ?_) #[true, true, true, true, true, true, true, true, true, true, true, true, true, true, true, true, true, true, true, true, true, true, true, true, true, true, true, true, true, true, true, true, true, false, true, false, false, true, true, false, false, false, false, false, false, false, false, false, false, false, false, false, false, false, false, false, false, false, false, false, false, false, false, false, false, false, false] rfl rfl (any_of HT_.out (by kernel_rfl)) (fun _ _ _ h => h) (Or.inl ⟨by rfl, ?_⟩) ?_ ?_
                                            rotate_left
                                            · intro w'
                                              go_simp
                                              with_reducible rfl
                                            rotate_left
                                            · simp only [Act.put, List.setIfInBounds_toArray, List.set_cons_zero, List.set_cons_succ, i64_w, i32_w]
                                              rfl
                                            refine pure_ (i := 39) (N := some 106) (v := ?_) (a' := ?_) #[true, true, true, true, true, true, true, true, true, true, true, true, true, true, true, true, true, true, true, true, true, true, true, true, true, true, true, true, true, true, true, true, true, false, true, false, false, true, true, true, false, false, false, false, false, false, false, false, false, false, false, false, false, false, false, false, false, false, false, false, false, false, false, false, false, false, false] rfl rfl (any_of HT_.out (by kernel_rfl)) (fun _ _ _ h => h) (Or.inl ⟨by rfl, ?_⟩) ?_ ?_
                                            rotate_left
                                            · intro w'
                                              go_simp
                                              with_reducible rfl
                                            rotate_left
                                            · simp only [Act.put, List.setIfInBounds_toArray, List.set_cons_zero, List.set_cons_succ, i64_w, i32_w]
                                              rfl
                                            refine pure_ (i := 40) (N := some 107) (v := ?_) (a' := ?_) #[true, true, true, true, true, true, true, true, true, true, true, true, true, true, true, true, true, true, true, true, true, true, true, true, true, true, true, true, true, true, true, true, true, false, true, false, false, true, true, true, true, false, false, false, false, false, false, false, false, false, false, false, false, false, false, false, false, false, false, false, false, false, false, false, false, false, false] rfl rfl (any_of HT_.out (by kernel_rfl)) (fun _ _ _ h => h) (Or.inl ⟨by rfl, ?_⟩) ?_ ?_
                                            rotate_left
                                            · intro w'
                                              go_simp
                                              with_reducible rfl
                                            rotate_left
                                            · simp only [Act.put, List.setIfInBounds_toArray, List.set_cons_zero, List.set_cons_succ, i64_w, i32_w]
                                              rfl
                                            refine pure_ (i := 41) (N := some 108) (v := ?_) (a' := ?_) #[true, true, true, true, true, true, true, true, true, true, true, true, true, true, true, true, true, true, true, true, true, true, true, true, true, true, true, true, true, true, true, true, true, false, true, false, false, true, true, true, true, true, false, false, false, false, false, false, false, false, false, false, false, false, false, false, false, false, false, false, false, false, false, false, false, false, false] rfl rfl (any_of HT_.out (by kernel_rfl)) (fun _ _ _ h => h) (Or.inl ⟨by rfl, ?_⟩) ?_ ?_
                                            rotate_left
                                            · intro w'
                                              go_simp
                                              with_reducible rfl
                                            rotate_left
                                            · simp only [Act.put, List.setIfInBounds_toArray, List.set_cons_zero, List.set_cons_succ, i64_w, i32_w]
                                              rfl
                                            refine pure_ (i := 42) (N := some 109) (v := ?_) (a' := ?_) #[true, true, true, true, true, true, true, true, true, true, true, true, true, true, true, true, true, true, true, true, true, true, true, true, true, true, true, true, true, true, true, true, true, false, true, false, false, true, true, true, true, true, true, false, false, false, false, false, false, false, false, false, false, false, false, false, false, false, false, false, false, false, false, false, false, false, false] rfl rfl (any_of HT_.out (by kernel_rfl)) (fun _ _ _ h => h) (Or.inl ⟨by rfl, ?_⟩) ?_ ?_
                                            rotate_left
                                            · intro w'
                                              go_simp
                                              with_reducible rfl
                                            rotate_left
                                            · simp only [Act.put, List.setIfInBounds_toArray, List.set_cons_zero, List.set_cons_succ, i64_w, i32_w]
                                              rfl
                                            refine pure_ (i := 43) (N := some 110) (v := ?_) (a' := ?_) #[true, true, true, true, true, true, true, true, true, true, true, true, true, true, true, true, true, true, true, true, true, true, true, true, true, true, true, true, true, true, true, true, true, false, true, false, false, true, true, true, true, true, true, true, false, false, false, false, false, false, false, false, false, false, false, false, false, false, false, false, false, false, false, false, false, false, false] rfl rfl (any_of HT_.out (by kernel_rfl)) (fun _ _ _ h => h) (Or.inl ⟨by rfl, ?_⟩) ?_ ?_
                                            rotate_left
                                            · intro w'
                                              go_simp
                                              with_reducible rfl
                                            rotate_left
                                            · simp only [Act.put, List.setIfInBounds_toArray, List.set_cons_zero, List.set_cons_succ, i64_w, i32_w]
                                              rfl
                                            refine pure_ (i := 44) (N := some 111) (v := ?_) (a' := ?_) #[true, true, true, true, true, true, true, true, true, true, true, true, true, true, true, true, true, true, true, true, true, true, true, true, true, true, true, true, true, true, true, true, true, false, true, false, false, true, true, true, true, true, true, true, true, false, false, false, false, false, false, false, false, false, false, false, false, false, false, false, false, false, false, false, false, false, false] rfl rfl (any_of HT_.out (by kernel_rfl)) (fun _ _ _ h => h) (Or.inl ⟨by rfl, ?_⟩) ?_ ?_
                                            rotate_left
                                            · intro w'
                                              go_simp
                                              with_reducible rfl
                                            rotate_left
                                            · simp only [Act.put, List.setIfInBounds_toArray, List.set_cons_zero, List.set_cons_succ, i64_w, i32_w]
                                              rfl
                                            refine pure_ (i := 45) (N := some 112) (v := ?_) (a' := ?_) #[true, true, true, true, true, true, true, true, true, true, true, true, true, true, true, true, true, true, true, true, true, true, true, true, true, true, true, true, true, true, true, true, true, false, true, false, false, true, true, true, true, true, true, true, true, true, false, false, false, false, false, false, false, false, false, false, false, false, false, false, false, false, false, false, false, false, false] rfl rfl (any_of HT_.out (by kernel_rfl)) (fun _ _ _ h => h) (Or.inl ⟨by rfl, ?_⟩) ?_ ?_
                                            rotate_left
                                            · intro w'
                                              go_simp
                                              with_reducible rfl
                                            rotate_left
                                            · simp only [Act.put, List.setIfInBounds_toArray, List.set_cons_zero, List.set_cons_succ, i64_w, i32_w]
                                              rfl
                                            refine pure_ (i := 46) (N := some 113) (v := ?_) (a' := ?_) #[true, true, true, true, true, true, true, true, true, true, true, true, true, true, true, true, true, true, true, true, true, true, true, true, true, true, true, true, true, true, true, true, true, false, true, false, false, true, true, true, true, true, true, true, true, true, true, false, false, false, false, false, false, false, false, false, false, false, false, false, false, false, false, false, false, false, false] rfl rfl (any_of HT_.out (by kernel_rfl)) (fun _ _ _ h => h) (Or.inl ⟨by rfl, ?_⟩) ?_ ?_
                                            rotate_left
                                            · intro w'
                                              go_simp
                                              with_reducible rfl
                                            rotate_left
                                            · simp only [Act.put, List.setIfInBounds_toArray, List.set_cons_zero, List.set_cons_succ, i64_w, i32_w]
                                              rfl
                                            refine take_ (i := 33) (N := some 100) (v := ?_) (a' := ?_) #[true, true, true, true, true, true, true, true, true, true, true, true, true, true, true, true, true, true, true, true, true, true, true, true, true, true, true, true, true, true, true, true, true, true, true, false, false, true, true, true, true, true, true, true, true, true, true, false, false, false, false, false, false, false, false, false, false, false, false, false, false, false, false, false, false, false, false] rfl rfl (take_ofW HT_.out HW_.out (by kernel_rfl)) (fun _ _ _ h => h) (Or.inl ⟨by rfl, ?_⟩) hHeld ?_ ?_
                                            rotate_left
                                            · rintro w' ⟨s0, s1, s2, s3, s4, s5⟩
                                              go_simp
                                              with_reducible rfl
                                            rotate_left
                                            · simp only [Act.put, List.setIfInBounds_toArray, List.set_cons_zero, List.set_cons_succ, i64_w, i32_w]
                                              rfl
                                            refine one_ (i := 35) (N := some 102) #[true, true, true, true, true, true, true, true, true, true, true, true, true, true, true, true, true, true, true, true, true, true, true, true, true, true, true, true, true, true, true, true, true, true, true, true, false, true, true, true, true, true, true, true, true, true, true, false, false, false, false, false, false, false, false, false, false, false, false, false, false, false, false, false, false, false, false] rfl rfl (one_of HT_.out (by kernel_rfl)) (by decide) (fun K hK => ?_)
                                            refine goes_ Try.func23 (by kernel_rfl) rfl #[.agg #[.string t133, .string t134], .int .i64 t141] (by rfl) rfl rfl (by (try simp only [List.map_toArray, List.map_cons, List.map_nil]); first | done | rfl | (simp only [List.length_drop, List.length_take]; rfl)) ?_
                                            with_reducible refine (disk_Crash.calls t133 t134 t141 t143 t144 _ A31.out).mono ?_
                                            rintro e w66 ⟨rfl, hb⟩
                                            refine ⟨_, rfl, ?_⟩
                                            have n0_ := Aside0.mk (blk_below (g := gb126) (o := .cells #[.string t123, .string t124] 33 (0, 0)) (by (with_reducible repeat (first | refine blk_drewN ?_ _ | refine blk_drew ?_ | refine blk_alloc ?_ _)); exact BK126.out) hb)
                                            have n1_ := Aside0.mk (blk_below (g := gb130) (o := .cells #[.string t127, .string t128] 33 (0, 0)) (by (with_reducible repeat (first | refine blk_drewN ?_ _ | refine blk_drew ?_ | refine blk_alloc ?_ _)); exact BK130.out) hb)
                                            have n2_ := Aside0.mk (blk_below (g := gb136) (o := .cells #[.string t133, .string t134] 33 (0, 0)) (by (with_reducible repeat (first | refine blk_drewN ?_ _ | refine blk_drew ?_ | refine blk_alloc ?_ _)); exact BK136.out) hb)
                                            have n3_ := Aside0.mk (blk_below (g := gb140) (o := .cells #[.string t137, .string t138] 33 (0, 0)) (by (with_reducible repeat (first | refine blk_drewN ?_ _ | refine blk_drew ?_ | refine blk_alloc ?_ _)); exact BK140.out) hb)
                                            have n4_ := Aside0.mk (below_step (by repeat (first | (with_reducible first | exact HB.out | apply below_alloc | apply pw_below_drewN | apply below_drew1 | refine below_set ?_ GE126.out | refine below_set ?_ GE130.out | refine below_set ?_ GE136.out | refine below_set ?_ GE140.out) | exact HB.out)) hb)
                                            clear BK126
                                            clear BK130
                                            clear BK136
                                            clear BK140
                                            clear HB
                                            have BK126 := n0_
                                            have BK130 := n1_
                                            have BK136 := n2_
                                            have BK140 := n3_
                                            have HB := n4_
                                            clear n0_ n1_ n2_ n3_ n4_
                                            (try clear hb)
                                            (try clear hb2)
                                            (try clear hk)
                                            (try clear hi)
                                            refine hK.out _ _ ⟨(blk_cell BK130.out 0).trans rfl, (blk_cell BK130.out 1).trans rfl, (blk_cell BK140.out 0).trans rfl, (blk_cell BK140.out 1).trans rfl, (blk_cell BK136.out 0).trans rfl, (blk_cell BK136.out 1).trans rfl⟩ (fun hHeld => ?_)
                                            clear hK K
                                            refine norm_ (a' := ?_) ?_ ?_
                                            rotate_left
                                            · show Act.put _ (some 102) _ = _
                                              simp only [Act.put, List.setIfInBounds_toArray, List.set_cons_zero, List.set_cons_succ, i64_w, i32_w]
                                              rfl
                                            refine one_ (i := 36) (N := some 103) #[true, true, true, true, true, true, true, true, true, true, true, true, true, true, true, true, true, true, true, true, true, true, true, true, true, true, true, true, true, true, true, true, true, true, true, true, true, true, true, true, true, true, true, true, true, true, true, false, false, false, false, false, false, false, false, false, false, false, false, false, false, false, false, false, false, false, false] rfl rfl (one_of HT_.out (by kernel_rfl)) (by decide) (fun K hK => ?_)
                                            refine goes_ Try.func31 (by kernel_rfl) rfl #[.agg #[.string t143, .string t144]] (by rfl) rfl rfl (by (try simp only [List.map_toArray, List.map_cons, List.map_nil]); first | done | rfl | (simp only [List.length_drop, List.length_take]; rfl)) ?_
                                            with_reducible refine (disk_All.calls t143 t144 t145 _ A32.out).mono ?_
                                            rintro e w67 ⟨rfl, hb⟩
                                            refine ⟨_, rfl, ?_⟩
                                            have n0_ := Aside0.mk (blk_below (g := gb126) (o := .cells #[.string t123, .string t124] 33 (0, 0)) (by (with_reducible repeat (first | refine blk_drewN ?_ _ | refine blk_drew ?_ | refine blk_alloc ?_ _)); exact BK126.out) hb)
                                            have n1_ := Aside0.mk (blk_below (g := gb130) (o := .cells #[.string t127, .string t128] 33 (0, 0)) (by (with_reducible repeat (first | refine blk_drewN ?_ _ | refine blk_drew ?_ | refine blk_alloc ?_ _)); exact BK130.out) hb)
                                            have n2_ := Aside0.mk (blk_below (g := gb136) (o := .cells #[.string t133, .string t134] 33 (0, 0)) (by (with_reducible repeat (first | refine blk_drewN ?_ _ | refine blk_drew ?_ | refine blk_alloc ?_ _)); exact BK136.out) hb)
                                            have n3_ := Aside0.mk (blk_below (g := gb140) (o := .cells #[.string t137, .string t138] 33 (0, 0)) (by (with_reducible repeat (first | refine blk_drewN ?_ _ | refine blk_drew ?_ | refine blk_alloc ?_ _)); exact BK140.out) hb)
                                            have n4_ := Aside0.mk (below_step (by repeat (first | (with_reducible first | exact HB.out | apply below_alloc | apply pw_below_drewN | apply below_drew1 | refine below_set ?_ GE126.out | refine below_set ?_ GE130.out | refine below_set ?_ GE136.out | refine below_set ?_ GE140.out) | exact HB.out)) hb)
                                            clear BK126
                                            clear BK130
                                            clear BK136
                                            clear BK140
                                            clear HB
                                            have BK126 := n0_
                                            have BK130 := n1_
                                            have BK136 := n2_
                                            have BK140 := n3_
                                            have HB := n4_
                                            clear n0_ n1_ n2_ n3_ n4_
                                            (try clear hb)
                                            (try clear hb2)
                                            (try clear hk)
                                            (try clear hi)
                                            refine hK.out _ _ ⟨(blk_cell BK130.out 0).trans rfl, (blk_cell BK130.out 1).trans rfl, (blk_cell BK140.out 0).trans rfl, (blk_cell BK140.out 1).trans rfl, (blk_cell BK136.out 0).trans rfl, (blk_cell BK136.out 1).trans rfl⟩ (fun hHeld => ?_)
                                            clear hK K
                                            refine norm_ (a' := ?_) ?_ ?_
                                            rotate_left
                                            · show Act.put _ (some 103) _ = _
                                              simp only [Act.put, List.setIfInBounds_toArray, List.set_cons_zero, List.set_cons_succ, i64_w, i32_w]
                                              rfl
                                            refine pure_ (i := 47) (N := some 114) (v := ?_) (a' := ?_) #[true, true, true, true, true, true, true, true, true, true, true, true, true, true, true, true, true, true, true, true, true, true, true, true, true, true, true, true, true, true, true, true, true, true, true, true, true, true, true, true, true, true, true, true, true, true, true, true, false, false, false, false, false, false, false, false, false, false, false, false, false, false, false, false, false, false, false] rfl rfl (any_of HT_.out (by kernel_rfl)) (fun _ _ _ h => h) (Or.inl ⟨by rfl, ?_⟩) ?_ ?_
                                            rotate_left
                                            · intro w'
                                              go_simp
                                              with_reducible rfl
                                            rotate_left
                                            · simp only [Act.put, List.setIfInBounds_toArray, List.set_cons_zero, List.set_cons_succ, i64_w, i32_w]
                                              rfl
                                            refine pure_ (i := 48) (N := some 115) (v := ?_) (a' := ?_) #[true, true, true, true, true, true, true, true, true, true, true, true, true, true, true, true, true, true, true, true, true, true, true, true, true, true, true, true, true, true, true, true, true, true, true, true, true, true, true, true, true, true, true, true, true, true, true, true, true, false, false, false, false, false, false, false, false, false, false, false, false, false, false, false, false, false, false] rfl rfl (any_of HT_.out (by kernel_rfl)) (fun _ _ _ h => h) (Or.inl ⟨by rfl, ?_⟩) ?_ ?_
                                            rotate_left
                                            · intro w'
                                              go_simp
                                              with_reducible rfl
                                            rotate_left
                                            · simp only [Act.put, List.setIfInBounds_toArray, List.set_cons_zero, List.set_cons_succ, i64_w, i32_w]
                                              rfl
                                            refine pure_ (i := 49) (N := some 116) (v := ?_) (a' := ?_) #[true, true, true, true, true, true, true, true, true, true, true, true, true, true, true, true, true, true, true, true, true, true, true, true, true, true, true, true, true, true, true, true, true, true, true, true, true, true, true, true, true, true, true, true, true, true, true, true, true, true, false, false, false, false, false, false, false, false, false, false, false, false, false, false, false, false, false] rfl rfl (any_of HT_.out (by kernel_rfl)) (fun _ _ _ h => h) (Or.inl ⟨by rfl, ?_⟩) ?_ ?_
                                            rotate_left
                                            · intro w'
                                              go_simp
                                              with_reducible rfl
                                            rotate_left
                                            · simp only [Act.put, List.setIfInBounds_toArray, List.set_cons_zero, List.set_cons_succ, i64_w, i32_w]
                                              rfl
                                            refine pure_ (i := 51) (N := some 118) (v := ?_) (a' := ?_) #[true, true, true, true, true, true, true, true, true, true, true, true, true, true, true, true, true, true, true, true, true, true, true, true, true, true, true, true, true, true, true, true, true, true, true, true, true, true, true, true, true, true, true, true, true, true, true, true, true, true, false, true, false, false, false, false, false, false, false, false, false, false, false, false, false, false, false] rfl rfl (any_of HT_.out (by kernel_rfl)) (fun _ _ _ h => h) (Or.inl ⟨by rfl, ?_⟩) ?_ ?_
                                            rotate_left
                                            · intro w'
                                              go_simp
                                              with_reducible rfl
                                            rotate_left
                                            · simp only [Act.put, List.setIfInBounds_toArray, List.set_cons_zero, List.set_cons_succ, i64_w, i32_w]
                                              rfl
                                            refine pure_ (i := 54) (N := some 121) (v := ?_) (a' := ?_) #[true, true, true, true, true, true, true, true, true, true, true, true, true, true, true, true, true, true, true, true, true, true, true, true, true, true, true, true, true, true, true, true, true, true, true, true, true, true, true, true, true, true, true, true, true, true, true, true, true, true, false, true, false, false, true, false, false, false, false, false, false, false, false, false, false, false, false] rfl rfl (any_of HT_.out (by kernel_rfl)) (fun _ _ _ h => h) (Or.inl ⟨by rfl, ?_⟩) ?_ ?_
                                            rotate_left
                                            · intro w'
                                              go_simp
                                              with_reducible rfl
                                            rotate_left
                                            · simp only [Act.put, List.setIfInBounds_toArray, List.set_cons_zero, List.set_cons_succ, i64_w, i32_w]
                                              rfl
                                            refine pure_ (i := 55) (N := some 122) (v := ?_) (a' := ?_) #[true, true, true, true, true, true, true, true, true, true, true, true, true, true, true, true, true, true, true, true, true, true, true, true, true, true, true, true, true, true, true, true, true, true, true, true, true, true, true, true, true, true, true, true, true, true, true, true, true, true, false, true, false, false, true, true, false, false, false, false, false, false, false, false, false, false, false] rfl rfl (any_of HT_.out (by kernel_rfl)) (fun _ _ _ h => h) (Or.inl ⟨by rfl, ?_⟩) ?_ ?_
                                            rotate_left
                                            · intro w'
                                              go_simp
                                              with_reducible rfl
                                            rotate_left
                                            · simp only [Act.put, List.setIfInBounds_toArray, List.set_cons_zero, List.set_cons_succ, i64_w, i32_w]
                                              rfl
                                            refine pure_ (i := 56) (N := some 123) (v := ?_) (a' := ?_) #[true, true, true, true, true, true, true, true, true, true, true, true, true, true, true, true, true, true, true, true, true, true, true, true, true, true, true, true, true, true, true, true, true, true, true, true, true, true, true, true, true, true, true, true, true, true, true, true, true, true, false, true, false, false, true, true, true, false, false, false, false, false, false, false, false, false, false] rfl rfl (any_of HT_.out (by kernel_rfl)) (fun _ _ _ h => h) (Or.inl ⟨by rfl, ?_⟩) ?_ ?_
                                            rotate_left
                                            · intro w'
                                              go_simp
                                              with_reducible rfl
                                            rotate_left
                                            · simp only [Act.put, List.setIfInBounds_toArray, List.set_cons_zero, List.set_cons_succ, i64_w, i32_w]
                                              rfl
                                            refine pure_ (i := 57) (N := some 124) (v := ?_) (a' := ?_) #[true, true, true, true, true, true, true, true, true, true, true, true, true, true, true, true, true, true, true, true, true, true, true, true, true, true, true, true, true, true, true, true, true, true, true, true, true, true, true, true, true, true, true, true, true, true, true, true, true, true, false, true, false, false, true, true, true, true, false, false, false, false, false, false, false, false, false] rfl rfl (any_of HT_.out (by kernel_rfl)) (fun _ _ _ h => h) (Or.inl ⟨by rfl, ?_⟩) ?_ ?_
                                            rotate_left
                                            · intro w'
                                              go_simp
                                              with_reducible rfl
                                            rotate_left
                                            · simp only [Act.put, List.setIfInBounds_toArray, List.set_cons_zero, List.set_cons_succ, i64_w, i32_w]
                                              rfl
                                            refine pure_ (i := 58) (N := some 125) (v := ?_) (a' := ?_) #[true, true, true, true, true, true, true, true, true, true, true, true, true, true, true, true, true, true, true, true, true, true, true, true, true, true, true, true, true, true, true, true, true, true, true, true, true, true, true, true, true, true, true, true, true, true, true, true, true, true, false, true, false, false, true, true, true, true, true, false, false, false, false, false, false, false, false] rfl rfl (any_of HT_.out (by kernel_rfl)) (fun _ _ _ h => h) (Or.inl ⟨by rfl, ?_⟩) ?_ ?_
                                            rotate_left
                                            · intro w'
                                              go_simp
                                              with_reducible rfl
                                            rotate_left
                                            · simp only [Act.put, List.setIfInBounds_toArray, List.set_cons_zero, List.set_cons_succ, i64_w, i32_w]
                                              rfl
                                            refine pure_ (i := 59) (N := some 126) (v := ?_) (a' := ?_) #[true, true, true, true, true, true, true, true, true, true, true, true, true, true, true, true, true, true, true, true, true, true, true, true, true, true, true, true, true, true, true, true, true, true, true, true, true, true, true, true, true, true, true, true, true, true, true, true, true, true, false, true, false, false, true, true, true, true, true, true, false, false, false, false, false, false, false] rfl rfl (any_of HT_.out (by kernel_rfl)) (fun _ _ _ h => h) (Or.inl ⟨by rfl, ?_⟩) ?_ ?_
                                            rotate_left
                                            · intro w'
                                              go_simp
                                              with_reducible rfl
                                            rotate_left
                                            · simp only [Act.put, List.setIfInBounds_toArray, List.set_cons_zero, List.set_cons_succ, i64_w, i32_w]
                                              rfl
                                            refine pure_ (i := 60) (N := some 127) (v := ?_) (a' := ?_) #[true, true, true, true, true, true, true, true, true, true, true, true, true, true, true, true, true, true, true, true, true, true, true, true, true, true, true, true, true, true, true, true, true, true, true, true, true, true, true, true, true, true, true, true, true, true, true, true, true, true, false, true, false, false, true, true, true, true, true, true, true, false, false, false, false, false, false] rfl rfl (any_of HT_.out (by kernel_rfl)) (fun _ _ _ h => h) (Or.inl ⟨by rfl, ?_⟩) ?_ ?_
                                            rotate_left
                                            · intro w'
                                              go_simp
                                              with_reducible rfl
                                            rotate_left
                                            · simp only [Act.put, List.setIfInBounds_toArray, List.set_cons_zero, List.set_cons_succ, i64_w, i32_w]
                                              rfl
                                            refine pure_ (i := 61) (N := some 128) (v := ?_) (a' := ?_) #[true, true, true, true, true, true, true, true, true, true, true, true, true, true, true, true, true, true, true, true, true, true, true, true, true, true, true, true, true, true, true, true, true, true, true, true, true, true, true, true, true, true, true, true, true, true, true, true, true, true, false, true, false, false, true, true, true, true, true, true, true, true, false, false, false, false, false] rfl rfl (any_of HT_.out (by kernel_rfl)) (fun _ _ _ h => h) (Or.inl ⟨by rfl, ?_⟩) ?_ ?_
                                            rotate_left
                                            · intro w'
                                              go_simp
                                              with_reducible rfl
                                            rotate_left
                                            · simp only [Act.put, List.setIfInBounds_toArray, List.set_cons_zero, List.set_cons_succ, i64_w, i32_w]
                                              rfl
                                            refine pure_ (i := 62) (N := some 129) (v := ?_) (a' := ?_) #[true, true, true, true, true, true, true, true, true, true, true, true, true, true, true, true, true, true, true, true, true, true, true, true, true, true, true, true, true, true, true, true, true, true, true, true, true, true, true, true, true, true, true, true, true, true, true, true, true, true, false, true, false, false, true, true, true, true, true, true, true, true, true, false, false, false, false] rfl rfl (any_of HT_.out (by kernel_rfl)) (fun _ _ _ h => h) (Or.inl ⟨by rfl, ?_⟩) ?_ ?_
                                            rotate_left
                                            · intro w'
                                              go_simp
                                              with_reducible rfl
                                            rotate_left
                                            · simp only [Act.put, List.setIfInBounds_toArray, List.set_cons_zero, List.set_cons_succ, i64_w, i32_w]
                                              rfl
                                            refine pure_ (i := 63) (N := some 130) (v := ?_) (a' := ?_) #[true, true, true, true, true, true, true, true, true, true, true, true, true, true, true, true, true, true, true, true, true, true, true, true, true, true, true, true, true, true, true, true, true, true, true, true, true, true, true, true, true, true, true, true, true, true, true, true, true, true, false, true, false, false, true, true, true, true, true, true, true, true, true, true, false, false, false] rfl rfl (any_of HT_.out (by kernel_rfl)) (fun _ _ _ h => h) (Or.inl ⟨by rfl, ?_⟩) ?_ ?_
                                            rotate_left
                                            · intro w'
                                              go_simp
                                              with_reducible rfl
                                            rotate_left
                                            · simp only [Act.put, List.setIfInBounds_toArray, List.set_cons_zero, List.set_cons_succ, i64_w, i32_w]
                                              rfl
                                            refine take_ (i := 50) (N := some 117) (v := ?_) (a' := ?_) #[true, true, true, true, true, true, true, true, true, true, true, true, true, true, true, true, true, true, true, true, true, true, true, true, true, true, true, true, true, true, true, true, true, true, true, true, true, true, true, true, true, true, true, true, true, true, true, true, true, true, true, true, false, false, true, true, true, true, true, true, true, true, true, true, false, false, false] rfl rfl (take_ofW HT_.out HW_.out (by kernel_rfl)) (fun _ _ _ h => h) (Or.inl ⟨by rfl, ?_⟩) hHeld ?_ ?_
                                            rotate_left
                                            · rintro w' ⟨s0, s1, s2, s3, s4, s5⟩
                                              go_simp
                                              with_reducible rfl
                                            rotate_left
                                            · simp only [Act.put, List.setIfInBounds_toArray, List.set_cons_zero, List.set_cons_succ, i64_w, i32_w]
                                              rfl
                                            refine one_ (i := 52) (N := some 119) #[true, true, true, true, true, true, true, true, true, true, true, true, true, true, true, true, true, true, true, true, true, true, true, true, true, true, true, true, true, true, true, true, true, true, true, true, true, true, true, true, true, true, true, true, true, true, true, true, true, true, true, true, true, false, true, true, true, true, true, true, true, true, true, true, false, false, false] rfl rfl (one_of HT_.out (by kernel_rfl)) (by decide) (fun K hK => ?_)
                                            refine goes_ Try.func23 (by kernel_rfl) rfl #[.agg #[.string t127, .string t128], .int .i64 t141] (by rfl) rfl rfl (by (try simp only [List.map_toArray, List.map_cons, List.map_nil]); first | done | rfl | (simp only [List.length_drop, List.length_take]; rfl)) ?_
                                            with_reducible refine (disk_Crash.calls t127 t128 t141 t146 t147 _ A38.out).mono ?_
                                            rintro e w68 ⟨rfl, hb⟩
                                            refine ⟨_, rfl, ?_⟩
                                            have n0_ := Aside0.mk (blk_below (g := gb126) (o := .cells #[.string t123, .string t124] 33 (0, 0)) (by (with_reducible repeat (first | refine blk_drewN ?_ _ | refine blk_drew ?_ | refine blk_alloc ?_ _)); exact BK126.out) hb)
                                            have n1_ := Aside0.mk (blk_below (g := gb130) (o := .cells #[.string t127, .string t128] 33 (0, 0)) (by (with_reducible repeat (first | refine blk_drewN ?_ _ | refine blk_drew ?_ | refine blk_alloc ?_ _)); exact BK130.out) hb)
                                            have n2_ := Aside0.mk (blk_below (g := gb136) (o := .cells #[.string t133, .string t134] 33 (0, 0)) (by (with_reducible repeat (first | refine blk_drewN ?_ _ | refine blk_drew ?_ | refine blk_alloc ?_ _)); exact BK136.out) hb)
                                            have n3_ := Aside0.mk (blk_below (g := gb140) (o := .cells #[.string t137, .string t138] 33 (0, 0)) (by (with_reducible repeat (first | refine blk_drewN ?_ _ | refine blk_drew ?_ | refine blk_alloc ?_ _)); exact BK140.out) hb)
                                            have n4_ := Aside0.mk (below_step (by repeat (first | (with_reducible first | exact HB.out | apply below_alloc | apply pw_below_drewN | apply below_drew1 | refine below_set ?_ GE126.out | refine below_set ?_ GE130.out | refine below_set ?_ GE136.out | refine below_set ?_ GE140.out) | exact HB.out)) hb)
                                            clear BK126
                                            clear BK130
                                            clear BK136
                                            clear BK140
                                            clear HB
                                            have BK126 := n0_
                                            have BK130 := n1_
                                            have BK136 := n2_
                                            have BK140 := n3_
                                            have HB := n4_
                                            clear n0_ n1_ n2_ n3_ n4_
                                            (try clear hb)
                                            (try clear hb2)
                                            (try clear hk)
                                            (try clear hi)
                                            refine hK.out _ _ ⟨(blk_cell BK130.out 0).trans rfl, (blk_cell BK130.out 1).trans rfl, (blk_cell BK140.out 0).trans rfl, (blk_cell BK140.out 1).trans rfl, (blk_cell BK136.out 0).trans rfl, (blk_cell BK136.out 1).trans rfl⟩ (fun hHeld => ?_)
                                            clear hK K
                                            refine norm_ (a' := ?_) ?_ ?_
                                            rotate_left
                                            · show Act.put _ (some 119) _ = _
                                              simp only [Act.put, List.setIfInBounds_toArray, List.set_cons_zero, List.set_cons_succ, i64_w, i32_w]
                                              rfl
                                            refine one_ (i := 53) (N := some 120) #[true, true, true, true, true, true, true, true, true, true, true, true, true, true, true, true, true, true, true, true, true, true, true, true, true, true, true, true, true, true, true, true, true, true, true, true, true, true, true, true, true, true, true, true, true, true, true, true, true, true, true, true, true, true, true, true, true, true, true, true, true, true, true, true, false, false, false] rfl rfl (one_of HT_.out (by kernel_rfl)) (by decide) (fun K hK => ?_)
                                            refine goes_ Try.func31 (by kernel_rfl) rfl #[.agg #[.string t146, .string t147]] (by rfl) rfl rfl (by (try simp only [List.map_toArray, List.map_cons, List.map_nil]); first | done | rfl | (simp only [List.length_drop, List.length_take]; rfl)) ?_
                                            with_reducible refine (disk_All.calls t146 t147 t148 _ A39.out).mono ?_
                                            rintro e w69 ⟨rfl, hb⟩
                                            refine ⟨_, rfl, ?_⟩
                                            have n0_ := Aside0.mk (blk_below (g := gb126) (o := .cells #[.string t123, .string t124] 33 (0, 0)) (by (with_reducible repeat (first | refine blk_drewN ?_ _ | refine blk_drew ?_ | refine blk_alloc ?_ _)); exact BK126.out) hb)
                                            have n1_ := Aside0.mk (blk_below (g := gb130) (o := .cells #[.string t127, .string t128] 33 (0, 0)) (by (with_reducible repeat (first | refine blk_drewN ?_ _ | refine blk_drew ?_ | refine blk_alloc ?_ _)); exact BK130.out) hb)
                                            have n2_ := Aside0.mk (blk_below (g := gb136) (o := .cells #[.string t133, .string t134] 33 (0, 0)) (by (with_reducible repeat (first | refine blk_drewN ?_ _ | refine blk_drew ?_ | refine blk_alloc ?_ _)); exact BK136.out) hb)
                                            have n3_ := Aside0.mk (blk_below (g := gb140) (o := .cells #[.string t137, .string t138] 33 (0, 0)) (by (with_reducible repeat (first | refine blk_drewN ?_ _ | refine blk_drew ?_ | refine blk_alloc ?_ _)); exact BK140.out) hb)
                                            have n4_ := Aside0.mk (below_step (by repeat (first | (with_reducible first | exact HB.out | apply below_alloc | apply pw_below_drewN | apply below_drew1 | refine below_set ?_ GE126.out | refine below_set ?_ GE130.out | refine below_set ?_ GE136.out | refine below_set ?_ GE140.out) | exact HB.out)) hb)
                                            clear BK126
                                            clear BK130
                                            clear BK136
                                            clear BK140
                                            clear HB
                                            have BK126 := n0_
                                            have BK130 := n1_
                                            have BK136 := n2_
                                            have BK140 := n3_
                                            have HB := n4_
                                            clear n0_ n1_ n2_ n3_ n4_
                                            (try clear hb)
                                            (try clear hb2)
                                            (try clear hk)
                                            (try clear hi)
                                            refine hK.out _ _ ⟨(blk_cell BK130.out 0).trans rfl, (blk_cell BK130.out 1).trans rfl, (blk_cell BK140.out 0).trans rfl, (blk_cell BK140.out 1).trans rfl, (blk_cell BK136.out 0).trans rfl, (blk_cell BK136.out 1).trans rfl⟩ (fun hHeld => ?_)
                                            clear hK K
                                            refine norm_ (a' := ?_) ?_ ?_
                                            rotate_left
                                            · show Act.put _ (some 120) _ = _
                                              simp only [Act.put, List.setIfInBounds_toArray, List.set_cons_zero, List.set_cons_succ, i64_w, i32_w]
                                              rfl
                                            refine pure_ (i := 64) (N := some 131) (v := ?_) (a' := ?_) #[true, true, true, true, true, true, true, true, true, true, true, true, true, true, true, true, true, true, true, true, true, true, true, true, true, true, true, true, true, true, true, true, true, true, true, true, true, true, true, true, true, true, true, true, true, true, true, true, true, true, true, true, true, true, true, true, true, true, true, true, true, true, true, true, true, false, false] rfl rfl (any_of HT_.out (by kernel_rfl)) (fun _ _ _ h => h) (Or.inl ⟨by rfl, ?_⟩) ?_ ?_
                                            rotate_left
                                            · intro w'
                                              go_simp
                                              with_reducible rfl
                                            rotate_left
                                            · simp only [Act.put, List.setIfInBounds_toArray, List.set_cons_zero, List.set_cons_succ, i64_w, i32_w]
                                              rfl
                                            refine pure_ (i := 65) (N := some 132) (v := ?_) (a' := ?_) #[true, true, true, true, true, true, true, true, true, true, true, true, true, true, true, true, true, true, true, true, true, true, true, true, true, true, true, true, true, true, true, true, true, true, true, true, true, true, true, true, true, true, true, true, true, true, true, true, true, true, true, true, true, true, true, true, true, true, true, true, true, true, true, true, true, true, false] rfl rfl (any_of HT_.out (by kernel_rfl)) (fun _ _ _ h => h) (Or.inl ⟨by rfl, ?_⟩) ?_ ?_
                                            rotate_left
                                            · intro w'
                                              go_simp
                                              with_reducible rfl
                                            rotate_left
                                            · simp only [Act.put, List.setIfInBounds_toArray, List.set_cons_zero, List.set_cons_succ, i64_w, i32_w]
                                              rfl
                                            refine pure_ (i := 66) (N := some 8) (v := ?_) (a' := ?_) #[true, true, true, true, true, true, true, true, true, true, true, true, true, true, true, true, true, true, true, true, true, true, true, true, true, true, true, true, true, true, true, true, true, true, true, true, true, true, true, true, true, true, true, true, true, true, true, true, true, true, true, true, true, true, true, true, true, true, true, true, true, true, true, true, true, true, true] rfl rfl (any_of HT_.out (by kernel_rfl)) (fun _ _ _ h => h) (Or.inl ⟨by rfl, ?_⟩) ?_ ?_
                                            rotate_left
                                            · intro w'
                                              go_simp
                                              with_reducible rfl
                                            rotate_left
                                            · simp only [Act.put, List.setIfInBounds_toArray, List.set_cons_zero, List.set_cons_succ, i64_w, i32_w]
                                              rfl
                                            refine done_ (done_of HT_.out (by kernel_rfl)) ?_
                                            try go_wp2
                                            go_ret
                                            exact ⟨by first | rfl | (simp [errW_none, errW_some] <;> rfl) | (simp only [← hji6, ← hji9, ← hji12, ← hji33, ← hji40]; first | rfl | (simp [errW_none, errW_some] <;> rfl)) | (simp [*, errW_none, errW_some] <;> rfl), by repeat (first | (with_reducible first | exact HB.out | apply below_alloc | apply pw_below_drewN | apply below_drew1 | refine below_set ?_ GE126.out | refine below_set ?_ GE130.out | refine below_set ?_ GE136.out | refine below_set ?_ GE140.out) | exact HB.out)⟩
                                          · rw [if_neg c42] at H
                                            exact absurd H (by simp)
                                        · rw [if_neg c41] at H
                                          exact absurd H (by simp)
                                      · rw [if_neg c37] at H
                                        have c37b0 : (t145.toList == (((a0.extract 0 ((ji6) : Int).toNat) ++ (a1.extract 0 ((ji9) : Int).toNat)) ++ ((a2.extract 0 ((ji12) : Int).toNat).extract 0 ((ji33) : Int).toNat)).toList) = false := beq_eq_false_iff_ne.mpr c37
                                        (try (have c37b0t := c37b0; simp only [Int.toNat_natCast] at c37b0t))
                                        have c37b1 : (t145.toList != (((a0.extract 0 ((ji6) : Int).toNat) ++ (a1.extract 0 ((ji9) : Int).toNat)) ++ ((a2.extract 0 ((ji12) : Int).toNat).extract 0 ((ji33) : Int).toNat)).toList) = true := bne_iff_ne.mpr c37
                                        (try (have c37b1t := c37b1; simp only [Int.toNat_natCast] at c37b1t))
                                        exact absurd ((Option.some.inj H).trans hr.out) (by decide)
                                    · rw [if_neg c36] at H
                                      exact absurd H (by simp)
                                  · rw [if_neg c35] at H
                                    exact absurd H (by simp)
                                · rw [if_neg c34] at H
                                  exact absurd H (by simp)
                              · rw [if_neg c30] at H
                                have c30b0 : (t142.toList == (((a0.extract 0 ((ji6) : Int).toNat) ++ (a1.extract 0 ((ji9) : Int).toNat)) ++ (a2.extract 0 ((ji12) : Int).toNat)).toList) = false := beq_eq_false_iff_ne.mpr c30
                                (try (have c30b0t := c30b0; simp only [Int.toNat_natCast] at c30b0t))
                                have c30b1 : (t142.toList != (((a0.extract 0 ((ji6) : Int).toNat) ++ (a1.extract 0 ((ji9) : Int).toNat)) ++ (a2.extract 0 ((ji12) : Int).toNat)).toList) = true := bne_iff_ne.mpr c30
                                (try (have c30b1t := c30b1; simp only [Int.toNat_natCast] at c30b1t))
                                exact absurd ((Option.some.inj H).trans hr.out) (by decide)
                            · rw [if_neg c29] at H
                              exact absurd H (by simp)
                          · rw [if_neg c27] at H
                            have c27b0 : (t127.toList == t137.toList && (t128.toList == t138.toList)) = false := by simpa using c27
                            (try (have c27q := c27; simp only [Bool.and_eq_true, beq_iff_eq] at c27q))
                            (try (have c27b1 : decide (t127.toList = t137.toList && (t128.toList == t138.toList)) = false := by simpa using c27))
                            (try (have c27b2 : (t127.toList == t137.toList && (t128.toList == t138.toList)) = false := by simpa using c27))
                            (try (have c27b3 : ¬ (t127.toList = t137.toList && (t128.toList == t138.toList)) := by simpa using c27))
                            clear c27
                            exact absurd ((Option.some.inj H).trans hr.out) (by decide)
                        · rw [if_neg c26] at H
                          have c26b0 : (t139 == 0) = false := beq_eq_false_iff_ne.mpr c26
                          have c26b1 : (t139 != 0) = true := bne_iff_ne.mpr c26
                          exact absurd ((Option.some.inj H).trans hr.out) (by decide)
                      · rw [if_neg c25] at H
                        have c25b0 : (t135 == 0) = false := beq_eq_false_iff_ne.mpr c25
                        have c25b1 : (t135 != 0) = true := bne_iff_ne.mpr c25
                        exact absurd ((Option.some.inj H).trans hr.out) (by decide)
                    · rw [if_neg c24] at H
                      have c24b0 : (t129 == 0) = false := beq_eq_false_iff_ne.mpr c24
                      have c24b1 : (t129 != 0) = true := bne_iff_ne.mpr c24
                      exact absurd ((Option.some.inj H).trans hr.out) (by decide)
                  · rw [if_neg c23] at H
                    have c23b0 : (t125 == 0) = false := beq_eq_false_iff_ne.mpr c23
                    have c23b1 : (t125 != 0) = true := bne_iff_ne.mpr c23
                    exact absurd ((Option.some.inj H).trans hr.out) (by decide)
                · replace c22 := Bool.eq_false_iff.mpr c22
                  subst c22
                  have H1 : (some false) = some r := by rw [if_neg (show ¬ (false = true) by decide)] at H; exact H
                  clear H
                  have H := H1
                  clear H1
                  exact absurd ((Option.some.inj H).trans hr.out) (by decide)
              · rw [if_neg c19] at H
                exact absurd H (by simp)
            · rw [if_neg c14] at H
              exact absurd H (by simp)
          · rw [if_neg c13] at H
            exact absurd H (by simp)
        · rw [if_neg c11] at H
          exact absurd H (by simp)
      · rw [if_neg c10] at H
        exact absurd H (by simp)
    · rw [if_neg c8] at H
      exact absurd H (by simp)
  · rw [if_neg c7] at H
    exact absurd H (by simp)

/-- THE ONE PURE STATEMENT of hagglerlaw05_DiskSteps: yours. -/
def hagglerlaw05_DiskSteps.Pure : Prop := ∀ (a0 : ByteArray) (a1 : ByteArray) (a2 : ByteArray) (a3 : Int), a0.size ≤ 140737488351232 → a1.size ≤ 140737488351232 → a2.size ≤ 140737488351232 → (Lit.int .i64 a3).wf = true → hagglerlaw05_DiskSteps.f a0 a1 a2 a3 = some true
theorem hagglerlaw05_DiskSteps.walk (P : hagglerlaw05_DiskSteps.Pure) (a0 : ByteArray) (a1 : ByteArray) (a2 : ByteArray) (a3 : Int) (w : World) (w0 : a0.size ≤ 140737488351232) (w1 : a1.size ≤ 140737488351232) (w2 : a2.size ≤ 140737488351232) (w3 : (Lit.int .i64 a3).wf = true) :
    Calls Try.prog 13 #[.string a0, .string a1, .string a2, .int .i64 a3] w fun e w' => e = .returned (.bool true) ∧ Below w.heap.size w w' := by
  have h := P a0 a1 a2 a3 w0 w1 w2 w3
  refine (hagglerlaw05_DiskSteps.calls a0 a1 a2 a3 true w h ⟨rfl⟩).mono ?_
  rintro e w' ⟨rfl, hd⟩
  exact ⟨rfl, hd⟩

end Go.Proofs.Ytjbgboaghphaeaa.HDiskSteps
