/- A part of the proof: L2. -/
import Derived.Test.YtbicehdehiakgaaGreatDoorE26
import Derived.Test.YtbicehdehiakgaaGreatDoorE27
import Derived.Test.YtbicehdehiakgaaGreatDoorE34
set_option linter.unusedVariables false
set_option linter.unusedSimpArgs false
namespace Go.Proofs.YtbicehdehiakgaaGreatDoor
open Go.RowKit
def sE1 : List Nd := [nmN 5 (⟨#[119, 97, 103, 101]⟩ : ByteArray), ⟨3, halfR, ⟨#[]⟩⟩, plN 11]
def sE2 : List Nd := [nmN 5 (⟨#[97, 103, 101]⟩ : ByteArray), nuN 3 18, plN 16, nuN 1 0, nmN 6 (⟨#[98, 97, 115, 101]⟩ : ByteArray), nuN 21 100, plN 15]
def sE3 : List Nd := [nmN 6 (⟨#[98]⟩ : ByteArray), nmN 5 (⟨#[98]⟩ : ByteArray), nmN 6 (⟨#[98]⟩ : ByteArray), plN 9, plN 9]
def sE4 : List Nd := [nuN 1 1]
def sE5 : List Nd := [nuN 3 7, nuN 21 5]
def sE6 : List Nd := [nuN 1 1, nmN 5 (⟨#[98]⟩ : ByteArray), nuN 1 1, plN 9, plN 9]
def sE7 : List Nd := [nuN 3 8, nuN 21 5]
def sE8 : List Nd := [nmN 5 (⟨#[98]⟩ : ByteArray), nmN 6 (⟨#[98]⟩ : ByteArray)]
theorem f_c1 : checkE sE1 = 0 := by decide +kernel
theorem f_t1 : textE sE1 = [109, 117, 108, 40, 102, 97, 99, 116, 46, 119, 97, 103, 101, 44, 32, 49, 47, 50, 41] := by decide +kernel
theorem f_c2 : checkE sE2 = 0 := by decide +kernel
theorem f_t2 : textE sE2 = [105, 102, 40, 108, 101, 115, 115, 40, 102, 97, 99, 116, 46, 97, 103, 101, 44, 32, 49, 56, 41, 44, 32, 36, 48, 44, 32, 100, 111, 119, 110, 91, 49, 48, 48, 93, 40, 111, 119, 110, 46, 98, 97, 115, 101, 41, 41] := by decide +kernel
theorem f_p2 : parseE [105, 102, 40, 108, 101, 115, 115, 40, 102, 97, 99, 116, 46, 97, 103, 101, 44, 32, 49, 56, 41, 44, 32, 36, 48, 44, 32, 100, 111, 119, 110, 91, 49, 48, 48, 93, 40, 111, 119, 110, 46, 98, 97, 115, 101, 41, 41] = (sE2, 0) := by
 have h := (parseA_iff [105, 102, 40, 108, 101, 115, 115, 40, 102, 97, 99, 116, 46, 97, 103, 101, 44, 32, 49, 56, 41, 44, 32, 36, 48, 44, 32, 100, 111, 119, 110, 91, 49, 48, 48, 93, 40, 111, 119, 110, 46, 98, 97, 115, 101, 41, 41] sE2).2 ⟨f_c2, f_t2⟩
 unfold parseE; rw [h]
theorem f_a2 : argsE sE2 = [[], [], [0, 1], [], [], [4], [2, 3, 5]] := by decide +kernel
theorem f_r3 : refsE sE3 = sE8 := by decide +kernel
theorem f_s3 : substE sE3 (⟨#[98]⟩ : ByteArray) sE4 = (sE6, 0) := by decide +kernel
theorem f_c6 : checkE sE6 = 0 := by decide +kernel
theorem f_t6 : textE sE6 = [97, 100, 100, 40, 36, 49, 44, 32, 97, 100, 100, 40, 102, 97, 99, 116, 46, 98, 44, 32, 36, 49, 41, 41] := by decide +kernel
theorem f_w0 : swapE sE5 1 (ofI 0) = ([], 11) := by decide +kernel
theorem f_w1 : swapE sE5 0 (ofI 8) = (sE7, 0) := by decide +kernel
theorem f_c7 : checkE sE7 = 0 := by decide +kernel
theorem f_t7 : textE sE7 = [100, 111, 119, 110, 91, 53, 93, 40, 56, 41] := by decide +kernel
theorem f_n0 : checkE [] = 11 := by decide +kernel
theorem f_n1 : checkE [plN 9] = 11 := by decide +kernel
theorem f_n2 : checkE [plN 6] = 12 := by decide +kernel
theorem f_d : sE3 ≠ sE5 := by decide +kernel
theorem f_b0 : parseE [97, 100, 100, 40, 49, 44, 50, 41] = ([], 11) := by decide +kernel
theorem f_b1 : parseE [48, 49] = ([], 11) := by decide +kernel
theorem f_b2 : parseE [50, 47, 52] = ([], 11) := by decide +kernel
theorem f_b3 : parseE [111, 119, 110, 46] = ([], 11) := by decide +kernel
theorem f_b4 : parseE [110, 101, 97, 114, 91, 48, 93, 40, 49, 41] = ([], 11) := by decide +kernel
theorem f_fine : ∀ n ∈ sE1 ++ sE2 ++ sE3 ++ sE4 ++ sE5 ++ sE6 ++ sE7 ++ [plN 9, plN 6], Fine n := by unfold Fine; decide +kernel
end Go.Proofs.YtbicehdehiakgaaGreatDoor
