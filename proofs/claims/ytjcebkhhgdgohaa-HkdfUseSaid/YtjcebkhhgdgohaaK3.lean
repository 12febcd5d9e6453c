/- What a few functions of the program compute, part K3. -/
import Derived.Test.YtjcebkhhgdgohaaK2
import Derived.Test.YtjcebkhhgdgohaaH3
namespace Go.Proofs.Ytjcebkhhgdgohaa
open Go Go.RowKit Go.Eng


def ikmW : List UInt8 := List.replicate 22 11
def saltW : List UInt8 := [0, 1, 2, 3, 4, 5, 6, 7, 8, 9, 10, 11, 12]
def infoW : List UInt8 := [240, 241, 242, 243, 244, 245, 246, 247, 248, 249]
def prkW : List UInt8 := [7, 119, 9, 54, 44, 46, 50, 223, 13, 220, 63, 13, 196, 123, 186, 99, 144, 182, 199, 59, 181, 15, 156, 49, 34, 236, 132, 74, 215, 194, 179, 229]
theorem prk1 : refV (inP saltW ++ ikmW) = [244, 47, 229, 74, 14, 6, 21, 189, 202, 29, 69, 248, 169, 166, 99, 177, 51, 127, 74, 112, 89, 249, 237, 33, 216, 118, 237, 33, 42, 137, 166, 59] := by decide +kernel
theorem prk2 : refV (outP saltW ++ [244, 47, 229, 74, 14, 6, 21, 189, 202, 29, 69, 248, 169, 166, 99, 177, 51, 127, 74, 112, 89, 249, 237, 33, 216, 118, 237, 33, 42, 137, 166, 59]) = prkW := by decide +kernel
theorem okm1 : refV (inP prkW ++ (infoW ++ [1])) = [230, 149, 138, 18, 150, 76, 172, 222, 68, 142, 24, 39, 158, 173, 252, 217, 123, 112, 45, 113, 106, 113, 238, 181, 121, 175, 116, 236, 132, 188, 116, 30] := by decide +kernel
theorem okm2 : (refV (outP prkW ++ [230, 149, 138, 18, 150, 76, 172, 222, 68, 142, 24, 39, 158, 173, 252, 217, 123, 112, 45, 113, 106, 113, 238, 181, 121, 175, 116, 236, 132, 188, 116, 30])).take 4 = [60, 178, 95, 37] := by decide +kernel
theorem prkV : extractV saltW ikmW = prkW := by
  rw [extractV, saltV, if_neg (by decide), hmacV, sha_eq, sha_eq, prk1, prk2]
theorem okm : ∃ tl, expandV prkW infoW 42 = 60 :: 178 :: 95 :: 37 :: tl := by
  have h1 : expL prkW infoW 1 = refV (outP prkW ++ [230, 149, 138, 18, 150, 76, 172, 222, 68, 142, 24, 39, 158, 173, 252, 217, 123, 112, 45, 113, 106, 113, 238, 181, 121, 175, 116, 236, 132, 188, 116, 30]) := by
    rw [expL, expL, hmacV, sha_eq, sha_eq, List.nil_append]
    exact congrArg (fun x => refV (outP prkW ++ x)) okm1
  have e := List.take_append_drop 4 (refV (outP prkW ++ [230, 149, 138, 18, 150, 76, 172, 222, 68, 142, 24, 39, 158, 173, 252, 217, 123, 112, 45, 113, 106, 113, 238, 181, 121, 175, 116, 236, 132, 188, 116, 30]))
  rw [okm2] at e
  have h2 : expO prkW infoW 2 = [60, 178, 95, 37] ++ ((refV (outP prkW ++ [230, 149, 138, 18, 150, 76, 172, 222, 68, 142, 24, 39, 158, 173, 252, 217, 123, 112, 45, 113, 106, 113, 238, 181, 121, 175, 116, 236, 132, 188, 116, 30])).drop 4 ++ expL prkW infoW 2) := by
    rw [expO, expO, expO, List.nil_append, h1, ← List.append_assoc, e]
  exact ⟨_, by rw [expandV, show (42 + 31) / 32 = 2 from rfl, h2]; rfl⟩

end Go.Proofs.Ytjcebkhhgdgohaa
