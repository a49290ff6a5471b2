import Derived.Test.YtimgbllpbadhcaaD11
namespace Go.Proofs.Ytimgbllpbadhcaa
open Go.RowKit Go.Sort Go.BigFrame

theorem wi_iff {n lo hi : Int} : wi n lo hi = true ↔ lo ≤ n ∧ n ≤ hi := by simp [wi]
def hasF (ns ls : List P2) (f : Int) : Bool := wi f 0 ((vFaces ns ls).length - 1)
theorem hasF_iff {ns ls : List P2} {f : Int} : hasF ns ls f = true ↔ 0 ≤ f ∧ f < (vFaces ns ls).length := by
  unfold hasF
  rw [wi_iff]
  omega
theorem hasF_whole {ns ls : List P2} {f : Int} (h : hasF ns ls f = true) : whole ns ls = true := by
  rw [hasF_iff] at h
  unfold vFaces at h
  split at h
  · assumption
  · simp at h; omega

def vSidesOf (ns ls : List P2) (k : Int) : P2 := if whole ns ls = true ∧ wi k 0 (ls.length - 1) = true then (gi (vSides ns ls) (2 * k), gi (vSides ns ls) (2 * k + 1)) else (-1, -1)


def vIsLoose (ns ls : List P2) (k : Int) : Bool := decide (0 ≤ (vSidesOf ns ls k).1) && decide ((vSidesOf ns ls k).1 = (vSidesOf ns ls k).2)
theorem faces_pos {ns ls : List P2} (hw : whole ns ls = true) : 0 < (vFaces ns ls).length := by
  unfold vFaces; rw [if_pos hw]; exact fcs_pos (whole_ok hw).2
end Go.Proofs.Ytimgbllpbadhcaa
