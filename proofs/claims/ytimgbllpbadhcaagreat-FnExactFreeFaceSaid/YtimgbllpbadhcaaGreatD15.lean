import Derived.Test.YtimgbllpbadhcaaGreatD14
namespace Go.Proofs.YtimgbllpbadhcaaGreat
open Go.RowKit Go.Sort Go.BigFrame

/-! ### the degree of a face -/
def ddP (S : List Int) (f : Int) (d : Nat) : Bool := decide (gi S d = f) && decide (gi S ((d ^^^ 1 : Nat) : Int) ≠ f)
def vDualDegree (ns ls : List P2) (f : Int) : Int := if hasF ns ls f = true then ((cnp (ddP (vSides ns ls) f) (2 * ls.length) : Nat) : Int) else -1
/-! ### the faces around a node -/
def vFacesAround (ns ls : List P2) (k : Int) : List Int := if whole ns ls = true ∧ wi k 0 (ns.length - 1) = true then tab (arnd ns ls k).length (fun i => gi (vSides ns ls) ((arnd ns ls k).getD i 0 : Nat)) else []
theorem vFacesAround_len (ns ls : List P2) (k : Int) : (vFacesAround ns ls k).length ≤ 1000 := by
  unfold vFacesAround
  split
  · rename_i h
    have := (whole_ok h.1).1.le
    rw [tab_len]
    have := arnd_len40 ns ls k this
    omega
  · simp
end Go.Proofs.YtimgbllpbadhcaaGreat
