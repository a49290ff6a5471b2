import Derived.Test.YtdhmjhoaegdfjaaGreatD39
namespace Go.Proofs.YtdhmjhoaegdfjaaGreat
open Go.RowKit Go.Sort Go.BigFrame

def vCountColorings (ns ls : List P2) (n : Int) : Int := if whole ns ls = true ∧ wi n 1 4 = true then cnW (nbN ns ls) (vFaces ns ls).length n.toNat (vFaces ns ls).length [] else -1
abbrev InvC (r : Nat) (g : Nat) (s : Int) (w : World) : Prop := Bk w r 3 [.int .i64 s] ∧ g ≠ r
theorem count_val {N : Nat → Nat} {F k : Nat} : (sr tell2 N (List.replicate F (-1)) k F 0 []).1 = cnW N F k F [] := by
  have e := sr2 (N := N) (wish := List.replicate F (-1)) (n := k) F 0 []
  rw [Int.zero_add, show wrap64 0 = 0 by unfold wrap64; omega] at e
  rw [e]
  rfl


/-- 6 or fewer colors are enough -/
def fwP (ns ls : List P2) (i : Nat) : Bool := (vColorWith ns ls ((i : Int) + 1)).2
def vFewestColors (ns ls : List P2) : Int := if ffst (fwP ns ls) 6 < 0 then -1 else ffst (fwP ns ls) 6 + 1
end Go.Proofs.YtdhmjhoaegdfjaaGreat
