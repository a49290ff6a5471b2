import Derived.Test.YtimgbllpbadhcaaGreatD29
namespace Go.Proofs.YtimgbllpbadhcaaGreat
open Go.RowKit Go.Sort Go.BigFrame

def nbN (ns ls : List P2) (f : Nat) : Nat := nbS (vSides ns ls) f ls.length
def vGreedyColors (ns ls : List P2) : List Int := if whole ns ls = true then nl (gcN (nbN ns ls) (vFaces ns ls).length) else []
theorem vGreedyColors_len (ns ls : List P2) : (vGreedyColors ns ls).length ≤ 1000 := by
  unfold vGreedyColors
  have := vFaces_len ns ls
  split
  · rw [nl_len, gcN_len]; omega
  · simp
theorem nbN_lt {ns ls : List P2} (hw : whole ns ls = true) (f : Nat) : nbN ns ls f < 2 ^ (vFaces ns ls).length := nbS_lt (fun _ hj => side_of hw hj) f ls.length (Nat.le_refl _)
theorem nbN_sym {ns ls : List P2} (hw : whole ns ls = true) (f g : Nat) : (nbN ns ls f).testBit g = (nbN ns ls g).testBit f := nb_sym (fun _ hj => side_of hw hj) f g
theorem vNb_len (ns ls : List P2) : (vNb ns ls).length = (vFaces ns ls).length := tab_len _ _
theorem vNb_at {ns ls : List P2} {f : Nat} (h : f < (vFaces ns ls).length) : gi (vNb ns ls) (f : Nat) = (nbN ns ls f : Nat) := tab_gi _ h
theorem tkN_yes {N : Nat → Nat} {L : List Nat} {f j : Nat} (h : (N f).testBit j = true) : tkN N L f (j + 1) = tkN N L f j ||| 2 ^ (L.getD j 0) := if_pos h
theorem tkN_no {N : Nat → Nat} {L : List Nat} {f j : Nat} (h : (N f).testBit j = false) : tkN N L f (j + 1) = tkN N L f j := if_neg (by simp [h])
theorem meas1 {r s j a : Nat} (h : s < r) : (r + 1 - (s + 1)) * (j + 2) + (j - 0) < (r + 1 - s) * (j + 2) + (j - a) := by
  obtain ⟨q, hq⟩ : ∃ q, r = s + 1 + q := ⟨r - (s + 1), by omega⟩
  subst hq
  have e1 : s + 1 + q + 1 - (s + 1) = q + 1 := by omega
  have e2 : s + 1 + q + 1 - s = q + 1 + 1 := by omega
  rw [e1, e2, Nat.succ_mul (q + 1) (j + 2)]
  omega

end Go.Proofs.YtimgbllpbadhcaaGreat
