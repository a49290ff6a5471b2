import Derived.Test.YtdhmjhoaegdfjaaGreatG18
namespace Go.Proofs.YtdhmjhoaegdfjaaGreat
open Go.RowKit Go.Sort Go.BigFrame

theorem sides_nn {ns ls : List P2} (hw : whole ns ls = true) {d : Nat} (hd : d < 2 * ls.length) : 0 ≤ gi (vSides ns ls) d := by rw [vSides_gi hw hd]; omega
theorem vIsLoose_yes {ns ls : List P2} (hw : whole ns ls = true) {j : Nat} (hj : j < ls.length) : vIsLoose ns ls j = decide (gi (vSides ns ls) (2 * (j : Int)) = gi (vSides ns ls) (2 * (j : Int) + 1)) := by
  have hk : wi (j : Int) 0 (ls.length - 1) = true := wi_iff.2 (by omega)
  have h0 := sides_nn hw (d := 2 * j) (by omega)
  have e : ((2 * j : Nat) : Int) = 2 * (j : Int) := by omega
  rw [e] at h0
  unfold vIsLoose vSidesOf
  rw [if_pos ⟨hw, hk⟩]
  simp [h0]
theorem vIsLoose_no {ns ls : List P2} (hw : whole ns ls = false) (k : Int) : vIsLoose ns ls k = false := by
  unfold vIsLoose vSidesOf
  rw [hw, if_neg (by simp)]
  simp
def vLooseLeads (ns ls : List P2) : List Int := flt (fun i => vIsLoose ns ls (i : Nat)) ls.length
theorem vLooseLeads_len (ns ls : List P2) : (vLooseLeads ns ls).length ≤ 1000 := by
  unfold vLooseLeads
  by_cases h : whole ns ls = true
  · have := (whole_ok h).1.le
    have := flt_len (fun i => vIsLoose ns ls (i : Nat)) ls.length
    omega
  · rw [flt_none (fun i _ => vIsLoose_no (eq_false_of_ne_true h) _)]
    simp

def vIsTight (ns ls : List P2) : Bool := whole ns ls && decide ((vLooseLeads ns ls).length = 0)
end Go.Proofs.YtdhmjhoaegdfjaaGreat

namespace Go.Proofs.YtdhmjhoaegdfjaaGreat
open Go.RowKit Go.Sort Go.BigFrame


def vFaceDegrees (ns ls : List P2) : List Int := tab (vFaces ns ls).length (fun f => (((vFaces ns ls).getD f []).length : Nat))
theorem vFaceDegrees_len (ns ls : List P2) : (vFaceDegrees ns ls).length ≤ 1000 := by unfold vFaceDegrees; rw [tab_len]; have := vFaces_len ns ls; omega
/-! ### the nodes of a face -/
def vPaneNodes (ns ls : List P2) (f : Int) : List Int := if hasF ns ls f = true then tab ((vFaces ns ls).getD f.toNat []).length (fun i => (dEnds ls (((vFaces ns ls).getD f.toNat []).getD i 0)).1) else []
theorem row_facts {ns ls : List P2} {f : Nat} (hf : f < (vFaces ns ls).length) : WOk ns ls ∧ 1 ≤ ((vFaces ns ls).getD f []).length ∧ ((vFaces ns ls).getD f []).length ≤ 2 * ls.length ∧ ∀ i, i < ((vFaces ns ls).getD f []).length → ((vFaces ns ls).getD f []).getD i 0 < 2 * ls.length := by
  have hw : whole ns ls = true := by
    unfold vFaces at hf
    split at hf
    · assumption
    · simp at hf
  have hV : vFaces ns ls = fcs ns ls := by unfold vFaces; rw [if_pos hw]
  rw [hV] at hf ⊢
  have hmem : (fcs ns ls).getD f [] ∈ fcs ns ls := by
    rw [List.getD_eq_getElem?_getD, List.getElem?_eq_getElem hf]
    exact List.getElem_mem hf
  obtain ⟨h1, h2, h3⟩ := fcs_mem hmem
  exact ⟨(whole_ok hw).1, h1, h2, fun i hi => h3 _ (by rw [getD_at _ hi]; exact List.getElem_mem hi)⟩
theorem vPaneNodes_len (ns ls : List P2) (f : Int) : (vPaneNodes ns ls f).length ≤ 1000 := by
  unfold vPaneNodes
  split
  · rename_i h
    rw [hasF_iff] at h
    have := row_facts (ns := ns) (ls := ls) (f := f.toNat) (by omega)
    have := this.1.le
    rw [tab_len]; omega
  · simp

end Go.Proofs.YtdhmjhoaegdfjaaGreat

namespace Go.Proofs.YtdhmjhoaegdfjaaGreat
open Go.RowKit Go.Sort Go.BigFrame

/-! ### the degree of a face -/
def ddP (S : List Int) (f : Int) (d : Nat) : Bool := decide (gi S d = f) && decide (gi S ((d ^^^ 1 : Nat) : Int) ≠ f)
def vDualDegree (ns ls : List P2) (f : Int) : Int := if hasF ns ls f = true then ((cnp (ddP (vSides ns ls) f) (2 * ls.length) : Nat) : Int) else -1
/-! ### the faces around a node -/
def vFacesAround (ns ls : List P2) (k : Int) : List Int := if whole ns ls = true ∧ wi k 0 (ns.length - 1) = true then tab (arnd ns ls k).length (fun i => gi (vSides ns ls) ((arnd ns ls k).getD i 0 : Nat)) else []
theorem vFacesAround_len (ns ls : List P2) (k : Int) : (vFacesAround ns ls k).length ≤ 1000 := by
  unfold vFacesAround
  split
  · rename_i h
    have := (whole_ok h.1).1.le
    rw [tab_len]
    have := arnd_len40 ns ls k this
    omega
  · simp
end Go.Proofs.YtdhmjhoaegdfjaaGreat

namespace Go.Proofs.YtdhmjhoaegdfjaaGreat
open Go.RowKit Go.Sort Go.BigFrame

/-! ### shared leads -/
def shP (S : List Int) (f g : Int) (j : Nat) : Bool := (gi S (2 * (j : Int)) == f && gi S (2 * (j : Int) + 1) == g) || (gi S (2 * (j : Int)) == g && gi S (2 * (j : Int) + 1) == f)
def vSharedLeads (ns ls : List P2) (f g : Int) : List Int := if hasF ns ls f = true ∧ hasF ns ls g = true then flt (shP (vSides ns ls) f g) ls.length else []
theorem vSharedLeads_len (ns ls : List P2) (f g : Int) : (vSharedLeads ns ls f g).length ≤ 1000 := by
  unfold vSharedLeads
  split
  · rename_i h
    have := (whole_ok (hasF_whole h.1)).1.le
    have := flt_len (shP (vSides ns ls) f g) ls.length
    omega
  · simp
def vAreBeside (ns ls : List P2) (f g : Int) : Bool := decide (f ≠ g) && decide (0 < (vSharedLeads ns ls f g).length)
end Go.Proofs.YtdhmjhoaegdfjaaGreat
