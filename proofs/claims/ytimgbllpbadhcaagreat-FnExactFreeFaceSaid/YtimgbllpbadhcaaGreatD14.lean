import Derived.Test.YtimgbllpbadhcaaGreatD13
namespace Go.Proofs.YtimgbllpbadhcaaGreat
open Go.RowKit Go.Sort Go.BigFrame


def vFaceDegrees (ns ls : List P2) : List Int := tab (vFaces ns ls).length (fun f => (((vFaces ns ls).getD f []).length : Nat))
theorem vFaceDegrees_len (ns ls : List P2) : (vFaceDegrees ns ls).length ≤ 1000 := by unfold vFaceDegrees; rw [tab_len]; have := vFaces_len ns ls; omega
/-! ### the nodes of a face -/
def vPaneNodes (ns ls : List P2) (f : Int) : List Int := if hasF ns ls f = true then tab ((vFaces ns ls).getD f.toNat []).length (fun i => (dEnds ls (((vFaces ns ls).getD f.toNat []).getD i 0)).1) else []
theorem row_facts {ns ls : List P2} {f : Nat} (hf : f < (vFaces ns ls).length) : WOk ns ls ∧ 1 ≤ ((vFaces ns ls).getD f []).length ∧ ((vFaces ns ls).getD f []).length ≤ 2 * ls.length ∧ ∀ i, i < ((vFaces ns ls).getD f []).length → ((vFaces ns ls).getD f []).getD i 0 < 2 * ls.length := by
  have hw : whole ns ls = true := by
    unfold vFaces at hf
    split at hf
    · assumption
    · simp at hf
  have hV : vFaces ns ls = fcs ns ls := by unfold vFaces; rw [if_pos hw]
  rw [hV] at hf ⊢
  have hmem : (fcs ns ls).getD f [] ∈ fcs ns ls := by
    rw [List.getD_eq_getElem?_getD, List.getElem?_eq_getElem hf]
    exact List.getElem_mem hf
  obtain ⟨h1, h2, h3⟩ := fcs_mem hmem
  exact ⟨(whole_ok hw).1, h1, h2, fun i hi => h3 _ (by rw [getD_at _ hi]; exact List.getElem_mem hi)⟩
theorem vPaneNodes_len (ns ls : List P2) (f : Int) : (vPaneNodes ns ls f).length ≤ 1000 := by
  unfold vPaneNodes
  split
  · rename_i h
    rw [hasF_iff] at h
    have := row_facts (ns := ns) (ls := ls) (f := f.toNat) (by omega)
    have := this.1.le
    rw [tab_len]; omega
  · simp

end Go.Proofs.YtimgbllpbadhcaaGreat
