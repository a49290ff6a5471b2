import Derived.Test.YtimgbllpbadhcaaGreatD11
namespace Go.Proofs.YtimgbllpbadhcaaGreat
open Go.RowKit Go.Sort Go.BigFrame

theorem wi_iff {n lo hi : Int} : wi n lo hi = true ↔ lo ≤ n ∧ n ≤ hi := by simp [wi]
def hasF (ns ls : List P2) (f : Int) : Bool := wi f 0 ((vFaces ns ls).length - 1)
theorem hasF_iff {ns ls : List P2} {f : Int} : hasF ns ls f = true ↔ 0 ≤ f ∧ f < (vFaces ns ls).length := by
  unfold hasF
  rw [wi_iff]
  omega
theorem hasF_whole {ns ls : List P2} {f : Int} (h : hasF ns ls f = true) : whole ns ls = true := by
  rw [hasF_iff] at h
  unfold vFaces at h
  split at h
  · assumption
  · simp at h; omega

set_option maxHeartbeats 1000000 in
theorem hasFace_i (A B : Option Addr) (c d : Nat) (ns ls : List P2) (f : Int) (w : World) (h : Wn w A c B d ns ls) :
    Calls Tryz.prog 43 #[.agg #[.slice A ns.length c, .slice B ls.length d], .int .i64 f] w fun e w' => e = .returned (.bool (hasF ns ls f)) ∧ Ext w w' := by
  have HF : Hid (hasF ns ls f = wi f 0 ((vFaces ns ls).length - 1)) := Lib.hid rfl
  have hl := vFaces_len ns ls
  go_enter Tryz.func43, Tryz.ntmps43
  go_wp2_with fail
  have k0 : (w.alloc (.cells #[.slice A ns.length c, .slice B ls.length d] 33)).cell? ⟨w.heap.size, 0, none⟩ = some (.slice A ns.length c) := by go_simp
  have k1 : (w.alloc (.cells #[.slice A ns.length c, .slice B ls.length d] 33)).cell? ⟨w.heap.size, 1, none⟩ = some (.slice B ls.length d) := by go_simp
  have hx : Ext w (w.alloc (.cells #[.slice A ns.length c, .slice B ls.length d] 33)) := (by repeat first | exact Ext.refl _ | assumption | refine Ext.drew ?_ | refine Ext.alloc ?_ _ | refine Ext.setCell ?_ (by simp) | refine Ext.setCell ?_ (by simp; omega) | refine Ext.trans ?_ (by assumption))
  have hsz1 : w.heap.size + 1 = (w.alloc (.cells #[.slice A ns.length c, .slice B ls.length d] 33)).heap.size := by simp
  generalize (w.alloc (.cells #[.slice A ns.length c, .slice B ls.length d] 33)) = w0 at *
  (try rw [hsz1])
  refine (FacesOf_i _ _ _ _ ns ls _ (h.ext hx)).mono ?_
  rintro e w1 ⟨v, rfl, hF, -, hb⟩
  obtain ⟨A1, c1, rfl, -⟩ := hF.shape
  have hx := hx.trans hb
  clear hb k0 k1 hF
  generalize (vFaces ns ls).length = n at *
  go_wp2_with fail
  refine (within_c _ _ _ _).mono ?_
  rintro e w2 ⟨rfl, rfl⟩
  go_wp2
  go_ret
  exact ⟨ret_b (by rw [HF.out]), hx⟩

def vSidesOf (ns ls : List P2) (k : Int) : P2 := if whole ns ls = true ∧ wi k 0 (ls.length - 1) = true then (gi (vSides ns ls) (2 * k), gi (vSides ns ls) (2 * k + 1)) else (-1, -1)


def vIsLoose (ns ls : List P2) (k : Int) : Bool := decide (0 ≤ (vSidesOf ns ls k).1) && decide ((vSidesOf ns ls k).1 = (vSidesOf ns ls k).2)
theorem faces_pos {ns ls : List P2} (hw : whole ns ls = true) : 0 < (vFaces ns ls).length := by
  unfold vFaces; rw [if_pos hw]; exact fcs_pos (whole_ok hw).2
end Go.Proofs.YtimgbllpbadhcaaGreat
