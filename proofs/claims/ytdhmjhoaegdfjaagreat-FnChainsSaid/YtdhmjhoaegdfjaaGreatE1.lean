import Derived.Test.YtdhmjhoaegdfjaaGreatD24
import Derived.Test.YtdhmjhoaegdfjaaGreatG19
namespace Go.Proofs.YtdhmjhoaegdfjaaGreat
open Go.RowKit Go.Sort Go.BigFrame

def vBesideOf (ns ls : List P2) (f : Int) : List Int := if hasF ns ls f = true then flt (fun g => vAreBeside ns ls f (g : Nat)) (vFaces ns ls).length else []
theorem vBesideOf_len (ns ls : List P2) (f : Int) : (vBesideOf ns ls f).length ≤ 1000 := by
  unfold vBesideOf
  split
  · have := vFaces_len ns ls
    have := flt_len (fun g => vAreBeside ns ls f (g : Nat)) (vFaces ns ls).length
    omega
  · simp
theorem flt_pos {p : Nat → Bool} {n : Nat} : 0 < (flt p n).length ↔ ∃ i, i < n ∧ p i = true := by
  constructor
  · intro h
    apply Classical.byContradiction
    intro hne
    rw [flt_none (fun i hi => by rw [Bool.eq_false_iff]; exact fun e => hne ⟨i, hi, e⟩)] at h
    simp at h
  · rintro ⟨i, hi, hp⟩
    exact List.length_pos_of_mem (flt_mem.2 ⟨i, rfl, hi, hp⟩)
theorem beside_bits {ns ls : List P2} {f : Nat} (hw : whole ns ls = true) (hf : f < (vFaces ns ls).length) : bitsL (nbS (vSides ns ls) f ls.length) (vFaces ns ls).length = vBesideOf ns ls f := by
  have hF : ∀ g : Nat, g < (vFaces ns ls).length → hasF ns ls g = true := fun g hg => hasF_iff.2 (by omega)
  unfold vBesideOf
  rw [if_pos (hF f hf)]
  show flt (fun g => (nbS (vSides ns ls) f ls.length).testBit g) (vFaces ns ls).length = _
  refine flt_congr fun g hg => ?_
  rw [Bool.eq_iff_iff, nbS_bit (fun j hj => side_of hw hj) f g ls.length (Nat.le_refl _)]
  unfold vAreBeside vSharedLeads
  rw [if_pos ⟨hF f hf, hF g hg⟩, Bool.and_eq_true, decide_eq_true_eq, decide_eq_true_eq, flt_pos]
  constructor
  · rintro ⟨i, hi, hne, h⟩
    refine ⟨fun e => hne ?_, i, hi, ?_⟩
    · rcases h with ⟨h1, h2⟩ | ⟨h1, h2⟩ <;> rw [h1, h2, e]
    · unfold shP
      rcases h with ⟨h1, h2⟩ | ⟨h1, h2⟩ <;> simp [h1, h2]
  · rintro ⟨hfg, i, hi, h⟩
    unfold shP at h
    simp only [Bool.or_eq_true, Bool.and_eq_true, beq_iff_eq] at h
    refine ⟨i, hi, fun e => hfg ?_, h⟩
    rcases h with ⟨h1, h2⟩ | ⟨h1, h2⟩
    · rw [← h1, ← h2, e]
    · rw [← h1, ← h2, e]

set_option maxRecDepth 100000 in
set_option maxHeartbeats 2000000 in
theorem BesideOf_i (A B : Option Addr) (c d : Nat) (ns ls : List P2) (f : Int) (w : World) (h : Wn w A c B d ns ls) :
    Calls Tryz.prog 48 #[.agg #[.slice A ns.length c, .slice B ls.length d], .int .i64 f] w fun e w' => ∃ v, e = .returned v ∧ OwI w' w.heap.size v (vBesideOf ns ls f) ∧ Ext w w' := by
  by_cases hf : hasF ns ls f = true
  · have hw := hasF_whole hf
    obtain ⟨q1, q2⟩ := hasF_iff.1 hf
    obtain ⟨f, rfl⟩ := Int.eq_ofNat_of_zero_le q1
    have hfl : f < (vFaces ns ls).length := by omega
    have hFl := vFaces_len ns ls
    have HE := Lib.hid (beside_bits hw hfl)
    have HLT := Lib.hid (nbS_lt (n := (vFaces ns ls).length) (fun j hj => side_of hw hj) f ls.length (Nat.le_refl _))
    have HWW := Lib.hid hw
    clear hw q1 q2
    go_enter Tryz.func48, Tryz.ntmps48
    go_wp2_with fail
    have k0 : (w.alloc (.cells #[.slice A ns.length c, .slice B ls.length d] 27)).cell? ⟨w.heap.size, 0, none⟩ = some (.slice A ns.length c) := by go_simp
    have k1 : (w.alloc (.cells #[.slice A ns.length c, .slice B ls.length d] 27)).cell? ⟨w.heap.size, 1, none⟩ = some (.slice B ls.length d) := by go_simp
    have hx : Ext w (w.alloc (.cells #[.slice A ns.length c, .slice B ls.length d] 27)) := (by repeat first | exact Ext.refl _ | assumption | refine Ext.drew ?_ | refine Ext.alloc ?_ _ | refine Ext.setCell ?_ (by simp) | refine Ext.setCell ?_ (by simp; omega) | refine Ext.trans ?_ (by assumption))
    have hsz1 : w.heap.size + 1 = (w.alloc (.cells #[.slice A ns.length c, .slice B ls.length d] 27)).heap.size := by simp
    generalize (w.alloc (.cells #[.slice A ns.length c, .slice B ls.length d] 27)) = w0 at *
    (try rw [hsz1])
    refine (hasFace_i _ _ _ _ ns ls f _ (h.ext hx)).mono ?_
    rintro e w1 ⟨rfl, hb⟩
    have k0 := hb.lit k0
    have k1 := hb.lit k1
    have hx := hx.trans hb
    clear hb
    rw [hf]
    clear hf
    go_wp2_with fail
    refine (neighbors_c _ _ _ _ ns ls _ (h.ext hx) HWW.out).mono ?_
    rintro e w2 ⟨v, rfl, hv, hb⟩
    have hx := hx.trans hb
    clear hb k0 k1
    have HTL : Hid ((vNb ns ls).length = (vFaces ns ls).length) := Lib.hid (tab_len _ _)
    have HTG : Hid (gi (vNb ns ls) (f : Nat) = (nbS (vSides ns ls) f ls.length : Nat)) := Lib.hid (tab_gi _ hfl)
    obtain ⟨g, c1, rfl, -, -, -, e1, -⟩ := hv.gi_ (j := f) (by rw [HTL.out]; exact hfl)
    rw [HTG.out] at e1
    rw [HTL.out]
    clear hv HTL HTG
    generalize nbS (vSides ns ls) f ls.length = q at *
    generalize (vFaces ns ls).length = n at *
    have hfi : (f : Int) < n := by omega
    go_wp2_with fail
    refine (membersOf_c q n (by omega) HLT.out _).mono ?_
    rintro e w3 ⟨v, rfl, hv, hb⟩
    go_wp2
    go_ret
    exact ⟨_, rfl, by rw [← HE.out]; exact hv.more hx.size, hx.trans hb⟩
  · have hf' := eq_false_of_ne_true hf
    have HE : Hid (vBesideOf ns ls f = []) := Lib.hid (by unfold vBesideOf; rw [if_neg hf])
    go_enter Tryz.func48, Tryz.ntmps48
    go_wp2_with fail
    have k0 : (w.alloc (.cells #[.slice A ns.length c, .slice B ls.length d] 27)).cell? ⟨w.heap.size, 0, none⟩ = some (.slice A ns.length c) := by go_simp
    have k1 : (w.alloc (.cells #[.slice A ns.length c, .slice B ls.length d] 27)).cell? ⟨w.heap.size, 1, none⟩ = some (.slice B ls.length d) := by go_simp
    have hx : Ext w (w.alloc (.cells #[.slice A ns.length c, .slice B ls.length d] 27)) := (by repeat first | exact Ext.refl _ | assumption | refine Ext.drew ?_ | refine Ext.alloc ?_ _ | refine Ext.setCell ?_ (by simp) | refine Ext.setCell ?_ (by simp; omega) | refine Ext.trans ?_ (by assumption))
    have hsz1 : w.heap.size + 1 = (w.alloc (.cells #[.slice A ns.length c, .slice B ls.length d] 27)).heap.size := by simp
    generalize (w.alloc (.cells #[.slice A ns.length c, .slice B ls.length d] 27)) = w0 at *
    (try rw [hsz1])
    refine (hasFace_i _ _ _ _ ns ls f _ (h.ext hx)).mono ?_
    rintro e w1 ⟨rfl, hb⟩
    have k0 := hb.lit k0
    have k1 := hb.lit k1
    have hx := hx.trans hb
    clear hb
    rw [hf']
    go_wp2
    go_ret
    exact ⟨_, rfl, by rw [HE.out]; exact OwI.nil _ _, hx⟩

end Go.Proofs.YtdhmjhoaegdfjaaGreat
