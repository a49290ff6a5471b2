import Derived.Test.YtpainmnekgnpeaaB7
namespace Go.Proofs.Ytpainmnekgnpeaa
open Go.RowKit Go.Sort Go.BigFrame

theorem lat_mem {ls : List P2} {k : Int} {j : Nat} {x : Int} (h : x ∈ lat ls k j) : ∃ i : Nat, x = i ∧ i < j ∧ atL (gp ls i) k = true := by
  unfold lat at h
  rw [List.mem_map] at h
  obtain ⟨i, hi, rfl⟩ := h
  rw [List.mem_filter, List.mem_range] at hi
  exact ⟨i, rfl, hi.1, hi.2⟩
theorem leadsAt_mem {ns ls : List P2} {k : Int} {x : Int} (h : x ∈ leadsAt ns ls k) : hasN ns ls k = true ∧ ∃ i : Nat, x = i ∧ i < ls.length ∧ atL (gp ls i) k = true := by
  unfold leadsAt at h
  split at h
  · rename_i hh; exact ⟨hh, lat_mem h⟩
  · cases h
theorem gi_mem {l : List Int} {j : Nat} (h : j < l.length) : gi l j ∈ l := by rw [gi_nat l j h]; exact List.getElem_mem h
/-- the other end of a lead at a node is a node -/
theorem oend_ok {ns ls : List P2} {k : Int} {i : Nat} (hw : hasN ns ls k = true) (hi : i < ls.length) (ha : atL (gp ls i) k = true) : ∃ a : Nat, oend (gp ls i) k = a ∧ a < ns.length := by
  have hv := vd_of_ok (hasN_ok hw).1
  obtain ⟨f, t, e, hf, ht⟩ := hv (gp ls i) (by rw [gp_nat ls i hi]; exact List.getElem_mem hi)
  rw [e] at ha ⊢
  simp only [atL, Bool.or_eq_true, decide_eq_true_eq] at ha
  unfold oend
  by_cases h1 : k = (f : Int)
  · exact ⟨t, by simp [h1], ht⟩
  · have h2 : k = (t : Int) := by rcases ha with h | h <;> omega
    exact ⟨f, by first | (simp [h2]; done) | (simp [h2]; omega), hf⟩
def ends (ns ls : List P2) (k : Int) : List Int := (leadsAt ns ls k).map (fun i => oend (gp ls i) k)

set_option maxRecDepth 100000 in
set_option maxHeartbeats 2000000 in
theorem otherEnds_c (A B : Option Addr) (c d : Nat) (ns ls : List P2) (k : Int) (w : World) (h : Wn w A c B d ns ls) :
    Calls Try.prog 64 #[.agg #[.slice A ns.length c, .slice B ls.length d], .int .i64 k] w fun e w' => ∃ v, e = .returned v ∧ OwI w' w.heap.size v (ends ns ls k) ∧ Ext w w' := by
  have hll := leadsAt_len ns ls k
  go_enter Try.func64, Try.ntmps64
  go_wp2_with fail
  refine (LeadsAt_i A B c d ns ls k _ (h.ext (by repeat first | exact Ext.refl _ | assumption | refine Ext.drew ?_ | refine Ext.alloc ?_ _ | refine Ext.setCell ?_ (by simp) | refine Ext.setCell ?_ (by simp; omega) | refine Ext.trans ?_ (by assumption)))).mono ?_
  rintro e w1 ⟨v0, rfl, hv0, hb⟩
  have k1 := hb.lit (b := w.heap.size) (o := 1) (v := .slice B ls.length d) (by go_simp)
  have hx : Ext w w1 := (by repeat first | exact Ext.refl _ | assumption | refine Ext.drew ?_ | refine Ext.alloc ?_ _ | refine Ext.setCell ?_ (by simp) | refine Ext.setCell ?_ (by simp; omega) | refine Ext.trans ?_ (by assumption))
  clear hb
  obtain ⟨A', c', rfl, -, -, -⟩ := hv0.shape
  go_wp2_with fail
  go_loopw [5, 7, 12] (fun v _ i wr => ∃ j : Nat, j ≤ (leadsAt ns ls k).length ∧ i = .int .i64 j ∧ OwI wr w1.heap.size v (((leadsAt ns ls k).take j).map (fun i => oend (gp ls i) k)) ∧ Ext w1 wr) (fun _ _ i _ => (leadsAt ns ls k).length - (intOf i).toNat)
  case atStart => exact ⟨0, by omega, rfl, OwI.nil _ _, Ext.refl _⟩
  case round =>
    obtain ⟨j, hj, rfl, hv, hxr⟩ := hrel
    obtain ⟨wo, rfl⟩ : ∃ x : World, x = wr := ⟨_, rfl⟩
    have hx0 := hx.trans hxr
    have k1 := hxr.lit k1
    by_cases hlt : j < (leadsAt ns ls k).length
    · obtain ⟨g, cp, he, -, -, -, c0, -⟩ := (hv0.ext hxr).gi_ hlt
      obtain ⟨hw, i, hi, him, hia⟩ := leadsAt_mem (gi_mem hlt)
      rw [hi] at c0
      obtain ⟨b, off, rfl, hbb, c1, c2⟩ := (h.ext hx0).g.gp_ him
      have hnext : ((leadsAt ns ls k).take (j + 1)).map (fun i => oend (gp ls i) k) = ((leadsAt ns ls k).take j).map (fun i => oend (gp ls i) k) ++ [oend (gp ls i) k] := by
        rw [List.take_succ_eq_append_getElem hlt, List.map_append, ← gi_nat _ j hlt, hi]; rfl
      have Hn := Lib.hid hnext
      clear hnext hi
      have hlen : (((leadsAt ns ls k).take j).map (fun i => oend (gp ls i) k)).length ≤ 20 := by rw [List.length_map, List.length_take]; omega
      injection he with he1 he2 he3
      subst he1
      subst he3
      generalize gp ls i = L at *
      obtain ⟨p, q⟩ := L
      have hii : (i : Int) < ls.length := by omega
      go_wp2_with fail
      refine (OtherEnd_i _ _ _ _).mono ?_
      rintro e w3 ⟨rfl, hb⟩
      have hxr := hxr.trans hb
      have hv := hv.ext hb
      have hsz := hxr.size
      go_wp2_with (at_builtin; refine ap_int Try.underlying22 infoI2 _ _ rfl rfl rfl (hv.ext ((Ext.refl w3).alloc _)) (g := w3.heap.size) (y := oend (p, q) k) (by first | rfl | simp) (by go_simp) (by omega) (by simp; omega) ?_)
      intro v' w' h1 h2 h3
      go_wp2
      go_roundw
      case rel => exact ⟨j + 1, by omega, by go_num, by rw [Hn.out, List.map_take]; exact h1, h3 _ (hxr.trans (by repeat first | exact Ext.refl _ | assumption | refine Ext.drew ?_ | refine Ext.alloc ?_ _ | refine Ext.setCell ?_ (by simp) | refine Ext.setCell ?_ (by simp; omega) | refine Ext.trans ?_ (by assumption))) (Nat.le_refl _)⟩
      case measure => simp [intOf]; omega
    · obtain rfl : j = (leadsAt ns ls k).length := by omega
      rw [List.take_of_length_le (Nat.le_refl _)] at hv
      go_wp2
      go_ret
      exact ⟨_, rfl, hv.more hx.size, hx0⟩

def straight (ns ls : List P2) (k : Int) : Bool :=
  decide (degOf ns ls k = 2) && btw (gp ns (oend (gp ls (gi (leadsAt ns ls k) (0 : Nat))) k)) (gp ns (oend (gp ls (gi (leadsAt ns ls k) (1 : Nat))) k)) (gp ns k)
theorem str_facts {ns ls : List P2} {k : Int} (h : degOf ns ls k = 2) : WOk ns ls ∧ (leadsAt ns ls k).length = 2 ∧ ∃ kk i0 i1 a b : Nat, k = kk ∧ kk < ns.length ∧ gi (leadsAt ns ls k) (0 : Nat) = i0 ∧ gi (leadsAt ns ls k) (1 : Nat) = i1 ∧
    i0 < ls.length ∧ i1 < ls.length ∧ oend (gp ls i0) k = a ∧ a < ns.length ∧ oend (gp ls i1) k = b ∧ b < ns.length := by
  unfold degOf at h
  split at h
  · rename_i hw
    have hlen : (leadsAt ns ls k).length = 2 := by omega
    obtain ⟨hW, kk, hk, hkn⟩ := hasN_ok hw
    obtain ⟨-, i0, e0, hi0, ha0⟩ := leadsAt_mem (gi_mem (l := leadsAt ns ls k) (j := 0) (by omega))
    obtain ⟨-, i1, e1, hi1, ha1⟩ := leadsAt_mem (gi_mem (l := leadsAt ns ls k) (j := 1) (by omega))
    obtain ⟨a, ha, han⟩ := oend_ok hw hi0 ha0
    obtain ⟨b, hb, hbn⟩ := oend_ok hw hi1 ha1
    exact ⟨hW, hlen, kk, i0, i1, a, b, hk, hkn, e0, e1, hi0, hi1, ha, han, hb, hbn⟩
  · omega
end Go.Proofs.Ytpainmnekgnpeaa
