import Derived.Test.YtpainmnekgnpeaaB2
namespace Go.Proofs.Ytpainmnekgnpeaa
open Go.RowKit Go.Sort Go.BigFrame

theorem OwI.gi_ {w : World} {B : Nat} {v : Value} {xs : List Int} (h : OwI w B v xs) {j : Nat} (hj : j < xs.length) :
    ∃ g c, v = .slice (some ⟨g, 0, none⟩) xs.length c ∧ xs.length ≤ c ∧ B ≤ g ∧ g < w.heap.size ∧ w.cell? ⟨g, j, none⟩ = some (.int .i64 (gi xs j)) ∧ w.frozen? ⟨g, j, none⟩ = false := by
  rw [gi_nat xs j hj]; exact h.at_ hj
theorem In.gi_ {w : World} {B : Nat} {A : Option Addr} {xs : List Int} (h : In w B A xs) {k : Nat} (hk : k < xs.length) :
    ∃ b off, A = some ⟨b, off, none⟩ ∧ b < B ∧ w.cell? ⟨b, off + k, none⟩ = some (.int .i64 (gi xs k)) := by
  rw [gi_nat xs k hk]; exact h.at_ hk
def upto (F : Int → Int) (L : List Int) (j : Nat) : List Int := (L.take j).map F ++ L.drop j
theorem upto_len (F : Int → Int) (L : List Int) (j : Nat) : (upto F L j).length = L.length := by simp [upto]; omega
theorem upto_zero (F : Int → Int) (L : List Int) : upto F L 0 = L := by simp [upto]
theorem upto_all (F : Int → Int) (L : List Int) {j : Nat} (h : L.length ≤ j) : upto F L j = L.map F := by simp [upto, List.take_of_length_le h, List.drop_of_length_le h]
theorem upto_at (F : Int → Int) (L : List Int) {j : Nat} (h : j < L.length) : gi (upto F L j) j = gi L j := by
  rw [gi_nat _ _ (by rw [upto_len]; exact h), gi_nat _ _ h]
  unfold upto
  rw [List.getElem_append_right (by simp; omega)]
  simp [List.length_take, Nat.min_eq_left (Nat.le_of_lt h)]
theorem upto_set (F : Int → Int) (L : List Int) {j : Nat} (h : j < L.length) : (upto F L j).set j (F (gi L j)) = upto F L (j + 1) := by
  unfold upto
  rw [gi_nat _ _ h, List.set_append_right _ _ (by simp; omega), List.take_succ_eq_append_getElem h, List.map_append, List.append_assoc]
  congr 1
  have : j - (List.map F (List.take j L)).length = 0 := by simp; omega
  rw [this, List.drop_eq_getElem_cons h]
  rfl
theorem upto_same (F : Int → Int) (L : List Int) {j : Nat} (h : j < L.length) (hF : F (gi L j) = gi L j) : upto F L (j + 1) = upto F L j := by
  rw [← upto_set F L h, hF]
  conv => lhs; rw [← upto_at F L h]
  rw [gi_nat _ _ (by rw [upto_len]; exact h), List.set_getElem_self]

theorem OwI.cel {w : World} {B g n c : Nat} {xs : List Int} (h : OwI w B (.slice (some ⟨g, 0, none⟩) n c) xs) {j : Nat} (hj : j < xs.length) : w.cell? ⟨g, j, none⟩ = some (.int .i64 (gi xs j)) ∧ w.frozen? ⟨g, j, none⟩ = false := by
  obtain ⟨g', c', e, _, _, _, h1, h2⟩ := h.gi_ hj
  injection e with e1 e2 e3
  injection e1 with e1
  injection e1 with e1
  subst e1
  exact ⟨h1, h2⟩

set_option maxRecDepth 100000 in
set_option maxHeartbeats 2000000 in
theorem l07Parts_c (A B : Option Addr) (c d : Nat) (ns ls : List P2) (w : World) (hn1 : 1 ≤ ns.length) (hn : ns.length ≤ 12) (hm : ls.length ≤ 20) (hv : Vd ns.length ls)
    (g : Pr w w.heap.size B ls) :
    Calls Try.prog 74 #[.agg #[.slice A ns.length c, .slice B ls.length d]] w fun e w' => ∃ v, e = .returned v ∧ OwI w' w.heap.size v (labs ns.length ls) ∧ Ext w w' := by
  have Hv := Lib.hid hv
  clear hv
  go_enter Try.func74, Try.ntmps74
  go_wp2_with fail
  have k0 : (w.alloc (.cells #[.slice A ns.length c, .slice B ls.length d] 36)).cell? ⟨w.heap.size, 0, none⟩ = some (.slice A ns.length c) := by go_simp
  have k1 : (w.alloc (.cells #[.slice A ns.length c, .slice B ls.length d] 36)).cell? ⟨w.heap.size, 1, none⟩ = some (.slice B ls.length d) := by go_simp
  have hx : Ext w (w.alloc (.cells #[.slice A ns.length c, .slice B ls.length d] 36)) := (by repeat first | exact Ext.refl _ | assumption | refine Ext.drew ?_ | refine Ext.alloc ?_ _ | refine Ext.setCell ?_ (by simp) | refine Ext.setCell ?_ (by simp; omega) | refine Ext.trans ?_ (by assumption))
  have hsz1 : w.heap.size + 1 = (w.alloc (.cells #[.slice A ns.length c, .slice B ls.length d] 36)).heap.size := by simp
  generalize (w.alloc (.cells #[.slice A ns.length c, .slice B ls.length d] 36)) = w1 at *
  rw [hsz1]
  have hv0 : OwI (w1.alloc (.cells #[] 3)) w1.heap.size (.slice (some ⟨w1.heap.size, 0, none⟩) 0 0) (ids 0) := OwI.new (xs := []) (Bk.new _ [] rfl) (Nat.le_refl _) (by simp)
  have hx2 : Ext w1 (w1.alloc (.cells #[] 3)) := (by repeat first | exact Ext.refl _ | assumption | refine Ext.drew ?_ | refine Ext.alloc ?_ _ | refine Ext.setCell ?_ (by simp) | refine Ext.setCell ?_ (by simp; omega) | refine Ext.trans ?_ (by assumption))
  generalize (w1.alloc (.cells #[] 3)) = w2 at *
  go_loopw [3, 4] (fun v i wr => ∃ r : Nat, r ≤ ns.length ∧ i = .int .i64 r ∧ OwI wr w1.heap.size v (ids r) ∧ Ext w1 wr) (fun _ i _ => ns.length - (intOf i).toNat)
  case atStart => exact ⟨0, by omega, rfl, hv0, hx2⟩
  case round =>
    clear hv0 hx2
    obtain ⟨r, hr, rfl, hv, hxr⟩ := hrel
    obtain ⟨wo, rfl⟩ : ∃ x : World, x = wr := ⟨_, rfl⟩
    have k0' := k0
    have k1' := k1
    have k0 := hxr.lit k0
    by_cases hlt : r < ns.length
    · have hsz := hxr.size
      have hln := ids_length r
      go_wp2_with (at_builtin; refine ap_int Try.underlying22 infoI2 _ _ rfl rfl rfl (hv.ext ((Ext.refl wo).alloc _)) (g := wo.heap.size) (y := r) rfl (by go_simp) (by omega) (by simp; omega) ?_)
      intro v' w' h1 h2 h3
      go_wp2
      go_roundw
      case rel =>
        refine ⟨r + 1, by omega, by go_num, ?_, h3 _ (hxr.alloc _) (Nat.le_refl _)⟩
        have e : ids (r + 1) = ids r ++ [(r : Int)] := by unfold ids; rw [List.range_succ, List.map_append]; rfl
        rw [e]; exact h1
      case measure => simp [intOf]; omega
    · obtain rfl : r = ns.length := by omega
      go_wp2_with fail
      have k1 := hxr.lit k1
      have hx0 := hx.trans hxr
      obtain ⟨gb, cp, rfl, hcap, hgB, hgw, -, -⟩ := hv.gi_ (j := 0) (by rw [ids_length]; omega)
      rw [ids_length] at hcap
      have hgB' : w.heap.size < gb := by omega
      rw [ids_length]
      go_loopw [5] (fun i wr => ∃ k : Nat, k ≤ ls.length ∧ i = .int .i64 k ∧ OwI wr w1.heap.size (.slice (some ⟨gb, 0, none⟩) ns.length cp) (labs ns.length (ls.take k)) ∧ Ext w1 wr) (fun i _ => ls.length - (intOf i).toNat)
      case atStart =>
        rw [ids_length] at hv
        exact ⟨0, by omega, by first | rfl | rw [ids_length], by first | exact hv | (rw [ids_length]; exact hv), hxr⟩
      case round =>
        clear hv
        obtain ⟨k, hk, rfl, hv, hxk⟩ := hrel
        obtain ⟨w3, rfl⟩ : ∃ x : World, x = wr := ⟨_, rfl⟩
        have hx3 := hx.trans hxk
        have k0 := hxk.lit k0'
        have k1 := hxk.lit k1'
        have hL := (linv_take Hv.out k).len
        by_cases hlt : k < ls.length
        · obtain ⟨b, off, rfl, hbb, c1, c2⟩ := (g.ext hx3).gp_ hlt
          have hmem : gp ls k ∈ ls := by rw [gp_nat ls k hlt]; exact List.getElem_mem hlt
          obtain ⟨f, t, hft, hf, ht⟩ := Hv.out _ hmem
          have hnext : labs ns.length (ls.take (k + 1)) = (labs ns.length (ls.take k)).map (mrgF (gi (labs ns.length (ls.take k)) f) (gi (labs ns.length (ls.take k)) t)) := by
            unfold labs
            rw [List.take_succ_eq_append_getElem hlt, List.foldl_append, ← gp_nat ls k hlt, hft]; rfl
          have Hnext := Lib.hid hnext
          rw [hft] at c1 c2
          clear hnext hmem hft
          generalize labs ns.length (ls.take k) = L at *
          have c3 := (hv.cel (j := f) (by omega)).1
          have c4 := (hv.cel (j := t) (by omega)).1
          have hfi : (f : Int) < ns.length := by omega
          have hti : (t : Int) < ns.length := by omega
          generalize gi L f = x at *
          generalize gi L t = y at *
          go_wp2_with fail
          clear c1 c2 c3 c4
          go_loopw [8] (fun i wr => ∃ j : Nat, j ≤ ns.length ∧ i = .int .i64 j ∧ OwI wr w1.heap.size (.slice (some ⟨gb, 0, none⟩) ns.length cp) (upto (mrgF x y) L j) ∧ Ext w1 wr) (fun i _ => ns.length - (intOf i).toNat)
          case atStart => exact ⟨0, by omega, rfl, by rw [upto_zero]; exact hv, hxk⟩
          case round =>
            clear hv
            obtain ⟨j, hj, rfl, hv, hxj⟩ := hrel
            obtain ⟨w4, rfl⟩ : ∃ x : World, x = wr := ⟨_, rfl⟩
            by_cases hjl : j < ns.length
            · obtain ⟨c3, c4⟩ := hv.cel (j := j) (by rw [upto_len]; omega)
              rw [upto_at _ _ (by omega)] at c3
              have hji : (j : Int) < ns.length := by omega
              by_cases hq : gi L j = imax x y
              · have hF : mrgF x y (gi L j) = imin x y := by unfold mrgF; rw [if_pos hq]
                have HF := Lib.hid hF
                clear hF
                have hset := hv.set_ (by rw [upto_len]; omega) j (imin x y)
                have hs2 := upto_set (mrgF x y) L (j := j) (by omega)
                rw [HF.out] at hs2
                rw [hs2] at hset
                have Hset := Lib.hid hset
                clear hset hs2 hv
                go_wp2
                go_roundw
                case rel => exact ⟨j + 1, by omega, by go_num, Hset.out, hxj.setCell (by simpa using hgB)⟩
                case measure => simp [intOf]; omega
              · have hF : mrgF x y (gi L j) = gi L j := by unfold mrgF; rw [if_neg hq]
                have hs2 := upto_same (mrgF x y) L (j := j) (by omega) hF
                have Hs2 := Lib.hid hs2
                clear hF hs2
                go_wp2
                go_roundw
                case rel => exact ⟨j + 1, by omega, by go_num, by rw [Hs2.out]; exact hv, hxj⟩
                case measure => simp [intOf]; omega
            · go_wp2
              go_roundw
              case rel =>
                refine ⟨k + 1, by omega, by go_num, ?_, hxj⟩
                rw [Hnext.out]
                rw [upto_all _ _ (by omega)] at hv
                exact hv
              case measure => simp [intOf]; omega
        · go_wp2
          go_ret
          refine ⟨_, rfl, ?_, hx3⟩
          rw [List.take_of_length_le (by omega)] at hv
          exact hv.more hx.size
end Go.Proofs.Ytpainmnekgnpeaa
