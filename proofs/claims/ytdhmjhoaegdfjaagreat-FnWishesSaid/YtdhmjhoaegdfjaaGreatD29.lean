import Derived.Test.YtdhmjhoaegdfjaaGreatD28
import Derived.Test.YtdhmjhoaegdfjaaGreatP12
namespace Go.Proofs.YtdhmjhoaegdfjaaGreat
open Go.RowKit Go.Sort Go.BigFrame

theorem nb_sym {S : List Int} {m n : Nat} (hS : ∀ j, j < m → (∃ a : Nat, gi S (2 * (j : Int)) = a ∧ a < n) ∧ ∃ b : Nat, gi S (2 * (j : Int) + 1) = b ∧ b < n) (f g : Nat) : (nbS S f m).testBit g = (nbS S g m).testBit f := by
  rw [Bool.eq_iff_iff, nbS_bit hS f g m (Nat.le_refl _), nbS_bit hS g f m (Nat.le_refl _)]
  constructor
  · rintro ⟨i, h1, h2, h3⟩; exact ⟨i, h1, h2, h3.symm⟩
  · rintro ⟨i, h1, h2, h3⟩; exact ⟨i, h1, h2, h3.symm⟩
/-- the faces beside each other by the first j leads -/
def bsJ (S : List Int) (j a b : Nat) : Bool := (nbS S a j).testBit b
theorem bsJ_step {S : List Int} {j a b : Nat} (ea : gi S (2 * (j : Int)) = a) (eb : gi S (2 * (j : Int) + 1) = b) (hab : a ≠ b) (x y : Nat) :
    (if x = b ∧ y = a then true else if x = a ∧ y = b then true else bsJ S j x y) = bsJ S (j + 1) x y := by
  unfold bsJ
  rw [nbS_succ, ea, eb, if_neg (show ¬ ((a : Int) = b) by omega)]
  by_cases h1 : x = a
  · subst h1
    rw [if_neg (show ¬ (x = b ∧ y = x) by omega), if_pos (show ((x : Int) = (x : Int)) from rfl), Nat.testBit_or, Nat.testBit_two_pow]
    by_cases h2 : y = b
    · subst h2; simp
    · rw [if_neg (by omega), decide_eq_false (by omega)]; simp
  · by_cases h2 : x = b
    · subst h2
      rw [if_neg (show ¬ ((x : Int) = a) by omega), if_pos (show ((x : Int) = (x : Int)) from rfl), Nat.testBit_or, Nat.testBit_two_pow]
      by_cases h3 : y = a
      · subst h3; simp
      · rw [if_neg (by omega), if_neg (by omega), decide_eq_false (by omega)]; simp
    · rw [if_neg (by omega), if_neg (by omega), if_neg (show ¬ ((x : Int) = a) by omega), if_neg (show ¬ ((x : Int) = b) by omega)]
theorem bsJ_same {S : List Int} {j a b : Nat} (ea : gi S (2 * (j : Int)) = a) (eb : gi S (2 * (j : Int) + 1) = b) (hab : a = b) (x y : Nat) : bsJ S j x y = bsJ S (j + 1) x y := by
  unfold bsJ
  rw [nbS_succ, ea, eb, if_pos (show ((a : Int) = b) by omega)]
theorem OwM.congr {w : World} {B0 B n k : Nat} {v : Value} {rb : Nat → Nat} {M M' : Nat → Nat → Bool} (h : OwM w B0 B v n k rb M) (he : ∀ a b, M a b = M' a b) : OwM w B0 B v n k rb M' := by
  have : M = M' := funext fun a => funext fun b => he a b
  rw [← this]; exact h
theorem OwM.lt {w : World} {B0 B n k : Nat} {v : Value} {rb : Nat → Nat} {M : Nat → Nat → Bool} (h : OwM w B0 B v n k rb M) {i : Nat} (hi : i < k) : B ≤ rb i ∧ rb i < w.heap.size := World.ownsRow.lt (h.rw_ i hi) _ rfl

set_option maxRecDepth 100000 in
set_option maxHeartbeats 4000000 in
theorem l13Beside_s (A B : Option Addr) (c d : Nat) (ns ls : List P2) (w : World) (h : Wn w A c B d ns ls) (hw : whole ns ls = true) :
    Calls Tryz.prog 39 #[.agg #[.slice A ns.length c, .slice B ls.length d]] w fun e w' => ∃ v rb, e = .returned v ∧ OwM w' w.heap.size w.heap.size v (vFaces ns ls).length (vFaces ns ls).length rb (bsJ (vSides ns ls) ls.length) ∧ Ext w w' := by
  obtain ⟨hW, hm0⟩ := whole_ok hw
  have hm := hW.le
  have hFl := vFaces_len ns ls
  have HSL := Lib.hid (vSides_len hw)
  have HAB : Hid (∀ j, j < ls.length → (∃ a : Nat, gi (vSides ns ls) (2 * (j : Int)) = a ∧ a < (vFaces ns ls).length) ∧ ∃ b : Nat, gi (vSides ns ls) (2 * (j : Int) + 1) = b ∧ b < (vFaces ns ls).length) := Lib.hid (fun j hj => side_of hw hj)
  have HWW := Lib.hid hw
  clear hW hw
  obtain ⟨i0, hi, hz0, hz1, hz2⟩ := info_parts infoB
  have hmk := fun W => run_mk1 (P := Tryz.prog) 71 4 i0 (.bool false) Tryz.underlying71 hi hz0 hz1 rfl (vFaces ns ls).length (by rw [hz2]; omega) (by omega) W
  clear hi hz0 hz1 hz2
  go_enter Tryz.func39, Tryz.ntmps39
  go_wp2_with fail
  have k0 : (w.alloc (.cells #[.slice A ns.length c, .slice B ls.length d] 27)).cell? ⟨w.heap.size, 0, none⟩ = some (.slice A ns.length c) := by go_simp
  have k1 : (w.alloc (.cells #[.slice A ns.length c, .slice B ls.length d] 27)).cell? ⟨w.heap.size, 1, none⟩ = some (.slice B ls.length d) := by go_simp
  have hx : Ext w (w.alloc (.cells #[.slice A ns.length c, .slice B ls.length d] 27)) := (by repeat first | exact Ext.refl _ | assumption | refine Ext.drew ?_ | refine Ext.alloc ?_ _ | refine Ext.setCell ?_ (by simp) | refine Ext.setCell ?_ (by simp; omega) | refine Ext.trans ?_ (by assumption))
  have hsz1 : w.heap.size + 1 = (w.alloc (.cells #[.slice A ns.length c, .slice B ls.length d] 27)).heap.size := by simp
  generalize (w.alloc (.cells #[.slice A ns.length c, .slice B ls.length d] 27)) = w0 at *
  (try rw [hsz1])
  refine (FacesOf_s _ _ _ _ ns ls _ (h.ext hx)).mono ?_
  rintro e w1 ⟨v, rfl, hF, hb⟩
  have k0 := hb.lit k0
  have k1 := hb.lit k1
  have hx := hx.trans hb
  clear hb
  obtain ⟨A1, c1, rfl, -⟩ := hF.shape
  clear hF
  generalize hSS : vSides ns ls = S at *
  have HSS := Lib.hid hSS
  clear hSS
  generalize hnn : (vFaces ns ls).length = n at *
  have HNN := Lib.hid hnn
  clear hnn
  have hww := hx.size
  have hb0 : OwM (w1.alloc (.cells #[] 71)) w.heap.size (w1.heap.size + 1) (.slice (some ⟨w1.heap.size, 0, none⟩) 0 0) n 0 (fun _ => 0) (fun _ _ => false) := OwM.zero _ _ _ hww rfl
  have hsz2 : (w1.alloc (.cells #[] 71)).heap.size = w1.heap.size + 1 := by simp
  have hx2 : Ext w1 (w1.alloc (.cells #[] 71)) := (by repeat first | exact Ext.refl _ | assumption | refine Ext.drew ?_ | refine Ext.alloc ?_ _ | refine Ext.setCell ?_ (by simp) | refine Ext.setCell ?_ (by simp; omega) | refine Ext.trans ?_ (by assumption))
  go_wp2_with fail
  go_loopw [4, 5] (fun v i wr => ∃ (j : Nat) (rb : Nat → Nat), j ≤ n ∧ i = .int .i64 j ∧ OwM wr w.heap.size (w1.heap.size + 1) v n j rb (fun _ _ => false) ∧ w1.heap.size + 1 ≤ wr.heap.size ∧ Ext w1 wr) (fun _ i _ => n - (intOf i).toNat)
  case atStart => exact ⟨0, _, by omega, rfl, hb0, by omega, hx2⟩
  case round =>
    clear hb0 hx2 hsz2
    obtain ⟨j, rb, hj, rfl, hv, hsz, hxr⟩ := hrel
    obtain ⟨w3, rfl⟩ : ∃ x : World, x = wr := ⟨_, rfl⟩
    by_cases hlt : j < n
    · have hji : (j : Int) < n := by omega
      have hrow : OwB (w3.alloc (.cells (Array.replicate n (Value.bool false)) 4)) (w1.heap.size + 1) (.slice (some ⟨w3.heap.size, 0, none⟩) n n) (btab n (fun _ => false)) := by
        have hb0 : OwB (w3.alloc (.cells (List.replicate n (Value.bool false)).toArray 4)) (w1.heap.size + 1) (.slice (some ⟨w3.heap.size, 0, none⟩) (List.replicate n false).length (List.replicate n false).length) (List.replicate n false) :=
          OwB.new (by rw [List.map_replicate]; exact Bk.new _ _ rfl) hsz (by simp; unfold maxLen; omega)
        rw [List.length_replicate] at hb0
        have hre : (List.replicate n (Value.bool false)).toArray = Array.replicate n (Value.bool false) := by simp
        rw [hre] at hb0
        rw [btab_rep]
        exact hb0
      have hnew : ∀ i, i < j → rb i < w3.heap.size := fun i hi => (hv.lt hi).2
      have Hrow := Lib.hid hrow
      have Hnew := Lib.hid hnew
      clear hrow hnew
      go_wp2_with (at_builtin; refine az_brow _ _ rfl rfl (B := w1.heap.size + 1) rfl (hv.ext (((Ext.refl w3).alloc _).alloc _)) (g := w3.heap.size + 1) (g1 := w3.heap.size) rfl (by go_simp) (Hrow.out.ext ((Ext.refl _).alloc _)) Hnew.out (by omega) (by simp; omega) ?_)
      intro v' w' h1 h3
      go_wp2
      have hxx := h3 _ (hxr.trans (((Ext.refl w3).alloc _).alloc _)) (by omega)
      go_roundw
      case rel => exact ⟨j + 1, _, by omega, by go_num, h1, by have := hxx.size; have := h1.lt (i := j) (by omega); omega, hxx⟩
      case measure => first | (simp [intOf]; done) | (simp [intOf]; omega)
    · obtain rfl : j = n := by omega
      have hx := hx.trans hxr
      have k0 := hxr.lit k0
      have k1 := hxr.lit k1
      clear hmk hxr
      go_wp2_with fail
      refine (l09Sides_s _ _ _ _ ns ls _ (h.ext hx) HWW.out).mono ?_
      rintro e w4 ⟨vS, rfl, hS, hb⟩
      rw [HSS.out] at hS
      obtain ⟨gS, cS, rfl, -, -, -, -, -⟩ := hS.gi_ (j := 0) (by rw [HSL.out]; omega)
      rw [HSL.out] at hS
      rw [HSL.out]
      have hv := (hv.ext hb).congr (M' := bsJ S 0) (fun a b => by simp [bsJ, nbS])
      have hsz := Nat.le_trans hsz hb.size
      have k0 := hb.lit k0
      have k1 := hb.lit k1
      have hx := hx.trans hb
      clear hb
      obtain ⟨A4, c4, rfl⟩ := hv.shape
      go_wp2_with fail
      go_loopw [7, 8, 9] (fun i _ _ wr => ∃ a : Nat, a ≤ ls.length ∧ i = .int .i64 a ∧ OwM wr w.heap.size (w1.heap.size + 1) (.slice A4 j c4) j j rb (bsJ S a) ∧ wr.cell? ⟨w.heap.size, 0, none⟩ = some (.slice A ns.length c) ∧ wr.cell? ⟨w.heap.size, 1, none⟩ = some (.slice B ls.length d) ∧ OwI wr w3.heap.size (.slice (some ⟨gS, 0, none⟩) (2 * ls.length) cS) S ∧ Ext w wr) (fun i _ _ _ => ls.length - (intOf i).toNat)
      case atStart => exact ⟨0, by omega, rfl, hv, k0, k1, hS, hx⟩
      case round =>
        clear hv k0 k1 hS hx
        obtain ⟨a, ha, rfl, hv, k0, k1, hS, hx⟩ := hrel
        obtain ⟨w5, rfl⟩ : ∃ x : World, x = wr := ⟨_, rfl⟩
        by_cases hat : a < ls.length
        · obtain ⟨⟨p, ep, hp⟩, ⟨q, eq, hq⟩⟩ := HAB.out a hat
          have c1 := (hS.cel (j := 2 * a) (by rw [HSL.out]; omega)).1
          have c2 := (hS.cel (j := 2 * a + 1) (by rw [HSL.out]; omega)).1
          have y1 : ((2 * a : Nat) : Int) = 2 * (a : Int) := by omega
          have y2 : ((2 * a + 1 : Nat) : Int) = 2 * (a : Int) + 1 := by omega
          rw [y1, ep] at c1
          rw [y2, eq] at c2
          have z1 : (2 * (a : Int)).toNat = 2 * a := by omega
          have z2 : (2 * (a : Int) + 1).toNat = 2 * a + 1 := by omega
          have z3 : 2 * (a : Int) < 2 * (ls.length : Int) := by omega
          have z4 : 2 * (a : Int) + 1 < 2 * (ls.length : Int) := by omega
          have HST := fun h' => Lib.hid (bsJ_step (S := S) ep eq h')
          have HSM := fun h' => Lib.hid (bsJ_same (S := S) ep eq h')
          have hpi : (p : Int) < j := by omega
          have hqi : (q : Int) < j := by omega
          clear y1 y2 ep eq
          by_cases hpq : p = q
          · have hqq : ((p : Int) != (q : Int)) = false := by simp [hpq]
            have Hs := HSM hpq
            clear HST HSM hpq
            go_wp2
            go_roundw
            case rel => exact ⟨a + 1, by omega, by go_num, hv.congr Hs.out, k0, k1, hS, hx⟩
            case measure => first | (simp [intOf]; done) | (simp [intOf]; omega)
          · have hqq : ((p : Int) != (q : Int)) = true := by simp; omega
            have Hs := HST hpq
            clear HST HSM hpq
            obtain ⟨g1, cg, e1, r1⟩ := hv.at_ hp
            obtain ⟨rfl, rfl⟩ : A4 = some ⟨g1, 0, none⟩ ∧ c4 = cg := by simpa using e1
            obtain ⟨m1, m2⟩ := hv.cel hp hq
            have hset := hv.set_ (j := q) hp
            have hB1 := (hv.lt hp).1
            have hB2 := (hv.lt hq).1
            have hgr : w5.grownBy (w5.setCell ⟨rb p, q, none⟩ (.bool true)) (some (rb p)) := gb_set (gb_refl _ _) q _
            have hbt : BlkT w5 (rb p) 4 := own_blkT (hv.rw_ p hp) (rb p) rfl
            have Hset := Lib.hid hset
            have Hgr := Lib.hid hgr
            have Hbt := Lib.hid hbt
            clear hset hgr hbt
            go_upto_region 14 with fail
            go_cut [8, 9] (fun s s' wx => s = .int .i64 (p : Int) ∧ s' = .int .i64 (q : Int) ∧ wx = w5.setCell ⟨rb p, q, none⟩ (.bool true))
            case first =>
              go_wp2
              go_meet
              exact ⟨rfl, rfl, rfl⟩
            case rest =>
              obtain ⟨rfl, rfl, rfl⟩ := hcut
              have hx := Ext.setCell (p := ⟨rb p, q, none⟩) (v := .bool true) hx (by show w.heap.size ≤ rb p; omega)
              have hS := owi_kept hS Hgr.out (fun x hx => by injection hx with hx; rw [← hx]; exact Hbt.out)
              have k0 := gb_lit Hgr.out k0 (fun e => by injection e with e; omega)
              have k1 := gb_lit Hgr.out k1 (fun e => by injection e with e; omega)
              have hv := Hset.out
              clear Hset Hgr Hbt c1 c2 m1 m2 r1
              generalize w5.setCell ⟨rb p, q, none⟩ (.bool true) = w6 at *
              obtain ⟨g2, cg2, e2, r1⟩ := hv.at_ hq
              obtain ⟨rfl, rfl⟩ : g1 = g2 ∧ c4 = cg2 := by simpa using e2
              obtain ⟨m1, m2⟩ := hv.cel hq hp
              have hset := hv.set_ (j := p) hq
              have hgr : w6.grownBy (w6.setCell ⟨rb q, p, none⟩ (.bool true)) (some (rb q)) := gb_set (gb_refl _ _) p _
              have hbt : BlkT w6 (rb q) 4 := own_blkT (hv.rw_ q hq) (rb q) rfl
              have Hset := Lib.hid hset
              have Hgr := Lib.hid hgr
              have Hbt := Lib.hid hbt
              clear hset hgr hbt
              go_wp2
              go_roundw
              case rel => exact ⟨a + 1, by omega, by go_num, Hset.out.congr Hs.out, gb_lit Hgr.out k0 (fun e => by injection e with e; omega), gb_lit Hgr.out k1 (fun e => by injection e with e; omega), owi_kept hS Hgr.out (fun x hx => by injection hx with hx; rw [← hx]; exact Hbt.out), Ext.setCell hx (by show w.heap.size ≤ rb q; omega)⟩
              case measure => first | (simp [intOf]; done) | (simp [intOf]; omega)
        · obtain rfl : a = ls.length := by omega
          go_wp2
          go_ret
          exact ⟨_, _, rfl, by rw [HSS.out, HNN.out]; exact hv.own (by omega), hx⟩
end Go.Proofs.YtdhmjhoaegdfjaaGreat
