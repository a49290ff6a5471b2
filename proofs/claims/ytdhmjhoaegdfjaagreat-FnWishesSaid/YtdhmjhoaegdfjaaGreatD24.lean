import Derived.Test.YtdhmjhoaegdfjaaGreatD18
import Derived.Test.YtdhmjhoaegdfjaaGreatG6
namespace Go.Proofs.YtdhmjhoaegdfjaaGreat
open Go.RowKit Go.Sort Go.BigFrame

/-- the faces beside f by the first j leads, as a set -/
def nbS (S : List Int) (f : Nat) : Nat → Nat
  | 0 => 0
  | j + 1 => if gi S (2 * (j : Int)) = gi S (2 * (j : Int) + 1) then nbS S f j else
      if (f : Int) = gi S (2 * (j : Int)) then nbS S f j ||| 2 ^ (gi S (2 * (j : Int) + 1)).toNat
      else if (f : Int) = gi S (2 * (j : Int) + 1) then nbS S f j ||| 2 ^ (gi S (2 * (j : Int))).toNat else nbS S f j
theorem nbS_succ (S : List Int) (f j : Nat) : nbS S f (j + 1) = if gi S (2 * (j : Int)) = gi S (2 * (j : Int) + 1) then nbS S f j else
      if (f : Int) = gi S (2 * (j : Int)) then nbS S f j ||| 2 ^ (gi S (2 * (j : Int) + 1)).toNat
      else if (f : Int) = gi S (2 * (j : Int) + 1) then nbS S f j ||| 2 ^ (gi S (2 * (j : Int))).toNat else nbS S f j := rfl
section
variable {S : List Int} {m n : Nat}
theorem nbS_lt (hS : ∀ j, j < m → (∃ a : Nat, gi S (2 * (j : Int)) = a ∧ a < n) ∧ ∃ b : Nat, gi S (2 * (j : Int) + 1) = b ∧ b < n) (f : Nat) : ∀ j, j ≤ m → nbS S f j < 2 ^ n
  | 0, _ => Nat.two_pow_pos n
  | j + 1, hj => by
    have ih := nbS_lt hS f j (by omega)
    obtain ⟨⟨a, ea, ha⟩, ⟨b, eb, hb⟩⟩ := hS j (by omega)
    have h1 : 2 ^ a < 2 ^ n := Nat.pow_lt_pow_right (by omega) ha
    have h2 : 2 ^ b < 2 ^ n := Nat.pow_lt_pow_right (by omega) hb
    rw [nbS_succ, ea, eb]
    split
    · exact ih
    · split
      · exact Nat.or_lt_two_pow ih (by simpa using h2)
      · split
        · exact Nat.or_lt_two_pow ih (by simpa using h1)
        · exact ih
theorem nbS_bit (hS : ∀ j, j < m → (∃ a : Nat, gi S (2 * (j : Int)) = a ∧ a < n) ∧ ∃ b : Nat, gi S (2 * (j : Int) + 1) = b ∧ b < n) (f g : Nat) : ∀ j, j ≤ m →
    ((nbS S f j).testBit g = true ↔ ∃ i, i < j ∧ gi S (2 * (i : Int)) ≠ gi S (2 * (i : Int) + 1) ∧ ((gi S (2 * (i : Int)) = f ∧ gi S (2 * (i : Int) + 1) = g) ∨ (gi S (2 * (i : Int)) = g ∧ gi S (2 * (i : Int) + 1) = f)))
  | 0, _ => by simp [nbS]
  | j + 1, hj => by
    have ih := nbS_bit hS f g j (by omega)
    obtain ⟨⟨a, ea, ha⟩, ⟨b, eb, hb⟩⟩ := hS j (by omega)
    have key : (∃ i, i < j + 1 ∧ gi S (2 * (i : Int)) ≠ gi S (2 * (i : Int) + 1) ∧ ((gi S (2 * (i : Int)) = f ∧ gi S (2 * (i : Int) + 1) = g) ∨ (gi S (2 * (i : Int)) = g ∧ gi S (2 * (i : Int) + 1) = f))) ↔
        (∃ i, i < j ∧ gi S (2 * (i : Int)) ≠ gi S (2 * (i : Int) + 1) ∧ ((gi S (2 * (i : Int)) = f ∧ gi S (2 * (i : Int) + 1) = g) ∨ (gi S (2 * (i : Int)) = g ∧ gi S (2 * (i : Int) + 1) = f))) ∨
        ((a : Int) ≠ b ∧ (((a : Int) = f ∧ (b : Int) = g) ∨ ((a : Int) = g ∧ (b : Int) = f))) := by
      constructor
      · rintro ⟨i, hi, h⟩
        rcases Nat.lt_succ_iff_lt_or_eq.1 hi with h2 | h2
        · exact .inl ⟨i, h2, h⟩
        · subst h2; rw [ea, eb] at h; exact .inr h
      · rintro (⟨i, hi, h⟩ | h)
        · exact ⟨i, by omega, h⟩
        · exact ⟨j, by omega, by rw [ea, eb]; exact h⟩
    rw [key, ← ih]
    rw [nbS_succ, ea, eb]
    by_cases h1 : (a : Int) = b
    · rw [if_pos h1]
      constructor
      · exact .inl
      · rintro (h | h)
        · exact h
        · exact absurd h1 h.1
    · rw [if_neg h1]
      by_cases h2 : (f : Int) = a
      · rw [if_pos h2, Nat.testBit_or, Bool.or_eq_true, Nat.testBit_two_pow, decide_eq_true_eq]
        constructor
        · rintro (h | h)
          · exact .inl h
          · exact .inr ⟨h1, .inl ⟨h2.symm, by omega⟩⟩
        · rintro (h | ⟨_, h | h⟩)
          · exact .inl h
          · exact .inr (by omega)
          · exfalso; omega
      · rw [if_neg h2]
        by_cases h3 : (f : Int) = b
        · rw [if_pos h3, Nat.testBit_or, Bool.or_eq_true, Nat.testBit_two_pow, decide_eq_true_eq]
          constructor
          · rintro (h | h)
            · exact .inl h
            · exact .inr ⟨h1, .inr ⟨by omega, h3.symm⟩⟩
          · rintro (h | ⟨_, h | h⟩)
            · exact .inl h
            · exfalso; omega
            · exact .inr (by omega)
        · rw [if_neg h3]
          constructor
          · exact .inl
          · rintro (h | ⟨_, h | h⟩)
            · exact h
            · exfalso; omega
            · exfalso; omega
theorem nbT_step {j a b : Nat} (ea : gi S (2 * (j : Int)) = a) (eb : gi S (2 * (j : Int) + 1) = b) (hab : a ≠ b) :
    ((tab n (fun f => (nbS S f j : Nat))).set a ((nbS S a j ||| 2 ^ b : Nat) : Int)).set b ((nbS S b j ||| 2 ^ a : Nat) : Int) = tab n (fun f => (nbS S f (j + 1) : Nat)) := by
  rw [tab_set, tab_set]
  refine tab_congr fun d _ => ?_
  show (if d = b then ((nbS S b j ||| 2 ^ a : Nat) : Int) else if d = a then ((nbS S a j ||| 2 ^ b : Nat) : Int) else ((nbS S d j : Nat) : Int)) = ((nbS S d (j + 1) : Nat) : Int)
  rw [nbS_succ, ea, eb, if_neg (show ¬ ((a : Int) = b) by omega)]
  by_cases h1 : d = b
  · subst h1
    rw [if_pos rfl, if_neg (show ¬ ((d : Int) = a) by omega), if_pos rfl]
    simp
  · rw [if_neg h1]
    by_cases h2 : d = a
    · subst h2
      rw [if_pos rfl, if_pos rfl]
      simp
    · rw [if_neg h2, if_neg (show ¬ ((d : Int) = a) by omega), if_neg (show ¬ ((d : Int) = b) by omega)]
theorem nbT_same {j a b : Nat} (ea : gi S (2 * (j : Int)) = a) (eb : gi S (2 * (j : Int) + 1) = b) (hab : a = b) : tab n (fun f => (nbS S f (j + 1) : Nat)) = tab n (fun f => (nbS S f j : Nat)) := by
  refine tab_congr fun d _ => ?_
  show ((nbS S d (j + 1) : Nat) : Int) = ((nbS S d j : Nat) : Int)
  rw [nbS_succ, ea, eb, if_pos (show ((a : Int) = b) by omega)]
end
theorem or2_w (S k : Nat) (hS : S < 2 ^ 62) (hk : k < 62) : bits .or .i64 (S : Int) (wrap64 (2 ^ k)) = ((S ||| 2 ^ k : Nat) : Int) := by
  have h1 : 2 ^ k < 2 ^ 63 := Nat.pow_lt_pow_right (by omega) (by omega)
  have h2 : 2 ^ 62 < 2 ^ 63 := Nat.pow_lt_pow_right (by omega) (by omega)
  rw [pow_w k (by omega)]
  exact or_nat S (2 ^ k) (by omega) h1

def vNb (ns ls : List P2) : List Int := tab (vFaces ns ls).length (fun f => (nbS (vSides ns ls) f ls.length : Nat))
set_option maxRecDepth 100000 in
set_option maxHeartbeats 4000000 in
theorem neighbors_c (A B : Option Addr) (c d : Nat) (ns ls : List P2) (w : World) (h : Wn w A c B d ns ls) (hw : whole ns ls = true) :
    Calls Tryz.prog 55 #[.agg #[.slice A ns.length c, .slice B ls.length d]] w fun e w' => ∃ v, e = .returned v ∧ OwI w' w.heap.size v (vNb ns ls) ∧ Ext w w' := by
  have HV : Hid (vNb ns ls = tab (vFaces ns ls).length (fun f => (nbS (vSides ns ls) f ls.length : Nat))) := Lib.hid rfl
  obtain ⟨hW, hm0⟩ := whole_ok hw
  have hm := hW.le
  have hFl := vFaces_len ns ls
  have hFp := faces_pos hw
  have HSL := Lib.hid (vSides_len hw)
  have HAB : Hid (∀ j, j < ls.length → (∃ a : Nat, gi (vSides ns ls) (2 * (j : Int)) = a ∧ a < (vFaces ns ls).length) ∧ ∃ b : Nat, gi (vSides ns ls) (2 * (j : Int) + 1) = b ∧ b < (vFaces ns ls).length) := Lib.hid (fun j hj => side_of hw hj)
  clear hW
  obtain ⟨i0, hi, hz0, hz1, hz2⟩ := info_parts infoI4
  have hmk := fun W => run_mk1 (P := Tryz.prog) 28 3 i0 (.int .i64 0) Tryz.underlying28 hi hz0 hz1 rfl (vFaces ns ls).length (by rw [hz2]; omega) (by omega) W
  clear hi hz0 hz1 hz2
  go_enter Tryz.func55, Tryz.ntmps55
  go_wp2_with fail
  have k0 : (w.alloc (.cells #[.slice A ns.length c, .slice B ls.length d] 27)).cell? ⟨w.heap.size, 0, none⟩ = some (.slice A ns.length c) := by go_simp
  have k1 : (w.alloc (.cells #[.slice A ns.length c, .slice B ls.length d] 27)).cell? ⟨w.heap.size, 1, none⟩ = some (.slice B ls.length d) := by go_simp
  have hx : Ext w (w.alloc (.cells #[.slice A ns.length c, .slice B ls.length d] 27)) := (by repeat first | exact Ext.refl _ | assumption | refine Ext.drew ?_ | refine Ext.alloc ?_ _ | refine Ext.setCell ?_ (by simp) | refine Ext.setCell ?_ (by simp; omega) | refine Ext.trans ?_ (by assumption))
  have hsz1 : w.heap.size + 1 = (w.alloc (.cells #[.slice A ns.length c, .slice B ls.length d] 27)).heap.size := by simp
  generalize (w.alloc (.cells #[.slice A ns.length c, .slice B ls.length d] 27)) = w0 at *
  (try rw [hsz1])
  refine (facesAt_i _ _ _ _ ns ls _ (h.ext hx)).mono ?_
  rintro e w1 ⟨v, rfl, hS, -, hb⟩
  obtain ⟨gS, cS, rfl, -, -, -, -, -⟩ := hS.gi_ (j := 0) (by rw [HSL.out]; omega)
  rw [HSL.out] at hS
  rw [HSL.out]
  have k0 := hb.lit k0
  have k1 := hb.lit k1
  have hx := hx.trans hb
  clear hb
  go_wp2_with fail
  refine (FacesOf_i _ _ _ _ ns ls _ (h.ext hx)).mono ?_
  rintro e w2 ⟨v, rfl, hF, -, hb⟩
  have k0 := hb.lit k0
  have k1 := hb.lit k1
  have hS := hS.ext hb
  have hx := hx.trans hb
  clear hb
  obtain ⟨A1, c1, rfl, -⟩ := hF.shape
  clear hF
  generalize hSS : vSides ns ls = S at *
  clear hSS
  generalize hnn : (vFaces ns ls).length = n at *
  clear hnn
  go_wp2_with fail
  clear hmk
  have hb0 : OwI (w2.alloc (.cells (List.replicate n (Value.int .i64 0)).toArray 3)) w2.heap.size (.slice (some ⟨w2.heap.size, 0, none⟩) (List.replicate n (0 : Int)).length (List.replicate n (0 : Int)).length) (List.replicate n 0) :=
    OwI.new (by rw [List.map_replicate]; exact Bk.new _ _ rfl) (Nat.le_refl _) (by simp; unfold maxLen; omega)
  rw [List.length_replicate] at hb0
  have hre : (List.replicate n (Value.int .i64 0)).toArray = Array.replicate n (Value.int .i64 0) := by simp
  rw [hre] at hb0
  clear hre
  have HS0 : Hid (List.replicate n (0 : Int) = tab n (fun f => (nbS S f 0 : Nat))) := Lib.hid (by rw [← tab_rep]; exact tab_congr (fun _ _ => rfl))
  rw [HS0.out] at hb0
  have hx2 : Ext w2 (w2.alloc (.cells (Array.replicate n (Value.int .i64 0)) 3)) := (by repeat first | exact Ext.refl _ | assumption | refine Ext.drew ?_ | refine Ext.alloc ?_ _ | refine Ext.setCell ?_ (by simp) | refine Ext.setCell ?_ (by simp; omega) | refine Ext.trans ?_ (by assumption))
  generalize (w2.alloc (.cells (Array.replicate n (Value.int .i64 0)) 3)) = w3 at *
  generalize hg0 : w2.heap.size = g0 at *
  have HG0 := Lib.hid hg0
  clear hg0 HS0
  have HTL := Lib.hid (tab_len n)
  go_loopw [5, 6, 7] (fun i _ _ wr => ∃ j : Nat, j ≤ ls.length ∧ i = .int .i64 j ∧ OwI wr g0 (.slice (some ⟨g0, 0, none⟩) n n) (tab n (fun f => (nbS S f j : Nat))) ∧ Ext w2 wr) (fun i _ _ _ => ls.length - (intOf i).toNat)
  case atStart => exact ⟨0, by omega, rfl, hb0, hx2⟩
  case round =>
    clear hb0 hx2
    obtain ⟨j, hj, rfl, hv, hxr⟩ := hrel
    obtain ⟨wo, rfl⟩ : ∃ x : World, x = wr := ⟨_, rfl⟩
    by_cases hlt : j < ls.length
    · obtain ⟨⟨a, ea, ha⟩, ⟨b, eb, hb'⟩⟩ := HAB.out j hlt
      have c1 := ((hS.ext hxr).cel (j := 2 * j) (by rw [HSL.out]; omega)).1
      have c2 := ((hS.ext hxr).cel (j := 2 * j + 1) (by rw [HSL.out]; omega)).1
      have y1 : ((2 * j : Nat) : Int) = 2 * (j : Int) := by omega
      have y2 : ((2 * j + 1 : Nat) : Int) = 2 * (j : Int) + 1 := by omega
      rw [y1, ea] at c1
      rw [y2, eb] at c2
      have z1 : (2 * (j : Int)).toNat = 2 * j := by omega
      have z2 : (2 * (j : Int) + 1).toNat = 2 * j + 1 := by omega
      have z3 : 2 * (j : Int) < 2 * (ls.length : Int) := by omega
      have z4 : 2 * (j : Int) + 1 < 2 * (ls.length : Int) := by omega
      have HST : a ≠ b → Hid (((tab n (fun f => (nbS S f j : Nat))).set a ((nbS S a j ||| 2 ^ b : Nat) : Int)).set b ((nbS S b j ||| 2 ^ a : Nat) : Int) = tab n (fun f => (nbS S f (j + 1) : Nat))) := fun h' => Lib.hid (nbT_step ea eb h')
      have HSM : a = b → Hid (tab n (fun f => (nbS S f (j + 1) : Nat)) = tab n (fun f => (nbS S f j : Nat))) := fun h' => Lib.hid (nbT_same ea eb h')
      have hla := nbS_lt HAB.out a j hj
      have hlb := nbS_lt HAB.out b j hj
      have h40 : 2 ^ n ≤ 2 ^ 40 := Nat.pow_le_pow_right (by omega) hFl
      have hoa := or2_w (nbS S a j) b (by omega) (by omega)
      have hob := or2_w (nbS S b j) a (by omega) (by omega)
      have hga : gi (tab n (fun f => (nbS S f j : Nat))) (a : Nat) = (nbS S a j : Nat) := tab_gi _ ha
      have hgb : gi (tab n (fun f => (nbS S f j : Nat))) (b : Nat) = (nbS S b j : Nat) := tab_gi _ hb'
      have hgb2 : a ≠ b → Hid (gi ((tab n (fun f => (nbS S f j : Nat))).set a ((nbS S a j ||| 2 ^ b : Nat) : Int)) (b : Nat) = (nbS S b j : Nat)) := fun h' => Lib.hid (by
        rw [tab_set, tab_gi _ hb', if_neg (by omega)])
      have HTLj := Lib.hid (HTL.out (fun f => (nbS S f j : Nat)))
      clear y1 y2 ea eb hla hlb h40
      generalize nbS S a j = qa at *
      generalize nbS S b j = qb at *
      generalize hT1 : tab n (fun f => (nbS S f j : Nat)) = T at *
      generalize hT2 : tab n (fun f => (nbS S f (j + 1) : Nat)) = T2 at *
      have HT2 := Lib.hid hT2
      clear hT1 hT2
      have hai : (a : Int) < n := by omega
      have hbi : (b : Int) < n := by omega
      go_upto_region 6 with fail
      go_cut [6, 7] (fun s s' wx => s = .int .i64 (a : Int) ∧ s' = .int .i64 (b : Int) ∧ Ext wo wx)
      case first =>
        have d0 := cell_regrown c1
        have d1 := cell_regrown c2
        refine rx_open [(true, 0, some 21, 8), (true, 0, some 22, 32), (true, 2, some 23, 4194304), (true, 5, some 24, 10485760), (true, 8, some 25, 16777216), (true, 0, some 26, 8), (true, 0, some 27, 32), (true, 64, some 28, 134217728), (true, 128, some 29, 268435456), (true, 288, some 30, 603979776), (true, 512, some 31, 1073741824), (true, 31, some 6, 33554432), (true, 4095, some 7, 2147483648)] 0 13 mixd rfl (by kernel_rfl) (by kernel_rfl) (by kernel_rfl) ?_
        refine rx_run (run := [0, 1, 2, 3, 4, 5, 6, 7, 8, 9, 10, 11, 12]) (k := 0) (m' := 8191) rfl (by kernel_rfl) (by kernel_rfl) (by kernel_rfl) (fm_cons rfl <| fm_cons rfl <| fm_cons rfl <| fm_cons rfl <| fm_cons rfl <| fm_cons rfl <| fm_cons rfl <| fm_cons rfl <| fm_cons rfl <| fm_cons rfl <| fm_cons rfl <| fm_cons rfl <| fm_cons rfl <| List.filterMap_nil) (by repeat first | exact Ext.refl _ | assumption | refine Ext.drew ?_ | refine Ext.alloc ?_ _ | refine Ext.setCell ?_ (by simp) | refine Ext.setCell ?_ (by simp; omega) | refine Ext.trans ?_ (by assumption)) ?_
        repeat (go_big_quiet_step ((fail)))
        refine wpQuiet_nil ?_
        refine rx_end (by kernel_rfl) ?_
        all_goals (go_wp2; go_meet; exact ⟨rfl, rfl, (by repeat first | exact Ext.refl _ | assumption | refine Ext.drew ?_ | refine Ext.alloc ?_ _ | refine Ext.setCell ?_ (by simp) | refine Ext.setCell ?_ (by simp; omega) | refine Ext.trans ?_ (by assumption))⟩)
      case rest =>
        obtain ⟨rfl, rfl, hb⟩ := hcut
        obtain ⟨w4, rfl⟩ : ∃ x : World, x = wc := ⟨_, rfl⟩
        have hxr := hxr.trans hb
        have hv := hv.ext hb
        clear hb c1 c2
        by_cases hab : a = b
        · have hq : ((a : Int) != (b : Int)) = false := by simp [hab]
          have Hs := HSM hab
          clear HST HSM hgb2 hab
          go_wp2
          go_roundw
          case rel => exact ⟨j + 1, by omega, by go_num, by rw [HT2.out, Hs.out]; exact hv, hxr⟩
          case measure => first | (simp [intOf]; done) | (simp [intOf]; omega)
        · have hq : ((a : Int) != (b : Int)) = true := by simp; omega
          have Hs := HST hab
          have Hg2 := hgb2 hab
          clear HST HSM hgb2 hab
          obtain ⟨e1, e2⟩ := hv.cel (j := a) (by rw [HTLj.out]; exact ha)
          rw [hga] at e1
          have hset := (hv.ext (Ext.drew (Ext.refl w4))).set_ HTLj.out.symm a ((qa ||| 2 ^ b : Nat) : Int)
          have Hset := Lib.hid hset
          clear hset hv
          go_wp2_with fail
          go_cut [6, 7] (fun s s' wx => s = .int .i64 (a : Int) ∧ s' = .int .i64 (b : Int) ∧ OwI wx g0 (.slice (some ⟨g0, 0, none⟩) n n) (T.set a ((qa ||| 2 ^ b : Nat) : Int)) ∧ Ext w2 wx)
          case first =>
            have d0 := cell_regrown e1
            refine rx_open [(true, 0, some 35, 16), (true, 0, some 36, 64), (true, 3, some 37, 103079215104), (true, 4, some 38, 137438953472), (true, 0, some 39, 128), (true, 16, some 40, 549755813888), (true, 40, some 41, 1374389534720), (true, 127, some 42, 103079215104), (false, 255, none, 6597069766656)] 256 9 mixd rfl (by kernel_rfl) (by kernel_rfl) (by kernel_rfl) ?_
            refine rx_run (run := [0, 1, 2, 3, 4, 5, 6, 7]) (k := 1) (m' := 255) rfl (by kernel_rfl) (by kernel_rfl) (by kernel_rfl) (fm_cons rfl <| fm_cons rfl <| fm_cons rfl <| fm_cons rfl <| fm_cons rfl <| fm_cons rfl <| fm_cons rfl <| fm_cons rfl <| List.filterMap_nil) (by repeat first | exact Ext.refl _ | assumption | refine Ext.drew ?_ | refine Ext.alloc ?_ _ | refine Ext.setCell ?_ (by simp) | refine Ext.setCell ?_ (by simp; omega) | refine Ext.trans ?_ (by assumption)) ?_
            repeat (go_big_quiet_step ((fail)))
            refine wpQuiet_nil ?_
            refine rx_op 8 (k := 0) (m' := 511) rfl rfl (by kernel_rfl) (by kernel_rfl) ?_
            go_wp2
            refine rx_lst (by decide) ?_
            refine rx_end (by kernel_rfl) ?_
            all_goals (go_wp2; go_meet; exact ⟨rfl, rfl, Hset.out, Ext.drew (Ext.setCell (p := ⟨g0, a, none⟩) hxr (by rw [HG0.out]; exact Nat.le_refl _))⟩)
          case rest =>
            clear hxr e1 e2 Hset
            obtain ⟨rfl, rfl, hv, hxr⟩ := hcut
            obtain ⟨w5, rfl⟩ : ∃ x : World, x = wc := ⟨_, rfl⟩
            obtain ⟨e1, e2⟩ := hv.cel (j := b) (by rw [List.length_set, HTLj.out]; exact hb')
            rw [Hg2.out] at e1
            have hset := (hv.ext (Ext.drew (Ext.refl w5))).set_ (by rw [List.length_set, HTLj.out]) b ((qb ||| 2 ^ a : Nat) : Int)
            rw [Hs.out] at hset
            have Hset := Lib.hid hset
            clear hset hv
            go_wp2_with fail
            have d0 := cell_regrown e1
            refine rx_open [(true, 0, some 43, 16), (true, 0, some 44, 128), (true, 3, some 45, 26388279066624), (true, 4, some 46, 35184372088832), (true, 0, some 47, 64), (true, 16, some 48, 140737488355328), (true, 40, some 49, 351843720888320), (true, 127, some 50, 26388279066624), (false, 255, none, 1688849860263936)] 256 9 mixd rfl (by kernel_rfl) (by kernel_rfl) (by kernel_rfl) ?_
            refine rx_run (run := [0, 1, 2, 3, 4, 5, 6, 7]) (k := 1) (m' := 255) rfl (by kernel_rfl) (by kernel_rfl) (by kernel_rfl) (fm_cons rfl <| fm_cons rfl <| fm_cons rfl <| fm_cons rfl <| fm_cons rfl <| fm_cons rfl <| fm_cons rfl <| fm_cons rfl <| List.filterMap_nil) (by repeat first | exact Ext.refl _ | assumption | refine Ext.drew ?_ | refine Ext.alloc ?_ _ | refine Ext.setCell ?_ (by simp) | refine Ext.setCell ?_ (by simp; omega) | refine Ext.trans ?_ (by assumption)) ?_
            repeat (go_big_quiet_step ((fail)))
            refine wpQuiet_nil ?_
            refine rx_op 8 (k := 0) (m' := 511) rfl rfl (by kernel_rfl) (by kernel_rfl) ?_
            go_wp2
            refine rx_lst (by decide) ?_
            refine rx_end (by kernel_rfl) ?_
            go_wp2
            go_roundw
            case rel => exact ⟨j + 1, by omega, by go_num, by rw [HT2.out]; exact Hset.out, Ext.drew (Ext.setCell (p := ⟨g0, b, none⟩) hxr (by rw [HG0.out]; exact Nat.le_refl _))⟩
            case measure => first | (simp [intOf]; done) | (simp [intOf]; omega)
    · obtain rfl : j = ls.length := by omega
      go_wp2
      go_ret
      exact ⟨_, rfl, by rw [HV.out]; exact hv.more (by rw [← HG0.out]; exact hx.size), hx.trans hxr⟩
end Go.Proofs.YtdhmjhoaegdfjaaGreat
