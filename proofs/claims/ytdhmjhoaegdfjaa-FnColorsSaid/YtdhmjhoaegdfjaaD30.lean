import Derived.Test.YtdhmjhoaegdfjaaD29
namespace Go.Proofs.Ytdhmjhoaegdfjaa
open Go.RowKit Go.Sort Go.BigFrame

def nbN (ns ls : List P2) (f : Nat) : Nat := nbS (vSides ns ls) f ls.length
def vGreedyColors (ns ls : List P2) : List Int := if whole ns ls = true then nl (gcN (nbN ns ls) (vFaces ns ls).length) else []
theorem vGreedyColors_len (ns ls : List P2) : (vGreedyColors ns ls).length ≤ 1000 := by
  unfold vGreedyColors
  have := vFaces_len ns ls
  split
  · rw [nl_len, gcN_len]; omega
  · simp
theorem nbN_lt {ns ls : List P2} (hw : whole ns ls = true) (f : Nat) : nbN ns ls f < 2 ^ (vFaces ns ls).length := nbS_lt (fun _ hj => side_of hw hj) f ls.length (Nat.le_refl _)
theorem nbN_sym {ns ls : List P2} (hw : whole ns ls = true) (f g : Nat) : (nbN ns ls f).testBit g = (nbN ns ls g).testBit f := nb_sym (fun _ hj => side_of hw hj) f g
theorem vNb_len (ns ls : List P2) : (vNb ns ls).length = (vFaces ns ls).length := tab_len _ _
theorem vNb_at {ns ls : List P2} {f : Nat} (h : f < (vFaces ns ls).length) : gi (vNb ns ls) (f : Nat) = (nbN ns ls f : Nat) := tab_gi _ h
theorem tkN_yes {N : Nat → Nat} {L : List Nat} {f j : Nat} (h : (N f).testBit j = true) : tkN N L f (j + 1) = tkN N L f j ||| 2 ^ (L.getD j 0) := if_pos h
theorem tkN_no {N : Nat → Nat} {L : List Nat} {f j : Nat} (h : (N f).testBit j = false) : tkN N L f (j + 1) = tkN N L f j := if_neg (by simp [h])
theorem meas1 {r s j a : Nat} (h : s < r) : (r + 1 - (s + 1)) * (j + 2) + (j - 0) < (r + 1 - s) * (j + 2) + (j - a) := by
  obtain ⟨q, hq⟩ : ∃ q, r = s + 1 + q := ⟨r - (s + 1), by omega⟩
  subst hq
  have e1 : s + 1 + q + 1 - (s + 1) = q + 1 := by omega
  have e2 : s + 1 + q + 1 - s = q + 1 + 1 := by omega
  rw [e1, e2, Nat.succ_mul (q + 1) (j + 2)]
  omega

set_option maxRecDepth 100000 in
set_option maxHeartbeats 4000000 in
theorem GreedyColors_i (A B : Option Addr) (c d : Nat) (ns ls : List P2) (w : World) (h : Wn w A c B d ns ls) :
    Calls Try.prog 10 #[.agg #[.slice A ns.length c, .slice B ls.length d]] w fun e w' => ∃ v, e = .returned v ∧ OwI w' w.heap.size v (vGreedyColors ns ls) ∧ Ext w w' := by
  have HV : Hid (vGreedyColors ns ls = if whole ns ls = true then nl (gcN (nbN ns ls) (vFaces ns ls).length) else []) := Lib.hid rfl
  by_cases hw : whole ns ls = true
  · rw [if_pos hw] at HV
    have hFl := vFaces_len ns ls
    have hFp := faces_pos hw
    have HNB := Lib.hid (nbN_lt hw)
    have HZL := Lib.hid (vNb_len ns ls)
    have HZA : Hid (∀ f, f < (vFaces ns ls).length → gi (vNb ns ls) (f : Nat) = (nbN ns ls f : Nat)) := Lib.hid (fun f hf => vNb_at hf)
    have HWW := Lib.hid hw
    go_enter Try.func10, Try.ntmps10
    go_wp2_with fail
    have k0 : (w.alloc (.cells #[.slice A ns.length c, .slice B ls.length d] 27)).cell? ⟨w.heap.size, 0, none⟩ = some (.slice A ns.length c) := by go_simp
    have k1 : (w.alloc (.cells #[.slice A ns.length c, .slice B ls.length d] 27)).cell? ⟨w.heap.size, 1, none⟩ = some (.slice B ls.length d) := by go_simp
    have hx : Ext w (w.alloc (.cells #[.slice A ns.length c, .slice B ls.length d] 27)) := (by repeat first | exact Ext.refl _ | assumption | refine Ext.drew ?_ | refine Ext.alloc ?_ _ | refine Ext.setCell ?_ (by simp) | refine Ext.setCell ?_ (by simp; omega) | refine Ext.trans ?_ (by assumption))
    have hsz1 : w.heap.size + 1 = (w.alloc (.cells #[.slice A ns.length c, .slice B ls.length d] 27)).heap.size := by simp
    generalize (w.alloc (.cells #[.slice A ns.length c, .slice B ls.length d] 27)) = w0 at *
    (try rw [hsz1])
    refine (IsWhole_i _ _ _ _ ns ls _ (h.ext hx)).mono ?_
    rintro e w1 ⟨rfl, hb⟩
    have k0 := hb.lit k0
    have k1 := hb.lit k1
    have hx := hx.trans hb
    clear hb
    rw [hw]
    clear hw
    go_wp2_with fail
    refine (neighbors_c _ _ _ _ ns ls _ (h.ext hx) HWW.out).mono ?_
    rintro e w2 ⟨v, rfl, hS, hb⟩
    have hww := hx.size
    have k0 := hb.lit k0
    have k1 := hb.lit k1
    have hx := hx.trans hb
    clear hb
    obtain ⟨gS, cS, rfl, -, -, -, -, -⟩ := hS.gi_ (j := 0) (by rw [HZL.out]; omega)
    rw [HZL.out] at hS
    rw [HZL.out]
    have hsz := hx.size
    generalize vNb ns ls = Z at *
    generalize nbN ns ls = N at *
    generalize (vFaces ns ls).length = n at *
    clear k0 k1
    go_wp2_with fail
    go_loopw [3, 4, 5, 6, 7, 8, 15] (fun q _ _ _ _ _ i wr => ∃ j : Nat, j ≤ n ∧ i = .int .i64 j ∧ OzI wr w.heap.size w2.heap.size q (nl (gcN N j)) ∧ Ext w2 wr) (fun _ _ _ _ _ _ i _ => n - (intOf i).toNat)
    case atStart => exact ⟨0, by omega, rfl, .of (OwI.nil _ _), Ext.refl _⟩
    case round =>
      obtain ⟨j, hj, rfl, hv, hxr⟩ := hrel
      obtain ⟨w3, rfl⟩ : ∃ x : World, x = wr := ⟨_, rfl⟩
      by_cases hlt : j < n
      · have hji : (j : Int) < n := by omega
        have c1 := ((hS.ext hxr).cel (j := j) (by rw [HZL.out]; omega)).1
        rw [HZA.out j hlt] at c1
        have hgl := gcN_len N j
        have HLE := Lib.hid (gcN_le N j (by omega))
        obtain ⟨u1, u2, u3⟩ := gcN_mex N (f := j) (by omega)
        have HG1 : Hid (gcN N (j + 1) = gcN N j ++ [mexF (usd N (gcN N j) j j) 64 0]) := Lib.hid rfl
        have HTK := Lib.hid (fun b => tkN_bit N (gcN N j) j b j)
        have HTL := Lib.hid (fun a => tkN_lt N (gcN N j) j 40 (fun i hi => by have := gcN_le N j (by omega) i hi; omega) a)
        have HTY := Lib.hid (fun a (ha : (N j).testBit a = true) => tkN_yes (L := gcN N j) ha)
        have HTN := Lib.hid (fun a (ha : (N j).testBit a = false) => tkN_no (L := gcN N j) ha)
        have HT0 : Hid (tkN N (gcN N j) j 0 = 0) := Lib.hid rfl
        have hNB := HNB.out j
        have h40 : 2 ^ n ≤ 2 ^ 40 := Nat.pow_le_pow_right (by omega) hFl
        have hNB2 : N j < 2 ^ 62 := by omega
        have HU1 := Lib.hid u1
        have HU2 := Lib.hid u2
        clear u1 u2 hNB h40
        have hvo := Lib.hid (hv.own (by omega))
        generalize mexF (usd N (gcN N j) j j) 64 0 = r at *
        generalize gcN N j = L at *
        generalize usd N L j j = U at *
        generalize tkN N L j = T at *
        generalize N j = Q at *
        go_wp2_with fail
        go_loop [6, 7] (fun t g => ∃ a : Nat, a ≤ j ∧ g = .int .i64 a ∧ t = .int .i64 (T a : Nat)) (fun _ g => j - (intOf g).toNat)
        case atStart => exact ⟨0, by omega, rfl, by rw [HT0.out]; rfl⟩
        case round =>
          obtain ⟨a, ha, rfl, rfl⟩ := hrel
          by_cases hat : a < j
          · have hb := bit_w Q a (by omega) (by omega)
            have hai : (a : Int) < j := by omega
            have hTa := HTL.out a ha
            by_cases ht : Q.testBit a = true
            · have Hs := Lib.hid (HTY.out a ht)
              rw [if_pos ht] at hb
              have hla := HLE.out a hat
              obtain ⟨gL, cL, rfl, -, -, -, -, -⟩ := hvo.out.gi_ (j := a) (by rw [nl_len, hgl]; exact hat)
              have c2 := (hvo.out.cel (j := a) (by rw [nl_len, hgl]; exact hat)).1
              rw [nl_gi L (by omega)] at c2
              generalize L.getD a 0 = y at *
              have ho := or2_w (T a) y (by omega) (by omega)
              rw [nl_len, hgl]
              clear ht
              go_wp2
              go_round
              case rel => exact ⟨a + 1, by omega, by go_num, by rw [Hs.out]⟩
              case measure => simp [intOf]; omega
            · have Hs := Lib.hid (HTN.out a (eq_false_of_ne_true ht))
              rw [if_neg ht] at hb
              clear ht
              go_wp2
              go_round
              case rel => exact ⟨a + 1, by omega, by go_num, by rw [Hs.out]⟩
              case measure => simp [intOf]; omega
          · obtain rfl : a = j := by omega
            have hTa := HTL.out a (Nat.le_refl _)
            generalize T a = t at *
            go_wp2_with fail
            go_loop [8] (fun c => ∃ b : Nat, b ≤ r ∧ c = .int .i64 b) (fun c => r - (intOf c).toNat)
            case atStart => exact ⟨0, by omega, rfl⟩
            case round =>
              obtain ⟨b, hb, rfl⟩ := hrel
              have hbw := bit_w t b (by omega) (by omega)
              rw [HTK.out b] at hbw
              by_cases hbr : b < r
              · rw [if_pos (HU2.out b hbr)] at hbw
                go_wp2
                go_round
                case rel => exact ⟨b + 1, by omega, by go_num⟩
                case measure => simp [intOf]; omega
              · obtain rfl : b = r := by omega
                rw [if_neg (by rw [HU1.out]; simp)] at hbw
                have hsw := hxr.size
                go_wp2_with (at_builtin; refine az_int _ _ rfl rfl rfl (hv.ext ((Ext.refl w3).alloc _)) (g := w3.heap.size) (y := b) (by first | rfl | simp) (by go_simp) (by rw [nl_len, hgl]; omega) (by simp; omega) ?_)
                intro v' w' h1 h3
                go_wp2
                go_roundw
                case rel => exact ⟨a + 1, by omega, by go_num, by rw [HG1.out, nl_snoc]; exact h1, h3 _ (hxr.trans (by repeat first | exact Ext.refl _ | assumption | refine Ext.drew ?_ | refine Ext.alloc ?_ _ | refine Ext.setCell ?_ (by simp) | refine Ext.setCell ?_ (by simp; omega) | refine Ext.trans ?_ (by assumption))) (Nat.le_refl _)⟩
                case measure => first | (simp [intOf]; done) | (simp [intOf]; omega)
      · obtain rfl : j = n := by omega
        go_wp2
        go_ret
        exact ⟨_, rfl, by rw [HV.out]; exact hv.own (by omega), hx.trans hxr⟩
  · rw [if_neg hw] at HV
    have hw' := eq_false_of_ne_true hw
    go_enter Try.func10, Try.ntmps10
    go_wp2_with fail
    have k0 : (w.alloc (.cells #[.slice A ns.length c, .slice B ls.length d] 27)).cell? ⟨w.heap.size, 0, none⟩ = some (.slice A ns.length c) := by go_simp
    have k1 : (w.alloc (.cells #[.slice A ns.length c, .slice B ls.length d] 27)).cell? ⟨w.heap.size, 1, none⟩ = some (.slice B ls.length d) := by go_simp
    have hx : Ext w (w.alloc (.cells #[.slice A ns.length c, .slice B ls.length d] 27)) := (by repeat first | exact Ext.refl _ | assumption | refine Ext.drew ?_ | refine Ext.alloc ?_ _ | refine Ext.setCell ?_ (by simp) | refine Ext.setCell ?_ (by simp; omega) | refine Ext.trans ?_ (by assumption))
    have hsz1 : w.heap.size + 1 = (w.alloc (.cells #[.slice A ns.length c, .slice B ls.length d] 27)).heap.size := by simp
    generalize (w.alloc (.cells #[.slice A ns.length c, .slice B ls.length d] 27)) = w0 at *
    (try rw [hsz1])
    refine (IsWhole_i _ _ _ _ ns ls _ (h.ext hx)).mono ?_
    rintro e w1 ⟨rfl, hb⟩
    have k0 := hb.lit k0
    have k1 := hb.lit k1
    have hx := hx.trans hb
    clear hb
    rw [hw']
    go_wp2
    go_ret
    exact ⟨_, rfl, by rw [HV.out]; exact OwI.nil _ _, hx⟩

end Go.Proofs.Ytdhmjhoaegdfjaa
