import Derived.Test.YtdhmjhoaegdfjaaGreatD29
namespace Go.Proofs.YtdhmjhoaegdfjaaGreat
open Go.RowKit Go.Sort Go.BigFrame

def nbN (ns ls : List P2) (f : Nat) : Nat := nbS (vSides ns ls) f ls.length
def vGreedyColors (ns ls : List P2) : List Int := if whole ns ls = true then nl (gcN (nbN ns ls) (vFaces ns ls).length) else []
theorem vGreedyColors_len (ns ls : List P2) : (vGreedyColors ns ls).length ≤ 1000 := by
  unfold vGreedyColors
  have := vFaces_len ns ls
  split
  · rw [nl_len, gcN_len]; omega
  · simp
theorem nbN_lt {ns ls : List P2} (hw : whole ns ls = true) (f : Nat) : nbN ns ls f < 2 ^ (vFaces ns ls).length := nbS_lt (fun _ hj => side_of hw hj) f ls.length (Nat.le_refl _)
theorem nbN_sym {ns ls : List P2} (hw : whole ns ls = true) (f g : Nat) : (nbN ns ls f).testBit g = (nbN ns ls g).testBit f := nb_sym (fun _ hj => side_of hw hj) f g
theorem vNb_len (ns ls : List P2) : (vNb ns ls).length = (vFaces ns ls).length := tab_len _ _
theorem vNb_at {ns ls : List P2} {f : Nat} (h : f < (vFaces ns ls).length) : gi (vNb ns ls) (f : Nat) = (nbN ns ls f : Nat) := tab_gi _ h
theorem tkN_yes {N : Nat → Nat} {L : List Nat} {f j : Nat} (h : (N f).testBit j = true) : tkN N L f (j + 1) = tkN N L f j ||| 2 ^ (L.getD j 0) := if_pos h
theorem tkN_no {N : Nat → Nat} {L : List Nat} {f j : Nat} (h : (N f).testBit j = false) : tkN N L f (j + 1) = tkN N L f j := if_neg (by simp [h])
theorem meas1 {r s j a : Nat} (h : s < r) : (r + 1 - (s + 1)) * (j + 2) + (j - 0) < (r + 1 - s) * (j + 2) + (j - a) := by
  obtain ⟨q, hq⟩ : ∃ q, r = s + 1 + q := ⟨r - (s + 1), by omega⟩
  subst hq
  have e1 : s + 1 + q + 1 - (s + 1) = q + 1 := by omega
  have e2 : s + 1 + q + 1 - s = q + 1 + 1 := by omega
  rw [e1, e2, Nat.succ_mul (q + 1) (j + 2)]
  omega

set_option maxRecDepth 100000 in
set_option maxHeartbeats 4000000 in
theorem GreedyColors_s (A B : Option Addr) (c d : Nat) (ns ls : List P2) (w : World) (h : Wn w A c B d ns ls) :
    Calls Tryz.prog 50 #[.agg #[.slice A ns.length c, .slice B ls.length d]] w fun e w' => ∃ v, e = .returned v ∧ OwI w' w.heap.size v (vGreedyColors ns ls) ∧ Ext w w' := by
  have HV : Hid (vGreedyColors ns ls = if whole ns ls = true then nl (gcN (nbN ns ls) (vFaces ns ls).length) else []) := Lib.hid rfl
  by_cases hw : whole ns ls = true
  · rw [if_pos hw] at HV
    have hFl := vFaces_len ns ls
    have HM : Hid (∀ a b, bsJ (vSides ns ls) ls.length a b = (nbN ns ls b).testBit a) := Lib.hid (fun a b => nbN_sym hw a b)
    have HWW := Lib.hid hw
    go_enter Tryz.func50, Tryz.ntmps50
    go_wp2_with fail
    have hz0 : OzI ((w.alloc (.cells #[.slice A ns.length c, .slice B ls.length d] 27)).alloc (.cells #[] 3)) w.heap.size w.heap.size (.slice (some ⟨w.heap.size + 1, 0, none⟩) 0 0) [] := OzI.zero _ (by omega) (by simp)
    refine (IsWhole_s _ _ _ _ ns ls _ (h.ext (by repeat first | exact Ext.refl _ | assumption | refine Ext.drew ?_ | refine Ext.alloc ?_ _ | refine Ext.setCell ?_ (by simp) | refine Ext.setCell ?_ (by simp; omega) | refine Ext.trans ?_ (by assumption)))).mono ?_
    rintro e w1 ⟨rfl, hb⟩
    have k0 := hb.lit (b := w.heap.size) (o := 0) (v := .slice A ns.length c) (by go_simp)
    have k1 := hb.lit (b := w.heap.size) (o := 1) (v := .slice B ls.length d) (by go_simp)
    have hx : Ext w w1 := (by repeat first | exact Ext.refl _ | assumption | refine Ext.drew ?_ | refine Ext.alloc ?_ _ | refine Ext.setCell ?_ (by simp) | refine Ext.setCell ?_ (by simp; omega) | refine Ext.trans ?_ (by assumption))
    have hz0 := hz0.ext hb
    clear hb
    rw [hw]
    clear hw
    go_wp2_with fail
    refine (l13Beside_s _ _ _ _ ns ls _ (h.ext hx) HWW.out).mono ?_
    rintro e w2 ⟨v, rb, rfl, hM, hb⟩
    have hz1 := (hz0.ext hb).up (B' := w2.heap.size) rfl ⟨_, rfl⟩ (Nat.le_refl _)
    clear hz0
    have k0 := hb.lit k0
    have k1 := hb.lit k1
    have hx := hx.trans hb
    clear hb
    have hww := hx.size
    obtain ⟨A4, c4, rfl⟩ := hM.shape
    generalize bsJ (vSides ns ls) ls.length = M at *
    generalize nbN ns ls = N at *
    generalize (vFaces ns ls).length = n at *
    clear k0 k1
    go_wp2_with fail
    go_loopw [3, 5, 6, 7] (fun q k _ _ wr => ∃ j : Nat, j ≤ n ∧ k = .int .i64 j ∧ OzI wr w.heap.size w2.heap.size q (nl (gcN N j)) ∧ Ext w2 wr) (fun _ k _ _ _ => n - (intOf k).toNat)
    case atStart => exact ⟨0, by omega, rfl, hz1, Ext.refl _⟩
    case round =>
      clear hz1
      obtain ⟨j, hj, rfl, hv, hxr⟩ := hrel
      obtain ⟨w3, rfl⟩ : ∃ x : World, x = wr := ⟨_, rfl⟩
      by_cases hlt : j < n
      · have hji : (j : Int) < n := by omega
        have hgl := gcN_len N j
        obtain ⟨u1, u2, u3⟩ := gcN_mex N (f := j) (by omega)
        have HG1 : Hid (gcN N (j + 1) = gcN N j ++ [mexF (usd N (gcN N j) j j) 64 0]) := Lib.hid rfl
        have HUI := Lib.hid (fun m => usd_iff (N := N) (L := gcN N j) (f := j) (n := m) j)
        have HMJ : Hid (∀ a, M a j = (N j).testBit a) := Lib.hid (fun a => HM.out a j)
        have HU1 := Lib.hid u1
        have HU2 := Lib.hid u2
        clear u1 u2
        have hvo := Lib.hid (hv.own (by omega))
        generalize mexF (usd N (gcN N j) j j) 64 0 = r at *
        generalize gcN N j = L at *
        generalize usd N L j j = U at *
        generalize N j = Q at *
        go_wp2_with fail
        go_loop [6, 7] (fun s i => ∃ p a : Nat, a ≤ j ∧ p ≤ r ∧ i = .int .i64 a ∧ s = .int .i64 p ∧ Hid (∀ m, m < p → U m = true) ∧ Hid (∀ i, i < a → Q.testBit i = true → L.getD i 0 ≠ p)) (fun s i => (r + 1 - (intOf s).toNat) * (j + 2) + (j - (intOf i).toNat))
        case atStart => exact ⟨0, 0, by omega, by omega, rfl, rfl, Lib.hid (fun m hm => by omega), Lib.hid (fun i hi => by omega)⟩
        case round =>
          obtain ⟨p, a, ha, hp, rfl, rfl, hm, hi⟩ := hrel
          by_cases hat : a < j
          · have hai : (a : Int) < j := by omega
            have han : (a : Int) < n := by omega
            obtain ⟨g1, cg, e1, r1⟩ := (hM.ext hxr).at_ (i := a) (by omega)
            obtain ⟨rfl, rfl⟩ : A4 = some ⟨g1, 0, none⟩ ∧ c4 = cg := by simpa using e1
            have m1 := ((hM.ext hxr).cel (i := a) (j := j) (by omega) (by omega)).1
            rw [HMJ.out a] at m1
            clear e1
            by_cases ht : Q.testBit a = true
            · rw [ht] at m1
              obtain ⟨gL, cL, rfl, -, -, -, -, -⟩ := hvo.out.gi_ (j := a) (by rw [nl_len, hgl]; exact hat)
              have c2 := (hvo.out.cel (j := a) (by rw [nl_len, hgl]; exact hat)).1
              rw [nl_gi L (by omega)] at c2
              rw [nl_len, hgl]
              by_cases hy : L.getD a 0 = p
              · have HU : Hid (U p = true) := Lib.hid ((HUI.out p).2 ⟨a, hat, ht, hy⟩)
                have hpr : p < r := by
                  rcases Nat.lt_or_ge p r with h1 | h1
                  · exact h1
                  · have e : p = r := by omega
                    have := HU.out
                    rw [e, HU1.out] at this
                    cases this
                have Hm2 : Hid (∀ m, m < p + 1 → U m = true) := Lib.hid (fun m h' => by
                  rcases Nat.lt_succ_iff_lt_or_eq.1 h' with h2 | h2
                  · exact hm.out m h2
                  · rw [h2]; exact HU.out)
                rw [hy] at c2
                clear ht hy hm hi
                go_wp2
                go_round
                case rel => exact ⟨p + 1, 0, by omega, by omega, by go_num, by go_num, Hm2, Lib.hid (fun i hi => by omega)⟩
                case measure => simpa [intOf] using meas1 (a := a) (j := j) hpr
              · have hq : (((L.getD a 0 : Nat) : Int) == (p : Int)) = false := beq_eq_false_iff_ne.2 (by omega)
                have Hi2 : Hid (∀ i, i < a + 1 → Q.testBit i = true → L.getD i 0 ≠ p) := Lib.hid (fun i h' hb => by
                  rcases Nat.lt_succ_iff_lt_or_eq.1 h' with h2 | h2
                  · exact hi.out i h2 hb
                  · rw [h2]; exact hy)
                generalize L.getD a 0 = y at *
                clear ht hy hi
                go_wp2
                go_round
                case rel => exact ⟨p, a + 1, by omega, hp, by go_num, rfl, hm, Hi2⟩
                case measure => simp [intOf]; omega
            · have ht' := eq_false_of_ne_true ht
              rw [ht'] at m1
              have Hi2 : Hid (∀ i, i < a + 1 → Q.testBit i = true → L.getD i 0 ≠ p) := Lib.hid (fun i h' hb => by
                rcases Nat.lt_succ_iff_lt_or_eq.1 h' with h2 | h2
                · exact hi.out i h2 hb
                · rw [h2] at hb; exact absurd hb ht)
              clear ht ht' hi
              go_wp2
              go_round
              case rel => exact ⟨p, a + 1, by omega, hp, by go_num, rfl, hm, Hi2⟩
              case measure => simp [intOf]; omega
          · obtain rfl : a = j := by omega
            have hpr : p = r := by
              refine mex_uniq HU1.out HU2.out ?_ hm.out
              rw [Bool.eq_false_iff]
              intro e
              obtain ⟨i, h1, h2, h3⟩ := (HUI.out p).1 e
              exact hi.out i h1 h2 h3
            subst hpr
            clear hm hi
            have hsw := hxr.size
            go_wp2_with (at_builtin; refine az_int _ _ rfl rfl rfl (hv.ext ((Ext.refl w3).alloc _)) (g := w3.heap.size) (y := p) (by first | rfl | simp) (by go_simp) (by rw [nl_len, hgl]; omega) (by simp; omega) ?_)
            intro v' w' h1 h3
            go_wp2
            go_roundw
            case rel => exact ⟨a + 1, by omega, by go_num, by rw [HG1.out, nl_snoc]; exact h1, h3 _ (hxr.trans (by repeat first | exact Ext.refl _ | assumption | refine Ext.drew ?_ | refine Ext.alloc ?_ _ | refine Ext.setCell ?_ (by simp) | refine Ext.setCell ?_ (by simp; omega) | refine Ext.trans ?_ (by assumption))) (Nat.le_refl _)⟩
            case measure => first | (simp [intOf]; done) | (simp [intOf]; omega)
      · obtain rfl : j = n := by omega
        go_wp2
        go_ret
        exact ⟨_, rfl, by rw [HV.out]; exact hv.own (by omega), hx.trans hxr⟩
  · rw [if_neg hw] at HV
    have hw' := eq_false_of_ne_true hw
    go_enter Tryz.func50, Tryz.ntmps50
    go_wp2_with fail
    have hz0 : OzI ((w.alloc (.cells #[.slice A ns.length c, .slice B ls.length d] 27)).alloc (.cells #[] 3)) w.heap.size w.heap.size (.slice (some ⟨w.heap.size + 1, 0, none⟩) 0 0) [] := OzI.zero _ (by omega) (by simp)
    refine (IsWhole_s _ _ _ _ ns ls _ (h.ext (by repeat first | exact Ext.refl _ | assumption | refine Ext.drew ?_ | refine Ext.alloc ?_ _ | refine Ext.setCell ?_ (by simp) | refine Ext.setCell ?_ (by simp; omega) | refine Ext.trans ?_ (by assumption)))).mono ?_
    rintro e w1 ⟨rfl, hb⟩
    have k0 := hb.lit (b := w.heap.size) (o := 0) (v := .slice A ns.length c) (by go_simp)
    have k1 := hb.lit (b := w.heap.size) (o := 1) (v := .slice B ls.length d) (by go_simp)
    have hx : Ext w w1 := (by repeat first | exact Ext.refl _ | assumption | refine Ext.drew ?_ | refine Ext.alloc ?_ _ | refine Ext.setCell ?_ (by simp) | refine Ext.setCell ?_ (by simp; omega) | refine Ext.trans ?_ (by assumption))
    have hz0 := hz0.ext hb
    clear hb
    rw [hw']
    go_wp2
    go_ret
    exact ⟨_, rfl, by rw [HV.out]; exact hz0.own (Nat.le_refl _), hx⟩
end Go.Proofs.YtdhmjhoaegdfjaaGreat
