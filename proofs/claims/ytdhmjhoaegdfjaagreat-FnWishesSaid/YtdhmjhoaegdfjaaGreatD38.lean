import Derived.Test.YtdhmjhoaegdfjaaGreatD37
namespace Go.Proofs.YtdhmjhoaegdfjaaGreat
open Go.RowKit Go.Sort Go.BigFrame

@[go_sem ↓] theorem neqnI (A : Option Addr) (n c : Nat) (w : World) : (binOp .neq 28 (.slice A n c) (.slice none 0 0)).run Tryz.prog w = .ok (.bool (!A.isNone)) w := by
  simp only [binOp]
  simp [Op.equal, Op.maxDepth, Lib.run_equalIn_slice_nil w 9999 28 3 A n c 0 0 Tryz.underlying28]
theorem in_nil (w : World) (B : Nat) (A : Option Addr) : In w B A [] := by unfold In Sl; simp
theorem srL_len {N : Nat → Nat} {wish : List Int} {nn d : Nat} {h : List Int} : (srL N wish nn d h).length ≤ h.length + d := by
  unfold srL
  cases hb : (sr tell1 N wish nn d none h).2 with
  | true =>
    obtain ⟨L, e, hl⟩ := sr1_len d none h hb
    rw [e]
    simp [hl]
  | false =>
    rw [sr1_none hb]
    simp
theorem wishes_ok {ns ls : List P2} {xs : List Int} (h : vWishesOk ns ls xs = true) : whole ns ls = true ∧ xs.length = (vFaces ns ls).length := by
  simp only [vWishesOk, Bool.and_eq_true, decide_eq_true_eq] at h
  exact h.1
def vFillWishes (ns ls : List P2) (xs : List Int) (n : Int) : List Int × Bool :=
  if vWishesOk ns ls xs = true ∧ wi n 1 6 = true then (srL (nbN ns ls) xs n.toNat xs.length [], srB (nbN ns ls) xs n.toNat xs.length []) else ([], false)
theorem vFillWishes_len (ns ls : List P2) (xs : List Int) (n : Int) (_h : xs.length ≤ 1048576) : (vFillWishes ns ls xs n).1.length ≤ 1000 := by
  unfold vFillWishes
  split
  · rename_i hc
    have h1 := (wishes_ok hc.1).2
    have h2 := vFaces_len ns ls
    have h3 : (srL (nbN ns ls) xs n.toNat xs.length []).length ≤ ([] : List Int).length + xs.length := srL_len
    simp at h3
    show (srL (nbN ns ls) xs n.toNat xs.length []).length ≤ 1000
    omega
  · simp

/-- what FillWishes's variable holds -/
abbrev InvF (r B0 : Nat) (g : Nat) (s : Option (List Int)) (w : World) : Prop :=
  ∃ A n c, Bk w r 28 [.slice A n c] ∧ OwI w B0 (.slice A n c) (s.getD []) ∧ g ≠ r ∧ (∀ q, (Value.slice A n c).ownBlock = some q → q ≠ r ∧ q ≠ g) ∧ (s = none → A = none) ∧ (∀ L, s = some L → 0 < L.length → A.isNone = false)
theorem fill_set {r B0 g : Nat} {s : Option (List Int)} {w : World} (h : InvF r B0 g s w) (i : Nat) (v : Value) : InvF r B0 g s (w.setCell ⟨g, i, none⟩ v) := by
  obtain ⟨A, n, c, hbk, ho, hgr, hq, h1, h2⟩ := h
  exact ⟨A, n, c, hbk.far (fun e => hgr e.symm) v, ho.gb (gb_set (gb_refl _ (some g)) i v) (fun q hq' e => (hq q hq').2 (by injection e with e; exact e.symm)), hgr, hq, h1, h2⟩
set_option maxHeartbeats 1000000 in
theorem fill_tell {r B0 g F : Nat} {s : Option (List Int)} {w : World} {L : List Int} (hB : B0 ≤ r) (hF : F ≤ 40) (hI : InvF r B0 g s w) (hL : OwI w g (.slice (some ⟨g, 0, none⟩) F F) L) (hLl : L.length = F) :
    Calls Tryz.prog 33 #[.slice (some ⟨g, 0, none⟩) F F, .pointer (some ⟨r, 0, none⟩)] w fun e w' => e = .returned (.bool (tell1 s L).2) ∧ InvF r B0 g (tell1 s L).1 w' ∧ w.grownBy w' (some r) := by
  subst hLl
  obtain ⟨A, n, c, hbk, -, hgr, -, -, -⟩ := hI
  have hin := hL.in'
  have hr := hbk.lt
  have hgl := (hL.blk g rfl).2
  go_enter Tryz.func33, Tryz.ntmps33
  go_wp2_with fail
  refine (copyInts_c _ _ L _ (by omega) hin).mono ?_
  rintro e w2 ⟨v, rfl, hv, hb⟩
  have hA : 0 < L.length → ∀ A2 n2 c2, v = .slice A2 n2 c2 → A2.isNone = false := fun hp A2 n2 c2 e => by
    obtain ⟨g2, c3, e2, -⟩ := hv.gi_ (j := 0) hp
    rw [e2] at e
    injection e with e
    rw [← e]
    rfl
  obtain ⟨A2, c2, rfl, -, -, -⟩ := hv.shape
  have hbk2 := hbk.ext hb
  have k1 : w2.cell? ⟨r, 0, none⟩ = some (.slice A n c) := hbk2.cell 0
  have k2 := hbk2.froz 0
  have hq : ∀ q, (Value.slice A2 L.length c2).ownBlock = some q → q ≠ r ∧ q ≠ g := fun q hq => by
    have := (hv.blk q hq).1
    exact ⟨by omega, by omega⟩
  have HQ := Lib.hid hq
  have HA := Lib.hid hA
  have HBK := Lib.hid hbk2
  have HA2 : ∀ L', some L = some L' → 0 < L'.length → A2.isNone = false := fun L' e hp => by
    obtain rfl := Option.some.inj e
    exact HA.out hp _ _ _ rfl
  have HA2 := Lib.hid HA2
  clear hq hA hbk2 hbk
  go_wp2
  go_ret
  exact ⟨rfl, ⟨A2, L.length, c2, HBK.out.set_ 0 _, (hv.gb (gb_set (gb_refl _ (some r)) 0 _) (fun q hq' e => (HQ.out q hq').1 (by injection e with e; exact e.symm))).more (by omega), hgr, HQ.out, (by intro e; simp [tell1] at e), HA2.out⟩, gb_set (gb_ext hb) 0 _⟩

set_option maxRecDepth 100000 in
set_option maxHeartbeats 4000000 in
theorem FillWishes_i0 (A B : Option Addr) (c d : Nat) (ns ls : List P2) (X : Option Addr) (xc : Nat) (xs : List Int) (F : Nat) (n : Int) (w : World) (h : Wn w A c B d ns ls) (hX : In w w.heap.size X xs) (hxl : xs.length ≤ 2000000) (hF : F = xs.length) :
    Calls Tryz.prog 9 #[.agg #[.slice A ns.length c, .slice B ls.length d], .slice X F xc, .int .i64 n] w fun e w' => ∃ v, e = .returned (.tuple #[v, .bool (vFillWishes ns ls xs n).2]) ∧ OwI w' w.heap.size v (vFillWishes ns ls xs n).1 ∧ Ext w w' := by
  have HV : Hid (vFillWishes ns ls xs n = if vWishesOk ns ls xs = true ∧ wi n 1 6 = true then (srL (nbN ns ls) xs n.toNat xs.length [], srB (nbN ns ls) xs n.toNat xs.length []) else ([], false)) := Lib.hid rfl
  have HF2 := Lib.hid hF
  clear hF
  by_cases hp : vWishesOk ns ls xs = true
  · by_cases hr : wi n 1 6 = true
    · rw [if_pos ⟨hp, hr⟩] at HV
      obtain ⟨hw, hlen⟩ := wishes_ok hp
      have hFl := vFaces_len ns ls
      have hFp := faces_pos hw
      have hF40 : F ≤ 40 := by have := HF2.out; omega
      have hF0 : 0 < F := by have := HF2.out; omega
      have HWW := Lib.hid hw
      have HLL : Hid (F = (vFaces ns ls).length) := Lib.hid (by rw [HF2.out]; exact hlen)
      obtain ⟨q1, q2⟩ := wi_iff.1 hr
      obtain ⟨k, rfl⟩ := Int.eq_ofNat_of_zero_le (show 0 ≤ n by omega)
      have hk6 : k ≤ 6 := by omega
      rw [Int.toNat_natCast, ← HF2.out] at HV
      have HFF := HF2
      clear hw hlen q1 q2
      go_enter Tryz.func9, Tryz.ntmps9
      go_wp2_with fail
      have k0 : (w.alloc (.cells #[.slice A ns.length c, .slice B ls.length d] 27)).cell? ⟨w.heap.size, 0, none⟩ = some (.slice A ns.length c) := by go_simp
      have k1 : (w.alloc (.cells #[.slice A ns.length c, .slice B ls.length d] 27)).cell? ⟨w.heap.size, 1, none⟩ = some (.slice B ls.length d) := by go_simp
      have hx : Ext w (w.alloc (.cells #[.slice A ns.length c, .slice B ls.length d] 27)) := (by repeat first | exact Ext.refl _ | assumption | refine Ext.drew ?_ | refine Ext.alloc ?_ _ | refine Ext.setCell ?_ (by simp) | refine Ext.setCell ?_ (by simp; omega) | refine Ext.trans ?_ (by assumption))
      have hsz1 : w.heap.size + 1 = (w.alloc (.cells #[.slice A ns.length c, .slice B ls.length d] 27)).heap.size := by simp
      generalize (w.alloc (.cells #[.slice A ns.length c, .slice B ls.length d] 27)) = w0 at *
      (try rw [hsz1])
      have hcw := WishesOk_i _ _ _ _ ns ls X xc xs _ (h.ext hx) (hX.ext hx) hxl
      rw [← HF2.out] at hcw
      refine hcw.mono ?_
      clear hcw
      rintro e w1 ⟨rfl, hb⟩
      have k0 := hb.lit k0
      have k1 := hb.lit k1
      have hx := hx.trans hb
      clear hb
      rw [hp]
      go_wp2_with fail
      refine (within_c _ _ _ _).mono ?_
      rintro e w2 ⟨rfl, rfl⟩
      rw [hr]
      clear hp hr
      have hXb : ∀ b o, X = some ⟨b, o, none⟩ → b < w.heap.size := fun b o e => by
        obtain ⟨b', o', e', hb', _⟩ := hX.gi_ (k := 0) (by rw [← HFF.out]; exact hF0)
        rw [e] at e'
        injection e' with e'
        injection e' with e'
        omega
      have HXB := Lib.hid hXb
      clear hXb
      have hs1 := hx.size
      go_upto_region 4 with fail
      have hbk : Bk (w1.alloc (.cells #[.slice none 0 0] 28)) w1.heap.size 28 [.slice none 0 0] := Bk.new _ _ rfl
      have hx2 : Ext w1 (w1.alloc (.cells #[.slice none 0 0] 28)) := (Ext.refl _).alloc _
      have hs2 : (w1.alloc (.cells #[.slice none 0 0] 28)).heap.size = w1.heap.size + 1 := by simp
      generalize (w1.alloc (.cells #[.slice none 0 0] 28)) = w3 at *
      have hxw := hx.trans hx2
      have k0 := hx2.lit k0
      have k1 := hx2.lit k1
      have HBK := Lib.hid hbk
      clear hbk
      go_wp2_with fail
      refine (paint_c tell1 (InvF w1.heap.size w.heap.size) none 33 w1.heap.size _ _ _ _ ns ls X xc xs F k _ (h.ext hxw) HWW.out (hX.ext hxw) HFF.out.symm HLL.out hk6 (by omega) (.inl rfl) (fun b o e => by have := HXB.out b o e; omega) (fun g W hg hxg => ⟨none, 0, 0, HBK.out.ext hxg, OwI.nil _ _, by omega, fun q hq => by simp [Value.ownBlock] at hq, fun _ => rfl, fun L e => by cases e⟩) (fun g s W i v _ hI => fill_set hI i v) (fun g s W L _ hI hL hLl => fill_tell hs1 hF40 hI hL hLl)).mono ?_
      rintro e w7 ⟨⟨u, rfl⟩, ⟨g, hg, A2, n2, c2, hbk7, ho, -, -, hn1, hn2⟩, hgr⟩
      have hx7 : Ext w w7 := gb_ext2 hxw hgr (fun q e => by injection e with e; omega)
      have kr : w7.cell? ⟨w1.heap.size, 0, none⟩ = some (.slice A2 n2 c2) := hbk7.cell 0
      have d0 := cell_regrown kr
      have HO : Hid (OwI w7 w.heap.size (.slice A2 n2 c2) (srL (nbN ns ls) xs k F [])) := Lib.hid ho
      have HN1 := Lib.hid hn1
      have HN2 := Lib.hid hn2
      clear ho hn1 hn2 hbk7 hgr k0 k1 hxw hx hx2
      cases hb : (sr tell1 (nbN ns ls) xs k F none []).2 with
      | true =>
        have hA : A2.isNone = false := by
          obtain ⟨L, e1, e2⟩ := sr1_len _ none [] hb
          exact HN2.out L e1 (by rw [e2]; simp; omega)
        have HB2 : Hid (srB (nbN ns ls) xs k F [] = true) := Lib.hid hb
        clear hb
        go_wp2_with fail
        refine rx_open [(true, 0, some 23, 256), (true, 0, some 24, 256), (true, 2, some 25, 16777216), (true, 1, some 6, 8388608), (true, 15, some 7, 33554432)] 0 5 mixd rfl (by kernel_rfl) (by kernel_rfl) (by kernel_rfl) ?_
        refine rx_run (run := [0, 1, 2, 3, 4]) (k := 0) (m' := 31) rfl (by kernel_rfl) (by kernel_rfl) (by kernel_rfl) (fm_cons rfl <| fm_cons rfl <| fm_cons rfl <| fm_cons rfl <| fm_cons rfl <| List.filterMap_nil) (by repeat first | exact Ext.refl _ | assumption | refine Ext.drew ?_ | refine Ext.alloc ?_ _ | refine Ext.setCell ?_ (by simp) | refine Ext.setCell ?_ (by simp; omega) | refine Ext.trans ?_ (by assumption)) ?_
        repeat (go_big_quiet_step ((fail)))
        refine wpQuiet_nil ?_
        refine rx_end (by kernel_rfl) ?_
        go_wp2
        go_ret2
        exact ⟨_, ret_vb2 (by rw [HV.out]; exact HB2.out.symm), by rw [HV.out]; exact HO.out.ext (by repeat first | exact Ext.refl _ | assumption | refine Ext.drew ?_ | refine Ext.alloc ?_ _ | refine Ext.setCell ?_ (by simp) | refine Ext.setCell ?_ (by simp; omega) | refine Ext.trans ?_ (by assumption)), hx7.trans (by repeat first | exact Ext.refl _ | assumption | refine Ext.drew ?_ | refine Ext.alloc ?_ _ | refine Ext.setCell ?_ (by simp) | refine Ext.setCell ?_ (by simp; omega) | refine Ext.trans ?_ (by assumption))⟩
      | false =>
        obtain rfl : A2 = none := HN1.out (sr1_none hb)
        have HB2 : Hid (srB (nbN ns ls) xs k F [] = false) := Lib.hid hb
        clear hb
        go_wp2_with fail
        refine rx_open [(true, 0, some 23, 256), (true, 0, some 24, 256), (true, 2, some 25, 16777216), (true, 1, some 6, 8388608), (true, 15, some 7, 33554432)] 0 5 mixd rfl (by kernel_rfl) (by kernel_rfl) (by kernel_rfl) ?_
        refine rx_run (run := [0, 1, 2, 3, 4]) (k := 0) (m' := 31) rfl (by kernel_rfl) (by kernel_rfl) (by kernel_rfl) (fm_cons rfl <| fm_cons rfl <| fm_cons rfl <| fm_cons rfl <| fm_cons rfl <| List.filterMap_nil) (by repeat first | exact Ext.refl _ | assumption | refine Ext.drew ?_ | refine Ext.alloc ?_ _ | refine Ext.setCell ?_ (by simp) | refine Ext.setCell ?_ (by simp; omega) | refine Ext.trans ?_ (by assumption)) ?_
        repeat (go_big_quiet_step ((fail)))
        refine wpQuiet_nil ?_
        refine rx_end (by kernel_rfl) ?_
        go_wp2
        go_ret2
        exact ⟨_, ret_vb2 (by rw [HV.out]; exact HB2.out.symm), by rw [HV.out]; exact HO.out.ext (by repeat first | exact Ext.refl _ | assumption | refine Ext.drew ?_ | refine Ext.alloc ?_ _ | refine Ext.setCell ?_ (by simp) | refine Ext.setCell ?_ (by simp; omega) | refine Ext.trans ?_ (by assumption)), hx7.trans (by repeat first | exact Ext.refl _ | assumption | refine Ext.drew ?_ | refine Ext.alloc ?_ _ | refine Ext.setCell ?_ (by simp) | refine Ext.setCell ?_ (by simp; omega) | refine Ext.trans ?_ (by assumption))⟩
    · rw [if_neg (fun e => hr e.2)] at HV
      have hr' := eq_false_of_ne_true hr
      go_enter Tryz.func9, Tryz.ntmps9
      go_wp2_with fail
      have k0 : (w.alloc (.cells #[.slice A ns.length c, .slice B ls.length d] 27)).cell? ⟨w.heap.size, 0, none⟩ = some (.slice A ns.length c) := by go_simp
      have k1 : (w.alloc (.cells #[.slice A ns.length c, .slice B ls.length d] 27)).cell? ⟨w.heap.size, 1, none⟩ = some (.slice B ls.length d) := by go_simp
      have hx : Ext w (w.alloc (.cells #[.slice A ns.length c, .slice B ls.length d] 27)) := (by repeat first | exact Ext.refl _ | assumption | refine Ext.drew ?_ | refine Ext.alloc ?_ _ | refine Ext.setCell ?_ (by simp) | refine Ext.setCell ?_ (by simp; omega) | refine Ext.trans ?_ (by assumption))
      have hsz1 : w.heap.size + 1 = (w.alloc (.cells #[.slice A ns.length c, .slice B ls.length d] 27)).heap.size := by simp
      generalize (w.alloc (.cells #[.slice A ns.length c, .slice B ls.length d] 27)) = w0 at *
      (try rw [hsz1])
      have hcw := WishesOk_i _ _ _ _ ns ls X xc xs _ (h.ext hx) (hX.ext hx) hxl
      rw [← HF2.out] at hcw
      refine hcw.mono ?_
      clear hcw
      rintro e w1 ⟨rfl, hb⟩
      have k0 := hb.lit k0
      have k1 := hb.lit k1
      have hx := hx.trans hb
      clear hb
      rw [hp]
      go_wp2_with fail
      refine (within_c _ _ _ _).mono ?_
      rintro e w2 ⟨rfl, rfl⟩
      rw [hr']
      go_wp2
      go_ret2
      exact ⟨_, ret_vb2 (by rw [HV.out]), by rw [HV.out]; exact OwI.nil _ _, hx⟩
  · rw [if_neg (fun e => hp e.1)] at HV
    have hp' := eq_false_of_ne_true hp
    go_enter Tryz.func9, Tryz.ntmps9
    go_wp2_with fail
    have k0 : (w.alloc (.cells #[.slice A ns.length c, .slice B ls.length d] 27)).cell? ⟨w.heap.size, 0, none⟩ = some (.slice A ns.length c) := by go_simp
    have k1 : (w.alloc (.cells #[.slice A ns.length c, .slice B ls.length d] 27)).cell? ⟨w.heap.size, 1, none⟩ = some (.slice B ls.length d) := by go_simp
    have hx : Ext w (w.alloc (.cells #[.slice A ns.length c, .slice B ls.length d] 27)) := (by repeat first | exact Ext.refl _ | assumption | refine Ext.drew ?_ | refine Ext.alloc ?_ _ | refine Ext.setCell ?_ (by simp) | refine Ext.setCell ?_ (by simp; omega) | refine Ext.trans ?_ (by assumption))
    have hsz1 : w.heap.size + 1 = (w.alloc (.cells #[.slice A ns.length c, .slice B ls.length d] 27)).heap.size := by simp
    generalize (w.alloc (.cells #[.slice A ns.length c, .slice B ls.length d] 27)) = w0 at *
    (try rw [hsz1])
    have hcw := WishesOk_i _ _ _ _ ns ls X xc xs _ (h.ext hx) (hX.ext hx) hxl
    rw [← HF2.out] at hcw
    refine hcw.mono ?_
    clear hcw
    rintro e w1 ⟨rfl, hb⟩
    have k0 := hb.lit k0
    have k1 := hb.lit k1
    have hx := hx.trans hb
    clear hb
    rw [hp']
    go_wp2
    go_ret2
    exact ⟨_, ret_vb2 (by rw [HV.out]), by rw [HV.out]; exact OwI.nil _ _, hx⟩
theorem FillWishes_i (A B : Option Addr) (c d : Nat) (ns ls : List P2) (X : Option Addr) (xc : Nat) (xs : List Int) (n : Int) (w : World) (h : Wn w A c B d ns ls) (hX : In w w.heap.size X xs) (hxl : xs.length ≤ 2000000) :
    Calls Tryz.prog 9 #[.agg #[.slice A ns.length c, .slice B ls.length d], .slice X xs.length xc, .int .i64 n] w fun e w' => ∃ v, e = .returned (.tuple #[v, .bool (vFillWishes ns ls xs n).2]) ∧ OwI w' w.heap.size v (vFillWishes ns ls xs n).1 ∧ Ext w w' :=
  FillWishes_i0 A B c d ns ls X xc xs _ n w h hX hxl rfl

set_option maxRecDepth 100000 in
set_option maxHeartbeats 4000000 in
theorem FillWishes_s0 (A B : Option Addr) (c d : Nat) (ns ls : List P2) (X : Option Addr) (xc : Nat) (xs : List Int) (F : Nat) (n : Int) (w : World) (h : Wn w A c B d ns ls) (hX : In w w.heap.size X xs) (hxl : xs.length ≤ 2000000) (hF : F = xs.length) :
    Calls Tryz.prog 14 #[.agg #[.slice A ns.length c, .slice B ls.length d], .slice X F xc, .int .i64 n] w fun e w' => ∃ v, e = .returned (.tuple #[v, .bool (vFillWishes ns ls xs n).2]) ∧ OwI w' w.heap.size v (vFillWishes ns ls xs n).1 ∧ Ext w w' := by
  have HV : Hid (vFillWishes ns ls xs n = if vWishesOk ns ls xs = true ∧ wi n 1 6 = true then (srL (nbN ns ls) xs n.toNat xs.length [], srB (nbN ns ls) xs n.toNat xs.length []) else ([], false)) := Lib.hid rfl
  have HF2 := Lib.hid hF
  clear hF
  by_cases hp : vWishesOk ns ls xs = true
  · by_cases hr : wi n 1 6 = true
    · rw [if_pos ⟨hp, hr⟩] at HV
      obtain ⟨hw, hlen⟩ := wishes_ok hp
      have hFl := vFaces_len ns ls
      have hFp := faces_pos hw
      have hF40 : F ≤ 40 := by have := HF2.out; omega
      have hF0 : 0 < F := by have := HF2.out; omega
      have HWW := Lib.hid hw
      have HLL : Hid (F = (vFaces ns ls).length) := Lib.hid (by rw [HF2.out]; exact hlen)
      obtain ⟨q1, q2⟩ := wi_iff.1 hr
      obtain ⟨k, rfl⟩ := Int.eq_ofNat_of_zero_le (show 0 ≤ n by omega)
      have hk6 : k ≤ 6 := by omega
      rw [Int.toNat_natCast, ← HF2.out] at HV
      have HFF := HF2
      clear hw hlen q1 q2
      go_enter Tryz.func14, Tryz.ntmps14
      go_wp2_with fail
      have k0 : (w.alloc (.cells #[.slice A ns.length c, .slice B ls.length d] 27)).cell? ⟨w.heap.size, 0, none⟩ = some (.slice A ns.length c) := by go_simp
      have k1 : (w.alloc (.cells #[.slice A ns.length c, .slice B ls.length d] 27)).cell? ⟨w.heap.size, 1, none⟩ = some (.slice B ls.length d) := by go_simp
      have hx : Ext w (w.alloc (.cells #[.slice A ns.length c, .slice B ls.length d] 27)) := (by repeat first | exact Ext.refl _ | assumption | refine Ext.drew ?_ | refine Ext.alloc ?_ _ | refine Ext.setCell ?_ (by simp) | refine Ext.setCell ?_ (by simp; omega) | refine Ext.trans ?_ (by assumption))
      have hsz1 : w.heap.size + 1 = (w.alloc (.cells #[.slice A ns.length c, .slice B ls.length d] 27)).heap.size := by simp
      generalize (w.alloc (.cells #[.slice A ns.length c, .slice B ls.length d] 27)) = w0 at *
      (try rw [hsz1])
      have hcw := WishesOk_s _ _ _ _ ns ls X xc xs _ (h.ext hx) (hX.ext hx) hxl
      rw [← HF2.out] at hcw
      refine hcw.mono ?_
      clear hcw
      rintro e w1 ⟨rfl, hb⟩
      have k0 := hb.lit k0
      have k1 := hb.lit k1
      have hx := hx.trans hb
      clear hb
      rw [hp]
      go_wp2_with fail
      refine (l01In_c _ _ _ _).mono ?_
      rintro e w2 ⟨rfl, rfl⟩
      rw [hr]
      clear hp hr
      have hsy := nbN_sym HWW.out
      go_wp2_with fail
      refine (l13Beside_s _ _ _ _ ns ls _ (h.ext hx) HWW.out).mono ?_
      rintro e w3 ⟨v, rb, rfl, hM, hb⟩
      rw [← HLL.out] at hM
      obtain ⟨A4, c4, rfl⟩ := hM.shape
      have k0 := hb.lit k0
      have k1 := hb.lit k1
      have hx := hx.trans hb
      clear hb
      have hs3 := hx.size
      go_wp2_with fail
      refine (l13Search_s A4 c4 rb _ (nbN ns ls) F _ _ xc xs k hk6 hF40 HFF.out.symm (fun a b _ _ => hsy a b) F X _ _ 0 [] _ (hM.ext ((Ext.refl _).alloc _)) ((hX.ext hx).ext ((Ext.refl _).alloc _)) (in_nil _ _ _) rfl (by simp)).mono ?_
      rintro e w5 ⟨v5, rfl, h5, hb⟩
      go_wp2
      go_ret2
      exact ⟨_, ret_vb2 (by rw [HV.out]), by rw [HV.out]; exact h5.more (by simp; omega), hx.trans (((Ext.refl _).alloc _).trans hb)⟩
    · rw [if_neg (fun e => hr e.2)] at HV
      have hr' := eq_false_of_ne_true hr
      go_enter Tryz.func14, Tryz.ntmps14
      go_wp2_with fail
      have k0 : (w.alloc (.cells #[.slice A ns.length c, .slice B ls.length d] 27)).cell? ⟨w.heap.size, 0, none⟩ = some (.slice A ns.length c) := by go_simp
      have k1 : (w.alloc (.cells #[.slice A ns.length c, .slice B ls.length d] 27)).cell? ⟨w.heap.size, 1, none⟩ = some (.slice B ls.length d) := by go_simp
      have hx : Ext w (w.alloc (.cells #[.slice A ns.length c, .slice B ls.length d] 27)) := (by repeat first | exact Ext.refl _ | assumption | refine Ext.drew ?_ | refine Ext.alloc ?_ _ | refine Ext.setCell ?_ (by simp) | refine Ext.setCell ?_ (by simp; omega) | refine Ext.trans ?_ (by assumption))
      have hsz1 : w.heap.size + 1 = (w.alloc (.cells #[.slice A ns.length c, .slice B ls.length d] 27)).heap.size := by simp
      generalize (w.alloc (.cells #[.slice A ns.length c, .slice B ls.length d] 27)) = w0 at *
      (try rw [hsz1])
      have hcw := WishesOk_s _ _ _ _ ns ls X xc xs _ (h.ext hx) (hX.ext hx) hxl
      rw [← HF2.out] at hcw
      refine hcw.mono ?_
      clear hcw
      rintro e w1 ⟨rfl, hb⟩
      have k0 := hb.lit k0
      have k1 := hb.lit k1
      have hx := hx.trans hb
      clear hb
      rw [hp]
      go_wp2_with fail
      refine (l01In_c _ _ _ _).mono ?_
      rintro e w2 ⟨rfl, rfl⟩
      rw [hr']
      go_wp2
      go_ret2
      exact ⟨_, ret_vb2 (by rw [HV.out]), by rw [HV.out]; exact (OzI.zero _ hx.size rfl).own (Nat.le_refl _), hx.trans ((Ext.refl _).alloc _)⟩
  · rw [if_neg (fun e => hp e.1)] at HV
    have hp' := eq_false_of_ne_true hp
    go_enter Tryz.func14, Tryz.ntmps14
    go_wp2_with fail
    have k0 : (w.alloc (.cells #[.slice A ns.length c, .slice B ls.length d] 27)).cell? ⟨w.heap.size, 0, none⟩ = some (.slice A ns.length c) := by go_simp
    have k1 : (w.alloc (.cells #[.slice A ns.length c, .slice B ls.length d] 27)).cell? ⟨w.heap.size, 1, none⟩ = some (.slice B ls.length d) := by go_simp
    have hx : Ext w (w.alloc (.cells #[.slice A ns.length c, .slice B ls.length d] 27)) := (by repeat first | exact Ext.refl _ | assumption | refine Ext.drew ?_ | refine Ext.alloc ?_ _ | refine Ext.setCell ?_ (by simp) | refine Ext.setCell ?_ (by simp; omega) | refine Ext.trans ?_ (by assumption))
    have hsz1 : w.heap.size + 1 = (w.alloc (.cells #[.slice A ns.length c, .slice B ls.length d] 27)).heap.size := by simp
    generalize (w.alloc (.cells #[.slice A ns.length c, .slice B ls.length d] 27)) = w0 at *
    (try rw [hsz1])
    have hcw := WishesOk_s _ _ _ _ ns ls X xc xs _ (h.ext hx) (hX.ext hx) hxl
    rw [← HF2.out] at hcw
    refine hcw.mono ?_
    clear hcw
    rintro e w1 ⟨rfl, hb⟩
    have k0 := hb.lit k0
    have k1 := hb.lit k1
    have hx := hx.trans hb
    clear hb
    rw [hp']
    go_wp2
    go_ret2
    exact ⟨_, ret_vb2 (by rw [HV.out]), by rw [HV.out]; exact (OzI.zero _ hx.size rfl).own (Nat.le_refl _), hx.trans ((Ext.refl _).alloc _)⟩
theorem FillWishes_s (A B : Option Addr) (c d : Nat) (ns ls : List P2) (X : Option Addr) (xc : Nat) (xs : List Int) (n : Int) (w : World) (h : Wn w A c B d ns ls) (hX : In w w.heap.size X xs) (hxl : xs.length ≤ 2000000) :
    Calls Tryz.prog 14 #[.agg #[.slice A ns.length c, .slice B ls.length d], .slice X xs.length xc, .int .i64 n] w fun e w' => ∃ v, e = .returned (.tuple #[v, .bool (vFillWishes ns ls xs n).2]) ∧ OwI w' w.heap.size v (vFillWishes ns ls xs n).1 ∧ Ext w w' :=
  FillWishes_s0 A B c d ns ls X xc xs _ n w h hX hxl rfl
end Go.Proofs.YtdhmjhoaegdfjaaGreat
