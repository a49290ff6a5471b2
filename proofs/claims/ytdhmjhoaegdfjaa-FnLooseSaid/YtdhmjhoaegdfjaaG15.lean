import Derived.Test.YtdhmjhoaegdfjaaT16
import Derived.Test.YtdhmjhoaegdfjaaW3
import Derived.Test.YtdhmjhoaegdfjaaD20
import Derived.Test.YtdhmjhoaegdfjaaD26
import Derived.Test.YtdhmjhoaegdfjaaD12
import Derived.Test.YtdhmjhoaegdfjaaD13
import Derived.Test.YtdhmjhoaegdfjaaV6
namespace Go.Proofs.Ytdhmjhoaegdfjaa.Pl
open Go.Proofs.Ytdhmjhoaegdfjaa
/-! What FnLoose asks, first part: an end node taken off. -/
def dnN (k i : Nat) : Nat := if k < i then i - 1 else i
theorem dnI_nat (k i : Nat) : dnI (k : Int) (i : Int) = (dnN k i : Nat) := by
  unfold dnI dnN
  by_cases h : k < i
  · rw [if_pos (by omega), if_pos h]; omega
  · rw [if_neg (by omega), if_neg h]
theorem atL_iff {l : P2} {k : Int} : atL l k = true ↔ l.1 = k ∨ l.2 = k := by
  unfold atL
  simp only [Bool.or_eq_true, decide_eq_true_eq]
theorem wnL_lat (ls : List P2) (k : Int) : ∀ m, (wnL ls k m).length + (lat ls k m).length = m
  | 0 => rfl
  | m + 1 => by
    have ih := wnL_lat ls k m
    rw [lat_succ]
    unfold wnL
    by_cases c : atL (gp ls m) k = true
    · have := atL_iff.1 c
      rw [if_pos c, if_neg (by rintro ⟨a, b⟩; rcases this with e | e <;> contradiction), List.length_append, List.length_singleton]; omega
    · have : ¬ ((gp ls (m : Nat)).1 = k ∨ (gp ls (m : Nat)).2 = k) := fun e => c (atL_iff.2 e)
      rw [if_neg c, if_pos ⟨fun e => this (.inl e), fun e => this (.inr e)⟩, List.length_append, List.length_singleton]; omega
theorem wnL_mem {ls : List P2} {k : Int} {x : P2} : ∀ {m : Nat}, x ∈ wnL ls k m ↔ ∃ j : Nat, j < m ∧ (gp ls j).1 ≠ k ∧ (gp ls j).2 ≠ k ∧ x = (dnI k (gp ls j).1, dnI k (gp ls j).2)
  | 0 => by
    constructor
    · intro h; cases h
    · rintro ⟨j, hj, _⟩; omega
  | m + 1 => by
    have ih := wnL_mem (ls := ls) (k := k) (x := x) (m := m)
    unfold wnL
    by_cases c : (gp ls (m : Nat)).1 ≠ k ∧ (gp ls (m : Nat)).2 ≠ k
    · rw [if_pos c, List.mem_append, List.mem_singleton, ih]
      constructor
      · rintro (⟨j, hj, r⟩ | e)
        · exact ⟨j, by omega, r⟩
        · exact ⟨m, by omega, c.1, c.2, e⟩
      · rintro ⟨j, hj, r1, r2, r3⟩
        rcases Nat.lt_succ_iff_lt_or_eq.1 hj with h | rfl
        · exact .inl ⟨j, h, r1, r2, r3⟩
        · exact .inr r3
    · rw [if_neg c, ih]
      constructor
      · rintro ⟨j, hj, r⟩; exact ⟨j, by omega, r⟩
      · rintro ⟨j, hj, r1, r2, r3⟩
        rcases Nat.lt_succ_iff_lt_or_eq.1 hj with h | rfl
        · exact ⟨j, h, r1, r2, r3⟩
        · exact absurd ⟨r1, r2⟩ c
section
variable {ns ls : List P2}
theorem whole_of_cn (h : WOk ns ls) (hm : 0 < ls.length) (c : ∀ i, i < ns.length → Cn ls 0 i) : whole ns ls = true := by
  have hv := vd_of_ok h
  have h0 := h.lo
  have z : gi (labs ns.length ls) (0 : Nat) = ((0 : Nat) : Int) := (labs_fix_iff hv (by omega)).2 (fun j hj => by omega)
  unfold whole
  simp only [Bool.and_eq_true, decide_eq_true_eq]
  refine ⟨⟨wok_iff.2 h, hm⟩, (partL_all hv (by omega)).2 fun i hi => ?_⟩
  rw [← (labs_iff hv (by omega) hi).2 (c i hi), z]; rfl
/-- the leaf map: the leaf to its neighbour's place -/
def phi (k q i : Nat) : Nat := if i = k then dnN k q else dnN k i
theorem cn_cut {k q : Nat} (hq : q ≠ k) (hl : ∀ l ∈ ls, l.1 = (k : Int) ∨ l.2 = (k : Int) → l = ((k : Int), (q : Int)) ∨ l = ((q : Int), (k : Int))) {a b : Nat} (c : Cn ls a b) :
    Cn (wnL ls (k : Int) ls.length) (phi k q a) (phi k q b) := by
  have step : ∀ i j : Nat, ((i : Int), (j : Int)) ∈ ls → phi k q i = phi k q j ∨ ((phi k q i : Int), (phi k q j : Int)) ∈ wnL ls (k : Int) ls.length := by
    intro i j hm
    by_cases c1 : i = k
    · subst c1
      rcases hl _ hm (.inl rfl) with e | e
      · injection e with e1 e2
        obtain rfl : j = q := by omega
        left; unfold phi; rw [if_pos rfl, if_neg hq]
      · injection e with e1 e2
        exact absurd (by omega) hq
    · by_cases c2 : j = k
      · subst c2
        rcases hl _ hm (.inr rfl) with e | e
        · injection e with e1 e2
          exact absurd (by omega) hq
        · injection e with e1 e2
          obtain rfl : i = q := by omega
          left; unfold phi; rw [if_neg hq, if_pos rfl]
      · right
        obtain ⟨t, ht, et⟩ := List.getElem_of_mem hm
        refine wnL_mem.2 ⟨t, ht, ?_⟩
        rw [gp_nat ls t ht, et]
        refine ⟨by show (i : Int) ≠ k; omega, by show (j : Int) ≠ k; omega, ?_⟩
        unfold phi
        rw [if_neg c1, if_neg c2, dnI_nat, dnI_nat]
  induction c with
  | refl => exact .refl
  | fwd _ hm ih =>
    rcases step _ _ hm with e | e
    · rw [← e]; exact ih
    · exact .fwd ih e
  | bwd _ hm ih =>
    rcases step _ _ hm with e | e
    · rw [e]; exact ih
    · exact .bwd ih e
theorem leaf_one (h : WOk ns ls) {k : Nat} (hk : k < ns.length) (hd : degOf ns ls (k : Int) = 1) : (lat ls (k : Int) ls.length).length = 1 ∧ ∃ q, q ≠ k ∧ q < ns.length ∧ ∀ l ∈ ls, l.1 = (k : Int) ∨ l.2 = (k : Int) → l = ((k : Int), (q : Int)) ∨ l = ((q : Int), (k : Int)) := by
  have hn : hasN ns ls (k : Int) = true := by unfold hasN; simp [wok_iff.2 h, wi_iff]; omega
  have h1 : (lat ls (k : Int) ls.length).length = 1 := by
    unfold degOf leadsAt at hd
    rw [if_pos hn, if_pos hn] at hd
    omega
  refine ⟨h1, ?_⟩
  obtain ⟨x, hx⟩ := List.length_eq_one_iff.1 h1
  have hx0 : x ∈ lat ls (k : Int) ls.length := by rw [hx]; exact List.mem_singleton.2 rfl
  obtain ⟨e, rfl, he, hat⟩ := lat_mem hx0
  have huniq : ∀ j : Nat, j < ls.length → atL (gp ls j) (k : Int) = true → j = e := by
    intro j hj hj2
    have : (j : Int) ∈ lat ls (k : Int) ls.length := List.mem_map.2 ⟨j, List.mem_filter.2 ⟨List.mem_range.2 hj, hj2⟩, rfl⟩
    rw [hx, List.mem_singleton] at this
    omega
  have hv := vd_of_ok h
  have hne : ∀ j : Nat, j < ls.length → (gp ls j).1 ≠ (gp ls j).2 := fun j hj => by
    obtain ⟨a, b, e, hab, _⟩ := lok_nat (h.ld j hj).1
    rw [e]; show (a : Int) ≠ b; omega
  have hmem : gp ls e ∈ ls := by rw [gp_nat ls e he]; exact List.getElem_mem _
  obtain ⟨a, b, eab, ha, hb⟩ := hv _ hmem
  have hnab := hne e he
  rw [eab] at hnab
  have hnab : (a : Int) ≠ b := hnab
  have fin : ∀ l ∈ ls, l.1 = (k : Int) ∨ l.2 = (k : Int) → l = gp ls e := by
    intro l hl hh
    obtain ⟨t, ht, et⟩ := List.getElem_of_mem hl
    have eg := gp_nat ls t ht
    rw [et] at eg
    have := huniq t ht (by rw [eg]; exact atL_iff.2 hh)
    rw [← eg, this]
  rcases atL_iff.1 hat with c | c
  · rw [eab] at c
    have c : (a : Int) = k := c
    exact ⟨b, by omega, hb, fun l hl hh => .inl (by rw [fin l hl hh, eab, c])⟩
  · rw [eab] at c
    have c : (b : Int) = k := c
    exact ⟨a, by omega, ha, fun l hl hh => .inr (by rw [fin l hl hh, eab, c])⟩
theorem whole_cut (hw : whole ns ls = true) {k : Nat} (hk : k < ns.length) (hd : degOf ns ls (k : Int) = 1) (h2 : 2 < ns.length) :
    whole (wnN ns (k : Int) ns.length) (wnL ls (k : Int) ls.length) = true ∧ (wnN ns (k : Int) ns.length).length + 1 = ns.length ∧ (wnL ls (k : Int) ls.length).length + 1 = ls.length := by
  obtain ⟨h, _⟩ := whole_ok hw
  obtain ⟨h1, q, hq, hqn, hl⟩ := leaf_one h hk hd
  have hN := wnN_length hk
  have hL := wnL_lat ls (k : Int) ls.length
  have hlow := np_lower ls.length rfl (vd_of_ok h)
  rw [(np_one (vd_of_ok h) h.lo).2 (whole_cn hw)] at hlow
  refine ⟨whole_of_cn (wok_cut h hk (by omega)) (by omega) fun i hi => ?_, hN, by omega⟩
  have c := whole_cn hw
  have up : ∀ j, j < (wnN ns (k : Int) ns.length).length → phi k q (upN k j) = j ∧ upN k j < ns.length := by
    intro j hj
    unfold phi upN dnN
    by_cases e : j < k
    · rw [if_pos e, if_neg (by omega), if_neg (by omega)]; omega
    · rw [if_neg e, if_neg (by omega), if_pos (by omega)]; omega
  have u0 := up 0 (by omega)
  have ui := up i hi
  have := cn_cut hq hl ((c _ u0.2).symm.trans (c _ ui.2))
  rw [u0.1, ui.1] at this
  exact this
theorem end_deg (h : 0 < (vEndNodes ns ls).length) : ∃ k : Nat, gi (vEndNodes ns ls) (0 : Nat) = k ∧ k < ns.length ∧ degOf ns ls (k : Int) = 1 := by
  have hm : gi (vEndNodes ns ls) (0 : Nat) ∈ vEndNodes ns ls := by rw [gi_nat _ 0 h]; exact List.getElem_mem _
  generalize gi (vEndNodes ns ls) (0 : Nat) = x at *
  unfold vEndNodes at hm
  split at hm
  · obtain ⟨i, e, hi, hp⟩ := flt_mem.1 hm
    exact ⟨i, e, hi, of_decide_eq_true hp⟩
  · cases hm
/-- the pruning keeps a window whole, and takes as many leads as nodes; it leaves two nodes or no end -/
theorem prn_ok : ∀ (f : Nat) {ns ls : List P2}, whole ns ls = true → ns.length ≤ f → whole (prn f ns ls).1 (prn f ns ls).2 = true ∧ (prn f ns ls).1.length + ls.length = ns.length + (prn f ns ls).2.length ∧ ((prn f ns ls).1.length ≤ 2 ∨ (vEndNodes (prn f ns ls).1 (prn f ns ls).2).length = 0)
  | 0, ns, ls, hw, hf => ⟨hw, rfl, .inl (by show ns.length ≤ 2; omega)⟩
  | f + 1, ns, ls, hw, hf => by
    by_cases c1 : ns.length ≤ 2
    · unfold prn; rw [if_pos c1]; exact ⟨hw, rfl, .inl c1⟩
    · by_cases c2 : (vEndNodes ns ls).length = 0
      · unfold prn; rw [if_neg c1, if_pos c2]; exact ⟨hw, rfl, .inr c2⟩
      · obtain ⟨k, ek, hk, hd⟩ := end_deg (ns := ns) (ls := ls) (by omega)
        obtain ⟨r1, r2, r3⟩ := whole_cut hw hk hd (by omega)
        unfold prn
        rw [if_neg c1, if_neg c2, ek]
        obtain ⟨s1, s2, s3⟩ := prn_ok f r1 (by omega)
        exact ⟨s1, by omega, s3⟩
theorem cfaces_prn (hw : whole ns ls = true) : cfaces (prn ns.length ns ls).1 (prn ns.length ns ls).2 = cfaces ns ls := by
  obtain ⟨s1, s2, _⟩ := prn_ok ns.length hw (Nat.le_refl _)
  rw [cfaces_eq (whole_wok s1), cfaces_eq (whole_wok hw), cparts_whole s1, cparts_whole hw]
  omega
end
end Go.Proofs.Ytdhmjhoaegdfjaa.Pl

namespace Go.Proofs.Ytdhmjhoaegdfjaa.Pl
open Go.Proofs.Ytdhmjhoaegdfjaa
/-! What FnLoose asks, second part: flows and areas behind the cut of a leaf. -/
theorem sm_skip (e : Nat) (g : Nat → Int) : ∀ m, e ≤ m → sm (m + 1) g = sm m (fun i => g (upN e i)) + g e := by
  intro m
  induction m with
  | zero => intro h; obtain rfl : e = 0 := by omega
            rfl
  | succ m ih =>
    intro h
    rcases Nat.lt_or_ge m e with c | c
    · obtain rfl : e = m + 1 := by omega
      rw [sm_succ]
      congr 1
      exact sm_congr fun i hi => by unfold upN; rw [if_pos hi]
    · rw [sm_succ, ih c, sm_succ]
      have : upN e m = m + 1 := by unfold upN; rw [if_neg (by omega)]
      rw [this]; omega
structure CutS (ns ls ns' ls' : List P2) (k e : Nat) : Prop where
  ml : ls'.length + 1 = ls.length
  el : e < ls.length
  nl : ns'.length + 1 = ns.length
  lead : ∀ i, i < ls'.length → ∃ a b : Nat, gp ls (upN e i : Nat) = (((upN k a : Nat) : Int), ((upN k b : Nat) : Int)) ∧ gp ls' (i : Nat) = ((a : Int), (b : Int)) ∧ a < ns'.length ∧ b < ns'.length
  node : ∀ a, a < ns'.length → gp ns' (a : Nat) = gp ns (upN k a : Nat)
  leafl : (gp ls (e : Nat)).1 = (k : Int) ∨ (gp ls (e : Nat)).2 = (k : Int)
theorem upN_inj {k a b : Nat} (h : upN k a = upN k b) : a = b := by
  unfold upN at h
  split at h <;> split at h <;> omega
theorem upN_ne (k a : Nat) : upN k a ≠ k := by unfold upN; split <;> omega
section
variable {ns ls ns' ls' : List P2} {k e : Nat}
theorem CutS.up_lt (C : CutS ns ls ns' ls' k e) {i : Nat} (hi : i < ls'.length) : upN e i < ls.length := by
  have := C.ml; unfold upN; split <;> omega
theorem CutS.la_ (C : CutS ns ls ns' ls' k e) {i : Nat} (hi : i < ls'.length) : la ns' ls' i = la ns ls (upN e i) ∧ lb ns' ls' i = lb ns ls (upN e i) := by
  obtain ⟨a, b, e1, e2, ha, hb⟩ := C.lead i hi
  unfold la lb
  rw [e1, e2]
  exact ⟨C.node a ha, C.node b hb⟩
theorem CutS.lft_ (C : CutS ns ls ns' ls' k e) {i : Nat} (hi : i < ls'.length) : lft ns' ls' i = lft ns ls (upN e i) ∧ rgt ns' ls' i = rgt ns ls (upN e i) := by
  obtain ⟨h1, h2⟩ := C.la_ hi
  unfold lft rgt
  rw [h1, h2]
  exact ⟨rfl, rfl⟩
theorem CutS.rg_ (C : CutS ns ls ns' ls' k e) {i : Nat} (hi : i < ls'.length) : rg ns' ls' (2 * i) = rg ns ls (2 * upN e i) := by
  obtain ⟨h1, h2⟩ := C.la_ hi
  rw [rg_even, rg_even, h1, h2]
theorem CutS.zl_ (C : CutS ns ls ns' ls' k e) (z : Nat → Int) {i : Nat} (hi : i < ls'.length) : zl ns' ls' (fun i => z (upN e i)) i = zl ns ls z (upN e i) := by
  unfold zl
  rw [C.rg_ hi]
theorem CutS.N_ (C : CutS ns ls ns' ls' k e) {z : Nat → Int} (hz : z e = 0) {i : Nat} (hi : i < ls'.length) (t : Int) :
    (drw ns' ls').N (zl ns' ls' (fun i => z (upN e i))) i t = (drw ns ls).N (zl ns ls z) (upN e i) t := by
  have hml := C.ml
  have hel := C.el
  show sm ls'.length _ = sm ls.length _
  rw [← hml, sm_skip e _ ls'.length (by omega)]
  have h0 : zl ns ls z e = 0 := by unfold zl; rw [hz]; split <;> rfl
  rw [h0]
  simp only [ite_self, Int.add_zero]
  refine sm_congr fun l hl => ?_
  obtain ⟨a1, a2⟩ := C.lft_ hl
  obtain ⟨b1, b2⟩ := C.lft_ hi
  rw [C.zl_ z hl]
  unfold Drw.sp Drw.D Drw.num Drw.den drw
  simp only [a1, a2, b1, b2]
  split <;> rfl
theorem CutS.W_ (C : CutS ns ls ns' ls' k e) {z : Nat → Int} (hz : z e = 0) {i : Nat} (hi : i < ls'.length) :
    (drw ns' ls').W (zl ns' ls' (fun i => z (upN e i))) i = (drw ns ls).W (zl ns ls z) (upN e i) := by
  unfold Drw.W
  rw [C.N_ hz hi]
  have : (drw ns' ls').xa i = (drw ns ls).xa (upN e i) := by show kx (lft ns' ls' i) = kx (lft ns ls (upN e i)); rw [(C.lft_ hi).1]
  rw [this]
theorem CutS.wd_ (C : CutS ns ls ns' ls' k e) (h : WOk ns ls) (h' : WOk ns' ls') {z : Nat → Int} (hz : z e = 0) {i : Nat} (hi : i < ls'.length) :
    wd ns' ls' (fun i => z (upN e i)) (2 * i) = wd ns ls z (2 * upN e i) ∧ wd ns' ls' (fun i => z (upN e i)) (2 * i + 1) = wd ns ls z (2 * upN e i + 1) := by
  have a : wd ns' ls' (fun i => z (upN e i)) (2 * i) = wd ns ls z (2 * upN e i) := by
    unfold wd
    rw [C.rg_ hi, show 2 * i / 2 = i by omega, show 2 * upN e i / 2 = upN e i by omega, C.W_ hz hi, C.zl_ z hi]
  refine ⟨a, ?_⟩
  have t1 := wd_twin h z (C.up_lt hi)
  have t2 : _ - _ = z (upN e i) := wd_twin h' (fun i => z (upN e i)) hi
  omega
theorem CutS.areaZ_ (C : CutS ns ls ns' ls' k e) {z : Nat → Int} (hz : z e = 0) : areaZ ns' ls' (fun i => z (upN e i)) = areaZ ns ls z := by
  have hml := C.ml
  have hel := C.el
  unfold areaZ
  rw [← hml, sm_skip e _ ls'.length (by omega), hz]
  simp only [Int.zero_mul, Int.add_zero]
  refine sm_congr fun i hi => ?_
  congr 1
  unfold crs
  rw [dart_even, dart_even]
  obtain ⟨a, b, e1, e2, ha, hb⟩ := C.lead i hi
  rw [e1, e2]
  show (gp ns' (a : Nat)).1 * (gp ns' (b : Nat)).2 - (gp ns' (a : Nat)).2 * (gp ns' (b : Nat)).1 = _
  rw [C.node a ha, C.node b hb]
theorem CutS.circ_ (C : CutS ns ls ns' ls' k e) {z : Nat → Int} (hz : z e = 0) (h : Circ ns.length ls z) : Circ ns'.length ls' (fun i => z (upN e i)) := by
  have hml := C.ml
  have hel := C.el
  have hnl := C.nl
  intro r hr
  have := h (upN k r) (by unfold upN; split <;> omega)
  rw [← hml, sm_skip e _ ls'.length (by omega), hz] at this
  simp only [ite_self, Int.sub_zero, Int.add_zero] at this
  refine Eq.trans ?_ this
  refine sm_congr fun i hi => ?_
  obtain ⟨a, b, e1, e2, ha, hb⟩ := C.lead i hi
  rw [e1, e2]
  show (if (a : Int) = (r : Int) then z (upN e i) else 0) - (if (b : Int) = (r : Int) then z (upN e i) else 0) = (if ((upN k a : Nat) : Int) = ((upN k r : Nat) : Int) then z (upN e i) else 0) - (if ((upN k b : Nat) : Int) = ((upN k r : Nat) : Int) then z (upN e i) else 0)
  have q1 : ((a : Int) = (r : Int)) ↔ ((upN k a : Nat) : Int) = ((upN k r : Nat) : Int) := ⟨fun e => by rw [show a = r by omega], fun e => by have := upN_inj (show upN k a = upN k r by omega); omega⟩
  have q2 : ((b : Int) = (r : Int)) ↔ ((upN k b : Nat) : Int) = ((upN k r : Nat) : Int) := ⟨fun e => by rw [show b = r by omega], fun e => by have := upN_inj (show upN k b = upN k r by omega); omega⟩
  by_cases c1 : ((upN k a : Nat) : Int) = ((upN k r : Nat) : Int) <;> by_cases c2 : ((upN k b : Nat) : Int) = ((upN k r : Nat) : Int) <;> simp only [q1, q2, c1, c2, if_true, if_false]
/-- back: a flow behind the cut is a flow of the whole -/
theorem CutS.circ_back (C : CutS ns ls ns' ls' k e) (hk : k < ns.length) {z : Nat → Int} (hz : z e = 0) (h : Circ ns'.length ls' (fun i => z (upN e i))) : Circ ns.length ls z := by
  have hml := C.ml
  have hel := C.el
  have hnl := C.nl
  intro r hr
  rw [← hml, sm_skip e _ ls'.length (by omega), hz]
  simp only [ite_self, Int.sub_zero, Int.add_zero]
  by_cases c : r = k
  · subst c
    refine sm_zero fun i hi => ?_
    obtain ⟨a, b, e1, e2, ha, hb⟩ := C.lead i hi
    rw [e1]
    have n1 := upN_ne r a
    have n2 := upN_ne r b
    rw [if_neg (by show ¬ ((upN r a : Nat) : Int) = r; omega), if_neg (by show ¬ ((upN r b : Nat) : Int) = r; omega)]; rfl
  · obtain ⟨s, hs, rfl⟩ : ∃ s, s < ns'.length ∧ upN k s = r := by
      rcases Nat.lt_or_ge r k with c1 | c1
      · exact ⟨r, by omega, by unfold upN; rw [if_pos c1]⟩
      · exact ⟨r - 1, by omega, by unfold upN; rw [if_neg (by omega)]; omega⟩
    refine Eq.trans ?_ (h s hs)
    refine sm_congr fun i hi => ?_
    obtain ⟨a, b, e1, e2, ha, hb⟩ := C.lead i hi
    rw [e1, e2]
    show (if ((upN k a : Nat) : Int) = ((upN k s : Nat) : Int) then z (upN e i) else 0) - (if ((upN k b : Nat) : Int) = ((upN k s : Nat) : Int) then z (upN e i) else 0) = (if (a : Int) = (s : Int) then z (upN e i) else 0) - (if (b : Int) = (s : Int) then z (upN e i) else 0)
    have q1 : ((a : Int) = (s : Int)) ↔ ((upN k a : Nat) : Int) = ((upN k s : Nat) : Int) := ⟨fun e => by rw [show a = s by omega], fun e => by have := upN_inj (show upN k a = upN k s by omega); omega⟩
    have q2 : ((b : Int) = (s : Int)) ↔ ((upN k b : Nat) : Int) = ((upN k s : Nat) : Int) := ⟨fun e => by rw [show b = s by omega], fun e => by have := upN_inj (show upN k b = upN k s by omega); omega⟩
    by_cases c1 : ((upN k a : Nat) : Int) = ((upN k s : Nat) : Int) <;> by_cases c2 : ((upN k b : Nat) : Int) = ((upN k s : Nat) : Int) <;> simp only [q1, q2, c1, c2, if_true, if_false]
/-- the leaf's lead carries no flow -/
theorem CutS.leaf0 (C : CutS ns ls ns' ls' k e) (h : WOk ns ls) (hk : k < ns.length) {z : Nat → Int} (hz : Circ ns.length ls z) : z e = 0 := by
  have hml := C.ml
  have hel := C.el
  have := hz k hk
  rw [← hml, sm_skip e _ ls'.length (by omega), sm_zero fun i hi => ?_] at this
  · obtain ⟨a, b, eab, hab, _⟩ := lok_nat (h.ld e hel).1
    have hl := C.leafl
    rw [eab] at this hl
    rcases hl with c | c
    · rw [if_pos c, if_neg (by have c : (a : Int) = k := c; show ¬ (b : Int) = k; omega)] at this; omega
    · rw [if_pos c, if_neg (by have c : (b : Int) = k := c; show ¬ (a : Int) = k; omega)] at this; omega
  · obtain ⟨a, b, e1, e2, ha, hb⟩ := C.lead i hi
    rw [e1]
    have n1 := upN_ne k a
    have n2 := upN_ne k b
    rw [if_neg (by show ¬ ((upN k a : Nat) : Int) = k; omega), if_neg (by show ¬ ((upN k b : Nat) : Int) = k; omega)]; rfl
end
end Go.Proofs.Ytdhmjhoaegdfjaa.Pl

namespace Go.Proofs.Ytdhmjhoaegdfjaa.Pl
open Go.Proofs.Ytdhmjhoaegdfjaa
/-! What FnLoose asks, third part: the outer face's area is kept by the pruning. -/
theorem gp_app_l {L M : List P2} {i : Nat} (h : i < L.length) : gp (L ++ M) (i : Nat) = gp L (i : Nat) := by
  rw [gp_nat _ i (by rw [List.length_append]; omega), gp_nat _ i h, List.getElem_append_left h]
theorem gp_app_r (L : List P2) (x : P2) : gp (L ++ [x]) (L.length : Nat) = x := by
  rw [gp_nat _ _ (by rw [List.length_append]; exact Nat.lt_succ_self _)]
  simp
theorem wnL_one {ls : List P2} {k : Int} {e : Nat} (he : (gp ls (e : Nat)).1 = k ∨ (gp ls (e : Nat)).2 = k) : ∀ m, (∀ j, j < m → j ≠ e → (gp ls (j : Nat)).1 ≠ k ∧ (gp ls (j : Nat)).2 ≠ k) →
    (m ≤ e → (wnL ls k m).length = m) ∧ (e < m → (wnL ls k m).length + 1 = m) ∧ ∀ i, i < (wnL ls k m).length → gp (wnL ls k m) (i : Nat) = (dnI k (gp ls (upN e i : Nat)).1, dnI k (gp ls (upN e i : Nat)).2)
  | 0, _ => ⟨fun _ => rfl, fun h => by omega, fun i hi => absurd hi (Nat.not_lt_zero _)⟩
  | m + 1, hn => by
    obtain ⟨i1, i2, i3⟩ := wnL_one he m fun j hj => hn j (by omega)
    by_cases c : m = e
    · subst c
      have e0 : wnL ls k (m + 1) = wnL ls k m := by
        show (if _ then _ else _) = _
        rw [if_neg (by rintro ⟨a, b⟩; rcases he with h | h <;> contradiction)]
      rw [e0]
      have := i1 (Nat.le_refl _)
      exact ⟨fun h => by omega, fun _ => by omega, i3⟩
    · have e0 : wnL ls k (m + 1) = wnL ls k m ++ [(dnI k (gp ls (m : Nat)).1, dnI k (gp ls (m : Nat)).2)] := by
        show (if _ then _ else _) = _
        rw [if_pos (hn m (by omega) c)]
      rw [e0, List.length_append, List.length_singleton]
      refine ⟨fun h => by rw [i1 (by omega)], fun h => by have := i2 (by omega); omega, fun i hi => ?_⟩
      rcases Nat.lt_or_ge i (wnL ls k m).length with h | h
      · rw [gp_app_l h, i3 i h]
      · obtain rfl : i = (wnL ls k m).length := by omega
        have hu : upN e (wnL ls k m).length = m := by
          unfold upN
          rcases Nat.lt_or_ge m e with h' | h'
          · rw [i1 (by omega), if_pos h']
          · have := i2 (by omega)
            rw [if_neg (by omega)]; omega
        rw [gp_app_r, hu]
section
variable {ns ls : List P2}
theorem cutS_leaf (h : WOk ns ls) {k : Nat} (hk : k < ns.length) (hd : degOf ns ls (k : Int) = 1) : ∃ e, CutS ns ls (wnN ns (k : Int) ns.length) (wnL ls (k : Int) ls.length) k e ∧ ∀ j, j < ls.length → j ≠ e → (gp ls (j : Nat)).1 ≠ (k : Int) ∧ (gp ls (j : Nat)).2 ≠ (k : Int) := by
  obtain ⟨h1, -⟩ := leaf_one h hk hd
  obtain ⟨x, hx⟩ := List.length_eq_one_iff.1 h1
  have hx0 : x ∈ lat ls (k : Int) ls.length := by rw [hx]; exact List.mem_singleton.2 rfl
  obtain ⟨e, rfl, he, hat⟩ := lat_mem hx0
  have huniq : ∀ j : Nat, j < ls.length → j ≠ e → (gp ls (j : Nat)).1 ≠ (k : Int) ∧ (gp ls (j : Nat)).2 ≠ (k : Int) := by
    intro j hj hne
    have : ¬ ((gp ls (j : Nat)).1 = (k : Int) ∨ (gp ls (j : Nat)).2 = (k : Int)) := by
      intro c
      have : (j : Int) ∈ lat ls (k : Int) ls.length := List.mem_map.2 ⟨j, List.mem_filter.2 ⟨List.mem_range.2 hj, atL_iff.2 c⟩, rfl⟩
      rw [hx, List.mem_singleton] at this
      omega
    exact ⟨fun c => this (.inl c), fun c => this (.inr c)⟩
  have hN := wnN_length hk
  obtain ⟨-, l2, l3⟩ := wnL_one (atL_iff.1 hat) ls.length huniq
  have hl := l2 he
  refine ⟨e, ⟨hl, he, hN, fun i hi => ?_, fun a ha => gp_cut hk (by omega), atL_iff.1 hat⟩, huniq⟩
  have hup : upN e i < ls.length := by unfold upN; split <;> omega
  obtain ⟨n1, n2⟩ := huniq _ hup (upN_ne _ _)
  obtain ⟨a, b, eab, hab, hb⟩ := lok_nat (h.ld _ hup).1
  rw [eab] at n1 n2
  obtain ⟨a', da, ua, va, _⟩ := dn_nat (k := k) (a := a) n1
  obtain ⟨b', db, ub, vb, wb⟩ := dn_nat (k := k) (a := b) n2
  refine ⟨a', b', by rw [eab, ua, ub], by rw [l3 i hi, eab, da, db], ?_, ?_⟩
  · unfold upN at ua ub; split at ua <;> split at ub <;> omega
  · unfold upN at ub; split at ub <;> omega
/-- another lead at the leaf's neighbour -/
theorem other_lead (hw : whole ns ls = true) {k e q : Nat} (he : e < ls.length) (hq : q < ns.length) (h2 : 2 < ns.length)
    (hle : gp ls (e : Nat) = ((k : Int), (q : Int)) ∨ gp ls (e : Nat) = ((q : Int), (k : Int))) (hu : ∀ j, j < ls.length → j ≠ e → (gp ls (j : Nat)).1 ≠ (k : Int) ∧ (gp ls (j : Nat)).2 ≠ (k : Int)) :
    ∃ j, j < ls.length ∧ j ≠ e ∧ ((gp ls (j : Nat)).1 = (q : Int) ∨ (gp ls (j : Nat)).2 = (q : Int)) := by
  have c := whole_cn hw
  by_cases hex : ∃ j, j < ls.length ∧ j ≠ e ∧ ((gp ls (j : Nat)).1 = (q : Int) ∨ (gp ls (j : Nat)).2 = (q : Int))
  · exact hex
  · exfalso
    have hcon : ∀ a b : Nat, ((a : Int), (b : Int)) ∈ ls → (decide (a = k ∨ a = q)) = decide (b = k ∨ b = q) := by
      intro a b hm
      obtain ⟨t, ht, et⟩ := List.getElem_of_mem hm
      have eg := gp_nat ls t ht
      rw [et] at eg
      by_cases c1 : t = e
      · subst c1
        rw [eg] at hle
        rcases hle with h | h <;> injection h with h1 h2
        · rw [decide_eq_true (show a = k ∨ a = q by omega), decide_eq_true (show b = k ∨ b = q by omega)]
        · rw [decide_eq_true (show a = k ∨ a = q by omega), decide_eq_true (show b = k ∨ b = q by omega)]
      · obtain ⟨u1, u2⟩ := hu t ht c1
        rw [eg] at u1 u2
        have u3 : ¬ (a : Int) = q := fun h => hex ⟨t, ht, c1, .inl (by rw [eg]; exact h)⟩
        have u4 : ¬ (b : Int) = q := fun h => hex ⟨t, ht, c1, .inr (by rw [eg]; exact h)⟩
        have u1 : (a : Int) ≠ k := u1
        have u2 : (b : Int) ≠ k := u2
        rw [decide_eq_false (show ¬ (a = k ∨ a = q) by omega), decide_eq_false (show ¬ (b = k ∨ b = q) by omega)]
    obtain ⟨r, hr, hrk, hrq⟩ : ∃ r, r < ns.length ∧ r ≠ k ∧ r ≠ q := by
      by_cases c0 : 0 ≠ k ∧ 0 ≠ q
      · exact ⟨0, by omega, c0.1, c0.2⟩
      · by_cases c1 : 1 ≠ k ∧ 1 ≠ q
        · exact ⟨1, by omega, c1.1, c1.2⟩
        · exact ⟨2, by omega, by omega, by omega⟩
    have : decide (q = k ∨ q = q) = decide (r = k ∨ r = q) := cn_const (g := fun a => decide (a = k ∨ a = q)) hcon ((c q hq).symm.trans (c r hr))
    rw [decide_eq_true (show q = k ∨ q = q from .inr rfl), decide_eq_false (show ¬ (r = k ∨ r = q) by omega)] at this
    cases this
/-- a dart with a second one beside it has another one before it -/
theorem prevD_ne {d j : Nat} (hd : d < 2 * ls.length) (hj : j < 2 * ls.length) (hne : j ≠ d) (hs : (dEnds ls j).1 = (dEnds ls d).1) : prevD ns ls d ≠ d := by
  intro e
  have hn := arnN_nodup ns ls (dEnds ls d).1 (2 * ls.length)
  have m1 : d ∈ arnd ns ls (dEnds ls d).1 := arnd_self hd
  have m2 : j ∈ arnd ns ls (dEnds ls d).1 := by rw [← hs]; exact arnd_self hj
  unfold prevD besN stepL at e
  change (arnd ns ls (dEnds ls d).1).Nodup at hn
  generalize arnd ns ls (dEnds ls d).1 = l at *
  have i1 := List.idxOf_lt_length_iff.2 m1
  have i2 := List.idxOf_lt_length_iff.2 m2
  have g1 : l.getD (l.idxOf d) 0 = d := by rw [List.getD_eq_getElem?_getD, List.getElem?_eq_getElem i1]; simp
  have g2 : l.getD (l.idxOf j) 0 = j := by rw [List.getD_eq_getElem?_getD, List.getElem?_eq_getElem i2]; simp
  have hlt : (l.idxOf d + (l.length - 1)) % l.length < l.length := Nat.mod_lt _ (by omega)
  have := nodup_getD_inj hn hlt i1 (by rw [e, g1])
  have hij : l.idxOf d ≠ l.idxOf j := fun h => hne (by rw [← g2, ← h, g1])
  rcases Nat.eq_zero_or_pos (l.idxOf d) with h0 | h0
  · rw [h0, Nat.zero_add, Nat.mod_eq_of_lt (by omega)] at this; omega
  · rw [show l.idxOf d + (l.length - 1) = (l.idxOf d - 1) + l.length by omega, Nat.add_mod_right, Nat.mod_eq_of_lt (by omega)] at this; omega
/-- the outer faces of the window and of the window without the leaf are as large -/
theorem cut_area (hw : whole ns ls = true) {k : Nat} (hk : k < ns.length) (hd : degOf ns ls (k : Int) = 1) (h2 : 2 < ns.length)
    {o o' : Nat} (ho : o < (fcs ns ls).length) (hs : ∀ f, f < (fcs ns ls).length → f ≠ o → 0 < area ns ls ((fcs ns ls).getD f []))
    (hwd : ∀ f d, d < 2 * ls.length → wd ns ls (zf ns ls f) d = (if sd (fcs ns ls) d = f then 1 else 0) - (if o = f then 1 else 0)) (htop : ∃ d0, d0 < 2 * ls.length ∧ sd (fcs ns ls) d0 = o ∧ ∀ z, Circ ns.length ls z → wd ns ls z d0 = 0)
    {ns' ls' : List P2} (en : wnN ns (k : Int) ns.length = ns') (el : wnL ls (k : Int) ls.length = ls')
    (ho' : o' < (fcs ns' ls').length) (hs' : ∀ f, f < (fcs ns' ls').length → f ≠ o' → 0 < area ns' ls' ((fcs ns' ls').getD f []))
    (hwd' : ∀ f d, d < 2 * ls'.length → wd ns' ls' (zf ns' ls' f) d = (if sd (fcs ns' ls') d = f then 1 else 0) - (if o' = f then 1 else 0)) (htop' : ∃ d0, d0 < 2 * ls'.length ∧ sd (fcs ns' ls') d0 = o' ∧ ∀ z, Circ ns'.length ls' z → wd ns' ls' z d0 = 0) :
    area ns' ls' ((fcs ns' ls').getD o' []) = area ns ls ((fcs ns ls).getD o []) := by
  obtain ⟨h, _⟩ := whole_ok hw
  obtain ⟨hw', -, -⟩ := whole_cut hw hk hd h2
  rw [en, el] at hw'
  obtain ⟨h', _⟩ := whole_ok hw'
  obtain ⟨e, C, hu⟩ := cutS_leaf h hk hd
  rw [en, el] at C
  have hml := C.ml
  have hel := C.el
  apply Int.le_antisymm
  · have hz0 := C.leaf0 h hk (zf_circ (ns := ns) (ls := ls) o)
    have hcz := C.circ_ hz0 (zf_circ (ns := ns) (ls := ls) o)
    have := area_least hw' ho' hs' htop' hcz fun d hd' => by
      have hi : d / 2 < ls'.length := by omega
      obtain ⟨w1, w2⟩ := C.wd_ h h' hz0 hi
      have hup := C.up_lt hi
      rcases dart_cases d with c | c
      · rw [c, w1, hwd o _ (by omega), if_pos rfl]
        split <;> omega
      · rw [c, w2, hwd o _ (by omega), if_pos rfl]
        split <;> omega
    rw [C.areaZ_ hz0, ← area_face ho] at this
    exact this
  · obtain ⟨z, hz⟩ : ∃ z : Nat → Int, z = fun j => if j = e then 0 else zf ns' ls' o' (dnN e j) := ⟨_, rfl⟩
    have hz0 : z e = 0 := by rw [hz]; exact if_pos rfl
    have hzu : (fun i => z (upN e i)) = zf ns' ls' o' := by
      funext i
      rw [hz]
      show (if upN e i = e then 0 else zf ns' ls' o' (dnN e (upN e i))) = _
      rw [if_neg (upN_ne e i)]
      congr 1
      unfold dnN upN; split <;> split <;> omega
    have hcz : Circ ns.length ls z := C.circ_back hk hz0 (by rw [hzu]; exact zf_circ o')
    have wother : ∀ d, d < 2 * ls.length → d / 2 ≠ e → wd ns ls z d = 0 ∨ wd ns ls z d = -1 := by
      intro d hd' hne
      obtain ⟨i, hi, ei⟩ : ∃ i, i < ls'.length ∧ upN e i = d / 2 := by
        rcases Nat.lt_or_ge (d / 2) e with c | c
        · exact ⟨d / 2, by omega, by unfold upN; rw [if_pos c]⟩
        · exact ⟨d / 2 - 1, by omega, by unfold upN; rw [if_neg (by omega)]; omega⟩
      obtain ⟨w1, w2⟩ := C.wd_ h h' hz0 hi
      rw [hzu] at w1 w2
      rcases dart_cases d with c | c
      · rw [c, ← ei, ← w1, hwd' o' _ (by omega), if_pos rfl]
        split <;> omega
      · rw [c, ← ei, ← w2, hwd' o' _ (by omega), if_pos rfl]
        split <;> omega
    have wtwin : ∀ d, d < 2 * ls.length → d / 2 = e → wd ns ls z (d ^^^ 1) = wd ns ls z d := by
      intro d hd' he
      rw [wd_twin' h z hd']
      unfold zc
      rw [he, hz0]
      split <;> omega
    -- a dart of the leaf's lead that leaves the leaf
    have wleaf : ∀ d, d < 2 * ls.length → d / 2 = e → (dEnds ls d).1 = (k : Int) → wd ns ls z d = 0 ∨ wd ns ls z d = -1 := by
      intro d hd' he hsrc
      obtain ⟨a, b, eab, hab, hb⟩ := lok_nat (h.ld e hel).1
      have hx := xor1_lt hd'
      have hxe : (d ^^^ 1) / 2 = e := by rcases dart_cases d with c | c <;> rw [c] <;> first | (rw [xor_even]; omega) | (rw [xor_odd]; omega)
      obtain ⟨q, hqk, hqn, hle, hsx⟩ : ∃ q : Nat, q ≠ k ∧ q < ns.length ∧ (gp ls (e : Nat) = ((k : Int), (q : Int)) ∨ gp ls (e : Nat) = ((q : Int), (k : Int))) ∧ (dEnds ls (d ^^^ 1)).1 = (q : Int) := by
        rcases dart_cases d with c | c
        · rw [c, he, dart_even, eab] at hsrc
          have hsrc : (a : Int) = k := hsrc
          refine ⟨b, by omega, hb, .inl (by rw [eab, hsrc]), ?_⟩
          rw [c, xor_even, he, dart_odd, eab]
        · rw [c, he, dart_odd, eab] at hsrc
          have hsrc : (b : Int) = k := hsrc
          refine ⟨a, by omega, by omega, .inr (by rw [eab, hsrc]), ?_⟩
          rw [c, xor_odd, he, dart_even, eab]
      obtain ⟨j, hj, hje, hjq⟩ := other_lead hw hel hqn h2 hle hu
      have hne : prevD ns ls (d ^^^ 1) ≠ d ^^^ 1 := by
        rcases hjq with c | c
        · exact prevD_ne hx (j := 2 * j) (by omega) (by omega) (by rw [dart_even, c, hsx])
        · exact prevD_ne hx (j := 2 * j + 1) (by omega) (by omega) (by rw [dart_odd, hsx]; exact c)
      obtain ⟨p1, p2⟩ := prevD_ok (ns := ns) hx
      have hpe : prevD ns ls (d ^^^ 1) / 2 ≠ e := by
        intro c
        have : prevD ns ls (d ^^^ 1) = d ∨ prevD ns ls (d ^^^ 1) = d ^^^ 1 := by
          rcases dart_cases d with c1 | c1
          · have := xor_even (d / 2)
            rw [← c1] at this
            omega
          · have := xor_odd (d / 2)
            rw [← c1] at this
            omega
        rcases this with c1 | c1
        · rw [c1, hsrc, hsx] at p2; omega
        · exact hne c1
      rw [← wd_nxt h hcz hd']
      exact wother _ p1 hpe
    have := area_least hw ho hs htop hcz fun d hd' => by
      by_cases he : d / 2 = e
      · by_cases hsrc : (dEnds ls d).1 = (k : Int)
        · exact wleaf d hd' he hsrc
        · rw [← wtwin d hd' he]
          refine wleaf _ (xor1_lt hd') (by rcases dart_cases d with c | c <;> rw [c] <;> first | (rw [xor_even]; omega) | (rw [xor_odd]; omega)) ?_
          have hl := C.leafl
          rcases dart_cases d with c | c
          · rw [c, he, dart_even] at hsrc
            rw [c, xor_even, he, dart_odd]
            rcases hl with g | g
            · exact absurd g hsrc
            · exact g
          · rw [c, he, dart_odd] at hsrc
            rw [c, xor_odd, he, dart_even]
            rcases hl with g | g
            · exact g
            · exact absurd g hsrc
      · exact wother d hd' he
    rw [← C.areaZ_ hz0, hzu, ← area_face ho'] at this
    exact this
def vTotal (ns ls : List P2) : Int := vAreaOf ns ls (vOuter ns ls)
theorem total_eq (hw : whole ns ls = true) {o : Nat} (ho : o < (fcs ns ls).length) (h0 : area ns ls ((fcs ns ls).getD o []) ≤ 0) (hs : ∀ f, f < (fcs ns ls).length → f ≠ o → 0 < area ns ls ((fcs ns ls).getD f [])) :
    vOuter ns ls = (o : Int) ∧ vTotal ns ls = - area ns ls ((fcs ns ls).getD o []) := by
  have e : vOuter ns ls = (o : Int) := by
    unfold vOuter
    rw [vF_eq2 hw]
    refine ffst_yes ho (decide_eq_true h0) fun j hj => ?_
    have := hs j (by omega) (by omega)
    exact decide_eq_false (by omega)
  refine ⟨e, ?_⟩
  unfold vTotal vAreaOf
  rw [e, if_pos (by rw [hasF_iff, vF_eq2 hw]; omega), vF_eq2 hw, Int.toNat_natCast]
  unfold imax
  omega
theorem cut_total (hw : whole ns ls = true) {k : Nat} (hk : k < ns.length) (hd : degOf ns ls (k : Int) = 1) (h2 : 2 < ns.length) :
    vTotal (wnN ns (k : Int) ns.length) (wnL ls (k : Int) ls.length) = vTotal ns ls := by
  obtain ⟨hw', -, -⟩ := whole_cut hw hk hd h2
  obtain ⟨o, ho, h0, hs, hwd, htop⟩ := face_signs hw
  obtain ⟨o', ho', h0', hs', hwd', htop'⟩ := face_signs hw'
  rw [(total_eq hw ho h0 hs).2, (total_eq hw' ho' h0' hs').2, cut_area hw hk hd h2 ho hs hwd htop rfl rfl ho' hs' hwd' htop']
theorem total_prn : ∀ (f : Nat) {ns ls : List P2}, whole ns ls = true → vTotal (prn f ns ls).1 (prn f ns ls).2 = vTotal ns ls
  | 0, _, _, _ => rfl
  | f + 1, ns, ls, hw => by
    by_cases c1 : ns.length ≤ 2
    · unfold prn; rw [if_pos c1]
    · by_cases c2 : (vEndNodes ns ls).length = 0
      · unfold prn; rw [if_neg c1, if_pos c2]
      · obtain ⟨k, ek, hk, hd⟩ := end_deg (ns := ns) (ls := ls) (by omega)
        obtain ⟨r1, r2, r3⟩ := whole_cut hw hk hd (by omega)
        unfold prn
        rw [if_neg c1, if_neg c2, ek, total_prn f r1, cut_total hw hk hd (by omega)]
end
end Go.Proofs.Ytdhmjhoaegdfjaa.Pl

namespace Go.Proofs.Ytdhmjhoaegdfjaa.Pl
open Go.Proofs.Ytdhmjhoaegdfjaa
/-! What FnLoose asks, last part. -/
section
variable {ns ls : List P2}
theorem sidesOf_eq2 (hw : whole ns ls = true) {k : Nat} (hk : k < ls.length) : vSidesOf ns ls (k : Int) = ((sd (fcs ns ls) (2 * k) : Int), (sd (fcs ns ls) (2 * k + 1) : Int)) := by
  have e1 := vSides_gi hw (d := 2 * k) (by omega)
  have e2 := vSides_gi hw (d := 2 * k + 1) (by omega)
  rw [show ((2 * k : Nat) : Int) = 2 * (k : Int) by omega] at e1
  rw [show ((2 * k + 1 : Nat) : Int) = 2 * (k : Int) + 1 by omega] at e2
  unfold vSidesOf
  rw [if_pos ⟨hw, wi_iff.2 ⟨by omega, by omega⟩⟩, e1, e2]
theorem loose_sd (hw : whole ns ls = true) {k : Nat} (hk : k < ls.length) : vIsLoose ns ls (k : Int) = decide (sd (fcs ns ls) (2 * k) = sd (fcs ns ls) (2 * k + 1)) := by
  unfold vIsLoose
  rw [sidesOf_eq2 hw hk, decide_eq_true (by show (0 : Int) ≤ (sd (fcs ns ls) (2 * k) : Int); omega), Bool.true_and, Bool.eq_iff_iff, decide_eq_true_eq, decide_eq_true_eq]
  show (sd (fcs ns ls) (2 * k) : Int) = (sd (fcs ns ls) (2 * k + 1) : Int) ↔ _
  omega
theorem has_loose {k : Nat} (hk : k < ls.length) : hsI (vLooseLeads ns ls) (k : Int) = vIsLoose ns ls (k : Int) := by
  unfold hsI vLooseLeads
  rw [Bool.eq_iff_iff, List.contains_iff_mem, flt_mem]
  constructor
  · rintro ⟨i, e, _, h⟩
    obtain rfl : k = i := by omega
    exact h
  · intro h; exact ⟨k, rfl, hk, h⟩
theorem drop_lead (hw : whole ns ls = true) {k : Nat} (hk : k < ls.length) : vDropLead ns ls (k : Int) = ((ns, ls.take k ++ ls.drop (k + 1)), true) := by
  unfold vDropLead
  rw [if_pos ⟨whole_wok hw, wi_iff.2 ⟨by omega, by omega⟩⟩, Int.toNat_natCast]
theorem parts_drop (hw : whole ns ls = true) {k : Nat} (hk : k < ls.length) : (cparts ns (ls.take k ++ ls.drop (k + 1)) == 2) = vIsLoose ns ls (k : Int) := by
  rw [loose_sd hw hk]
  unfold cparts
  rw [if_pos (wok_drop (whole_wok hw) hk), loose_parts hw hk]
  by_cases c : sd (fcs ns ls) (2 * k) = sd (fcs ns ls) (2 * k + 1)
  · rw [if_pos c, decide_eq_true c]; rfl
  · rw [if_neg c, decide_eq_false c]; rfl
theorem two_nodes (hw : whole ns ls = true) : 2 ≤ ns.length := by
  obtain ⟨h, hm⟩ := whole_ok hw
  obtain ⟨a, b, _, hab, hb⟩ := lok_nat (h.ld 0 hm).1
  omega
theorem drop_node (hw : whole ns ls = true) {k : Nat} (hk : k < ns.length) : vDropNode ns ls (k : Int) = ((wnN ns (k : Int) ns.length, wnL ls (k : Int) ls.length), true) ∧ ((wnN ns (k : Int) ns.length).length : Int) = (ns.length : Int) - 1 ∧ ((wnL ls (k : Int) ls.length).length : Int) = (ls.length : Int) - degOf ns ls (k : Int) := by
  obtain ⟨h, _⟩ := whole_ok hw
  have hN := wnN_length hk
  have hL := wnL_lat ls (k : Int) ls.length
  have hn : hasN ns ls (k : Int) = true := by unfold hasN; simp [wok_iff.2 h, wi_iff]; omega
  refine ⟨dnOk_yes h hk (two_nodes hw), by omega, ?_⟩
  unfold degOf leadsAt
  rw [if_pos hn, if_pos hn]
  omega
theorem tight_eq (hw : whole ns ls = true) : vIsTight ns ls = decide ((vLooseLeads ns ls).length = 0) := by unfold vIsTight; rw [hw, Bool.true_and]
theorem prune_eq (hw : whole ns ls = true) : vPruneEnds ns ls = (prn ns.length ns ls, true) := by unfold vPruneEnds; rw [if_pos hw]
end
end Go.Proofs.Ytdhmjhoaegdfjaa.Pl
