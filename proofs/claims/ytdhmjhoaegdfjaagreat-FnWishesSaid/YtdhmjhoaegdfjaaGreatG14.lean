import Derived.Test.YtdhmjhoaegdfjaaGreatG8
import Derived.Test.YtdhmjhoaegdfjaaGreatG12
namespace Go.Proofs.YtdhmjhoaegdfjaaGreat.Pl
open Go.Proofs.YtdhmjhoaegdfjaaGreat
/-! A whole window: Euler's formula, loose leads, four colors. -/
section
variable {ns ls : List P2}
def planW (ns ls : List P2) : Plan := ⟨ns.length, (fcs ns ls).length, ls.length, fun k => (gp ls (k : Nat)).1.toNat, fun k => (gp ls (k : Nat)).2.toNat, fun k => sd (fcs ns ls) (2 * k), fun k => sd (fcs ns ls) (2 * k + 1)⟩
theorem end_nat (h : WOk ns ls) {k : Nat} (hk : k < ls.length) : gp ls (k : Nat) = (((planW ns ls).u k : Int), ((planW ns ls).v k : Int)) := by
  have f := leadF h hk
  obtain ⟨i, hi, ei⟩ := f.ua
  obtain ⟨j, hj, ej⟩ := f.ub
  show _ = (((gp ls (k : Nat)).1.toNat : Int), ((gp ls (k : Nat)).2.toNat : Int))
  rw [ei, ej]
  exact Prod.ext (by simpa using ei) (by simpa using ej)
theorem circ_iff (h : WOk ns ls) (z : Nat → Int) : (planW ns ls).circ z ↔ Circ ns.length ls z := by
  have e : ∀ r : Nat, sm (planW ns ls).m (fun k => (if (planW ns ls).u k = r then z k else 0) - (if (planW ns ls).v k = r then z k else 0)) = sm ls.length (fun k => (if (gp ls (k : Nat)).1 = (r : Int) then z k else 0) - (if (gp ls (k : Nat)).2 = (r : Int) then z k else 0)) := by
    intro r
    refine sm_congr fun k hk => ?_
    have e := end_nat h hk
    rw [e]
    simp only [Int.ofNat_inj]
  constructor
  · intro hz r hr; rw [← e r]; exact hz r hr
  · intro hz r hr; rw [e r]; exact hz r hr
theorem planW_ok (h : WOk ns ls) : (planW ns ls).Ok where
  un k hk := by
    obtain ⟨i, hi, ei⟩ := (leadF h hk).ua
    show (gp ls (k : Nat)).1.toNat < ns.length
    rw [ei]; exact hi
  vn k hk := by
    obtain ⟨i, hi, ei⟩ := (leadF h hk).ub
    show (gp ls (k : Nat)).2.toNat < ns.length
    rw [ei]; exact hi
  lf k hk := (sd_spec (ns := ns) (show 2 * k < 2 * ls.length by have : k < ls.length := hk; omega)).1
  rf k hk := (sd_spec (ns := ns) (show 2 * k + 1 < 2 * ls.length by have : k < ls.length := hk; omega)).1
  flow z hz := flow_faces h ((circ_iff h z).1 hz)
  bdry w := (circ_iff h _).2 (faces_flow w ns.length)
theorem prs_ls (h : WOk ns ls) : prs (planW ns ls).m (fun _ => true) (planW ns ls).u (planW ns ls).v = ls := by
  unfold prs
  rw [List.filter_eq_self.2 fun _ _ => rfl]
  apply List.ext_getElem
  · simp [planW]
  · intro i h1 h2
    rw [List.getElem_map, List.getElem_range, ← end_nat h h2, gp_nat ls i h2]
theorem whole_cn (hw : whole ns ls = true) : ∀ i, i < ns.length → Cn ls 0 i := by
  obtain ⟨h, _⟩ := whole_ok hw
  have hv := vd_of_ok h
  have h0 := h.lo
  intro i hi
  simp only [whole, Bool.and_eq_true, decide_eq_true_eq] at hw
  have := (partL_all hv (by omega)).1 hw.2
  rw [← labs_iff hv (by omega) hi, this i hi]
  have := this 0 (by omega)
  simpa using this
/-- around a node all faces hang together -/
theorem around_one (h : WOk ns ls) {d e : Nat} (hd : d < 2 * ls.length) (he : e < 2 * ls.length) (hv : (dEnds ls d).1 = (dEnds ls e).1) :
    Cn (prs (planW ns ls).m (fun _ => true) (planW ns ls).L (planW ns ls).R) (sd (fcs ns ls) d) (sd (fcs ns ls) e) := by
  have twin : ∀ d, d < 2 * ls.length → Cn (prs (planW ns ls).m (fun _ => true) (planW ns ls).L (planW ns ls).R) (sd (fcs ns ls) d) (sd (fcs ns ls) (d ^^^ 1)) := by
    intro d hd
    have hk : d / 2 < (planW ns ls).m := show d / 2 < ls.length by omega
    have hin := prs_in (B := fun _ => true) (u := (planW ns ls).L) (v := (planW ns ls).R) hk rfl
    rcases dart_cases d with c | c <;> rw [c]
    · rw [xor_even]; exact Cn.refl.fwd hin
    · rw [xor_odd]; exact Cn.refl.bwd hin
  have prev : ∀ d, d < 2 * ls.length → Cn (prs (planW ns ls).m (fun _ => true) (planW ns ls).L (planW ns ls).R) (sd (fcs ns ls) d) (sd (fcs ns ls) (prevD ns ls d)) := by
    intro d hd
    have h1 := sd_nxt (ns := ns) (xor1_lt hd)
    unfold nxt at h1
    rw [xor1_xor1] at h1
    rw [h1]
    exact twin d hd
  obtain ⟨v, _, ev⟩ := node_f h hd
  rw [ev] at hv
  have md : d ∈ arnd ns ls (v : Nat) := arnd_mem.2 ⟨hd, ev⟩
  have me : e ∈ arnd ns ls (v : Nat) := arnd_mem.2 ⟨he, hv.symm⟩
  have first : ∀ i, i < (arnd ns ls (v : Nat)).length → Cn (prs (planW ns ls).m (fun _ => true) (planW ns ls).L (planW ns ls).R) (sd (fcs ns ls) ((arnd ns ls (v : Nat)).getD i 0)) (sd (fcs ns ls) ((arnd ns ls (v : Nat)).getD 0 0)) := by
    intro i
    induction i with
    | zero => intro _; exact .refl
    | succ i ih =>
      intro hi
      have hm : (arnd ns ls (v : Nat)).getD (i + 1) 0 ∈ arnd ns ls (v : Nat) := by rw [getD_at _ hi]; exact List.getElem_mem hi
      have hmm := arnd_mem.1 hm
      have hp := prev _ hmm.1
      have e1 : prevD ns ls ((arnd ns ls (v : Nat)).getD (i + 1) 0) = (arnd ns ls (v : Nat)).getD i 0 := by
        unfold prevD besN stepL
        rw [hmm.2, idxOf_getD (l := arnd ns ls (v : Nat)) (arnN_nodup ns ls (v : Nat) _) hi]
        dsimp only
        rw [show i + 1 + ((arnd ns ls (v : Nat)).length - 1) = i + (arnd ns ls (v : Nat)).length by omega, Nat.add_mod_right, Nat.mod_eq_of_lt (by omega)]
      rw [e1] at hp
      exact hp.trans (ih (by omega))
  have at1 : ∀ x, x ∈ arnd ns ls (v : Nat) → Cn (prs (planW ns ls).m (fun _ => true) (planW ns ls).L (planW ns ls).R) (sd (fcs ns ls) x) (sd (fcs ns ls) ((arnd ns ls (v : Nat)).getD 0 0)) := by
    intro x hx
    obtain ⟨i, hi, rfl⟩ := List.getElem_of_mem hx
    rw [← getD_at _ hi]
    exact first i hi
  exact (at1 d md).trans (at1 e me).symm
theorem planW_conn (hw : whole ns ls = true) : Conn (planW ns ls) := by
  obtain ⟨h, hm⟩ := whole_ok hw
  have h0 := h.lo
  have ok := planW_ok h
  have hF : 0 < (planW ns ls).F := fcs_pos hm
  refine { toOk := ok, c1 := ?_, d1 := ?_, fp := hF, np := by show 0 < ns.length; omega }
  · unfold Plan.c
    rw [prs_ls h]
    exact (np_one (vd_of_ok h) (by omega)).2 (whole_cn hw)
  · refine (np_one (vdF ok _) hF).2 ?_
    -- the face of dart 0 is joined with all
    have all : ∀ a b : Nat, Cn ls a b → (∃ d, d < 2 * ls.length ∧ (dEnds ls d).1 = (a : Int)) → ∀ d, d < 2 * ls.length → (dEnds ls d).1 = (a : Int) → ∀ e, e < 2 * ls.length → (dEnds ls e).1 = (b : Int) → Cn (prs (planW ns ls).m (fun _ => true) (planW ns ls).L (planW ns ls).R) (sd (fcs ns ls) d) (sd (fcs ns ls) e) := by
      intro a b hc
      induction hc with
      | refl => intro _ d hd ed e he ee; exact around_one h hd he (ed.trans ee.symm)
      | @fwd i j _ hl ih =>
        intro ha d hd ed e he ee
        obtain ⟨k, hk, ek⟩ := List.getElem_of_mem hl
        have g1 : gp ls (k : Nat) = ((i : Int), (j : Int)) := by rw [gp_nat ls k hk, ek]
        have c1 := ih ha d hd ed (2 * k) (by omega) (by rw [dart_even, g1])
        have c2 := around_one h (d := 2 * k + 1) (e := e) (by omega) he (by rw [dart_odd, g1]; exact ee.symm)
        exact (c1.fwd (prs_in (k := k) hk rfl)).trans c2
      | @bwd i j _ hl ih =>
        intro ha d hd ed e he ee
        obtain ⟨k, hk, ek⟩ := List.getElem_of_mem hl
        have g1 : gp ls (k : Nat) = ((j : Int), (i : Int)) := by rw [gp_nat ls k hk, ek]
        have c1 := ih ha d hd ed (2 * k + 1) (by omega) (by rw [dart_odd, g1])
        have c2 := around_one h (d := 2 * k) (e := e) (by omega) he (by rw [dart_even, g1]; exact ee.symm)
        exact (c1.bwd (prs_in (k := k) hk rfl)).trans c2
    have face : ∀ f, f < (fcs ns ls).length → ∃ d, d < 2 * ls.length ∧ sd (fcs ns ls) d = f := by
      intro f hf
      obtain ⟨d, hd, ed⟩ := fcs_walk (ns := ns) hf
      exact ⟨d, hd, sd_uniq hd hf (by rw [ed]; exact wlk_self hd)⟩
    intro f hf
    obtain ⟨d, hd, rfl⟩ := face f hf
    obtain ⟨d0, hd0, e0⟩ := face 0 hF
    rw [← e0]
    obtain ⟨a, ha, ea⟩ := node_f h hd0
    obtain ⟨b, hb, eb⟩ := node_f h hd
    exact all a b ((whole_cn hw a ha).symm.trans (whole_cn hw b hb)) ⟨d0, hd0, ea⟩ d0 hd0 ea d hd eb
theorem cnp_true (n : Nat) : cnp (fun _ => true) n = n := by
  induction n with
  | zero => rfl
  | succ n ih => rw [cnp_yes rfl, ih]
/-- EULER'S FORMULA -/
theorem euler (hw : whole ns ls = true) : (fcs ns ls).length + ns.length = ls.length + 2 := by
  have hc := planW_conn hw
  have := dual hc.toOk (fun _ => true)
  rw [hc.c1, hc.d1, cnp_true] at this
  have e : (planW ns ls).c (fun _ => !true) = ns.length := by
    unfold Plan.c
    have : prs (planW ns ls).m (fun _ => !true) (planW ns ls).u (planW ns ls).v = [] := by unfold prs; simp
    rw [this, np_none]; rfl
  rw [e] at this
  exact this
/-- A LOOSE LEAD HOLDS TWO PARTS TOGETHER -/
theorem loose_parts (hw : whole ns ls = true) {x : Nat} (hx : x < ls.length) : nparts ns.length (ls.take x ++ ls.drop (x + 1)) ns.length = if sd (fcs ns ls) (2 * x) = sd (fcs ns ls) (2 * x + 1) then 2 else 1 := by
  have hc := planW_conn hw
  obtain ⟨h, _⟩ := whole_ok hw
  have hd := dual hc.toOk (fun k => decide (k = x))
  have h1 : (cnp (fun k => decide (k = x)) (planW ns ls).m : Int) = 1 := by
    rw [cnp_sm, sm_one (n := (planW ns ls).m) (p := x) hx]
    · simp
    · intro i _ hne; simp [hne]
  have hpr : ∀ l, l ∈ prs (planW ns ls).m (fun k => decide (k = x)) (planW ns ls).L (planW ns ls).R → l ∈ ([] : List P2) ∨ l = (((planW ns ls).L x : Int), ((planW ns ls).R x : Int)) := by
    intro l hl
    obtain ⟨k, _, e, rfl⟩ := mem_prs.1 hl
    rw [decide_eq_true_eq] at e
    rw [e]; exact .inr rfl
  have h2 := np_add (n := (planW ns ls).F) (ls := []) (ms := prs (planW ns ls).m (fun k => decide (k = x)) (planW ns ls).L (planW ns ls).R) (fun l hl => by cases hl) (vdF hc.toOk _) (p := (planW ns ls).L x) (q := (planW ns ls).R x) (fun l hl => by cases hl) (prs_in hx (by simp)) hpr
  rw [np_none] at h2
  have h3 : Cn [] ((planW ns ls).L x) ((planW ns ls).R x) ↔ sd (fcs ns ls) (2 * x) = sd (fcs ns ls) (2 * x + 1) := by
    constructor
    · intro c
      exact cn_const (g := id) (fun i j e => by cases e) c
    · intro e
      show Cn [] (sd (fcs ns ls) (2 * x)) (sd (fcs ns ls) (2 * x + 1))
      rw [e]; exact .refl
  rw [h3] at h2
  have h4 : (planW ns ls).c (fun k => !decide (k = x)) = nparts ns.length (ls.take x ++ ls.drop (x + 1)) ns.length := by
    have hmem : ∀ l, l ∈ prs (planW ns ls).m (fun k => !decide (k = x)) (planW ns ls).u (planW ns ls).v ↔ l ∈ ls.take x ++ ls.drop (x + 1) := by
      intro l
      rw [mem_prs, List.mem_append]
      constructor
      · rintro ⟨k, hk, e, rfl⟩
        have hk : k < ls.length := hk
        have hne : k ≠ x := by simpa using e
        rw [← end_nat h hk, gp_nat ls k hk]
        rcases Nat.lt_or_gt_of_ne hne with c | c
        · left
          rw [List.mem_iff_getElem]
          exact ⟨k, by rw [List.length_take]; omega, by rw [List.getElem_take]⟩
        · right
          rw [List.mem_iff_getElem]
          refine ⟨k - (x + 1), by rw [List.length_drop]; omega, ?_⟩
          rw [List.getElem_drop]
          congr 1; omega
      · rintro (c | c)
        · obtain ⟨k, hk, e⟩ := List.mem_iff_getElem.1 c
          rw [List.length_take] at hk
          rw [List.getElem_take] at e
          have hkl : k < ls.length := by omega
          exact ⟨k, hkl, by simp; omega, by rw [← end_nat h hkl, gp_nat ls k hkl, e]⟩
        · obtain ⟨k, hk, e⟩ := List.mem_iff_getElem.1 c
          rw [List.length_drop] at hk
          rw [List.getElem_drop] at e
          have hkl : x + 1 + k < ls.length := by omega
          exact ⟨x + 1 + k, hkl, by simp; omega, by rw [← end_nat h hkl, gp_nat ls _ hkl, e]⟩
    have hv2 : Vd ns.length (ls.take x ++ ls.drop (x + 1)) := fun l hl => vdN hc.toOk _ l ((hmem l).2 hl)
    unfold Plan.c
    exact np_same hv2 (vdN hc.toOk _) fun i j _ _ => ⟨fun c => c.mono fun l hl => (hmem l).2 hl, fun c => c.mono fun l hl => (hmem l).1 hl⟩
  rw [hc.c1, h4] at hd
  have hfp := hc.fp
  unfold Plan.d at hd
  by_cases c : sd (fcs ns ls) (2 * x) = sd (fcs ns ls) (2 * x + 1)
  · rw [if_pos c]
    have := h2.1 c
    omega
  · rw [if_neg c]
    have := h2.2 c
    omega
end
end Go.Proofs.YtdhmjhoaegdfjaaGreat.Pl
