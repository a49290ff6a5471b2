import Derived.Test.YtdhmjhoaegdfjaaT22
import Derived.Test.YtdhmjhoaegdfjaaD25
namespace Go.Proofs.Ytdhmjhoaegdfjaa.Pl
open Go.Proofs.Ytdhmjhoaegdfjaa
/-! What FnPanes asks, second part: a pane has three corners. -/
section
variable {ns ls : List P2}
theorem twin_src (ls : List P2) (d : Nat) : (dEnds ls (d ^^^ 1)).1 = (dEnds ls d).2 := by
  rcases dart_cases d with c | c
  · rw [c, xor_even, dart_odd, dart_even]
  · rw [c, xor_odd, dart_even, dart_odd]
theorem nxt_src {d : Nat} (hd : d < 2 * ls.length) : (dEnds ls (nxt ns ls d)).1 = (dEnds ls d).2 := by
  unfold nxt
  rw [(prevD_ok (xor1_lt hd)).2, twin_src]
theorem wlk_at {d i : Nat} (hi : i < (wlk ns ls d).length) : (wlk ns ls d).getD i 0 = itr (nxt ns ls) i d := by
  unfold wlk wlkR at *
  rw [List.length_map, List.length_range] at hi
  rw [List.getD_eq_getElem?_getD, List.getElem?_map, List.getElem?_range hi]; rfl
theorem wlk_wrap {d : Nat} (hd : d < 2 * ls.length) : itr (nxt ns ls) (wlk ns ls d).length d = d := by
  unfold wlk
  rw [wlkR_len]
  exact (per_ok hd).2.2.1
/-- the dart behind the i-th one of a face starts where that one ends -/
theorem row_next {f i : Nat} (hf : f < (fcs ns ls).length) (hi : i < ((fcs ns ls).getD f []).length) :
    (dEnds ls (((fcs ns ls).getD f []).getD ((i + 1) % ((fcs ns ls).getD f []).length) 0)).1 = (dEnds ls (((fcs ns ls).getD f []).getD i 0)).2 := by
  obtain ⟨d, hd, e⟩ := fcs_walk (ns := ns) hf
  rw [e] at hi ⊢
  rw [wlk_at hi]
  have hlt := itr_nxt_lt (ns := ns) hd i
  have key : itr (nxt ns ls) (i + 1) d = nxt ns ls (itr (nxt ns ls) i d) := rfl
  rcases Nat.lt_or_ge (i + 1) (wlk ns ls d).length with c | c
  · rw [Nat.mod_eq_of_lt c, wlk_at c, key, nxt_src hlt]
  · have e2 : i + 1 = (wlk ns ls d).length := by omega
    rw [e2, Nat.mod_self, wlk_at (by omega)]
    have := wlk_wrap (ns := ns) hd
    rw [← e2, key] at this
    show (dEnds ls d).1 = _
    rw [← nxt_src hlt, this]
end
theorem sm_per {L : Nat} {g : Nat → Int} (hg : ∀ i, g (i + L) = g i) : ∀ a, sm L (fun i => g (a + i)) = sm L g
  | 0 => sm_congr fun i _ => by rw [Nat.zero_add]
  | a + 1 => by
    have ih := sm_per hg a
    have h1 : sm L (fun i => g (a + i)) + g (a + L) = g (a + 0) + sm L (fun i => g (a + (i + 1))) := by
      have := sm_shift L (fun i => g (a + i))
      rw [sm_succ] at this
      exact this
    have h2 : g (a + L) = g (a + 0) := hg a
    have h3 : sm L (fun i => g (a + 1 + i)) = sm L (fun i => g (a + (i + 1))) := sm_congr fun i _ => by rw [show a + 1 + i = a + (i + 1) by omega]
    rw [h3]; omega
/-- points, all different, around an area that is not 0: three turns at least -/
theorem corners3 {q : Nat → P2} {L : Nat} (hL : 0 < L) (hne : ∀ i, i < L → q ((i + 1) % L) ≠ q i) (hd : ∀ i j, i < j → j < L → q j ≠ q i)
    (ha : sm L (fun i => cr (q i) (q ((i + 1) % L))) ≠ 0) :
    3 ≤ cnp (fun i => turn0 (q ((i + L - 1) % L)) (q i) (q ((i + 1) % L)) != 0) L := by
  apply Classical.byContradiction
  intro hcon
  have h2 : 2 ≤ L := by
    rcases Nat.lt_or_ge L 2 with c | c
    · obtain rfl : L = 1 := by omega
      exact absurd rfl (hne 0 (by omega))
    · exact c
  obtain ⟨a, b, hab, hb, hz⟩ := cnp_two (P := fun i => turn0 (q ((i + L - 1) % L)) (q i) (q ((i + 1) % L)) != 0) L (by omega) h2
  have hper : ∀ i, q ((i + L) % L) = q (i % L) := fun i => by rw [Nat.add_mod_right]
  have hs : ∀ i, (i % L + 1) % L = (i + 1) % L := fun i => Nat.mod_add_mod i L 1
  have hne' : ∀ i, q ((i + 1) % L) ≠ q (i % L) := fun i => by
    rw [← hs]; exact hne _ (Nat.mod_lt _ hL)
  have hzz : ∀ i, a ≤ i → i + 1 < a + L → i + 1 ≠ b → turn0 (q (i % L)) (q ((i + 1) % L)) (q ((i + 2) % L)) = 0 := by
    intro i h1 h3 h4
    have hj : (i + 1) % L ≠ a ∧ (i + 1) % L ≠ b := by
      rcases Nat.lt_or_ge (i + 1) L with c | c
      · rw [Nat.mod_eq_of_lt c]; omega
      · rw [Nat.mod_eq_sub_mod c, Nat.mod_eq_of_lt (by omega)]; omega
    have key := hz ((i + 1) % L) (Nat.mod_lt _ hL) hj.1 hj.2
    have e1 : ((i + 1) % L + L - 1) % L = i % L := by
      rw [show (i + 1) % L + L - 1 = (i + 1) % L + (L - 1) by omega, Nat.mod_add_mod, show i + 1 + (L - 1) = i + L by omega, Nat.add_mod_right]
    have e2 : ((i + 1) % L + 1) % L = (i + 2) % L := Nat.mod_add_mod (i + 1) L 1
    rw [e1, e2] at key
    simpa using key
  have hpab : q (b % L) ≠ q (a % L) := by
    rw [Nat.mod_eq_of_lt hb, Nat.mod_eq_of_lt (by omega)]
    exact hd a b hab hb
  have k1 := two_turns (p := fun i => q (i % L)) hne' hab (by omega) (hper a) hpab hzz
  have k2 := line_sum (p := fun i => q (i % L)) (df_ne hpab) k1 L (Nat.le_refl _)
  have k3 := sm_per (g := fun i => cr (q (i % L)) (q ((i + 1) % L))) (L := L) (fun i => by
    show cr (q ((i + L) % L)) (q ((i + L + 1) % L)) = _
    rw [hper, show i + L + 1 = i + 1 + L by omega, hper]) a
  have k4 : sm L (fun i => cr (q (i % L)) (q ((i + 1) % L))) = sm L (fun i => cr (q i) (q ((i + 1) % L))) := sm_congr fun i hi => by rw [Nat.mod_eq_of_lt hi]
  apply ha
  rw [← k4, ← k3]
  refine k2.trans ?_
  show cr (q (a % L)) (q ((a + L) % L)) = 0
  rw [hper]
  unfold cr
  grind
section
variable {ns ls : List P2}
theorem dart_ne (h : WOk ns ls) {d : Nat} (hd : d < 2 * ls.length) : gp ns (dEnds ls d).2 ≠ gp ns (dEnds ls d).1 := by
  have hk := (h.ld (d / 2) (by omega)).1
  unfold lok at hk
  simp only [Bool.and_eq_true, decide_eq_true_eq] at hk
  have hk := hk.2
  rcases dart_cases d with c | c <;> rw [c]
  · rw [dart_even]; exact fun e => hk e.symm
  · rw [dart_odd]; exact hk
theorem node_inj (h : WOk ns ls) {a b : Nat} (ha : a < ns.length) (hb : b < ns.length) (e : gp ns (a : Nat) = gp ns (b : Nat)) : a = b := by
  rcases Nat.lt_trichotomy a b with c | c | c
  · exact absurd e.symm (peq_no.1 (h.ne b hb a c))
  · exact c
  · exact absurd e (peq_no.1 (h.ne a ha b c))
/-- a pane has three corners -/
theorem pane_corners {f : Int} (hp : vIsPane ns ls f = true) : 3 ≤ vCornersOf ns ls f ∧ vCornersOf ns ls f ≤ ((vPaneNodes ns ls f).length : Int) := by
  have hf := pane_has hp
  have hw := hasF_whole hf
  obtain ⟨h, _⟩ := whole_ok hw
  have hF : vFaces ns ls = fcs ns ls := by unfold vFaces; rw [if_pos hw]
  obtain ⟨q1, q2⟩ := hasF_iff.1 hf
  obtain ⟨f, rfl⟩ := Int.eq_ofNat_of_zero_le q1
  have hfl : f < (fcs ns ls).length := by rw [hF] at q2; omega
  have hpd := hp
  unfold vIsPane at hpd
  simp only [Bool.and_eq_true, decide_eq_true_eq] at hpd
  obtain ⟨⟨_, hout⟩, hdist⟩ := hpd
  -- the face's area
  obtain ⟨o, ho, ho1, ho2, _⟩ := face_signs hw
  have hoe : vOuter ns ls = (o : Int) := by
    unfold vOuter
    rw [hF]
    refine ffst_yes ho (decide_eq_true ho1) fun j hj => decide_eq_false ?_
    have := ho2 j (by omega) (by omega)
    omega
  have hfo : f ≠ o := fun e => hout (by rw [hoe, e])
  have harea := ho2 f hfl hfo
  -- the row
  have hV : vPaneNodes ns ls (f : Int) = tab ((fcs ns ls).getD f []).length (fun i => (dEnds ls (((fcs ns ls).getD f []).getD i 0)).1) := by
    unfold vPaneNodes
    rw [if_pos hf, hF, Int.toNat_natCast]
  have hlen : (vPaneNodes ns ls (f : Int)).length = ((fcs ns ls).getD f []).length := by rw [hV, tab_len]
  have hgi : ∀ i, i < ((fcs ns ls).getD f []).length → gi (vPaneNodes ns ls (f : Int)) (i : Nat) = (dEnds ls (((fcs ns ls).getD f []).getD i 0)).1 := fun i hi => by
    rw [hV]; exact tab_gi _ hi
  obtain ⟨_, r1, r2, r3⟩ := row_facts (ns := ns) (ls := ls) (f := f) (by omega)
  rw [hF] at r1 r2 r3
  have hnode : ∀ i, i < ((fcs ns ls).getD f []).length → ∃ a : Nat, gi (vPaneNodes ns ls (f : Int)) (i : Nat) = a ∧ a < ns.length := fun i hi => pane_node (by omega)
  have key := corners3 (q := fun i => gp ns (gi (vPaneNodes ns ls (f : Int)) (i : Nat))) (L := ((fcs ns ls).getD f []).length) (by omega)
    (fun i hi => by
      show gp ns (gi (vPaneNodes ns ls (f : Int)) ((i + 1) % ((fcs ns ls).getD f []).length : Nat)) ≠ gp ns (gi (vPaneNodes ns ls (f : Int)) (i : Nat))
      rw [hgi _ (Nat.mod_lt _ (by omega)), hgi i hi, row_next hfl hi]
      exact dart_ne h (r3 i hi))
    (fun i j hij hj => by
      show gp ns (gi (vPaneNodes ns ls (f : Int)) (j : Nat)) ≠ gp ns (gi (vPaneNodes ns ls (f : Int)) (i : Nat))
      obtain ⟨a, ea, ha⟩ := hnode i (by omega)
      obtain ⟨b, eb, hb⟩ := hnode j hj
      intro e
      rw [ea, eb] at e
      have := node_inj h hb ha e
      have e2 : gi (vPaneNodes ns ls (f : Int)) (i : Nat) = gi (vPaneNodes ns ls (f : Int)) (j : Nat) := by rw [ea, eb, this]
      have := dist_no (by omega) (tk_yes hij (by omega) e2)
      rw [hdist] at this
      cases this)
    (by
      have e : sm ((fcs ns ls).getD f []).length (fun i => cr (gp ns (gi (vPaneNodes ns ls (f : Int)) (i : Nat))) (gp ns (gi (vPaneNodes ns ls (f : Int)) ((i + 1) % ((fcs ns ls).getD f []).length : Nat)))) = area ns ls ((fcs ns ls).getD f []) := by
        rw [areaR_lsm, lsm_getD]
        refine sm_congr fun i hi => ?_
        rw [hgi _ (Nat.mod_lt _ (by omega)), hgi i hi, row_next hfl hi]
        rfl
      intro e0
      have := e.symm.trans e0
      omega)
  have hcn : vCornersOf ns ls (f : Int) = ((cnp (fun i => turn0 (gp ns (gi (vPaneNodes ns ls (f : Int)) ((i + ((fcs ns ls).getD f []).length - 1) % ((fcs ns ls).getD f []).length : Nat))) (gp ns (gi (vPaneNodes ns ls (f : Int)) (i : Nat))) (gp ns (gi (vPaneNodes ns ls (f : Int)) ((i + 1) % ((fcs ns ls).getD f []).length : Nat))) != 0) ((fcs ns ls).getD f []).length : Nat) : Int) := by
    unfold vCornersOf
    rw [if_pos hp, vTurns_len, hlen]
    have : ∀ n, n ≤ ((fcs ns ls).getD f []).length → cnp (fun i => gi (vTurns ns ls (f : Int)) (i : Nat) != 0) n = cnp (fun i => turn0 (gp ns (gi (vPaneNodes ns ls (f : Int)) ((i + ((fcs ns ls).getD f []).length - 1) % ((fcs ns ls).getD f []).length : Nat))) (gp ns (gi (vPaneNodes ns ls (f : Int)) (i : Nat))) (gp ns (gi (vPaneNodes ns ls (f : Int)) ((i + 1) % ((fcs ns ls).getD f []).length : Nat))) != 0) n := by
      intro n
      induction n with
      | zero => intro _; rfl
      | succ n ih =>
        intro hn
        have e : gi (vTurns ns ls (f : Int)) (n : Nat) = turn0 (gp ns (gi (vPaneNodes ns ls (f : Int)) ((n + ((fcs ns ls).getD f []).length - 1) % ((fcs ns ls).getD f []).length : Nat))) (gp ns (gi (vPaneNodes ns ls (f : Int)) (n : Nat))) (gp ns (gi (vPaneNodes ns ls (f : Int)) ((n + 1) % ((fcs ns ls).getD f []).length : Nat))) := by
          unfold vTurns
          rw [tab_gi _ (by omega)]
          unfold trn
          rw [hlen]
        unfold cnp
        rw [ih (by omega), e]
    rw [this _ (Nat.le_refl _)]
  rw [hcn]
  refine ⟨by omega, ?_⟩
  have := cnp_le (fun i => gi (vTurns ns ls (f : Int)) (i : Nat) != 0) ((fcs ns ls).getD f []).length
  rw [← hcn]
  unfold vCornersOf
  rw [if_pos hp, vTurns_len, hlen]
  omega
end
end Go.Proofs.Ytdhmjhoaegdfjaa.Pl
