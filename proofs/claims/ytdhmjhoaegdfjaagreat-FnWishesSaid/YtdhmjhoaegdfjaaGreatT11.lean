import Derived.Test.YtdhmjhoaegdfjaaGreatG12
namespace Go.Proofs.YtdhmjhoaegdfjaaGreat.Pl
open Go.Proofs.YtdhmjhoaegdfjaaGreat
/-! Four colors are enough, where there are at most 20 leads. -/
section
variable {P : Plan}
theorem cnp_le' (p : Nat → Bool) (n : Nat) : cnp p n ≤ n := cnp_le p n
/-- one lead more -/
def addL (T : Nat → Bool) (a : Nat) (k : Nat) : Bool := T k || decide (k = a)
theorem addL_sub (T : Nat → Bool) (a : Nat) {f g : Nat} (h : P.sam T f g) : P.sam (addL T a) f g := Cn.mono h (prs_sub fun k _ e => by simp [addL, e])
theorem addL_in (T : Nat → Bool) {a : Nat} (ha : a < P.m) : P.sam (addL T a) (P.L a) (P.R a) := Cn.refl.fwd (prs_in ha (by simp [addL]))
theorem addL_iff {T : Nat → Bool} {a : Nat} (ha : a < P.m) (f g : Nat) : P.sam (addL T a) f g ↔ P.sam T f g ∨ (P.sam T f (P.L a) ∧ P.sam T (P.R a) g) ∨ (P.sam T f (P.R a) ∧ P.sam T (P.L a) g) := by
  refine cn_add_iff (prs_sub fun k _ e => by simp [addL, e]) (prs_in ha (by simp [addL])) (fun l hl => ?_) f g
  obtain ⟨k, hk, e, rfl⟩ := mem_prs.1 hl
  unfold addL at e
  rw [Bool.or_eq_true, decide_eq_true_eq] at e
  rcases e with e | e
  · exact .inl (prs_in hk e)
  · exact .inr (by rw [e])
theorem addL_forest (h : P.Ok) {T : Nat → Bool} (hF : Forest P T) {a : Nat} (ha : a < P.m) (hne : ¬ P.sam T (P.L a) (P.R a)) : Forest P (addL T a) ∧ P.d (addL T a) + 1 = P.d T := by
  have h1 := (np_add (vdF h T) (vdF h (addL T a)) (p := P.L a) (q := P.R a) (prs_sub fun k _ e => by simp [addL, e]) (prs_in ha (by simp [addL])) (fun l hl => by
    obtain ⟨k, hk, e, rfl⟩ := mem_prs.1 hl
    unfold addL at e
    rw [Bool.or_eq_true, decide_eq_true_eq] at e
    rcases e with e | e
    · exact .inl (prs_in hk e)
    · exact .inr (by rw [e]))).2 hne
  have hT : T a = false := by rw [Bool.eq_false_iff]; exact fun e => hne (Cn.refl.fwd (prs_in ha e))
  have h2 : cnp (addL T a) P.m = cnp T P.m + cnp (fun k => decide (k = a)) P.m := cnp_or (p := T) (q := fun k => decide (k = a)) fun k _ e => by
    rw [decide_eq_false_iff_not]; intro c; rw [c, hT] at e; cases e
  have h3 : (cnp (fun k => decide (k = a)) P.m : Int) = 1 := by
    rw [cnp_sm, sm_one ha]
    · simp
    · intro i _ hne; simp [hne]
  unfold Forest at *
  unfold Plan.d at *
  omega
/-- colors that are proper for the lands of T -/
structure Valid (P : Plan) (T : Nat → Bool) (col : Nat → Nat) : Prop where
  lt : ∀ f, f < P.F → col f < 4
  eq : ∀ k, k < P.m → T k = true → col (P.L k) = col (P.R k)
  ne : ∀ k, k < P.m → ¬ P.sam T (P.L k) (P.R k) → col (P.L k) ≠ col (P.R k)
theorem Valid.sam {T : Nat → Bool} {col : Nat → Nat} (h : Valid P T col) {f g : Nat} (c : P.sam T f g) : col f = col g := prs_const h.eq c
theorem free_color (l : List Nat) (h : l.length ≤ 3) : ∃ x, x < 4 ∧ x ∉ l := by
  apply Classical.byContradiction
  intro hc
  have hm : ∀ x, x < 4 → x ∈ l := fun x hx => Classical.byContradiction fun e => hc ⟨x, hx, e⟩
  obtain ⟨i, j, hij, hj, e⟩ := php 3 (fun x => l.idxOf x) (fun x hx => by
    have := List.idxOf_lt_length_of_mem (hm x (by omega))
    show l.idxOf x < 3
    omega)
  have at' : ∀ x, x < 4 → l.getD (l.idxOf x) 0 = x := fun x hx => by
    have hl := List.idxOf_lt_length_of_mem (hm x hx)
    rw [getD_at _ hl, List.getElem_idxOf hl]
  have e' : l.idxOf i = l.idxOf j := e
  have h1 := at' i (by omega)
  rw [e', at' j (by omega)] at h1
  omega
theorem color_step {T T' : Nat → Bool} {f0 : Nat} {Y : List Nat} (sub : ∀ f g, P.sam T f g → P.sam T' f g)
    (p3 : ∀ k, k < P.m → ¬ P.sam T f0 (P.L k) → ¬ P.sam T f0 (P.R k) → ¬ P.sam T (P.L k) (P.R k) → ¬ P.sam T' (P.L k) (P.R k))
    (p4 : ∀ k, k < P.m → ∀ y, ((P.sam T f0 (P.L k) ∧ y = P.R k) ∨ (P.sam T f0 (P.R k) ∧ y = P.L k)) → ¬ P.sam T f0 y → ∃ y', y' ∈ Y ∧ P.sam T' y y')
    (hY : Y.length ≤ 3) {col : Nat → Nat} (hv : Valid P T' col) : ∃ col', Valid P T col' := by
  obtain ⟨x, hx, hxY⟩ := free_color (Y.map col) (by rw [List.length_map]; exact hY)
  obtain ⟨g, hg⟩ := bool_of (P.sam T f0)
  have far : ∀ k, k < P.m → ∀ y, ((P.sam T f0 (P.L k) ∧ y = P.R k) ∨ (P.sam T f0 (P.R k) ∧ y = P.L k)) → ¬ P.sam T f0 y → x ≠ col y := by
    intro k hk y h1 h2 e
    obtain ⟨y', hy', hs⟩ := p4 k hk y h1 h2
    exact hxY (List.mem_map.2 ⟨y', hy', by rw [e, hv.sam hs]⟩)
  refine ⟨fun f => if g f = true then x else col f, fun f hf => ?_, fun k hk hT => ?_, fun k hk hne => ?_⟩
  · show (if g f = true then x else col f) < 4
    split
    · exact hx
    · exact hv.lt f hf
  · have e : g (P.L k) = g (P.R k) := by
      rw [Bool.eq_iff_iff, hg, hg]
      exact ⟨fun c => Cn.fwd c (prs_in hk hT), fun c => Cn.bwd c (prs_in hk hT)⟩
    show (if g (P.L k) = true then x else col (P.L k)) = if g (P.R k) = true then x else col (P.R k)
    rw [e, hv.sam (sub _ _ (Cn.refl.fwd (prs_in hk hT)))]
  · show (if g (P.L k) = true then x else col (P.L k)) ≠ if g (P.R k) = true then x else col (P.R k)
    by_cases c1 : P.sam T f0 (P.L k)
    · have c2 : ¬ P.sam T f0 (P.R k) := fun c => hne (Cn.trans (Cn.symm c1) c)
      rw [if_pos ((hg _).2 c1), if_neg fun e => c2 ((hg _).1 e)]
      exact far k hk _ (.inl ⟨c1, rfl⟩) c2
    · by_cases c2 : P.sam T f0 (P.R k)
      · rw [if_neg fun e => c1 ((hg _).1 e), if_pos ((hg _).2 c2)]
        exact (far k hk _ (.inr ⟨c2, rfl⟩) c1).symm
      · rw [if_neg fun e => c1 ((hg _).1 e), if_neg fun e => c2 ((hg _).1 e)]
        exact hv.ne k hk (p3 k hk c1 c2 hne)
/-- lead k joins the lands of y and y' -/
def Jn (P : Plan) (T : Nat → Bool) (y y' k : Nat) : Prop := (P.sam T y (P.L k) ∧ P.sam T y' (P.R k)) ∨ (P.sam T y (P.R k) ∧ P.sam T y' (P.L k))
theorem five_count : ∀ p, p < 5 → ∀ q, q < 5 → sm 5 (fun i => sm i (fun j => if (p = i ∧ q = j) ∨ (p = j ∧ q = i) then 1 else 0)) ≤ 1 := by decide
theorem no_five (h : Conn P) : ∀ (N : Nat) (T : Nat → Bool), Forest P T → P.d T ≤ N → ∀ v : Nat → Nat, (∀ i, i < 5 → v i < P.F) → (∀ i j, i < 5 → j < i → ¬ P.sam T (v i) (v j)) → (∀ i j, i < 5 → j < i → ∃ k, k < P.m ∧ Jn P T (v i) (v j) k) → False := by
  intro N
  induction N with
  | zero =>
    intro T _ hN v hv _ _
    have := np_pos (vdF h.toOk T) h.fp
    unfold Plan.d at hN
    omega
  | succ N ih =>
    intro T hF hN v hv hne hj
    have hvF := vdF h.toOk T
    have hne' : ∀ i j, i < 5 → j < 5 → P.sam T (v i) (v j) → i = j := by
      intro i j hi hj' e
      rcases Nat.lt_trichotomy i j with c | c | c
      · exact absurd (Cn.symm e) (hne j i hj' c)
      · exact c
      · exact absurd e (hne i j hi c)
    by_cases hall : ∀ g, g < P.F → ∃ i, i < 5 ∧ P.sam T (v i) g
    · obtain ⟨S, hS⟩ := reps_exist P T
      -- three lands at least
      have hd3 : 3 ≤ P.d T := by
        have hnl : ∀ i j, i < 5 → j < 5 → i ≠ j → lab P.F (prs P.m T P.L P.R) (v i) ≠ lab P.F (prs P.m T P.L P.R) (v j) := fun i j hi hj' hij e => hij (hne' i j hi hj' ((lab_iff hvF (hv i hi) (hv j hj')).1 e))
        have hg := sm_ge3 (m := P.F) (f := fun g => if decide (lab P.F (prs P.m T P.L P.R) g = g) = true then 1 else 0) (fun i _ => by split <;> omega)
          (lab_lt hvF (hv 0 (by omega))) (lab_lt hvF (hv 1 (by omega))) (lab_lt hvF (hv 2 (by omega))) (hnl 0 1 (by omega) (by omega) (by omega)) (hnl 0 2 (by omega) (by omega) (by omega)) (hnl 1 2 (by omega) (by omega) (by omega))
        rw [← cnp_sm, ← np_lab hvF] at hg
        simp only [lab_lab hvF (hv 0 (by omega)), lab_lab hvF (hv 1 (by omega)), lab_lab hvF (hv 2 (by omega)), decide_true, if_true] at hg
        unfold Plan.d
        omega
      -- five at most
      have hd5 : P.d T ≤ 5 := by
        have h1 : sm P.F (fun g => if decide (lab P.F (prs P.m T P.L P.R) g = g) = true then 1 else 0) ≤ sm P.F (fun g => sm 5 (fun i => if lab P.F (prs P.m T P.L P.R) (v i) = g then 1 else 0)) := sm_le fun g hg => by
          by_cases c : lab P.F (prs P.m T P.L P.R) g = g
          · rw [if_pos (decide_eq_true c)]
            obtain ⟨i, hi, e⟩ := hall g hg
            have e2 := (lab_iff hvF (hv i hi) hg).2 e
            have := sm_ge1 (m := 5) (f := fun i => if lab P.F (prs P.m T P.L P.R) (v i) = g then 1 else 0) (fun i _ => by split <;> omega) hi
            rw [if_pos (e2.trans c)] at this
            exact this
          · rw [if_neg (by simpa using c)]
            exact sm_nonneg fun i _ => by split <;> omega
        rw [← cnp_sm, ← np_lab hvF, sm_swap, sm_congr (g := fun _ => 1) (n := 5) (fun i hi => by
          rw [sm_one (lab_lt hvF (hv i hi)) (fun j _ hne => if_neg fun e => hne e.symm), if_pos rfl]), sm_const] at h1
        unfold Plan.d
        omega
      have hfew := few_edges h hF hS hd3
      obtain ⟨ix, hix⟩ : ∃ ix : Nat → Nat, ∀ g, g < P.F → ix g < 5 ∧ P.sam T (v (ix g)) g := Classical.axiomOfChoice (r := fun g i => g < P.F → i < 5 ∧ P.sam T (v i) g) fun g => by
        by_cases c : g < P.F
        · obtain ⟨i, hi⟩ := hall g c
          exact ⟨i, fun _ => hi⟩
        · exact ⟨0, fun c' => absurd c' c⟩
      have ixu : ∀ g i, g < P.F → i < 5 → P.sam T (v i) g → ix g = i := fun g i hg hi e => hne' _ _ (hix g hg).1 hi (Cn.trans (hix g hg).2 (Cn.symm e))
      have h10 : sm 5 (fun i => sm i (fun j => sm P.m (fun k => if S k = true then (if (ix (P.L k) = i ∧ ix (P.R k) = j) ∨ (ix (P.L k) = j ∧ ix (P.R k) = i) then (1 : Int) else 0) else 0))) ≤ (cnp S P.m : Int) := by
        have e1 : ∀ i, sm i (fun j => sm P.m (fun k => if S k = true then (if (ix (P.L k) = i ∧ ix (P.R k) = j) ∨ (ix (P.L k) = j ∧ ix (P.R k) = i) then (1 : Int) else 0) else 0)) = sm P.m (fun k => if S k = true then sm i (fun j => if (ix (P.L k) = i ∧ ix (P.R k) = j) ∨ (ix (P.L k) = j ∧ ix (P.R k) = i) then (1 : Int) else 0) else 0) := by
          intro i
          rw [sm_swap]
          refine sm_congr fun k _ => ?_
          by_cases c : S k = true
          · rw [if_pos c]; exact sm_congr fun j _ => if_pos c
          · rw [if_neg c]; exact sm_zero fun j _ => if_neg c
        rw [sm_congr fun i _ => e1 i, sm_swap, cnp_sm]
        refine sm_le fun k hk => ?_
        by_cases c : S k = true
        · rw [if_pos c, sm_congr fun i _ => if_pos c]
          exact five_count _ (hix _ (h.lf k hk)).1 _ (hix _ (h.rf k hk)).1
        · rw [if_neg c, sm_zero fun i _ => if_neg c]; omega
      have hlow : sm 5 (fun i => sm i (fun _ => 1)) ≤ sm 5 (fun i => sm i (fun j => sm P.m (fun k => if S k = true then (if (ix (P.L k) = i ∧ ix (P.R k) = j) ∨ (ix (P.L k) = j ∧ ix (P.R k) = i) then (1 : Int) else 0) else 0))) := by
        refine sm_le fun i hi => sm_le fun j hji => ?_
        obtain ⟨k, hk, e⟩ := hj i j hi hji
        have hkn : ¬ P.sam T (P.L k) (P.R k) := by
          intro c
          rcases e with ⟨a, b⟩ | ⟨a, b⟩
          · exact hne i j hi hji (Cn.trans a (Cn.trans c (Cn.symm b)))
          · exact hne i j hi hji (Cn.trans a (Cn.trans (Cn.symm c) (Cn.symm b)))
        obtain ⟨s, hs, hSs, e2⟩ := hS.ex k hk hkn
        have hcond : (ix (P.L s) = i ∧ ix (P.R s) = j) ∨ (ix (P.L s) = j ∧ ix (P.R s) = i) := by
          rcases e with ⟨a, b⟩ | ⟨a, b⟩ <;> rcases e2 with ⟨c, d⟩ | ⟨c, d⟩
          · exact .inl ⟨ixu _ _ (h.lf s hs) hi (Cn.trans a (Cn.symm c)), ixu _ _ (h.rf s hs) (by omega) (Cn.trans b (Cn.symm d))⟩
          · exact .inr ⟨ixu _ _ (h.lf s hs) (by omega) (Cn.trans b (Cn.symm c)), ixu _ _ (h.rf s hs) hi (Cn.trans a (Cn.symm d))⟩
          · exact .inr ⟨ixu _ _ (h.lf s hs) (by omega) (Cn.trans b (Cn.symm c)), ixu _ _ (h.rf s hs) hi (Cn.trans a (Cn.symm d))⟩
          · exact .inl ⟨ixu _ _ (h.lf s hs) hi (Cn.trans a (Cn.symm c)), ixu _ _ (h.rf s hs) (by omega) (Cn.trans b (Cn.symm d))⟩
        have := sm_ge1 (m := P.m) (f := fun k => if S k = true then (if (ix (P.L k) = i ∧ ix (P.R k) = j) ∨ (ix (P.L k) = j ∧ ix (P.R k) = i) then (1 : Int) else 0) else 0) (fun k _ => by split <;> (try split) <;> omega) hs
        rw [if_pos hSs, if_pos hcond] at this
        exact this
      have h10' : sm 5 (fun i => sm i (fun _ => 1)) = 10 := by decide
      omega
    · obtain ⟨g, hg⟩ : ∃ g, ¬ (g < P.F → ∃ i, i < 5 ∧ P.sam T (v i) g) := Classical.byContradiction fun hc => hall fun g => Classical.byContradiction fun e => hc ⟨g, e⟩
      have hgF : g < P.F := Classical.byContradiction fun e => hg fun e' => absurd e' e
      have hgn : ¬ ∃ i, i < 5 ∧ P.sam T (v i) g := fun e => hg fun _ => e
      obtain ⟨U, hU⟩ := bool_of (fun f => ∃ i, i < 5 ∧ P.sam T (v i) f)
      obtain ⟨x, hx, hxU⟩ : ∃ x, x < P.m ∧ U (P.L x) ≠ U (P.R x) := by
        apply Classical.byContradiction
        intro hc
        have := prs_const (g := U) (fun k hk _ => Classical.byContradiction fun e => hc ⟨k, hk, e⟩) (cn_all h (hv 0 (by omega)) hgF)
        rw [(hU (v 0)).2 ⟨0, by omega, .refl⟩] at this
        exact hgn ((hU g).1 this.symm)
      have hxn : ¬ P.sam T (P.L x) (P.R x) := by
        intro e
        apply hxU
        rw [Bool.eq_iff_iff, hU, hU]
        exact ⟨fun ⟨i, hi, c⟩ => ⟨i, hi, Cn.trans c e⟩, fun ⟨i, hi, c⟩ => ⟨i, hi, Cn.trans c (Cn.symm e)⟩⟩
      obtain ⟨f1, f2⟩ := addL_forest h.toOk hF hx hxn
      refine ih (addL T x) f1 (by omega) v hv (fun i j hi hji => ?_) (fun i j hi hji => ?_)
      · rw [addL_iff hx]
        rintro (c | ⟨c1, c2⟩ | ⟨c1, c2⟩)
        · exact hne i j hi hji c
        · exact hxU (by rw [(hU _).2 ⟨i, hi, c1⟩, (hU _).2 ⟨j, by omega, Cn.symm c2⟩])
        · exact hxU (by rw [(hU _).2 ⟨j, by omega, Cn.symm c2⟩, (hU _).2 ⟨i, hi, c1⟩])
      · obtain ⟨k, hk, e⟩ := hj i j hi hji
        exact ⟨k, hk, e.imp (fun c => ⟨addL_sub T x c.1, addL_sub T x c.2⟩) (fun c => ⟨addL_sub T x c.1, addL_sub T x c.2⟩)⟩
theorem low_deg (h : Conn P) (hm : P.m ≤ 20) {T S : Nat → Bool} (hF : Forest P T) (hS : Reps P T S) (hk : 3 ≤ P.d T) :
    ∃ f, f < P.F ∧ lab P.F (prs P.m T P.L P.R) f = f ∧ degr P.m S (fun k => lab P.F (prs P.m T P.L P.R) (P.L k)) (fun k => lab P.F (prs P.m T P.L P.R) (P.R k)) f ≤ 4 := by
  have hvF := vdF h.toOk T
  apply Classical.byContradiction
  intro hc
  have h2 := degr_bound (n := P.F) (m := P.m) (S := S) (a := fun k => lab P.F (prs P.m T P.L P.R) (P.L k)) (b := fun k => lab P.F (prs P.m T P.L P.R) (P.R k))
    (fun k hk => lab_lt hvF (h.lf k hk)) (fun k hk => lab_lt hvF (h.rf k hk)) (p := fun i => decide (lab P.F (prs P.m T P.L P.R) i = i)) (D := 5)
    (fun r hr e => by
      have e : lab P.F (prs P.m T P.L P.R) r = r := by simpa using e
      rcases Int.lt_or_le 4 (degr P.m S (fun k => lab P.F (prs P.m T P.L P.R) (P.L k)) (fun k => lab P.F (prs P.m T P.L P.R) (P.R k)) r) with c | c
      · omega
      · exact absurd ⟨r, hr, e, c⟩ hc)
  rw [← np_lab hvF] at h2
  have h3 := few_edges h hF hS hk
  have h4 := cnp_le S P.m
  unfold Plan.d at *
  omega
theorem cnp_mono (p : Nat → Bool) {a b : Nat} (h : a ≤ b) : cnp p a ≤ cnp p b := by
  induction b with
  | zero => obtain rfl : a = 0 := by omega
            exact Nat.le_refl _
  | succ b ih =>
    rcases Nat.lt_or_ge a (b + 1) with c | c
    · have := ih (by omega)
      show _ ≤ cnp p b + _
      omega
    · obtain rfl : a = b + 1 := by omega
      exact Nat.le_refl _
theorem cnp_less (p : Nat → Bool) {a b : Nat} (h : a < b) (hp : p a = true) : cnp p a < cnp p b := by
  have := cnp_mono p (show a + 1 ≤ b by omega)
  rw [cnp_yes hp] at this
  omega
theorem four (h : Conn P) (hm : P.m ≤ 20) : ∀ (N : Nat) (T : Nat → Bool), Forest P T → P.d T ≤ N → ∃ col, Valid P T col := by
  intro N
  induction N with
  | zero =>
    intro T _ hN
    have := np_pos (vdF h.toOk T) h.fp
    unfold Plan.d at hN
    omega
  | succ N ih =>
    intro T hF hN
    have hvF := vdF h.toOk T
    by_cases hd : P.d T ≤ 4
    · -- few lands: each its own color
      have hfx : ∀ f, f < P.F → decide (lab P.F (prs P.m T P.L P.R) (lab P.F (prs P.m T P.L P.R) f) = lab P.F (prs P.m T P.L P.R) f) = true := fun f hf => decide_eq_true (lab_lab hvF hf)
      refine ⟨fun f => cnp (fun i => decide (lab P.F (prs P.m T P.L P.R) i = i)) (lab P.F (prs P.m T P.L P.R) f), fun f hf => ?_, fun k hk hT => ?_, fun k hk hne => ?_⟩
      · have := cnp_less (fun i => decide (lab P.F (prs P.m T P.L P.R) i = i)) (lab_lt hvF hf) (hfx f hf)
        rw [← np_lab hvF] at this
        unfold Plan.d at hd
        exact Nat.lt_of_lt_of_le this hd
      · show cnp _ (lab _ _ _) = cnp _ (lab _ _ _)
        rw [(lab_iff hvF (h.lf k hk) (h.rf k hk)).2 (Cn.refl.fwd (prs_in hk hT))]
      · intro e
        apply hne
        rw [Plan.sam, ← lab_iff hvF (h.lf k hk) (h.rf k hk)]
        rcases Nat.lt_trichotomy (lab P.F (prs P.m T P.L P.R) (P.L k)) (lab P.F (prs P.m T P.L P.R) (P.R k)) with c | c | c
        · have := cnp_less (fun i => decide (lab P.F (prs P.m T P.L P.R) i = i)) c (hfx _ (h.lf k hk))
          omega
        · exact c
        · have := cnp_less (fun i => decide (lab P.F (prs P.m T P.L P.R) i = i)) c (hfx _ (h.rf k hk))
          omega
    · obtain ⟨S, hS⟩ := reps_exist P T
      obtain ⟨f0, hf0, hfix, hdeg⟩ := low_deg h hm hF hS (by omega)
      have sam0 : ∀ f, f < P.F → (lab P.F (prs P.m T P.L P.R) f = f0 ↔ P.sam T f0 f) := by
        intro f hf
        have := lab_iff hvF hf0 hf
        rw [hfix] at this
        exact ⟨fun e => this.1 e.symm, fun e => (this.2 e).symm⟩
      -- the leads around the land of f0
      obtain ⟨g0, hg0⟩ := bool_of (P.sam T f0)
      have hNl : (((List.range P.m).filter (fun k => S k && (g0 (P.L k) || g0 (P.R k)))).length : Int) ≤ 4 := by
        rw [← List.countP_eq_length_filter, cnp_countP, cnp_sm]
        refine Int.le_trans (Int.le_of_eq (sm_congr fun k hk => ?_)) hdeg
        by_cases c : S k = true
        · rw [if_pos c]
          simp only [sam0 _ (h.lf k hk), sam0 _ (h.rf k hk), ← hg0]
          have hn := hS.ne k hk c
          have hnb : ¬ (g0 (P.L k) = true ∧ g0 (P.R k) = true) := fun e => hn (Cn.trans (Cn.symm ((hg0 _).1 e.1)) ((hg0 _).1 e.2))
          cases e1 : g0 (P.L k) <;> cases e2 : g0 (P.R k) <;> simp [c, e1, e2] at hnb ⊢
        · rw [if_neg c]; simp [c]
      have hNm : ∀ a, a ∈ (List.range P.m).filter (fun k => S k && (g0 (P.L k) || g0 (P.R k))) ↔ a < P.m ∧ S a = true ∧ (P.sam T f0 (P.L a) ∨ P.sam T f0 (P.R a)) := by
        intro a
        rw [List.mem_filter, List.mem_range, Bool.and_eq_true, Bool.or_eq_true, hg0, hg0]
      have hNd : ((List.range P.m).filter (fun k => S k && (g0 (P.L k) || g0 (P.R k)))).Nodup := List.Pairwise.filter _ List.nodup_range
      generalize (List.range P.m).filter (fun k => S k && (g0 (P.L k) || g0 (P.R k))) = Nl at hNl hNm hNd
      -- the other side
      obtain ⟨o, ho⟩ : ∃ o : Nat → Nat, ∀ a, o a = if g0 (P.L a) = true then P.R a else P.L a := ⟨fun a => if g0 (P.L a) = true then P.R a else P.L a, fun _ => rfl⟩
      have oF : ∀ a, a ∈ Nl → o a < P.F ∧ ¬ P.sam T f0 (o a) ∧ ((P.sam T f0 (P.L a) ∧ o a = P.R a) ∨ (P.sam T f0 (P.R a) ∧ o a = P.L a)) := by
        intro a ha
        obtain ⟨h1, h2, h3⟩ := (hNm a).1 ha
        have hn := hS.ne a h1 h2
        rw [ho a]
        by_cases c : g0 (P.L a) = true
        · rw [if_pos c]
          have c' := (hg0 _).1 c
          exact ⟨h.rf a h1, fun e => hn (Cn.trans (Cn.symm c') e), .inl ⟨c', rfl⟩⟩
        · rw [if_neg c]
          have c' : ¬ P.sam T f0 (P.L a) := fun e => c ((hg0 _).2 e)
          exact ⟨h.lf a h1, c', .inr ⟨h3.resolve_left c', rfl⟩⟩
      have osame : ∀ a b, a ∈ Nl → b ∈ Nl → P.sam T (o a) (o b) → a = b := by
        intro a b ha hb e
        obtain ⟨h1, h2, h3⟩ := (hNm a).1 ha
        obtain ⟨h4, h5, h6⟩ := (hNm b).1 hb
        refine hS.un a b h1 h4 h2 h5 ?_
        rcases (oF a ha).2.2 with ⟨x1, x2⟩ | ⟨x1, x2⟩ <;> rcases (oF b hb).2.2 with ⟨y1, y2⟩ | ⟨y1, y2⟩ <;> rw [x2, y2] at e
        · exact .inl ⟨Cn.trans (Cn.symm x1) y1, e⟩
        · exact .inr ⟨Cn.trans (Cn.symm x1) y1, e⟩
        · exact .inr ⟨e, Cn.trans (Cn.symm x1) y1⟩
        · exact .inl ⟨e, Cn.trans (Cn.symm x1) y1⟩
      have hrep : ∀ k, k < P.m → ∀ y, ((P.sam T f0 (P.L k) ∧ y = P.R k) ∨ (P.sam T f0 (P.R k) ∧ y = P.L k)) → ¬ P.sam T f0 y → ∃ a, a ∈ Nl ∧ P.sam T y (o a) := by
        intro k hk y hy hn
        have hkn : ¬ P.sam T (P.L k) (P.R k) := by
          intro e
          rcases hy with ⟨a, b⟩ | ⟨a, b⟩ <;> rw [b] at hn
          · exact hn (Cn.trans a e)
          · exact hn (Cn.trans a (Cn.symm e))
        obtain ⟨a, ha, hSa, e⟩ := hS.ex k hk hkn
        have hmem : a ∈ Nl := by
          rw [hNm]
          refine ⟨ha, hSa, ?_⟩
          rcases hy with ⟨c, _⟩ | ⟨c, _⟩ <;> rcases e with ⟨d1, d2⟩ | ⟨d1, d2⟩
          · exact .inl (Cn.trans c (Cn.symm d1))
          · exact .inr (Cn.trans c (Cn.symm d2))
          · exact .inr (Cn.trans c (Cn.symm d2))
          · exact .inl (Cn.trans c (Cn.symm d1))
        refine ⟨a, hmem, ?_⟩
        have hoo := oF a hmem
        rcases hy with ⟨c, c'⟩ | ⟨c, c'⟩ <;> rcases e with ⟨d1, d2⟩ | ⟨d1, d2⟩ <;> rcases hoo.2.2 with ⟨x1, x2⟩ | ⟨x1, x2⟩ <;> rw [x2, c'] <;> rw [x2] at hoo
        · exact Cn.symm d2
        · exact absurd (Cn.trans c (Cn.symm d1)) hoo.2.1
        · exact absurd (Cn.trans c (Cn.symm d2)) hoo.2.1
        · exact Cn.symm d1
        · exact absurd (Cn.trans c (Cn.symm d2)) hoo.2.1
        · exact Cn.symm d1
        · exact Cn.symm d2
        · exact absurd (Cn.trans c (Cn.symm d1)) hoo.2.1
      -- adding leads of Nl joins only the land of f0 and those beside it
      have one : ∀ a, a ∈ Nl → ∀ f g, P.sam (addL T a) f g → P.sam T f g ∨ ((P.sam T f0 f ∨ P.sam T (o a) f) ∧ (P.sam T f0 g ∨ P.sam T (o a) g)) := by
        intro a ha f g e
        rcases (addL_iff ((hNm a).1 ha).1 f g).1 e with c | ⟨c1, c2⟩ | ⟨c1, c2⟩
        · exact .inl c
        · right
          rcases (oF a ha).2.2 with ⟨x1, x2⟩ | ⟨x1, x2⟩ <;> rw [x2]
          · exact ⟨.inl (Cn.trans x1 (Cn.symm c1)), .inr c2⟩
          · exact ⟨.inr (Cn.symm c1), .inl (Cn.trans x1 c2)⟩
        · right
          rcases (oF a ha).2.2 with ⟨x1, x2⟩ | ⟨x1, x2⟩ <;> rw [x2]
          · exact ⟨.inr (Cn.symm c1), .inl (Cn.trans x1 c2)⟩
          · exact ⟨.inl (Cn.trans x1 (Cn.symm c1)), .inr c2⟩
      have o0 : ∀ a, a ∈ Nl → P.sam (addL T a) f0 (o a) := by
        intro a ha
        have := addL_in (P := P) T ((hNm a).1 ha).1
        rcases (oF a ha).2.2 with ⟨x1, x2⟩ | ⟨x1, x2⟩ <;> rw [x2]
        · exact Cn.trans (addL_sub T a x1) this
        · exact Cn.trans (addL_sub T a x1) (Cn.symm this)
      by_cases hfew : Nl.length ≤ 3
      · -- three lands around it at most
        obtain ⟨a, ha⟩ : ∃ a, a ∈ Nl := by
          apply Classical.byContradiction
          intro hc
          have hall : ∀ g, g < P.F → P.sam T f0 g := by
            intro g hg
            have hcc := cn_all h hf0 hg
            have := prs_const (g := g0) (fun k hk _ => by
              rw [Bool.eq_iff_iff, hg0, hg0]
              constructor
              · intro c
                apply Classical.byContradiction
                intro d
                obtain ⟨a, ha, _⟩ := hrep k hk _ (.inl ⟨c, rfl⟩) d
                exact hc ⟨a, ha⟩
              · intro c
                apply Classical.byContradiction
                intro d
                obtain ⟨a, ha, _⟩ := hrep k hk _ (.inr ⟨c, rfl⟩) d
                exact hc ⟨a, ha⟩) hcc
            rw [(hg0 f0).2 .refl] at this
            exact (hg0 g).1 this.symm
          have h1 : P.d T = 1 := (np_one hvF h.fp).2 fun i hi => Cn.trans (Cn.symm (hall 0 h.fp)) (hall i hi)
          omega
        have hma := ((hNm a).1 ha)
        obtain ⟨f1, f2⟩ := addL_forest h.toOk hF hma.1 (hS.ne a hma.1 hma.2.1)
        obtain ⟨col, hcol⟩ := ih (addL T a) f1 (by omega)
        refine color_step (T' := addL T a) (f0 := f0) (Y := Nl.map o) (fun f g e => addL_sub T a e) (fun k hk n1 n2 n3 e => ?_) (fun k hk y hy hn => ?_) (by rw [List.length_map]; exact hfew) hcol
        · rcases one a ha _ _ e with c | ⟨c1, c2⟩
          · exact n3 c
          · exact n3 (Cn.trans (Cn.symm (c1.resolve_left n1)) (c2.resolve_left n2))
        · obtain ⟨b, hb, e⟩ := hrep k hk y hy hn
          exact ⟨o b, List.mem_map.2 ⟨b, hb, rfl⟩, addL_sub T a e⟩
      · have hlen : Nl.length = 4 := by omega
        by_cases hnj : ∃ a b, a ∈ Nl ∧ b ∈ Nl ∧ a ≠ b ∧ ∀ k, k < P.m → ¬ Jn P T (o a) (o b) k
        · -- two of four lands around it are not beside each other
          obtain ⟨a, b, ha, hb, hab, hno⟩ := hnj
          have hma := ((hNm a).1 ha)
          have hmb := ((hNm b).1 hb)
          obtain ⟨f1, f2⟩ := addL_forest h.toOk hF hma.1 (hS.ne a hma.1 hma.2.1)
          have hb1 : ¬ P.sam (addL T a) (P.L b) (P.R b) := by
            intro e
            have key : ¬ P.sam (addL T a) f0 (o b) := by
              intro e
              rcases one a ha _ _ e with c | ⟨_, c2⟩
              · exact (oF b hb).2.1 c
              · rcases c2 with c2 | c2
                · exact (oF b hb).2.1 c2
                · exact hab (osame a b ha hb c2)
            rcases (oF b hb).2.2 with ⟨x1, x2⟩ | ⟨x1, x2⟩ <;> rw [x2] at key
            · exact key (Cn.trans (addL_sub T a x1) e)
            · exact key (Cn.trans (addL_sub T a x1) (Cn.symm e))
          obtain ⟨f3, f4⟩ := addL_forest h.toOk f1 hmb.1 hb1
          obtain ⟨col, hcol⟩ := ih (addL (addL T a) b) f3 (by omega)
          have ab : P.sam (addL (addL T a) b) (o b) (o a) := by
            have e1 : P.sam (addL (addL T a) b) f0 (o a) := addL_sub _ b (o0 a ha)
            have e2 : P.sam (addL (addL T a) b) f0 (o b) := by
              have := addL_in (P := P) (addL T a) hmb.1
              rcases (oF b hb).2.2 with ⟨x1, x2⟩ | ⟨x1, x2⟩ <;> rw [x2]
              · exact Cn.trans (addL_sub _ b (addL_sub T a x1)) this
              · exact Cn.trans (addL_sub _ b (addL_sub T a x1)) (Cn.symm this)
            exact Cn.trans (Cn.symm e2) e1
          refine color_step (T' := addL (addL T a) b) (f0 := f0) (Y := (Nl.erase b).map o) (fun f g e => addL_sub _ b (addL_sub T a e)) (fun k hk n1 n2 n3 e => ?_) (fun k hk y hy hn => ?_) (by rw [List.length_map, List.length_erase_of_mem hb]; omega) hcol
          · -- a lead between the lands of o a and o b
            have mem1 : ∀ f, P.sam (addL T a) f0 f → P.sam T f0 f ∨ P.sam T (o a) f := fun f e => by
              rcases one a ha _ _ e with c | ⟨_, c2⟩
              · exact .inl c
              · exact c2
            have mem2 : ∀ f, P.sam (addL T a) (o b) f → P.sam T (o b) f := fun f e => by
              rcases one a ha _ _ e with c | ⟨c1, _⟩
              · exact c
              · rcases c1 with c1 | c1
                · exact absurd c1 (oF b hb).2.1
                · exact absurd (osame a b ha hb c1) hab
            have sides : ∀ f, (P.sam (addL T a) (P.L b) f ∨ P.sam (addL T a) (P.R b) f) → P.sam T f0 f ∨ P.sam T (o a) f ∨ P.sam T (o b) f := by
              intro f e
              rcases (oF b hb).2.2 with ⟨x1, x2⟩ | ⟨x1, x2⟩ <;> rw [x2] at mem2 ⊢ <;> rcases e with e | e
              · rcases mem1 f (Cn.trans (addL_sub T a x1) e) with c | c
                · exact .inl c
                · exact .inr (.inl c)
              · exact .inr (.inr (mem2 f e))
              · exact .inr (.inr (mem2 f e))
              · rcases mem1 f (Cn.trans (addL_sub T a x1) e) with c | c
                · exact .inl c
                · exact .inr (.inl c)
            have fin : (P.sam T (o a) (P.L k) ∨ P.sam T (o b) (P.L k)) → (P.sam T (o a) (P.R k) ∨ P.sam T (o b) (P.R k)) → False := by
              rintro (c | c) (d | d)
              · exact n3 (Cn.trans (Cn.symm c) d)
              · exact hno k hk (.inl ⟨c, d⟩)
              · exact hno k hk (.inr ⟨d, c⟩)
              · exact n3 (Cn.trans (Cn.symm c) d)
            rcases (addL_iff hmb.1 _ _).1 e with c | ⟨c1, c2⟩ | ⟨c1, c2⟩
            · rcases one a ha _ _ c with c | ⟨c1, c2⟩
              · exact n3 c
              · exact fin (.inl (c1.resolve_left n1)) (.inl (c2.resolve_left n2))
            · exact fin ((sides _ (.inl (Cn.symm c1))).resolve_left n1) ((sides _ (.inr c2)).resolve_left n2)
            · exact fin ((sides _ (.inr (Cn.symm c1))).resolve_left n1) ((sides _ (.inl c2)).resolve_left n2)
          · obtain ⟨c, hc, e⟩ := hrep k hk y hy hn
            by_cases hcb : c = b
            · subst hcb
              exact ⟨o a, List.mem_map.2 ⟨a, (List.mem_erase_of_ne hab).2 ha, rfl⟩, Cn.trans (addL_sub _ c (addL_sub T a e)) ab⟩
            · exact ⟨o c, List.mem_map.2 ⟨c, (List.mem_erase_of_ne hcb).2 hc, rfl⟩, addL_sub _ b (addL_sub T a e)⟩
        · -- five lands, each beside each
          exfalso
          have hjn : ∀ a b, a ∈ Nl → b ∈ Nl → a ≠ b → ∃ k, k < P.m ∧ Jn P T (o a) (o b) k := fun a b ha hb hab => Classical.byContradiction fun hc => hnj ⟨a, b, ha, hb, hab, fun k hk e => hc ⟨k, hk, e⟩⟩
          have hgm : ∀ i, i < 4 → Nl.getD i 0 ∈ Nl := fun i hi => by rw [getD_at _ (by omega)]; exact List.getElem_mem _
          have hgn : ∀ i j, i < 4 → j < i → Nl.getD i 0 ≠ Nl.getD j 0 := fun i j hi hj e => by have := nodup_getD_inj hNd (by omega) (by omega) e; omega
          refine no_five h _ T hF (Nat.le_refl _) (fun i => if i < 4 then o (Nl.getD i 0) else f0) (fun i hi => ?_) (fun i j hi hj => ?_) (fun i j hi hj => ?_)
          · split
            · exact (oF _ (hgm i (by assumption))).1
            · exact hf0
          · rw [if_pos (show j < 4 by omega)]
            by_cases c : i < 4
            · rw [if_pos c]
              exact fun e => hgn i j c hj (osame _ _ (hgm i c) (hgm j (by omega)) e)
            · rw [if_neg c]
              exact (oF _ (hgm j (by omega))).2.1
          · rw [if_pos (show j < 4 by omega)]
            by_cases c : i < 4
            · rw [if_pos c]
              exact hjn _ _ (hgm i c) (hgm j (by omega)) (hgn i j c hj)
            · rw [if_neg c]
              have hm := hgm j (by omega)
              refine ⟨Nl.getD j 0, ((hNm _).1 hm).1, ?_⟩
              rcases (oF _ hm).2.2 with ⟨x1, x2⟩ | ⟨x1, x2⟩ <;> rw [x2]
              · exact .inl ⟨x1, .refl⟩
              · exact .inr ⟨x1, .refl⟩
/-- FOUR COLORS -/
theorem four_colors (h : Conn P) (hm : P.m ≤ 20) : ∃ col : Nat → Nat, (∀ f, f < P.F → col f < 4) ∧ ∀ k, k < P.m → P.L k ≠ P.R k → col (P.L k) ≠ col (P.R k) := by
  have hn : prs P.m (fun _ => false) P.L P.R = [] := by unfold prs; simp
  have hd : P.d (fun _ => false) = P.F := by unfold Plan.d; rw [hn, np_none]
  have hc : ∀ n, cnp (fun _ => false) n = 0 := by
    intro n
    induction n with
    | zero => rfl
    | succ n ih => rw [cnp_no rfl, ih]
  obtain ⟨col, hcol⟩ := four h hm P.F (fun _ => false) (by unfold Forest; rw [hd, hc]; omega) (by rw [hd]; exact Nat.le_refl _)
  refine ⟨col, hcol.lt, fun k hk hne => hcol.ne k hk fun e => hne ?_⟩
  exact prs_const (g := id) (fun k _ e => by cases e) e
end
end Go.Proofs.YtdhmjhoaegdfjaaGreat.Pl
