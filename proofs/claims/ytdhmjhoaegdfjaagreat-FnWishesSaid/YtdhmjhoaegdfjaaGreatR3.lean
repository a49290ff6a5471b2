import Derived.Test.YtdhmjhoaegdfjaaGreatR2
namespace Go.Proofs.YtdhmjhoaegdfjaaGreat.Fr
open Go.RowKit Go.Sort
/-! R1's regions once more, with operations that look at no memory taken ahead of all (they need not stand before the late ones). -/
section
variable {P : Program} {ops : Array Oper} {md : Region.Mode} {Q : Exit → Act → World → Prop} {S : World → Prop}
/-- Whatever order is picked from here on; S holds behind every operation that is carried out, but for the late ones (bit mask L). -/
def wpAnyL (P : Program) (md : Region.Mode) (ops : Array Oper) (Q : Exit → Act → World → Prop) (S : World → Prop) (L : Nat) : Nat → Array Bool → Act → World → Prop
  | 0, listed, a, w => Region.ready md ops listed = [] ∧ Q .normal a w
  | fuel + 1, listed, a, w =>
    (Region.ready md ops listed = [] → Q .normal a w) ∧
    ∀ i ∈ Region.ready md ops listed, wpOp P ops Q i (fun a' w' => (L.testBit i = true ∨ (S w → S w')) ∧ wpAnyL P md ops Q S L fuel (listed.setIfInBounds i true) a' w') a w
theorem wpAny_of_L {L : Nat} : ∀ (fuel : Nat) (listed : Array Bool) (a : Act) (w : World), wpAnyL P md ops Q S L fuel listed a w → wpAny P md ops Q fuel listed a w
  | 0, _, _, _, h => h
  | fuel + 1, _, _, _, h => ⟨h.1, fun i hi => wpOp_mono (fun a' w' h' => wpAny_of_L fuel _ a' w' h'.2) (h.2 i hi)⟩
theorem wpAnyL_done {L : Nat} {listed : Array Bool} {a : Act} {w : World} (hr : Region.ready md ops listed = []) (h : Q .normal a w) :
    ∀ fuel, wpAnyL P md ops Q S L fuel listed a w
  | 0 => ⟨hr, h⟩
  | _ + 1 => ⟨fun _ => h, by rw [hr]; simp⟩
theorem wpAnyL_all {L : Nat} {rs : List Nat} {fuel : Nat} {listed : Array Bool} {a : Act} {w : World} (hr : Region.ready md ops listed = rs) (hne : rs ≠ [])
    (h : ∀ i ∈ rs, wpOp P ops Q i (fun a' w' => (L.testBit i = true ∨ S w') ∧ wpAnyL P md ops Q S L fuel (listed.setIfInBounds i true) a' w') a w) : wpAnyL P md ops Q S L (fuel + 1) listed a w :=
  ⟨fun h0 => absurd (hr ▸ h0) hne, fun i hi => wpOp_mono (fun _ _ h' => ⟨h'.1.imp id fun h1 _ => h1, h'.2⟩) (h i (by rw [← hr]; exact hi))⟩
theorem wpAnyL_take {L i : Nat} {oi : Oper} {v : Value} (hi : ops[i]? = some oi) (hs : Region.noSelect ops = true) (hQ : ∀ c a w, Q (.panic c) (a.put oi.dst v) w → Q (.panic c) a w)
    (hw : ∀ j, L.testBit j = true → ∀ listed, Clo md ops listed → j ∈ Region.ready md ops listed → listed.getD i true = true) (hnl : L.testBit i = false) :
    ∀ (fuel : Nat) (listed : Array Bool) (a : Act) (w : World), Clo md ops listed →
      (∀ j oj, ops[j]? = some oj → j ≠ i → listed.getD j true = false → (∀ e ∈ oj.after, Region.binds md e = true → e.on ≠ i) → oi.apart ops oj = true) →
      i ∈ Region.ready md ops listed → YieldsIf P ops S oi v a → S w →
      wpAnyL P md ops Q S L fuel (listed.setIfInBounds i true) (a.put oi.dst v) w → wpAnyL P md ops Q S L (fuel + 1) listed a w := by
  intro fuel
  induction fuel with
  | zero =>
    intro listed a w _ _ hr hy hS H
    refine ⟨fun h => (by rw [h] at hr; cases hr), fun j hj => ?_⟩
    by_cases hji : j = i
    · subst hji; exact hy.wpOp hi hS ⟨.inr fun _ => hS, H⟩
    · have := ready_mono hj hji
      rw [H.1] at this
      cases this
  | succ fuel ih =>
    intro listed a w hcl hfree hr hy hS H
    refine ⟨fun h => (by rw [h] at hr; cases hr), fun j hj => ?_⟩
    by_cases hji : j = i
    · subst hji; exact hy.wpOp hi hS ⟨.inr fun _ => hS, H⟩
    · have h1 := H.2 j (ready_mono hj hji)
      obtain ⟨hjun, oj, hoj, hall⟩ := mem_ready.1 hj
      have hun0 := (mem_ready.1 hr).1
      have hnot : ∀ e ∈ oj.after, Region.binds md e = true → e.on ≠ i := fun e he hb heq => by
        have h3 := hall e he hb
        rw [heq] at h3
        rcases Nat.lt_or_ge i listed.size with h' | h'
        · simp [h'] at hun0 h3; rw [hun0] at h3; cases h3
        · simp [Array.getElem?_eq_none h'] at h3
      have hjL : ¬ L.testBit j = true := fun e => by
        have := hw j e listed hcl hj
        rw [hun0] at this
        cases this
      have h2 := wpOp_putIf hoj (hfree j oj hoj hji hjun hnot) (fun cs b => Region.noSelect_spec hs i oi cs b hi) (fun cs b => Region.noSelect_spec hs j oj cs b hoj) hQ hy h1
      have hfree' : ∀ k ok, ops[k]? = some ok → k ≠ i → (listed.setIfInBounds j true).getD k true = false →
          (∀ e ∈ ok.after, Region.binds md e = true → e.on ≠ i) → oi.apart ops ok = true := fun k ok hk hki hun hno => by
        refine hfree k ok hk hki ?_ hno
        by_cases hjk : j = k
        · subst hjk; exact hjun
        · rw [getD_set_ne true hjk] at hun; exact hun
      refine wpOp_mono (fun a' w' h3 => ?_) h2
      obtain ⟨h4, h5, h6⟩ := h3
      have hS' : S w' := h5.resolve_left hjL hS
      refine ⟨.inr fun _ => hS', ih (listed.setIfInBounds j true) a' w' (clo_set hcl hj) hfree' (ready_mono hr (Ne.symm hji)) h4 hS' ?_⟩
      rw [Array.setIfInBounds_comm _ _ hji]
      exact h6
theorem wpAnyL_free {L i : Nat} {oi : Oper} {v : Value} (hi : ops[i]? = some oi) (hs : Region.noSelect ops = true) (hQ : ∀ c a w, Q (.panic c) (a.put oi.dst v) w → Q (.panic c) a w) :
    ∀ (fuel : Nat) (listed : Array Bool) (a : Act) (w : World),
      (∀ j oj, ops[j]? = some oj → j ≠ i → listed.getD j true = false → (∀ e ∈ oj.after, Region.binds md e = true → e.on ≠ i) → oi.apart ops oj = true) →
      i ∈ Region.ready md ops listed → YieldsIf P ops (fun _ => True) oi v a →
      wpAnyL P md ops Q S L fuel (listed.setIfInBounds i true) (a.put oi.dst v) w → wpAnyL P md ops Q S L (fuel + 1) listed a w := by
  intro fuel
  induction fuel with
  | zero =>
    intro listed a w _ hr hy H
    refine ⟨fun h => (by rw [h] at hr; cases hr), fun j hj => ?_⟩
    by_cases hji : j = i
    · subst hji; exact hy.wpOp hi trivial ⟨.inr id, H⟩
    · have := ready_mono hj hji
      rw [H.1] at this
      cases this
  | succ fuel ih =>
    intro listed a w hfree hr hy H
    refine ⟨fun h => (by rw [h] at hr; cases hr), fun j hj => ?_⟩
    by_cases hji : j = i
    · subst hji; exact hy.wpOp hi trivial ⟨.inr id, H⟩
    · have h1 := H.2 j (ready_mono hj hji)
      obtain ⟨hjun, oj, hoj, hall⟩ := mem_ready.1 hj
      have hun0 := (mem_ready.1 hr).1
      have hnot : ∀ e ∈ oj.after, Region.binds md e = true → e.on ≠ i := fun e he hb heq => by
        have h3 := hall e he hb
        rw [heq] at h3
        rcases Nat.lt_or_ge i listed.size with h' | h'
        · simp [h'] at hun0 h3; rw [hun0] at h3; cases h3
        · simp [Array.getElem?_eq_none h'] at h3
      have h2 := wpOp_putIf hoj (hfree j oj hoj hji hjun hnot) (fun cs b => Region.noSelect_spec hs i oi cs b hi) (fun cs b => Region.noSelect_spec hs j oj cs b hoj) hQ hy h1
      have hfree' : ∀ k ok, ops[k]? = some ok → k ≠ i → (listed.setIfInBounds j true).getD k true = false →
          (∀ e ∈ ok.after, Region.binds md e = true → e.on ≠ i) → oi.apart ops ok = true := fun k ok hk hki hun hno => by
        refine hfree k ok hk hki ?_ hno
        by_cases hjk : j = k
        · subst hjk; exact hjun
        · rw [getD_set_ne true hjk] at hun; exact hun
      refine wpOp_mono (fun a' w' h3 => ?_) h2
      obtain ⟨h4, h5, h6⟩ := h3
      refine ⟨h5, ih (listed.setIfInBounds j true) a' w' hfree' (ready_mono hr (Ne.symm hji)) h4 ?_⟩
      rw [Array.setIfInBounds_comm _ _ hji]
      exact h6

theorem rx_takeF {L : Nat} (hs : Region.noSelect ops = true) (hQ : ∀ c a w, ¬ Q (.panic c) a w) {N : Act → Prop} {fuel : Nat} {w : World} :
    ∀ (run : List Nat) (listed : Array Bool) (a : Act), takeChk md ops run listed = true → wpQuiet P ops (fun _ => True) N (run.filterMap (ops[·]?)) a →
      (∀ a', N a' → wpAnyL P md ops Q S L fuel (takeList run listed) a' w) → wpAnyL P md ops Q S L (fuel + run.length) listed a w
  | [], _, a, _, h, hN => hN a h
  | i :: r, listed, a, hc, h, hN => by
    simp only [takeChk, Bool.and_eq_true] at hc
    obtain ⟨⟨⟨hk, hf⟩, hr⟩, hc'⟩ := hc
    cases ho : ops[i]? with
    | none => rw [ho] at hk; simp at hk
    | some o =>
      rw [ho] at hk
      simp only [List.filterMap_cons, ho] at h
      have hq : qOp P ops (fun _ => True) i (wpQuiet P ops (fun _ => True) N (r.filterMap (ops[·]?))) a := by unfold qOp; simp only [ho]; exact h
      obtain ⟨v, hy, hK⟩ := yieldsIn_of_qOp ho hq
      exact wpAnyL_free ho hs (fun c a w hp => absurd hp (hQ c _ w)) _ _ _ _ (Region.free_spec ho hf) (by simpa using hr) (yieldsIf_of_in hk hy)
        (rx_takeF hs hQ r _ _ hc' hK hN)
variable {N : Act → Prop} {fuel : Nat}
theorem rx_take {L : Nat} (hs : Region.noSelect ops = true) (hQ : ∀ c a w, ¬ Q (.panic c) a w) (hw : ∀ i, i < ops.size → L.testBit i = false → L.testBit (128 + i) = false → ∀ j, L.testBit j = true → ∀ listed, Clo md ops listed → j ∈ Region.ready md ops listed → listed.getD i true = true) {fuel : Nat} {N : Act → Prop} :
    ∀ (run : List Nat) (listed : Array Bool) (a : Act) (w : World), Clo md ops listed → S w → (∀ i ∈ run, L.testBit i = false ∧ L.testBit (128 + i) = false) → takeChk md ops run listed = true → wpQuiet P ops S N (run.filterMap (ops[·]?)) a →
      (∀ a', N a' → wpAnyL P md ops Q S L fuel (takeList run listed) a' w) → wpAnyL P md ops Q S L (fuel + run.length) listed a w
  | [], _, a, _, _, _, _, _, h, hN => hN a h
  | i :: r, listed, a, w, hcl, hS, hne, hc, h, hN => by
    simp only [takeChk, Bool.and_eq_true] at hc
    obtain ⟨⟨⟨hk, hf⟩, hr⟩, hc'⟩ := hc
    cases ho : ops[i]? with
    | none => rw [ho] at hk; simp at hk
    | some o =>
      rw [ho] at hk
      simp only [List.filterMap_cons, ho] at h
      have hq : qOp P ops S i (wpQuiet P ops S N (r.filterMap (ops[·]?))) a := by unfold qOp; simp only [ho]; exact h
      obtain ⟨v, hy, hK⟩ := yieldsIn_of_qOp ho hq
      exact wpAnyL_take ho hs (fun c a w hp => absurd hp (hQ c _ w)) (hw i (Array.getElem?_eq_some_iff.1 ho).1 (hne i (by simp)).1 (hne i (by simp)).2) (hne i (by simp)).1 _ _ _ _ hcl (Region.free_spec ho hf) (by simpa using hr) (yieldsIf_of_in hk hy) hS
        (rx_take hs hQ hw r _ _ w (clo_set hcl (by simpa using hr)) hS (fun j hj => hne j (List.mem_cons_of_mem _ hj)) hc' hK hN)

/-- what is behind one operation -/
def RxOn (P : Program) (md : Region.Mode) (ops : Array Oper) (Q : Exit → Act → World → Prop) (S : World → Prop) (L i : Nat) (fuel : Nat) (listed : Array Bool) : Exit → Act → World → Prop
  | .normal, a, w => (L.testBit i = true ∨ S w) ∧ wpAnyL P md ops Q S L fuel listed a w
  | e, a, w => Q e a w

theorem rx_one' {L i : Nat} {o : Oper} {fuel : Nat} {listed : Array Bool} {a : Act} {w : World} (ho : ops[i]? = some o)
    (h : wpList P ops (RxOn P md ops Q S L i fuel (listed.setIfInBounds i true)) [o] a w) : wpOp P ops Q i (fun a' w' => (L.testBit i = true ∨ S w') ∧ wpAnyL P md ops Q S L fuel (listed.setIfInBounds i true) a' w') a w := by
  unfold wpOp
  simp only [ho]
  unfold wpList at h
  split
  · rename_i hw
    rw [if_pos hw] at h
    rcases h with h | ⟨h1, a', w', h2⟩
    · left
      unfold Oper.wp at *
      generalize (execOp a.eval o).run P w = r at *
      cases r with
      | ok n w' =>
        cases n <;> simp only [Oper.upon] at h ⊢ <;>
          first
            | exact h
            | exact Calls.mono h (fun e w'' he => by cases e <;> first | exact he | exact (let ⟨a', w', h⟩ := he; ⟨a', w', h⟩))
            | exact Rows.mono h (fun _ _ he => he)
      | halt x w' => cases x <;> simp only [Oper.upon] at h ⊢ <;> exact h
    · exact .inr ⟨h1, a', w', h2⟩
  · rename_i hw
    rw [if_neg hw] at h
    exact h

theorem rx_one {L i : Nat} {o : Oper} {fuel : Nat} {listed : Array Bool} {a : Act} {w : World} (ho : ops[i]? = some o) (hr : Region.ready md ops listed = [i])
    (h : wpList P ops (RxOn P md ops Q S L i fuel (listed.setIfInBounds i true)) [o] a w) : wpAnyL P md ops Q S L (fuel + 1) listed a w := by
  exact wpAnyL_all hr (by simp) fun j hj => by
    obtain rfl : j = i := by simpa using hj
    exact rx_one' ho h
end
section
variable {P : Program} {Q : Exit → Act → World → Prop} {l : List Oper} {W w : World} {a : Act}
/-- the late operations wait for all others but the free ones (bits from 128 on) -/
def waitsAll (SL : List Sm) (L n : Nat) : Bool := (List.range n).all (fun j => !L.testBit j || (match SL[j]? with
  | some x => (clN SL n x.2.1 ||| L ||| (L >>> 128)) &&& (2 ^ n - 1) == 2 ^ n - 1
  | none => true))
theorem waitsAll_spec {L n : Nat} (hn : n = l.length) (h : waitsAll (smAll l) L n = true) : ∀ i, i < l.toArray.size → L.testBit i = false → L.testBit (128 + i) = false → ∀ j, L.testBit j = true → ∀ listed, Clo .any l.toArray listed → j ∈ Region.ready .any l.toArray listed → listed.getD i true = true := by
  intro i hi hne hnf j hjL listed hc hL
  subst hn
  obtain ⟨_, oL, hoL, hall⟩ := mem_ready.1 hL
  have hL' : l[j]? = some oL := by simpa using hoL
  have hj : j < l.length := (List.getElem?_eq_some_iff.1 hL').1
  unfold waitsAll at h
  rw [List.all_eq_true] at h
  have h := h j (List.mem_range.2 hj)
  rw [hjL] at h
  simp only [smAll, List.getElem?_map, hL', Option.map_some, Bool.not_true, Bool.false_or, beq_iff_eq] at h
  have h1 := congrArg (fun x => x.testBit i) h
  have hi' : i < l.length := by simpa using hi
  simp only [Nat.testBit_or, Nat.testBit_and, Nat.testBit_two_pow_sub_one, Nat.testBit_shiftRight, hi', decide_true, hne, hnf, Bool.or_false, Bool.and_true] at h1
  have h2 := clN_sub hc l.length _ (sm_listed (l := l) hall) i h1
  rcases Nat.lt_or_ge i listed.size with h' | h'
  · simp [h'] at h2 ⊢; exact h2
  · simp [Array.getElem?_eq_none h'] at h2
/-- A region that draws, in the midst: m says which operations have come up; L: the late operations (bit mask), which may write what was there; they wait for all others. -/
def Rx (P : Program) (Q : Exit → Act → World → Prop) (W : World) (l : List Oper) (SL : List Sm) (L k m : Nat) (a : Act) (w : World) : Prop :=
  smAll l = SL → Region.noSelect l.toArray = true → waitsAll SL L l.length = true → m < 2 ^ l.length → Clo .any l.toArray (arrOf l.length m) → wpAnyL P .any l.toArray (NoPanic Q) (fun w' => ∃ p : Regrown, w' = grow (redrawn W p.d) p.os) L k (arrOf l.length m) a w

theorem rx_open {id : Nat} (SL : List Sm) (L n : Nat) (hm : P.follows .mixedOrders = true) (hn : l.length = n) (hSL : smAll l = SL) (hs : Region.noSelect l.toArray = true) (hL : waitsAll SL L n = true)
    (h : Rx P Q w l SL L n 0 a w.drew) : (Code.region id l.toArray true).wp P Q a w := by
  subst hn
  refine wp_region_noPanic (wp_region_any hm (wpAny_of_L (S := fun w' => ∃ p : Regrown, w' = grow (redrawn w p.d) p.os) (L := L) _ _ _ _ ?_))
  have := h hSL hs hL (Nat.two_pow_pos _) clo_zero
  rw [← arrOf_zero] at this
  simpa using this

theorem rx_run {SL : List Sm} {run : List Nat} {L n k m m' : Nat} {rops : List Oper} (hn : n = k + run.length) (hrl : run.all (fun i => !L.testBit i && !L.testBit (128 + i)) = true)
    (hc : tkM SL run m = true) (hl : tkL run m = m') (hr : run.filterMap (fun i => l[i]?) = rops) (hw : Ext W w)
    (h : wpQuiet P l.toArray (fun w' => ∃ p : Regrown, w' = grow (redrawn W p.d) p.os) (fun a' => Rx P Q W l SL L k m' a' w) rops a) :
    Rx P Q W l SL L n m a w := by
  intro hSL hs hL hm hcl
  subst hn hl hr hSL
  obtain ⟨h1, h2, h3⟩ := takeChk_of run m hm hc
  refine rx_take hs (noPanic_no Q) (waitsAll_spec rfl hL) (fuel := k) run _ a w hcl (regrown_of_below hw) (fun i hi => ?_) h1 (N := fun a' => Rx P Q W l (smAll l) L k (tkL run m) a' w) (by simpa using h) (fun a' h' => ?_)
  · have := List.all_eq_true.1 hrl i hi; simpa using this
  · rw [h2]
    exact h' rfl hs hL h3 (by rw [← h2]; exact clo_take run _ hcl h1)

/-- what is behind one operation -/
def RxOp (P : Program) (Q : Exit → Act → World → Prop) (W : World) (l : List Oper) (SL : List Sm) (L i k m : Nat) : Exit → Act → World → Prop
  | .normal, a, w => (L.testBit i = true ∨ Ext W w) ∧ Rx P Q W l SL L k m a w
  | e, a, w => NoPanic Q e a w

theorem rxOp_on {SL : List Sm} {L k m i : Nat} {o : Oper} (hSL : smAll l = SL) (hs : Region.noSelect l.toArray = true) (hL : waitsAll SL L l.length = true) (hm : m < 2 ^ l.length) (hi : i < l.length) (hcl : Clo .any l.toArray (arrOf l.length (m ||| 2 ^ i)))
    (h : wpList P l.toArray (RxOp P Q W l SL L i k (m ||| 2 ^ i)) [o] a w) :
    wpList P l.toArray (RxOn P .any l.toArray (NoPanic Q) (fun w' => ∃ p : Regrown, w' = grow (redrawn W p.d) p.os) L i k ((arrOf l.length m).setIfInBounds i true)) [o] a w := by
  have key : ∀ e a' w', RxOp P Q W l SL L i k (m ||| 2 ^ i) e a' w' → RxOn P .any l.toArray (NoPanic Q) (fun w' => ∃ p : Regrown, w' = grow (redrawn W p.d) p.os) L i k ((arrOf l.length m).setIfInBounds i true) e a' w' := by
    intro e a' w' he
    cases e with
    | normal => exact ⟨he.1.imp id regrown_of_below, by rw [arrOf_set _ _ _ hi]; exact he.2 hSL hs hL (bit_lt hm hi) hcl⟩
    | _ => exact he
  unfold wpList at *
  split
  · rename_i hw
    rw [if_pos hw] at h
    rcases h with h | ⟨h1, a', w', h2⟩
    · left
      unfold Oper.wp at *
      generalize (execOp a.eval o).run P w = r at *
      cases r with
      | ok n w' =>
        cases n <;> simp only [Oper.upon] at h ⊢ <;>
          first
            | exact key _ _ _ h
            | exact Calls.mono h (fun e w'' he => by cases e <;> first | exact key _ _ _ he | exact (let ⟨a', w', h⟩ := he; ⟨a', w', key _ _ _ h⟩))
            | exact Rows.mono h (fun _ _ he => key _ _ _ he)
            | exact h
      | halt x w' => cases x <;> simp only [Oper.upon] at h ⊢ <;> first | exact key _ _ _ h | exact h
    · exact .inr ⟨h1, a', w', key _ _ _ h2⟩
  · rename_i hw
    rw [if_neg hw] at h
    exact key _ _ _ h

theorem rx_op {SL : List Sm} (i : Nat) {o : Oper} {L n k m m' : Nat} (hn : n = k + 1) (ho : l[i]? = some o) (hr : rdM m SL 0 = [i]) (hl : m ||| 2 ^ i = m')
    (h : wpList P l.toArray (RxOp P Q W l SL L i k m') [o] a w) : Rx P Q W l SL L n m a w := by
  intro hSL hs hL hm hcl
  subst hn hl
  have hi : i < l.length := (List.getElem?_eq_some_iff.1 ho).1
  exact rx_one (by simpa using ho) (by rw [ready_eq hm, hSL]; exact hr) (rxOp_on hSL hs hL hm hi (by rw [← arrOf_set _ _ _ hi]; exact clo_set hcl (by rw [ready_eq hm, hSL, hr]; simp)) h)

/-- two operations may come up -/
theorem rx_two {SL : List Sm} (i j : Nat) {o o' : Oper} {L n k m mi mj : Nat} (hn : n = k + 1) (ho : l[i]? = some o) (ho' : l[j]? = some o') (hr : rdM m SL 0 = [i, j]) (hl : m ||| 2 ^ i = mi) (hl' : m ||| 2 ^ j = mj)
    (h : wpList P l.toArray (RxOp P Q W l SL L i k mi) [o] a w) (h' : wpList P l.toArray (RxOp P Q W l SL L j k mj) [o'] a w) : Rx P Q W l SL L n m a w := by
  intro hSL hs hL hm hcl
  subst hn hl hl'
  have hi : i < l.length := (List.getElem?_eq_some_iff.1 ho).1
  have hj : j < l.length := (List.getElem?_eq_some_iff.1 ho').1
  refine wpAnyL_all (rs := [i, j]) (by rw [ready_eq hm, hSL]; exact hr) (by simp) fun x hx => ?_
  rcases List.mem_cons.1 hx with rfl | hx
  · exact rx_one' (by simpa using ho) (rxOp_on hSL hs hL hm hi (by rw [← arrOf_set _ _ _ hi]; exact clo_set hcl (by rw [ready_eq hm, hSL, hr]; simp)) h)
  · obtain rfl : x = j := by simpa using hx
    exact rx_one' (by simpa using ho') (rxOp_on hSL hs hL hm hj (by rw [← arrOf_set _ _ _ hj]; exact clo_set hcl (by rw [ready_eq hm, hSL, hr]; simp)) h')

/-- operations that look at no memory, ahead of all -/
theorem rx_free {SL : List Sm} {run : List Nat} {L n k m m' : Nat} {rops : List Oper} (hn : n = k + run.length)
    (hc : tkM SL run m = true) (hl : tkL run m = m') (hr : run.filterMap (fun i => l[i]?) = rops)
    (h : wpQuiet P l.toArray (fun _ => True) (fun a' => Rx P Q W l SL L k m' a' w) rops a) :
    Rx P Q W l SL L n m a w := by
  intro hSL hs hL hm hcl
  subst hn hl hr hSL
  obtain ⟨h1, h2, h3⟩ := takeChk_of run m hm hc
  refine rx_takeF hs (noPanic_no Q) (fuel := k) run _ a h1 (N := fun a' => Rx P Q W l (smAll l) L k (tkL run m) a' w) (by simpa using h) (fun a' h' => ?_)
  rw [h2]
  exact h' rfl hs hL h3 (by rw [← h2]; exact clo_take run _ hcl h1)

theorem rx_on {SL : List Sm} {L i k m : Nat} (hw : Ext W w) (h : Rx P Q W l SL L k m a w) : RxOp P Q W l SL L i k m .normal a w := ⟨.inr hw, h⟩
theorem rx_lst {SL : List Sm} {L i k m : Nat} (hi : L.testBit i = true) (h : Rx P Q W l SL L k m a w) : RxOp P Q W l SL L i k m .normal a w := ⟨.inl hi, h⟩

theorem rx_end {SL : List Sm} {L n m : Nat} (hr : rdM m SL 0 = []) (h : Q .normal a w) : Rx P Q W l SL L n m a w := by
  intro hSL _ _ hm _
  exact wpAnyL_done (by rw [ready_eq hm, hSL]; exact hr) (NoPanic.normal h) n
theorem rx_step {SL : List Sm} {i L k m mi : Nat} {o : Oper} (ho : l[i]? = some o) (hl : m ||| 2 ^ i = mi) (hSL : smAll l = SL) (hs : Region.noSelect l.toArray = true) (hL : waitsAll SL L l.length = true) (hm : m < 2 ^ l.length)
    (hcl : Clo .any l.toArray (arrOf l.length m)) (hr : i ∈ rdM m SL 0) (h : wpList P l.toArray (RxOp P Q W l SL L i k mi) [o] a w) :
    wpOp P l.toArray (NoPanic Q) i (fun a' w' => (L.testBit i = true ∨ ∃ p : Regrown, w' = grow (redrawn W p.d) p.os) ∧ wpAnyL P .any l.toArray (NoPanic Q) (fun w' => ∃ p : Regrown, w' = grow (redrawn W p.d) p.os) L k ((arrOf l.length m).setIfInBounds i true) a' w') a w := by
  subst hl
  have hi : i < l.length := (List.getElem?_eq_some_iff.1 ho).1
  exact rx_one' (by simpa using ho) (rxOp_on hSL hs hL hm hi (by rw [← arrOf_set _ _ _ hi]; exact clo_set hcl (by rw [ready_eq hm, hSL]; exact hr)) h)

theorem rx_three {SL : List Sm} (i j q : Nat) {o o' o'' : Oper} {L n k m mi mj mk : Nat} (hn : n = k + 1) (ho : l[i]? = some o) (ho' : l[j]? = some o') (ho'' : l[q]? = some o'') (hr : rdM m SL 0 = [i, j, q])
    (hl : m ||| 2 ^ i = mi) (hl' : m ||| 2 ^ j = mj) (hl'' : m ||| 2 ^ q = mk)
    (h : wpList P l.toArray (RxOp P Q W l SL L i k mi) [o] a w) (h' : wpList P l.toArray (RxOp P Q W l SL L j k mj) [o'] a w) (h'' : wpList P l.toArray (RxOp P Q W l SL L q k mk) [o''] a w) : Rx P Q W l SL L n m a w := by
  intro hSL hs hL hm hcl
  subst hn
  refine wpAnyL_all (rs := [i, j, q]) (by rw [ready_eq hm, hSL]; exact hr) (by simp) fun x hx => ?_
  have hx' : x = i ∨ x = j ∨ x = q := by simpa using hx
  rcases hx' with rfl | rfl | rfl
  · exact rx_step ho hl hSL hs hL hm hcl (by rw [hr]; exact hx) h
  · exact rx_step ho' hl' hSL hs hL hm hcl (by rw [hr]; exact hx) h'
  · exact rx_step ho'' hl'' hSL hs hL hm hcl (by rw [hr]; exact hx) h''

theorem rx_four {SL : List Sm} (i j q z : Nat) {o o' o'' o3 : Oper} {L n k m mi mj mk ml : Nat} (hn : n = k + 1) (ho : l[i]? = some o) (ho' : l[j]? = some o') (ho'' : l[q]? = some o'') (ho3 : l[z]? = some o3) (hr : rdM m SL 0 = [i, j, q, z])
    (hl : m ||| 2 ^ i = mi) (hl' : m ||| 2 ^ j = mj) (hl'' : m ||| 2 ^ q = mk) (hl3 : m ||| 2 ^ z = ml)
    (h : wpList P l.toArray (RxOp P Q W l SL L i k mi) [o] a w) (h' : wpList P l.toArray (RxOp P Q W l SL L j k mj) [o'] a w) (h'' : wpList P l.toArray (RxOp P Q W l SL L q k mk) [o''] a w) (h3 : wpList P l.toArray (RxOp P Q W l SL L z k ml) [o3] a w) : Rx P Q W l SL L n m a w := by
  intro hSL hs hL hm hcl
  subst hn
  refine wpAnyL_all (rs := [i, j, q, z]) (by rw [ready_eq hm, hSL]; exact hr) (by simp) fun x hx => ?_
  have hx' : x = i ∨ x = j ∨ x = q ∨ x = z := by simpa using hx
  rcases hx' with rfl | rfl | rfl | rfl
  · exact rx_step ho hl hSL hs hL hm hcl (by rw [hr]; exact hx) h
  · exact rx_step ho' hl' hSL hs hL hm hcl (by rw [hr]; exact hx) h'
  · exact rx_step ho'' hl'' hSL hs hL hm hcl (by rw [hr]; exact hx) h''
  · exact rx_step ho3 hl3 hSL hs hL hm hcl (by rw [hr]; exact hx) h3
/-- a variable that a region makes -/
theorem rx_gen {SL : List Sm} {L k m : Nat} {u0 u1 : Value} {T : TypeId} (hW : Ext W w)
    (h : ∀ w', Ext w w' → w'.cell? ⟨w.heap.size, 0, none⟩ = some u0 → w'.cell? ⟨w.heap.size, 1, none⟩ = some u1 → w'.frozen? ⟨w.heap.size, 0, none⟩ = false → w'.frozen? ⟨w.heap.size, 1, none⟩ = false → w.heap.size < w'.heap.size → W.heap.size ≤ w.heap.size →
      Rx P Q W l SL L k m a w') : Rx P Q W l SL L k m a (w.alloc (.cells #[u0, u1] T)) := by
  refine h _ ((Ext.refl w).alloc _) ?_ ?_ ?_ ?_ (by simp) hW.size
  · rw [cell_of_row _ w.heap.size 0 _ T (0, 0) (heap_alloc_new w _)]; rfl
  · rw [cell_of_row _ w.heap.size 1 _ T (0, 0) (heap_alloc_new w _)]; rfl
  · exact frozen_of_row _ w.heap.size 0 _ T (heap_alloc_new w _)
  · exact frozen_of_row _ w.heap.size 1 _ T (heap_alloc_new w _)
end
end Go.Proofs.YtdhmjhoaegdfjaaGreat.Fr
