import Derived.Test.YtpainmnekgnpeaaP1
namespace Go.Proofs.Ytpainmnekgnpeaa
/-! Plain words: a window that is right. -/
def hasP (l : List P2) (p : P2) : Bool := l.any (fun q => peq p q)
theorem hasP_no {l : List P2} {p : P2} : hasP l p = false ↔ ∀ j, j < l.length → peq p (gp l j) = false := by
  rw [hasP, List.any_eq_false]
  constructor
  · intro h j hj
    have := h l[j] (List.getElem_mem hj)
    rw [← gp_nat l j hj] at this
    simpa using this
  · intro h q hq
    obtain ⟨j, hj, rfl⟩ := List.getElem_of_mem hq
    rw [← gp_nat l j hj, h j hj]
    simp
theorem gp_take (l : List P2) (k j : Nat) (hj : j < k) (hk : k ≤ l.length) : gp (l.take k) j = gp l j := by
  rw [gp_nat _ _ (by rw [List.length_take]; omega), gp_nat _ _ (by omega), List.getElem_take]

/-- what is asked of lead i -/
def leadW (ns ls : List P2) (i : Nat) : Prop :=
  lok ns (gp ls i) = true ∧ (∀ j, j < i → dox ns (gp ls i) (gp ls j) = false) ∧ ∀ k : Nat, k < ns.length → (k : Int) ≠ (gp ls i).1 → (k : Int) ≠ (gp ls i).2 → onl ns (gp ls i) (gp ns k) = false
structure WOk (ns ls : List P2) : Prop where
  lo : 1 ≤ ns.length
  hi : ns.length ≤ 12
  le : ls.length ≤ 20
  ok : ∀ i, i < ns.length → nok (gp ns i) = true
  ne : ∀ i, i < ns.length → ∀ j, j < i → peq (gp ns i) (gp ns j) = false
  ld : ∀ i, i < ls.length → leadW ns ls i
def wok (ns ls : List P2) : Bool :=
  decide (1 ≤ ns.length) && decide (ns.length ≤ 12) && decide (ls.length ≤ 20) && (List.range ns.length).all (fun i => nok (gp ns (i : Nat))) &&
  (List.range ns.length).all (fun i => (List.range i).all (fun j => !peq (gp ns (i : Nat)) (gp ns (j : Nat)))) &&
  (List.range ls.length).all (fun i => lok ns (gp ls (i : Nat)) && (List.range i).all (fun j => !dox ns (gp ls (i : Nat)) (gp ls (j : Nat))) &&
    (List.range ns.length).all (fun k => decide ((k : Int) = (gp ls (i : Nat)).1) || decide ((k : Int) = (gp ls (i : Nat)).2) || !onl ns (gp ls (i : Nat)) (gp ns (k : Nat))))
theorem wok_iff {ns ls : List P2} : wok ns ls = true ↔ WOk ns ls := by
  unfold wok
  simp only [Bool.and_eq_true, decide_eq_true_eq, List.all_eq_true, List.mem_range, Bool.not_eq_true', Bool.or_eq_true]
  constructor
  · rintro ⟨⟨⟨⟨⟨h1, h2⟩, h3⟩, h4⟩, h5⟩, h6⟩
    refine ⟨h1, h2, h3, h4, h5, fun i hi => ⟨(h6 i hi).1.1, (h6 i hi).1.2, fun k hk n1 n2 => ?_⟩⟩
    rcases (h6 i hi).2 k hk with (h | h) | h
    · exact absurd h n1
    · exact absurd h n2
    · exact h
  · intro h
    refine ⟨⟨⟨⟨⟨h.lo, h.hi⟩, h.le⟩, h.ok⟩, h.ne⟩, fun i hi => ⟨⟨(h.ld i hi).1, (h.ld i hi).2.1⟩, fun k hk => ?_⟩⟩
    by_cases n1 : (k : Int) = (gp ls i).1
    · exact .inl (.inl n1)
    · by_cases n2 : (k : Int) = (gp ls i).2
      · exact .inl (.inr n2)
      · exact .inr ((h.ld i hi).2.2 k hk n1 n2)
theorem wok_no {ns ls : List P2} (h : ¬ WOk ns ls) : wok ns ls = false := by
  rw [Bool.eq_false_iff]; exact fun e => h (wok_iff.1 e)
end Go.Proofs.Ytpainmnekgnpeaa
