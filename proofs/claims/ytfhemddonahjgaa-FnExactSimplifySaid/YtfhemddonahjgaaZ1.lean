import Derived.Test.YtfhemddonahjgaaY1
import Derived.Test.YtfhemddonahjgaaX1
namespace Go.Proofs.Ytfhemddonahjgaa
open Go.RowKit Go.Sort Go.BigFrame
/-! Plain words: leads in a row are made one, as long as there are any. -/

def smp : Nat → List P2 → List P2 → List P2 × List P2
  | 0, ns, ls => (ns, ls)
  | f + 1, ns, ls => if (vStraightNodes ns ls).length = 0 then (ns, ls) else if (vJoinLeads ns ls (gi (vStraightNodes ns ls) (0 : Nat))).2 = true then
      smp f (vJoinLeads ns ls (gi (vStraightNodes ns ls) (0 : Nat))).1.1 (vJoinLeads ns ls (gi (vStraightNodes ns ls) (0 : Nat))).1.2 else (ns, ls)
theorem vJoin_yes {ns ls rn rl : List P2} {k : Int} (h : vJoinLeads ns ls k = ((rn, rl), true)) : rn.length + 1 = ns.length ∧ rl.length ≤ ls.length := by
  unfold vJoinLeads at h
  split at h
  · rename_i hk
    unfold jlOk at hk
    rw [Bool.and_eq_true] at hk
    obtain ⟨_, kk, i0, i1, a, b, rfl, hkk, _⟩ := jl_facts hk.1
    injection h with h _
    injection h with h1 h2
    subst h1
    subst h2
    refine ⟨wnN_length hkk, ?_⟩
    unfold jL jM
    rw [List.length_map]
    exact wnN_len _ _ _
  · injection h with _ h
    cases h
theorem vJoin_no {ns ls rn rl : List P2} {k : Int} (h : vJoinLeads ns ls k = ((rn, rl), false)) : rn = ns ∧ rl = ls := by
  unfold vJoinLeads at h
  split at h
  · injection h with _ h
    cases h
  · injection h with h _
    injection h with h1 h2
    exact ⟨h1.symm, h2.symm⟩
theorem smp_len : ∀ (f : Nat) (ns ls : List P2), (smp f ns ls).1.length ≤ ns.length ∧ (smp f ns ls).2.length ≤ ls.length
  | 0, _, _ => ⟨Nat.le_refl _, Nat.le_refl _⟩
  | f + 1, ns, ls => by
    unfold smp
    split
    · exact ⟨Nat.le_refl _, Nat.le_refl _⟩
    · split
      · rename_i hj
        obtain ⟨⟨⟨rn, rl⟩, bb⟩, hv⟩ : ∃ Q, vJoinLeads ns ls (gi (vStraightNodes ns ls) (0 : Nat)) = Q := ⟨_, rfl⟩
        rw [hv] at hj ⊢
        dsimp only at hj ⊢
        subst hj
        obtain ⟨h1, h2⟩ := vJoin_yes hv
        have ih := smp_len f rn rl
        omega
      · exact ⟨Nat.le_refl _, Nat.le_refl _⟩
theorem smp_end {f : Nat} {ns ls : List P2} (h : (vStraightNodes ns ls).length = 0) : smp f ns ls = (ns, ls) := by
  cases f with
  | zero => rfl
  | succ f => unfold smp; rw [if_pos h]
theorem smp_stop {f : Nat} {ns ls : List P2} {k : Int} {r : List P2 × List P2} (e : gi (vStraightNodes ns ls) (0 : Nat) = k) (h : vJoinLeads ns ls k = (r, false)) : smp f ns ls = (ns, ls) := by
  cases f with
  | zero => rfl
  | succ f =>
    unfold smp
    rw [e, h]
    split
    · rfl
    · rfl
theorem smp_step {ns ls rn rl : List P2} {k : Int} (h0 : 0 < (vStraightNodes ns ls).length) (e : gi (vStraightNodes ns ls) (0 : Nat) = k) (h : vJoinLeads ns ls k = ((rn, rl), true)) : smp ns.length ns ls = smp rn.length rn rl := by
  obtain ⟨h1, _⟩ := vJoin_yes h
  rw [← h1]
  conv => lhs; unfold smp
  rw [if_neg (by omega), e, h]
  rfl
def vSimplify (ns ls : List P2) : List P2 × List P2 := smp ns.length ns ls
theorem vSimplify_len (ns ls : List P2) : (vSimplify ns ls).1.length ≤ ns.length + 1 ∧ (vSimplify ns ls).2.length ≤ ls.length + 1 := by
  have := smp_len ns.length ns ls
  unfold vSimplify
  omega
theorem str_none {ns ls : List P2} (h : wok ns ls = false) : (vStraightNodes ns ls).length = 0 := by
  have key : ∀ i : Nat, straight ns ls (i : Nat) = false := fun i => by
    rw [← Bool.not_eq_true]
    intro hs
    have := (jl_facts hs).1
    rw [wok_iff.2 this] at h
    cases h
  unfold vStraightNodes flt
  rw [List.length_map, List.length_eq_zero_iff, List.filter_eq_nil_iff]
  intro i _
  rw [key i]
  decide
end Go.Proofs.Ytfhemddonahjgaa
