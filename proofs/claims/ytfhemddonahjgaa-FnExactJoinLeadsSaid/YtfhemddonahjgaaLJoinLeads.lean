/- The law FnExactJoinLeads returns true for every window and every integer, and each argument reads behind the call as it read before. No condition. -/
import Derived.Test.YtfhemddonahjgaaG11
import Derived.Test.YtfhemddonahjgaaO1
import Derived.Test.YtfhemddonahjgaaY4
import Derived.ProofKit
import Derived.OpenShut
namespace Go.Proofs.Ytfhemddonahjgaa.LJoinLeads
open Go.ChangeShapes Go.WideShapes Go.ChangeAt Go.RowKit

theorem laidOut : laidOutB Try.prog = true := by kernel_rfl

set_option maxRecDepth 100000 in
theorem lifted (os : Os) (started : os.Started) (H : Type) (enc : TypeId × Value → H) :
    ReturnsInHanded {} Try.checked os 5 .any (Rows.fnExactJoinLeadsSpec.pre6 enc Try.prog Try.f5 Rows.fnExactJoinLeadsRow.domain false) (Rows.fnExactJoinLeadsSpec.post enc Try.prog Try.f5 false true false false) := by
  refine returnsInHanded_of_change (C := Try.checked) own0 started (by kernel_rfl) Try.func5
    (ChangeSpec.witness6 (enc := enc) (C := Try.checked) false ⟨#[], #[.agg #[.slice none 0 0, .slice none 0 0], .int .i64 0], []⟩ 8 (by kernel_rfl) (by kernel_rfl) (by kernel_rfl) (by kernel_rfl)) ?_
  intro W base args ds gs before hval0 hW hcnd _
  have hval : ∀ (j : Nat) t v, Try.f5.params[j]? = some t → args[j]? = some v → Value.okWide Try.prog W .any base t v := hval0
  have hW' := hW
  obtain ⟨p, q, hA0, hV, rfl, hfz, hnd⟩ := hW
  have hA : DataW.TrodAll enc Try.prog W 0 (fun _ => true) true Try.f5.params.toList args.toList ds p := hA0
  rw [Try.params5] at hA hval
  obtain ⟨v0, vs0, d0, ds0, p0, q0, hargs, rfl, rfl, h0, r0⟩ := trodAll_cons hA
  obtain ⟨v1, vs1, d1, ds1, p1, q1, rfl, rfl, rfl, h1, r1⟩ := trodAll_cons r0
  obtain ⟨rfl, rfl, rfl⟩ := trodAll_nil r1
  obtain rfl : args = #[v0, v1] := by cases args; simp_all
  obtain ⟨rfl, rfl⟩ := trodVars_none hV
  have k0 := h0
  have lt0 : ∀ x ∈ p0, x.block < W.heap.size := by obtain ⟨m, hm⟩ := k0; exact DataW.trod_lt m _ _ _ hm
  have k1 := h1
  have lt1 : ∀ x ∈ p1, x.block < W.heap.size := by obtain ⟨m, hm⟩ := k1; exact DataW.trod_lt m _ _ _ hm
  obtain ⟨A, n, c, B, m, d', ns, ls, rfl, hn, hm, hn63, hm63, hPA, hPB⟩ := open_window (hval 0 25 v0 rfl rfl) h0
  obtain ⟨i1, rfl, lo1, hi1⟩ := open_i (hval 1 3 v1 rfl rfl) h1
  clear hA0 hval0
  refine (law_JoinLeads A B n c m d' ns ls i1 W hn hm hn63 hm63 hPA hPB).mono fun e W' ⟨he, bel⟩ => ?_
  subst he
  exact ⟨_, rfl, _, _, _, [], _, [], hW', trodAll_mk1 (shut_bool Try.underlying4 _), (trodAll_cons_mk (Below.trod laidOut (by kernel_rfl) (of_decide_eq_true (by kernel_rfl)) k0 bel lt0) (trodAll_cons_mk (Below.trod laidOut (by kernel_rfl) (of_decide_eq_true (by kernel_rfl)) k1 bel lt1) trodAll_mk0)), rfl, bel.frame _, fun h => by cases h⟩

theorem joined : joinedFacts Try.prog 5 Try.f5 Rows.fnExactJoinLeadsSpec Rows.fnExactJoinLeadsRow = true := by
  unfold joinedFacts
  rw [initM, initF, initK]
  kernel_rfl
theorem over : Rows.fnExactJoinLeadsRow.holds Try.pinned (OpenSpec.ofChange Rows.fnExactJoinLeadsSpec) :=
  OpenClaim.holds_of_wide 5 Try.f5 rfl rfl rfl rfl rfl rfl rfl ⟨rfl, rfl, rfl, rfl, rfl⟩ rfl rfl rfl rfl rfl (by kernel_rfl) Try.func5 joined
    (of_decide_eq_true (by kernel_rfl)) (by unfold Func.isWrapper; first | (rw [if_pos (by decide +kernel)]; kernel_rfl) | (rw [if_neg (by decide +kernel)]; exact ⟨rfl, rfl⟩))
    (fun os started H enc _ => lifted os started H enc)
end Go.Proofs.Ytfhemddonahjgaa.LJoinLeads
namespace Go.Proofs.Ytfhemddonahjgaa
theorem joinLeads_holds : Rows.FnExactJoinLeadsSaid := LJoinLeads.over
#print axioms joinLeads_holds
end Go.Proofs.Ytfhemddonahjgaa
