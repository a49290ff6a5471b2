/- The law FnExactFreeFace returns true for every window and every slice of integers and every integer and every integer, and each argument reads behind the call as it read before. No condition. -/
import Derived.Test.YtimgbllpbadhcaaGreatG11
import Derived.Test.YtimgbllpbadhcaaGreatO1
import Derived.Test.YtimgbllpbadhcaaGreatL23
import Derived.ProofKit
import Derived.OpenShut
namespace Go.Proofs.YtimgbllpbadhcaaGreat.LFreeFace
open Go.ChangeShapes Go.WideShapes Go.ChangeAt Go.RowKit

theorem laidOut : laidOutB Tryz.prog = true := by kernel_rfl

set_option maxRecDepth 100000 in
theorem lifted (os : Os) (started : os.Started) (H : Type) (enc : TypeId × Value → H) :
    ReturnsInHanded {} Tryz.checked os 3 .any (Rows.fnExactFreeFaceSpec.pre6 enc Tryz.prog Tryz.f3 Rows.fnExactFreeFaceRow.domain false) (Rows.fnExactFreeFaceSpec.post enc Tryz.prog Tryz.f3 false true false false) := by
  refine returnsInHanded_of_change (C := Tryz.checked) own0 started (by kernel_rfl) Tryz.func3
    (ChangeSpec.witness6 (enc := enc) (C := Tryz.checked) false ⟨#[], #[.agg #[.slice none 0 0, .slice none 0 0], .slice none 0 0, .int .i64 0, .int .i64 0], []⟩ 8 (by kernel_rfl) (by kernel_rfl) (by kernel_rfl) (by kernel_rfl)) ?_
  intro W base args ds gs before hval0 hW hcnd _
  have hval : ∀ (j : Nat) t v, Tryz.f3.params[j]? = some t → args[j]? = some v → Value.okWide Tryz.prog W .any base t v := hval0
  have hW' := hW
  obtain ⟨p, q, hA0, hV, rfl, hfz, hnd⟩ := hW
  have hA : DataW.TrodAll enc Tryz.prog W 0 (fun _ => true) true Tryz.f3.params.toList args.toList ds p := hA0
  rw [Tryz.params3] at hA hval
  obtain ⟨v0, vs0, d0, ds0, p0, q0, hargs, rfl, rfl, h0, r0⟩ := trodAll_cons hA
  obtain ⟨v1, vs1, d1, ds1, p1, q1, rfl, rfl, rfl, h1, r1⟩ := trodAll_cons r0
  obtain ⟨v2, vs2, d2, ds2, p2, q2, rfl, rfl, rfl, h2, r2⟩ := trodAll_cons r1
  obtain ⟨v3, vs3, d3, ds3, p3, q3, rfl, rfl, rfl, h3, r3⟩ := trodAll_cons r2
  obtain ⟨rfl, rfl, rfl⟩ := trodAll_nil r3
  obtain rfl : args = #[v0, v1, v2, v3] := by cases args; simp_all
  obtain ⟨rfl, rfl⟩ := trodVars_none hV
  have k0 := h0
  have lt0 : ∀ x ∈ p0, x.block < W.heap.size := by obtain ⟨m, hm⟩ := k0; exact DataW.trod_lt m _ _ _ hm
  have k1 := h1
  have lt1 : ∀ x ∈ p1, x.block < W.heap.size := by obtain ⟨m, hm⟩ := k1; exact DataW.trod_lt m _ _ _ hm
  have k2 := h2
  have lt2 : ∀ x ∈ p2, x.block < W.heap.size := by obtain ⟨m, hm⟩ := k2; exact DataW.trod_lt m _ _ _ hm
  have k3 := h3
  have lt3 : ∀ x ∈ p3, x.block < W.heap.size := by obtain ⟨m, hm⟩ := k3; exact DataW.trod_lt m _ _ _ hm
  obtain ⟨A, n, c, B, m, d', ns, ls, rfl, hn, hm, hn63, hm63, hPA, hPB⟩ := open_window (hval 0 25 v0 rfl rfl) h0
  obtain ⟨X1, xn1, xc1, xs1, rfl, hxn1, hx631, hX1⟩ := open_islice (hval 1 26 v1 rfl rfl) h1
  obtain ⟨i2, rfl, lo2, hi2⟩ := open_i (hval 2 3 v2 rfl rfl) h2
  obtain ⟨i3, rfl, lo3, hi3⟩ := open_i (hval 3 3 v3 rfl rfl) h3
  clear hA0 hval0
  refine (law_FreeFace A B n c m d' ns ls X1 xn1 xc1 xs1 i2 i3 W hn hm hn63 hm63 hPA hPB hxn1 hx631 hX1).mono fun e W' ⟨he, bel⟩ => ?_
  subst he
  exact ⟨_, rfl, _, _, _, [], _, [], hW', trodAll_mk1 (shut_bool Tryz.underlying4 _), (trodAll_cons_mk (Below.trod laidOut (by kernel_rfl) (of_decide_eq_true (by kernel_rfl)) k0 bel lt0) (trodAll_cons_mk (Below.trod laidOut (by kernel_rfl) (of_decide_eq_true (by kernel_rfl)) k1 bel lt1) (trodAll_cons_mk (Below.trod laidOut (by kernel_rfl) (of_decide_eq_true (by kernel_rfl)) k2 bel lt2) (trodAll_cons_mk (Below.trod laidOut (by kernel_rfl) (of_decide_eq_true (by kernel_rfl)) k3 bel lt3) trodAll_mk0)))), rfl, bel.frame _, fun h => by cases h⟩

theorem joined : joinedFacts Tryz.prog 3 Tryz.f3 Rows.fnExactFreeFaceSpec Rows.fnExactFreeFaceRow = true := by
  unfold joinedFacts
  rw [initM, initF, initK]
  kernel_rfl
theorem over : Rows.fnExactFreeFaceRow.holds Tryz.pinned (OpenSpec.ofChange Rows.fnExactFreeFaceSpec) :=
  OpenClaim.holds_of_wide 3 Tryz.f3 rfl rfl rfl rfl rfl rfl rfl ⟨rfl, rfl, rfl, rfl, rfl⟩ rfl rfl rfl rfl rfl (by kernel_rfl) Tryz.func3 joined
    (of_decide_eq_true (by kernel_rfl)) (by unfold Func.isWrapper; first | (rw [if_pos (by decide +kernel)]; kernel_rfl) | (rw [if_neg (by decide +kernel)]; exact ⟨rfl, rfl⟩))
    (fun os started H enc _ => lifted os started H enc)
end Go.Proofs.YtimgbllpbadhcaaGreat.LFreeFace
namespace Go.Proofs.YtimgbllpbadhcaaGreat
theorem freeFace_holds : Rows.FnExactFreeFaceSaid := LFreeFace.over
#print axioms freeFace_holds
end Go.Proofs.YtimgbllpbadhcaaGreat
