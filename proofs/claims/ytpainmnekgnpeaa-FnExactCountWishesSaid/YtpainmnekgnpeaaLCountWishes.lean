/- The law FnExactCountWishes returns true for every slice of integers, and the slice reads behind the call as it read before. No condition. -/
import Derived.Test.YtpainmnekgnpeaaC2
import Derived.ProofKit
import Derived.OpenShut
namespace Go.Proofs.Ytpainmnekgnpeaa.LCountWishes
open Go.ChangeShapes Go.WideShapes Go.ChangeAt Go.RowKit

theorem laidOut : laidOutB Try.prog = true := by kernel_rfl

set_option maxRecDepth 100000 in
theorem lifted (os : Os) (started : os.Started) (H : Type) (enc : TypeId × Value → H) :
    ReturnsInHanded {} Try.checked os 3 .any (Rows.fnExactCountWishesSpec.pre6 enc Try.prog Try.f3 Rows.fnExactCountWishesRow.domain false) (Rows.fnExactCountWishesSpec.post enc Try.prog Try.f3 false true false false) := by
  refine returnsInHanded_of_change (C := Try.checked) own0 started (by kernel_rfl) Try.func3
    (ChangeSpec.witness6 (enc := enc) (C := Try.checked) false ⟨#[], #[.slice none 0 0], []⟩ 8 (by kernel_rfl) (by kernel_rfl) (by kernel_rfl) (by kernel_rfl)) ?_
  intro W base args ds gs before hval0 hW hcnd _
  have hval : ∀ (j : Nat) t v, Try.f3.params[j]? = some t → args[j]? = some v → Value.okWide Try.prog W .any base t v := hval0
  have hW' := hW
  obtain ⟨p, q, hA0, hV, rfl, hfz, hnd⟩ := hW
  have hA : DataW.TrodAll enc Try.prog W 0 (fun _ => true) true Try.f3.params.toList args.toList ds p := hA0
  rw [Try.params3] at hA hval
  obtain ⟨v0, vs0, d0, ds0, p0, q0, hargs, rfl, rfl, h0, r0⟩ := trodAll_cons hA
  obtain ⟨rfl, rfl, rfl⟩ := trodAll_nil r0
  obtain rfl : args = #[v0] := by cases args; simp_all
  obtain ⟨rfl, rfl⟩ := trodVars_none hV
  obtain ⟨a0, len0, cap0, rfl⟩ := okWide_slice Try.underlying22 (hval 0 22 v0 rfl rfl)
  have k0 := h0
  have lt0 : ∀ x ∈ p0, x.block < W.heap.size := by obtain ⟨m, hm⟩ := k0; exact DataW.trod_lt m _ _ _ hm
  obtain ⟨xs, hn, h63, hin⟩ : ∃ xs : List Int, len0 = xs.length ∧ len0 ≤ 9223372036854775807 ∧ In W W.heap.size a0 xs := by
    obtain ⟨fuel, hf⟩ := h0
    rcases open_ints Try.underlying22 Try.underlying3 (by kernel_rfl) hf with ⟨hcs, _⟩ | ⟨x, l, c, zs, hcs, _, hl, hm, hz, _, hcell, _⟩
    · simp [Value.cells] at hcs
      obtain ⟨rfl, rfl, rfl⟩ := hcs
      exact ⟨[], rfl, by omega, rfl, fun h => absurd h (by simp)⟩
    · simp [Value.cells] at hcs
      obtain ⟨rfl, rfl, rfl⟩ := hcs
      have hzl : zs.length = cap0 := by simpa using hz
      unfold maxLen at hm
      refine ⟨zs.take len0, by rw [List.length_take]; omega, by omega, by simp, fun hn => ?_⟩
      rw [List.length_take] at hn
      obtain ⟨b, off, rfl, hc⟩ := ints_at hcell (by omega)
      refine ⟨b, off, rfl, ?_, fun j u hu => ?_⟩
      · exact block_lt_of_cell (hc 0 (by omega))
      · rw [List.getElem?_map] at hu
        cases hg : (zs.take len0)[j]? with
        | none => rw [hg] at hu; cases hu
        | some y =>
          rw [hg] at hu
          simp at hu
          subst hu
          rw [List.getElem?_take] at hg
          split at hg
          · have hj : j < zs.length := by
              rcases Nat.lt_or_ge j zs.length with h | h
              · exact h
              · rw [List.getElem?_eq_none h] at hg; cases hg
            rw [hc j hj]
            congr 2
            rw [List.getD_eq_getElem?_getD, hg]; rfl
          · cases hg
  clear hA0 hval0
  refine (law_CountWishes a0 len0 cap0 xs W hn hin).mono fun e W' ⟨he, bel⟩ => ?_
  subst he
  exact ⟨_, rfl, _, _, _, [], _, [], hW', trodAll_mk1 (shut_bool Try.underlying4 _), (trodAll_cons_mk (Below.trod laidOut (by kernel_rfl) (of_decide_eq_true (by kernel_rfl)) k0 bel lt0) trodAll_mk0), rfl, bel.frame _, fun h => by cases h⟩

theorem over : Rows.fnExactCountWishesRow.holds Try.pinned (OpenSpec.ofChange Rows.fnExactCountWishesSpec) :=
  OpenClaim.holds_of_wide 3 Try.f3 rfl rfl rfl rfl rfl rfl rfl ⟨rfl, rfl, rfl, rfl, rfl⟩ rfl rfl rfl rfl rfl (by kernel_rfl) Try.func3 (by kernel_rfl)
    (of_decide_eq_true (by kernel_rfl)) (by unfold Func.isWrapper; first | (rw [if_pos (by decide +kernel)]; kernel_rfl) | (rw [if_neg (by decide +kernel)]; exact ⟨rfl, rfl⟩))
    (fun os started H enc _ => lifted os started H enc)
end Go.Proofs.Ytpainmnekgnpeaa.LCountWishes
namespace Go.Proofs.Ytpainmnekgnpeaa
theorem countWishes_holds : Rows.FnExactCountWishesSaid := LCountWishes.over
#print axioms countWishes_holds
end Go.Proofs.Ytpainmnekgnpeaa
