import Derived.Test.YtdhmjhoaegdfjaaV6
namespace Go.Proofs.Ytdhmjhoaegdfjaa
open Go.RowKit Go.Sort Go.BigFrame

theorem wnN_take {ns : List P2} {k : Nat} : ∀ j, j ≤ k → j ≤ ns.length → wnN ns (k : Int) j = ns.take j
  | 0, _, _ => by simp [wnN]
  | j + 1, h1, h2 => by
    have ih := wnN_take (ns := ns) (k := k) j (by omega) (by omega)
    unfold wnN
    rw [if_neg (by omega), ih, List.take_succ_eq_append_getElem (show j < ns.length by omega), gp_nat ns j (by omega)]
theorem wnN_drop {ns : List P2} {k : Nat} (hk : k < ns.length) : ∀ d, k + 1 + d ≤ ns.length → wnN ns (k : Int) (k + 1 + d) = ns.take k ++ (ns.drop (k + 1)).take d
  | 0, _ => by
    show wnN ns (k : Int) (k + 1) = _
    unfold wnN
    rw [if_pos rfl, wnN_take k (Nat.le_refl _) (by omega)]
    simp
  | d + 1, h => by
    have ih := wnN_drop hk d (by omega)
    show wnN ns (k : Int) ((k + 1 + d) + 1) = _
    unfold wnN
    rw [if_neg (by omega), ih, List.append_assoc]
    congr 1
    rw [List.take_succ_eq_append_getElem (by simp; omega), gp_nat ns _ (by omega)]
    simp
theorem wnN_all {ns : List P2} {k : Nat} (hk : k < ns.length) : wnN ns (k : Int) ns.length = ns.take k ++ ns.drop (k + 1) := by
  have := wnN_drop hk (ns.length - (k + 1)) (by omega)
  rw [show k + 1 + (ns.length - (k + 1)) = ns.length by omega] at this
  rw [this, List.take_of_length_le (l := ns.drop (k + 1)) (by simp)]
theorem pr_drop {w : World} {B b off : Nat} {l : List P2} {k : Nat} (h : Pr w B (some ⟨b, off, none⟩) l) (hk : k ≤ l.length) : Pr w B (some ⟨b, off + k * 2, none⟩) (l.drop k) := by
  refine ⟨pcs_length _, fun hp => ?_⟩
  obtain ⟨b', off', e, hb, hc⟩ := h.2 (by simp at hp; omega)
  have e := Option.some.inj e
  injection e with e1 e2 _
  subst e1
  subst e2
  refine ⟨b, off + k * 2, rfl, hb, fun j u hj => ?_⟩
  have hap : l.flatMap pc = (l.take k).flatMap pc ++ (l.drop k).flatMap pc := by rw [← List.flatMap_append, List.take_append_drop]
  have hl1 : ((l.take k).flatMap pc).length = k * 2 := by rw [pcs_length]; simp; omega
  have := hc (k * 2 + j) u (by rw [hap, List.getElem?_append_right (by omega), hl1, Nat.add_sub_cancel_left]; exact hj)
  rw [Nat.add_assoc]
  exact this
end Go.Proofs.Ytdhmjhoaegdfjaa
