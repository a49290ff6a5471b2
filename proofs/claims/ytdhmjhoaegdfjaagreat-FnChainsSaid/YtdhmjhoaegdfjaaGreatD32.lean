import Derived.Test.YtdhmjhoaegdfjaaGreatD31
namespace Go.Proofs.YtdhmjhoaegdfjaaGreat
open Go.RowKit Go.Sort Go.BigFrame

theorem OwI.bset {w : World} {B g i : Nat} {v : Value} {xs : List Int} {bs : List Bool} {n c B2 : Nat} (h : OwI w B v xs) (hb : OwB w B2 (.slice (some ⟨g, 0, none⟩) n c) bs) (u : Value) : OwI (w.setCell ⟨g, i, none⟩ u) B v xs :=
  owi_kept h (gb_set (gb_refl _ _) i u) fun q hq => by injection hq with hq; rw [← hq]; exact own_blkT hb g rfl
theorem OwB.igrow {w w' : World} {B : Nat} {v u : Value} {bs : List Bool} {xs : List Int} {B2 : Nat} (h : OwB w B v bs) (hi : OwI w B2 u xs) (hg : w.grownBy w' u.ownBlock) : OwB w' B v bs :=
  own_kept h hg fun q hq => ⟨3, by decide, own_blkT hi q hq⟩

end Go.Proofs.YtdhmjhoaegdfjaaGreat
