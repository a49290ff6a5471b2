import Derived.Test.YtdhmjhoaegdfjaaGreatG14
import Derived.Test.YtdhmjhoaegdfjaaGreatT11
namespace Go.Proofs.YtdhmjhoaegdfjaaGreat.Pl
open Go.Proofs.YtdhmjhoaegdfjaaGreat
section
variable {ns ls : List P2}
theorem four_window (hw : whole ns ls = true) : ∃ col : Nat → Nat, (∀ f, f < (fcs ns ls).length → col f < 4) ∧ ∀ k, k < ls.length → sd (fcs ns ls) (2 * k) ≠ sd (fcs ns ls) (2 * k + 1) → col (sd (fcs ns ls) (2 * k)) ≠ col (sd (fcs ns ls) (2 * k + 1)) :=
  four_colors (planW_conn hw) (whole_ok hw).1.le
end
end Go.Proofs.YtdhmjhoaegdfjaaGreat.Pl
