import Derived.Test.YtpainmnekgnpeaaP2
namespace Go.Proofs.Ytpainmnekgnpeaa
theorem peq_comm (p q : P2) : peq p q = peq q p := by simp only [peq, eq_comm]
theorem sgn_comm (a b c d : P2) : sgn a b c d = sgn c d a b := by unfold sgn; exact Bool.and_comm _ _
theorem dox4_comm (a b c d : P2) : dox4 a b c d = dox4 c d a b := by
  unfold dox4
  rw [sgn_comm a b c d, peq_comm a c, peq_comm b d, peq_comm a d, peq_comm b c]
  congr 1
  congr 1
  · congr 1; exact Bool.and_comm _ _
  · cases btw a b c <;> cases btw a b d <;> cases btw c d a <;> cases btw c d b <;> rfl
theorem dox_comm (ns : List P2) (l m : P2) : dox ns l m = dox ns m l := by
  unfold dox
  rw [dox4_comm, Bool.and_comm (lok ns l)]
end Go.Proofs.Ytpainmnekgnpeaa
