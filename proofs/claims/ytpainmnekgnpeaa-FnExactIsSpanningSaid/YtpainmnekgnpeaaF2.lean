import Derived.Test.YtpainmnekgnpeaaRows
import Derived.Test.YtpainmnekgnpeaaF1
import Derived.OpenShut
namespace Go.Proofs.Ytpainmnekgnpeaa
open Go.Joins Go.ChangeShapes Go.WideShapes Go.RowKit Go.Deep

theorem open_window {H : Type} {enc : TypeId × Value → H} {w : World} {base : Nat} {spare : Nat → Bool} {held : Bool} {r : Reach} {b0 : Nat} {v : Value} {d : DataW H} {p : List MemPlace}
    (hv : Value.okWide Try.prog w r b0 30 v) (h : DataW.Trod enc Try.prog w base spare held 30 v d p) :
    ∃ (A : Option Addr) (n c : Nat) (B : Option Addr) (m d' : Nat) (ns ls : List (Int × Int)), v = .agg #[.slice A n c, .slice B m d'] ∧ n = ns.length ∧ m = ls.length ∧ n ≤ 9223372036854775807 ∧ m ≤ 9223372036854775807 ∧
      Pr w w.heap.size A ns ∧ Pr w w.heap.size B ls := by
  obtain ⟨v0, v1, y0, y1, n, rfl, -, -, h0, h1⟩ := open_agg2 Try.underlying30 (by kernel_rfl) (by kernel_rfl) hv h
  obtain ⟨A, n, c, ns, e0, hn, hn63, hA⟩ := open_pairs Try.underlying27 Try.underlying44 (by kernel_rfl) rfl rfl (by kernel_rfl) (by kernel_rfl) Try.underlying3 Try.underlying3 h0
  obtain ⟨B, m, d', ls, e1, hm, hm63, hB⟩ := open_pairs Try.underlying28 Try.underlying82 (by kernel_rfl) rfl rfl (by kernel_rfl) (by kernel_rfl) Try.underlying3 Try.underlying3 h1
  injection e0 with e0
  injection e1 with e1
  subst e0
  subst e1
  exact ⟨A, n, c, B, m, d', ns, ls, rfl, hn, hm, hn63, hm63, hA, hB⟩
end Go.Proofs.Ytpainmnekgnpeaa
