/-
  No cell of these rows narrows 'for every input' (looked for: loops, veiled, ifaces, maps, wideKeys, modest, calm, conditions, laid).
  DERIVED. THE GIVEN ROWS OF THIS SEAT. 5 by the template 'for every input the law returns true; each argument reads behind the call as it read before'; 0 by the template 'total and deterministic' (their statements: YtdhmjhoaegdfjaaTotals.lean).
  GIVEN WITH THE SEED: the statements are not yours to turn. If you find one false, say at which input.
  Laid BY PROGRAM, IN A SANDBOX (cutbox-rows.mjs): the forced cells as the released guide's own fill.sh prints them over the translation 968fcb08f0e2a19d… (all of the seat's roots in one cut). By AI agents, Wed Nov 11 2026. No macro, syntax, notation, axiom, sorry.
-/
import Derived.Test.YtdhmjhoaegdfjaaChecked
import GoSem.Claim
import GoSem.ClaimJoined
import GoSem.ClaimMapViews
import Derived.JoinedTies
import Derived.KernelRfl
namespace Go.Proofs.Ytdhmjhoaegdfjaa
/- THE CELL 'sum', in the pinned program and in every row, IS THE sha256 OF THE DUMP (.gsa) THAT YtdhmjhoaegdfjaaProg.lean LOADS. Nothing in Lean hashes anything: it is a label: what it is worth is what the hold of that sum in a sandbox is worth. -/
noncomputable def Try.pinned : Pinned := { name := "ytdhmjhoaegdfjaa", sum := "968fcb08f0e2a19dc08f4b6e369a740cd6b333fca5fa40d41c6937708e4051c8", checked := Try.checked }
namespace Rows
def none {H : Type} : Left H := { results := [], args := [] }

/-- 'laws.FnColors': WHATEVER THE INPUT: true; the input reads as it did. -/
def fnColorsSpec : ChangeSpec := { name := "fnColors", fn := fun _ => fun
  | [d] => { results := [.lit (.bool true)], args := [d] }
  | _ => none }
def fnColorsRow : OpenClaim := { program := "ytdhmjhoaegdfjaa", sum := "968fcb08f0e2a19dc08f4b6e369a740cd6b333fca5fa40d41c6937708e4051c8", func := "loop.example/g03303/laws.FnColors", spec := "fnColors", unfollowed := true, recurses := true, apart := false }
def FnColorsSaid : Prop := fnColorsRow.holds Try.pinned (OpenSpec.ofChange fnColorsSpec)

/-- ITS FALSE NEIGHBOUR: 'it returns false'. Refute it at one input. -/
def fnColorsWrong : ChangeSpec := { name := "fnColors", fn := fun _ => fun
  | [d] => { results := [.lit (.bool false)], args := [d] }
  | _ => none }
def FnColorsWrongFalsely : Prop := fnColorsRow.holds Try.pinned (OpenSpec.ofChange fnColorsWrong)

/-- 'laws.FnEuler': WHATEVER THE INPUT: true; the input reads as it did. -/
def fnEulerSpec : ChangeSpec := { name := "fnEuler", fn := fun _ => fun
  | [d] => { results := [.lit (.bool true)], args := [d] }
  | _ => none }
def fnEulerRow : OpenClaim := { program := "ytdhmjhoaegdfjaa", sum := "968fcb08f0e2a19dc08f4b6e369a740cd6b333fca5fa40d41c6937708e4051c8", func := "loop.example/g03303/laws.FnEuler", spec := "fnEuler", unfollowed := true, recurses := true, apart := false }
def FnEulerSaid : Prop := fnEulerRow.holds Try.pinned (OpenSpec.ofChange fnEulerSpec)

/-- ITS FALSE NEIGHBOUR: 'it returns false'. Refute it at one input. -/
def fnEulerWrong : ChangeSpec := { name := "fnEuler", fn := fun _ => fun
  | [d] => { results := [.lit (.bool false)], args := [d] }
  | _ => none }
def FnEulerWrongFalsely : Prop := fnEulerRow.holds Try.pinned (OpenSpec.ofChange fnEulerWrong)

/-- 'laws.FnSides': WHATEVER THE INPUT: true; the input reads as it did. -/
def fnSidesSpec : ChangeSpec := { name := "fnSides", fn := fun _ => fun
  | [d] => { results := [.lit (.bool true)], args := [d] }
  | _ => none }
def fnSidesRow : OpenClaim := { program := "ytdhmjhoaegdfjaa", sum := "968fcb08f0e2a19dc08f4b6e369a740cd6b333fca5fa40d41c6937708e4051c8", func := "loop.example/g03303/laws.FnSides", spec := "fnSides", unfollowed := true, recurses := true, apart := false }
def FnSidesSaid : Prop := fnSidesRow.holds Try.pinned (OpenSpec.ofChange fnSidesSpec)

/-- ITS FALSE NEIGHBOUR: 'it returns false'. Refute it at one input. -/
def fnSidesWrong : ChangeSpec := { name := "fnSides", fn := fun _ => fun
  | [d] => { results := [.lit (.bool false)], args := [d] }
  | _ => none }
def FnSidesWrongFalsely : Prop := fnSidesRow.holds Try.pinned (OpenSpec.ofChange fnSidesWrong)

/-- 'laws.FnPanes': WHATEVER THE INPUT: true; the input reads as it did. -/
def fnPanesSpec : ChangeSpec := { name := "fnPanes", fn := fun _ => fun
  | [d] => { results := [.lit (.bool true)], args := [d] }
  | _ => none }
def fnPanesRow : OpenClaim := { program := "ytdhmjhoaegdfjaa", sum := "968fcb08f0e2a19dc08f4b6e369a740cd6b333fca5fa40d41c6937708e4051c8", func := "loop.example/g03303/laws.FnPanes", spec := "fnPanes", unfollowed := true, recurses := true, apart := false }
def FnPanesSaid : Prop := fnPanesRow.holds Try.pinned (OpenSpec.ofChange fnPanesSpec)

/-- ITS FALSE NEIGHBOUR: 'it returns false'. Refute it at one input. -/
def fnPanesWrong : ChangeSpec := { name := "fnPanes", fn := fun _ => fun
  | [d] => { results := [.lit (.bool false)], args := [d] }
  | _ => none }
def FnPanesWrongFalsely : Prop := fnPanesRow.holds Try.pinned (OpenSpec.ofChange fnPanesWrong)

/-- 'laws.FnLoose': WHATEVER THE INPUT: true; the input reads as it did. -/
def fnLooseSpec : ChangeSpec := { name := "fnLoose", fn := fun _ => fun
  | [d] => { results := [.lit (.bool true)], args := [d] }
  | _ => none }
def fnLooseRow : OpenClaim := { program := "ytdhmjhoaegdfjaa", sum := "968fcb08f0e2a19dc08f4b6e369a740cd6b333fca5fa40d41c6937708e4051c8", func := "loop.example/g03303/laws.FnLoose", spec := "fnLoose", unfollowed := true, recurses := true, apart := false }
def FnLooseSaid : Prop := fnLooseRow.holds Try.pinned (OpenSpec.ofChange fnLooseSpec)

/-- ITS FALSE NEIGHBOUR: 'it returns false'. Refute it at one input. -/
def fnLooseWrong : ChangeSpec := { name := "fnLoose", fn := fun _ => fun
  | [d] => { results := [.lit (.bool false)], args := [d] }
  | _ => none }
def FnLooseWrongFalsely : Prop := fnLooseRow.holds Try.pinned (OpenSpec.ofChange fnLooseWrong)

/- THE SECOND FORM. 'bulk': how many values and letters a reading holds, each counted each time it is reached (what is shared counts as often as it is met; a slice's spare places count too). A statement '..UptoSaid' is the law's where the arguments, and the package variables that the reading takes, are together of bulk at most 1048576: NARROWER than '..Said'. Prove '..Said' where nothing that the law and all that it calls make is longer than what came in: it says more and counts as full. Else prove '..UptoSaid'. A law counts once. -/
mutual
def uptoBulk {H : Type} : DataW H → Nat
  | .lit (.string bytes) => bytes.length + 1
  | .lit _ => 1
  | .nil => 1
  | .ptr d => uptoBulk d + 1
  | .slice elems spare => uptoBulkAll elems + uptoBulkAll spare + 1
  | .agg parts => uptoBulkAll parts + 1
  | .iface _ d => uptoBulk d + 1
  | .map entries => uptoBulkEntries entries + 1
  | .held _ => 1
def uptoBulkAll {H : Type} : List (DataW H) → Nat
  | [] => 0
  | d :: r => uptoBulk d + uptoBulkAll r
def uptoBulkEntries {H : Type} : List (Lit × DataW H) → Nat
  | [] => 0
  | x :: r => uptoBulkEntry x + uptoBulkEntries r
def uptoBulkEntry {H : Type} : Lit × DataW H → Nat
  | (.string bytes, d) => bytes.length + uptoBulk d + 1
  | (_, d) => uptoBulk d + 1
 end
def uptoSmall : (H : Type) → List (DataW H) → Bool := fun _ ds => decide (uptoBulkAll ds ≤ 1048576)
def OpenSpec.upto (s : _root_.Go.ChangeSpec) : _root_.Go.OpenSpec := { _root_.Go.OpenSpec.ofChange s with cond := some uptoSmall }

/-- 'laws.FnColors', WHERE WHAT IT READS IS OF BULK AT MOST 1048576: true; the input reads as it did. -/
def fnColorsUptoRow : OpenClaim := { program := "ytdhmjhoaegdfjaa", sum := "968fcb08f0e2a19dc08f4b6e369a740cd6b333fca5fa40d41c6937708e4051c8", func := "loop.example/g03303/laws.FnColors", spec := "fnColors", unfollowed := true, recurses := true, apart := false, narrowed := true }
def FnColorsUptoSaid : Prop := fnColorsUptoRow.holds Try.pinned (OpenSpec.upto fnColorsSpec)

/-- 'laws.FnEuler', WHERE WHAT IT READS IS OF BULK AT MOST 1048576: true; the input reads as it did. -/
def fnEulerUptoRow : OpenClaim := { program := "ytdhmjhoaegdfjaa", sum := "968fcb08f0e2a19dc08f4b6e369a740cd6b333fca5fa40d41c6937708e4051c8", func := "loop.example/g03303/laws.FnEuler", spec := "fnEuler", unfollowed := true, recurses := true, apart := false, narrowed := true }
def FnEulerUptoSaid : Prop := fnEulerUptoRow.holds Try.pinned (OpenSpec.upto fnEulerSpec)

/-- 'laws.FnSides', WHERE WHAT IT READS IS OF BULK AT MOST 1048576: true; the input reads as it did. -/
def fnSidesUptoRow : OpenClaim := { program := "ytdhmjhoaegdfjaa", sum := "968fcb08f0e2a19dc08f4b6e369a740cd6b333fca5fa40d41c6937708e4051c8", func := "loop.example/g03303/laws.FnSides", spec := "fnSides", unfollowed := true, recurses := true, apart := false, narrowed := true }
def FnSidesUptoSaid : Prop := fnSidesUptoRow.holds Try.pinned (OpenSpec.upto fnSidesSpec)

/-- 'laws.FnPanes', WHERE WHAT IT READS IS OF BULK AT MOST 1048576: true; the input reads as it did. -/
def fnPanesUptoRow : OpenClaim := { program := "ytdhmjhoaegdfjaa", sum := "968fcb08f0e2a19dc08f4b6e369a740cd6b333fca5fa40d41c6937708e4051c8", func := "loop.example/g03303/laws.FnPanes", spec := "fnPanes", unfollowed := true, recurses := true, apart := false, narrowed := true }
def FnPanesUptoSaid : Prop := fnPanesUptoRow.holds Try.pinned (OpenSpec.upto fnPanesSpec)

/-- 'laws.FnLoose', WHERE WHAT IT READS IS OF BULK AT MOST 1048576: true; the input reads as it did. -/
def fnLooseUptoRow : OpenClaim := { program := "ytdhmjhoaegdfjaa", sum := "968fcb08f0e2a19dc08f4b6e369a740cd6b333fca5fa40d41c6937708e4051c8", func := "loop.example/g03303/laws.FnLoose", spec := "fnLoose", unfollowed := true, recurses := true, apart := false, narrowed := true }
def FnLooseUptoSaid : Prop := fnLooseUptoRow.holds Try.pinned (OpenSpec.upto fnLooseSpec)

end Rows
end Go.Proofs.Ytdhmjhoaegdfjaa
