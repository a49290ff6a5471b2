/-
  No cell of these rows narrows 'for every input' (looked for: loops, veiled, ifaces, maps, wideKeys, modest, calm, conditions, laid).
  DERIVED. THE GIVEN ROWS OF THIS SEAT. 22 by the template 'for every input the law returns true; each argument reads behind the call as it read before'; 0 by the template 'total and deterministic' (their statements: YtebfddcmaignaaaTotals.lean).
  GIVEN WITH THE SEED: the statements are not yours to turn. If you find one false, say at which input.
  Laid BY PROGRAM, IN A SANDBOX (cutbox-rows.mjs): the forced cells as the released guide's own fill.sh prints them over the translation 223d4f1747df91df… (all of the seat's roots in one cut). By AI agents, Wed Nov 11 2026. No macro, syntax, notation, axiom, sorry.
-/
import Derived.Test.YtebfddcmaignaaaChecked
import GoSem.Claim
import GoSem.ClaimJoined
import GoSem.ClaimMapViews
import Derived.JoinedTies
import Derived.KernelRfl
namespace Go.Proofs.Ytebfddcmaignaaa
/- THE CELL 'sum', in the pinned program and in every row, IS THE sha256 OF THE DUMP (.gsa) THAT YtebfddcmaignaaaProg.lean LOADS. Nothing in Lean hashes anything: it is a label: what it is worth is what the hold of that sum in a sandbox is worth. -/
noncomputable def Try.pinned : Pinned := { name := "ytebfddcmaignaaa", sum := "223d4f1747df91df997f0c7fe5bf305f63b21617b4d91dc282967a26a159997c", checked := Try.checked }
namespace Rows
def none {H : Type} : Left H := { results := [], args := [] }

/-- 'laws.FnExactDualSpanning': WHATEVER THE INPUT: true; the input reads as it did. -/
def fnExactDualSpanningSpec : ChangeSpec := { name := "fnExactDualSpanning", fn := fun _ => fun
  | [d1, d2] => { results := [.lit (.bool true)], args := [d1, d2] }
  | _ => none }
def fnExactDualSpanningRow : OpenClaim := { program := "ytebfddcmaignaaa", sum := "223d4f1747df91df997f0c7fe5bf305f63b21617b4d91dc282967a26a159997c", func := "loop.example/g03303/laws.FnExactDualSpanning", spec := "fnExactDualSpanning", apart := false }
def FnExactDualSpanningSaid : Prop := fnExactDualSpanningRow.holds Try.pinned (OpenSpec.ofChange fnExactDualSpanningSpec)

/-- ITS FALSE NEIGHBOUR: 'it returns false'. Refute it at one input. -/
def fnExactDualSpanningWrong : ChangeSpec := { name := "fnExactDualSpanning", fn := fun _ => fun
  | [d1, d2] => { results := [.lit (.bool false)], args := [d1, d2] }
  | _ => none }
def FnExactDualSpanningWrongFalsely : Prop := fnExactDualSpanningRow.holds Try.pinned (OpenSpec.ofChange fnExactDualSpanningWrong)

/-- 'laws.FnExactSidesOf': WHATEVER THE INPUT: true; the input reads as it did. -/
def fnExactSidesOfSpec : ChangeSpec := { name := "fnExactSidesOf", fn := fun _ => fun
  | [d1, d2] => { results := [.lit (.bool true)], args := [d1, d2] }
  | _ => none }
def fnExactSidesOfRow : OpenClaim := { program := "ytebfddcmaignaaa", sum := "223d4f1747df91df997f0c7fe5bf305f63b21617b4d91dc282967a26a159997c", func := "loop.example/g03303/laws.FnExactSidesOf", spec := "fnExactSidesOf", unfollowed := true, recurses := true, apart := false }
def FnExactSidesOfSaid : Prop := fnExactSidesOfRow.holds Try.pinned (OpenSpec.ofChange fnExactSidesOfSpec)

/-- ITS FALSE NEIGHBOUR: 'it returns false'. Refute it at one input. -/
def fnExactSidesOfWrong : ChangeSpec := { name := "fnExactSidesOf", fn := fun _ => fun
  | [d1, d2] => { results := [.lit (.bool false)], args := [d1, d2] }
  | _ => none }
def FnExactSidesOfWrongFalsely : Prop := fnExactSidesOfRow.holds Try.pinned (OpenSpec.ofChange fnExactSidesOfWrong)

/-- 'laws.FnExactWishesOk': WHATEVER THE INPUT: true; the input reads as it did. -/
def fnExactWishesOkSpec : ChangeSpec := { name := "fnExactWishesOk", fn := fun _ => fun
  | [d1, d2] => { results := [.lit (.bool true)], args := [d1, d2] }
  | _ => none }
def fnExactWishesOkRow : OpenClaim := { program := "ytebfddcmaignaaa", sum := "223d4f1747df91df997f0c7fe5bf305f63b21617b4d91dc282967a26a159997c", func := "loop.example/g03303/laws.FnExactWishesOk", spec := "fnExactWishesOk", unfollowed := true, recurses := true, apart := false }
def FnExactWishesOkSaid : Prop := fnExactWishesOkRow.holds Try.pinned (OpenSpec.ofChange fnExactWishesOkSpec)

/-- ITS FALSE NEIGHBOUR: 'it returns false'. Refute it at one input. -/
def fnExactWishesOkWrong : ChangeSpec := { name := "fnExactWishesOk", fn := fun _ => fun
  | [d1, d2] => { results := [.lit (.bool false)], args := [d1, d2] }
  | _ => none }
def FnExactWishesOkWrongFalsely : Prop := fnExactWishesOkRow.holds Try.pinned (OpenSpec.ofChange fnExactWishesOkWrong)

/-- 'laws.FnExactIsLoose': WHATEVER THE INPUT: true; the input reads as it did. -/
def fnExactIsLooseSpec : ChangeSpec := { name := "fnExactIsLoose", fn := fun _ => fun
  | [d1, d2] => { results := [.lit (.bool true)], args := [d1, d2] }
  | _ => none }
def fnExactIsLooseRow : OpenClaim := { program := "ytebfddcmaignaaa", sum := "223d4f1747df91df997f0c7fe5bf305f63b21617b4d91dc282967a26a159997c", func := "loop.example/g03303/laws.FnExactIsLoose", spec := "fnExactIsLoose", unfollowed := true, recurses := true, apart := false }
def FnExactIsLooseSaid : Prop := fnExactIsLooseRow.holds Try.pinned (OpenSpec.ofChange fnExactIsLooseSpec)

/-- ITS FALSE NEIGHBOUR: 'it returns false'. Refute it at one input. -/
def fnExactIsLooseWrong : ChangeSpec := { name := "fnExactIsLoose", fn := fun _ => fun
  | [d1, d2] => { results := [.lit (.bool false)], args := [d1, d2] }
  | _ => none }
def FnExactIsLooseWrongFalsely : Prop := fnExactIsLooseRow.holds Try.pinned (OpenSpec.ofChange fnExactIsLooseWrong)

/-- 'laws.FnExactPaneBox': WHATEVER THE INPUT: true; the input reads as it did. -/
def fnExactPaneBoxSpec : ChangeSpec := { name := "fnExactPaneBox", fn := fun _ => fun
  | [d1, d2] => { results := [.lit (.bool true)], args := [d1, d2] }
  | _ => none }
def fnExactPaneBoxRow : OpenClaim := { program := "ytebfddcmaignaaa", sum := "223d4f1747df91df997f0c7fe5bf305f63b21617b4d91dc282967a26a159997c", func := "loop.example/g03303/laws.FnExactPaneBox", spec := "fnExactPaneBox", unfollowed := true, recurses := true, apart := false }
def FnExactPaneBoxSaid : Prop := fnExactPaneBoxRow.holds Try.pinned (OpenSpec.ofChange fnExactPaneBoxSpec)

/-- ITS FALSE NEIGHBOUR: 'it returns false'. Refute it at one input. -/
def fnExactPaneBoxWrong : ChangeSpec := { name := "fnExactPaneBox", fn := fun _ => fun
  | [d1, d2] => { results := [.lit (.bool false)], args := [d1, d2] }
  | _ => none }
def FnExactPaneBoxWrongFalsely : Prop := fnExactPaneBoxRow.holds Try.pinned (OpenSpec.ofChange fnExactPaneBoxWrong)

/-- 'laws.FnExactDualDegree': WHATEVER THE INPUT: true; the input reads as it did. -/
def fnExactDualDegreeSpec : ChangeSpec := { name := "fnExactDualDegree", fn := fun _ => fun
  | [d1, d2] => { results := [.lit (.bool true)], args := [d1, d2] }
  | _ => none }
def fnExactDualDegreeRow : OpenClaim := { program := "ytebfddcmaignaaa", sum := "223d4f1747df91df997f0c7fe5bf305f63b21617b4d91dc282967a26a159997c", func := "loop.example/g03303/laws.FnExactDualDegree", spec := "fnExactDualDegree", unfollowed := true, recurses := true, apart := false }
def FnExactDualDegreeSaid : Prop := fnExactDualDegreeRow.holds Try.pinned (OpenSpec.ofChange fnExactDualDegreeSpec)

/-- ITS FALSE NEIGHBOUR: 'it returns false'. Refute it at one input. -/
def fnExactDualDegreeWrong : ChangeSpec := { name := "fnExactDualDegree", fn := fun _ => fun
  | [d1, d2] => { results := [.lit (.bool false)], args := [d1, d2] }
  | _ => none }
def FnExactDualDegreeWrongFalsely : Prop := fnExactDualDegreeRow.holds Try.pinned (OpenSpec.ofChange fnExactDualDegreeWrong)

/-- 'laws.FnExactAreBeside': WHATEVER THE INPUT: true; the input reads as it did. -/
def fnExactAreBesideSpec : ChangeSpec := { name := "fnExactAreBeside", fn := fun _ => fun
  | [d1, d2, d3] => { results := [.lit (.bool true)], args := [d1, d2, d3] }
  | _ => none }
def fnExactAreBesideRow : OpenClaim := { program := "ytebfddcmaignaaa", sum := "223d4f1747df91df997f0c7fe5bf305f63b21617b4d91dc282967a26a159997c", func := "loop.example/g03303/laws.FnExactAreBeside", spec := "fnExactAreBeside", unfollowed := true, recurses := true, apart := false }
def FnExactAreBesideSaid : Prop := fnExactAreBesideRow.holds Try.pinned (OpenSpec.ofChange fnExactAreBesideSpec)

/-- ITS FALSE NEIGHBOUR: 'it returns false'. Refute it at one input. -/
def fnExactAreBesideWrong : ChangeSpec := { name := "fnExactAreBeside", fn := fun _ => fun
  | [d1, d2, d3] => { results := [.lit (.bool false)], args := [d1, d2, d3] }
  | _ => none }
def FnExactAreBesideWrongFalsely : Prop := fnExactAreBesideRow.holds Try.pinned (OpenSpec.ofChange fnExactAreBesideWrong)

/-- 'laws.FnExactIsTight': WHATEVER THE INPUT: true; the input reads as it did. -/
def fnExactIsTightSpec : ChangeSpec := { name := "fnExactIsTight", fn := fun _ => fun
  | [d] => { results := [.lit (.bool true)], args := [d] }
  | _ => none }
def fnExactIsTightRow : OpenClaim := { program := "ytebfddcmaignaaa", sum := "223d4f1747df91df997f0c7fe5bf305f63b21617b4d91dc282967a26a159997c", func := "loop.example/g03303/laws.FnExactIsTight", spec := "fnExactIsTight", unfollowed := true, recurses := true, apart := false }
def FnExactIsTightSaid : Prop := fnExactIsTightRow.holds Try.pinned (OpenSpec.ofChange fnExactIsTightSpec)

/-- ITS FALSE NEIGHBOUR: 'it returns false'. Refute it at one input. -/
def fnExactIsTightWrong : ChangeSpec := { name := "fnExactIsTight", fn := fun _ => fun
  | [d] => { results := [.lit (.bool false)], args := [d] }
  | _ => none }
def FnExactIsTightWrongFalsely : Prop := fnExactIsTightRow.holds Try.pinned (OpenSpec.ofChange fnExactIsTightWrong)

/-- 'laws.FnExactFaceDegrees': WHATEVER THE INPUT: true; the input reads as it did. -/
def fnExactFaceDegreesSpec : ChangeSpec := { name := "fnExactFaceDegrees", fn := fun _ => fun
  | [d] => { results := [.lit (.bool true)], args := [d] }
  | _ => none }
def fnExactFaceDegreesRow : OpenClaim := { program := "ytebfddcmaignaaa", sum := "223d4f1747df91df997f0c7fe5bf305f63b21617b4d91dc282967a26a159997c", func := "loop.example/g03303/laws.FnExactFaceDegrees", spec := "fnExactFaceDegrees", unfollowed := true, recurses := true, apart := false }
def FnExactFaceDegreesSaid : Prop := fnExactFaceDegreesRow.holds Try.pinned (OpenSpec.ofChange fnExactFaceDegreesSpec)

/-- ITS FALSE NEIGHBOUR: 'it returns false'. Refute it at one input. -/
def fnExactFaceDegreesWrong : ChangeSpec := { name := "fnExactFaceDegrees", fn := fun _ => fun
  | [d] => { results := [.lit (.bool false)], args := [d] }
  | _ => none }
def FnExactFaceDegreesWrongFalsely : Prop := fnExactFaceDegreesRow.holds Try.pinned (OpenSpec.ofChange fnExactFaceDegreesWrong)

/-- 'laws.FnExactPaneNodes': WHATEVER THE INPUT: true; the input reads as it did. -/
def fnExactPaneNodesSpec : ChangeSpec := { name := "fnExactPaneNodes", fn := fun _ => fun
  | [d1, d2] => { results := [.lit (.bool true)], args := [d1, d2] }
  | _ => none }
def fnExactPaneNodesRow : OpenClaim := { program := "ytebfddcmaignaaa", sum := "223d4f1747df91df997f0c7fe5bf305f63b21617b4d91dc282967a26a159997c", func := "loop.example/g03303/laws.FnExactPaneNodes", spec := "fnExactPaneNodes", unfollowed := true, recurses := true, apart := false }
def FnExactPaneNodesSaid : Prop := fnExactPaneNodesRow.holds Try.pinned (OpenSpec.ofChange fnExactPaneNodesSpec)

/-- ITS FALSE NEIGHBOUR: 'it returns false'. Refute it at one input. -/
def fnExactPaneNodesWrong : ChangeSpec := { name := "fnExactPaneNodes", fn := fun _ => fun
  | [d1, d2] => { results := [.lit (.bool false)], args := [d1, d2] }
  | _ => none }
def FnExactPaneNodesWrongFalsely : Prop := fnExactPaneNodesRow.holds Try.pinned (OpenSpec.ofChange fnExactPaneNodesWrong)

/-- 'laws.FnExactClashOf': WHATEVER THE INPUT: true; the input reads as it did. -/
def fnExactClashOfSpec : ChangeSpec := { name := "fnExactClashOf", fn := fun _ => fun
  | [d1, d2] => { results := [.lit (.bool true)], args := [d1, d2] }
  | _ => none }
def fnExactClashOfRow : OpenClaim := { program := "ytebfddcmaignaaa", sum := "223d4f1747df91df997f0c7fe5bf305f63b21617b4d91dc282967a26a159997c", func := "loop.example/g03303/laws.FnExactClashOf", spec := "fnExactClashOf", unfollowed := true, recurses := true, apart := false }
def FnExactClashOfSaid : Prop := fnExactClashOfRow.holds Try.pinned (OpenSpec.ofChange fnExactClashOfSpec)

/-- ITS FALSE NEIGHBOUR: 'it returns false'. Refute it at one input. -/
def fnExactClashOfWrong : ChangeSpec := { name := "fnExactClashOf", fn := fun _ => fun
  | [d1, d2] => { results := [.lit (.bool false)], args := [d1, d2] }
  | _ => none }
def FnExactClashOfWrongFalsely : Prop := fnExactClashOfRow.holds Try.pinned (OpenSpec.ofChange fnExactClashOfWrong)

/-- 'laws.FnExactIsPane': WHATEVER THE INPUT: true; the input reads as it did. -/
def fnExactIsPaneSpec : ChangeSpec := { name := "fnExactIsPane", fn := fun _ => fun
  | [d1, d2] => { results := [.lit (.bool true)], args := [d1, d2] }
  | _ => none }
def fnExactIsPaneRow : OpenClaim := { program := "ytebfddcmaignaaa", sum := "223d4f1747df91df997f0c7fe5bf305f63b21617b4d91dc282967a26a159997c", func := "loop.example/g03303/laws.FnExactIsPane", spec := "fnExactIsPane", unfollowed := true, recurses := true, apart := false }
def FnExactIsPaneSaid : Prop := fnExactIsPaneRow.holds Try.pinned (OpenSpec.ofChange fnExactIsPaneSpec)

/-- ITS FALSE NEIGHBOUR: 'it returns false'. Refute it at one input. -/
def fnExactIsPaneWrong : ChangeSpec := { name := "fnExactIsPane", fn := fun _ => fun
  | [d1, d2] => { results := [.lit (.bool false)], args := [d1, d2] }
  | _ => none }
def FnExactIsPaneWrongFalsely : Prop := fnExactIsPaneRow.holds Try.pinned (OpenSpec.ofChange fnExactIsPaneWrong)

/-- 'laws.FnExactAreProper': WHATEVER THE INPUT: true; the input reads as it did. -/
def fnExactAreProperSpec : ChangeSpec := { name := "fnExactAreProper", fn := fun _ => fun
  | [d1, d2] => { results := [.lit (.bool true)], args := [d1, d2] }
  | _ => none }
def fnExactAreProperRow : OpenClaim := { program := "ytebfddcmaignaaa", sum := "223d4f1747df91df997f0c7fe5bf305f63b21617b4d91dc282967a26a159997c", func := "loop.example/g03303/laws.FnExactAreProper", spec := "fnExactAreProper", unfollowed := true, recurses := true, apart := false }
def FnExactAreProperSaid : Prop := fnExactAreProperRow.holds Try.pinned (OpenSpec.ofChange fnExactAreProperSpec)

/-- ITS FALSE NEIGHBOUR: 'it returns false'. Refute it at one input. -/
def fnExactAreProperWrong : ChangeSpec := { name := "fnExactAreProper", fn := fun _ => fun
  | [d1, d2] => { results := [.lit (.bool false)], args := [d1, d2] }
  | _ => none }
def FnExactAreProperWrongFalsely : Prop := fnExactAreProperRow.holds Try.pinned (OpenSpec.ofChange fnExactAreProperWrong)

/-- 'laws.FnExactFacesAround': WHATEVER THE INPUT: true; the input reads as it did. -/
def fnExactFacesAroundSpec : ChangeSpec := { name := "fnExactFacesAround", fn := fun _ => fun
  | [d1, d2] => { results := [.lit (.bool true)], args := [d1, d2] }
  | _ => none }
def fnExactFacesAroundRow : OpenClaim := { program := "ytebfddcmaignaaa", sum := "223d4f1747df91df997f0c7fe5bf305f63b21617b4d91dc282967a26a159997c", func := "loop.example/g03303/laws.FnExactFacesAround", spec := "fnExactFacesAround", unfollowed := true, recurses := true, apart := false }
def FnExactFacesAroundSaid : Prop := fnExactFacesAroundRow.holds Try.pinned (OpenSpec.ofChange fnExactFacesAroundSpec)

/-- ITS FALSE NEIGHBOUR: 'it returns false'. Refute it at one input. -/
def fnExactFacesAroundWrong : ChangeSpec := { name := "fnExactFacesAround", fn := fun _ => fun
  | [d1, d2] => { results := [.lit (.bool false)], args := [d1, d2] }
  | _ => none }
def FnExactFacesAroundWrongFalsely : Prop := fnExactFacesAroundRow.holds Try.pinned (OpenSpec.ofChange fnExactFacesAroundWrong)

/-- 'laws.FnExactSharedLeads': WHATEVER THE INPUT: true; the input reads as it did. -/
def fnExactSharedLeadsSpec : ChangeSpec := { name := "fnExactSharedLeads", fn := fun _ => fun
  | [d1, d2, d3] => { results := [.lit (.bool true)], args := [d1, d2, d3] }
  | _ => none }
def fnExactSharedLeadsRow : OpenClaim := { program := "ytebfddcmaignaaa", sum := "223d4f1747df91df997f0c7fe5bf305f63b21617b4d91dc282967a26a159997c", func := "loop.example/g03303/laws.FnExactSharedLeads", spec := "fnExactSharedLeads", unfollowed := true, recurses := true, apart := false }
def FnExactSharedLeadsSaid : Prop := fnExactSharedLeadsRow.holds Try.pinned (OpenSpec.ofChange fnExactSharedLeadsSpec)

/-- ITS FALSE NEIGHBOUR: 'it returns false'. Refute it at one input. -/
def fnExactSharedLeadsWrong : ChangeSpec := { name := "fnExactSharedLeads", fn := fun _ => fun
  | [d1, d2, d3] => { results := [.lit (.bool false)], args := [d1, d2, d3] }
  | _ => none }
def FnExactSharedLeadsWrongFalsely : Prop := fnExactSharedLeadsRow.holds Try.pinned (OpenSpec.ofChange fnExactSharedLeadsWrong)

/-- 'laws.FnExactLooseLeads': WHATEVER THE INPUT: true; the input reads as it did. -/
def fnExactLooseLeadsSpec : ChangeSpec := { name := "fnExactLooseLeads", fn := fun _ => fun
  | [d] => { results := [.lit (.bool true)], args := [d] }
  | _ => none }
def fnExactLooseLeadsRow : OpenClaim := { program := "ytebfddcmaignaaa", sum := "223d4f1747df91df997f0c7fe5bf305f63b21617b4d91dc282967a26a159997c", func := "loop.example/g03303/laws.FnExactLooseLeads", spec := "fnExactLooseLeads", unfollowed := true, recurses := true, apart := false }
def FnExactLooseLeadsSaid : Prop := fnExactLooseLeadsRow.holds Try.pinned (OpenSpec.ofChange fnExactLooseLeadsSpec)

/-- ITS FALSE NEIGHBOUR: 'it returns false'. Refute it at one input. -/
def fnExactLooseLeadsWrong : ChangeSpec := { name := "fnExactLooseLeads", fn := fun _ => fun
  | [d] => { results := [.lit (.bool false)], args := [d] }
  | _ => none }
def FnExactLooseLeadsWrongFalsely : Prop := fnExactLooseLeadsRow.holds Try.pinned (OpenSpec.ofChange fnExactLooseLeadsWrong)

/-- 'laws.FnExactIsDualTree': WHATEVER THE INPUT: true; the input reads as it did. -/
def fnExactIsDualTreeSpec : ChangeSpec := { name := "fnExactIsDualTree", fn := fun _ => fun
  | [d1, d2] => { results := [.lit (.bool true)], args := [d1, d2] }
  | _ => none }
def fnExactIsDualTreeRow : OpenClaim := { program := "ytebfddcmaignaaa", sum := "223d4f1747df91df997f0c7fe5bf305f63b21617b4d91dc282967a26a159997c", func := "loop.example/g03303/laws.FnExactIsDualTree", spec := "fnExactIsDualTree", unfollowed := true, recurses := true, apart := false }
def FnExactIsDualTreeSaid : Prop := fnExactIsDualTreeRow.holds Try.pinned (OpenSpec.ofChange fnExactIsDualTreeSpec)

/-- ITS FALSE NEIGHBOUR: 'it returns false'. Refute it at one input. -/
def fnExactIsDualTreeWrong : ChangeSpec := { name := "fnExactIsDualTree", fn := fun _ => fun
  | [d1, d2] => { results := [.lit (.bool false)], args := [d1, d2] }
  | _ => none }
def FnExactIsDualTreeWrongFalsely : Prop := fnExactIsDualTreeRow.holds Try.pinned (OpenSpec.ofChange fnExactIsDualTreeWrong)

/-- 'laws.FnExactBesideOf': WHATEVER THE INPUT: true; the input reads as it did. -/
def fnExactBesideOfSpec : ChangeSpec := { name := "fnExactBesideOf", fn := fun _ => fun
  | [d1, d2] => { results := [.lit (.bool true)], args := [d1, d2] }
  | _ => none }
def fnExactBesideOfRow : OpenClaim := { program := "ytebfddcmaignaaa", sum := "223d4f1747df91df997f0c7fe5bf305f63b21617b4d91dc282967a26a159997c", func := "loop.example/g03303/laws.FnExactBesideOf", spec := "fnExactBesideOf", unfollowed := true, recurses := true, apart := false }
def FnExactBesideOfSaid : Prop := fnExactBesideOfRow.holds Try.pinned (OpenSpec.ofChange fnExactBesideOfSpec)

/-- ITS FALSE NEIGHBOUR: 'it returns false'. Refute it at one input. -/
def fnExactBesideOfWrong : ChangeSpec := { name := "fnExactBesideOf", fn := fun _ => fun
  | [d1, d2] => { results := [.lit (.bool false)], args := [d1, d2] }
  | _ => none }
def FnExactBesideOfWrongFalsely : Prop := fnExactBesideOfRow.holds Try.pinned (OpenSpec.ofChange fnExactBesideOfWrong)

/-- 'laws.FnExactIsConvexPane': WHATEVER THE INPUT: true; the input reads as it did. -/
def fnExactIsConvexPaneSpec : ChangeSpec := { name := "fnExactIsConvexPane", fn := fun _ => fun
  | [d1, d2] => { results := [.lit (.bool true)], args := [d1, d2] }
  | _ => none }
def fnExactIsConvexPaneRow : OpenClaim := { program := "ytebfddcmaignaaa", sum := "223d4f1747df91df997f0c7fe5bf305f63b21617b4d91dc282967a26a159997c", func := "loop.example/g03303/laws.FnExactIsConvexPane", spec := "fnExactIsConvexPane", unfollowed := true, recurses := true, apart := false }
def FnExactIsConvexPaneSaid : Prop := fnExactIsConvexPaneRow.holds Try.pinned (OpenSpec.ofChange fnExactIsConvexPaneSpec)

/-- ITS FALSE NEIGHBOUR: 'it returns false'. Refute it at one input. -/
def fnExactIsConvexPaneWrong : ChangeSpec := { name := "fnExactIsConvexPane", fn := fun _ => fun
  | [d1, d2] => { results := [.lit (.bool false)], args := [d1, d2] }
  | _ => none }
def FnExactIsConvexPaneWrongFalsely : Prop := fnExactIsConvexPaneRow.holds Try.pinned (OpenSpec.ofChange fnExactIsConvexPaneWrong)

/-- 'laws.FnExactCornersOf': WHATEVER THE INPUT: true; the input reads as it did. -/
def fnExactCornersOfSpec : ChangeSpec := { name := "fnExactCornersOf", fn := fun _ => fun
  | [d1, d2] => { results := [.lit (.bool true)], args := [d1, d2] }
  | _ => none }
def fnExactCornersOfRow : OpenClaim := { program := "ytebfddcmaignaaa", sum := "223d4f1747df91df997f0c7fe5bf305f63b21617b4d91dc282967a26a159997c", func := "loop.example/g03303/laws.FnExactCornersOf", spec := "fnExactCornersOf", unfollowed := true, recurses := true, apart := false }
def FnExactCornersOfSaid : Prop := fnExactCornersOfRow.holds Try.pinned (OpenSpec.ofChange fnExactCornersOfSpec)

/-- ITS FALSE NEIGHBOUR: 'it returns false'. Refute it at one input. -/
def fnExactCornersOfWrong : ChangeSpec := { name := "fnExactCornersOf", fn := fun _ => fun
  | [d1, d2] => { results := [.lit (.bool false)], args := [d1, d2] }
  | _ => none }
def FnExactCornersOfWrongFalsely : Prop := fnExactCornersOfRow.holds Try.pinned (OpenSpec.ofChange fnExactCornersOfWrong)

/-- 'laws.FnExactWidestPane': WHATEVER THE INPUT: true; the input reads as it did. -/
def fnExactWidestPaneSpec : ChangeSpec := { name := "fnExactWidestPane", fn := fun _ => fun
  | [d] => { results := [.lit (.bool true)], args := [d] }
  | _ => none }
def fnExactWidestPaneRow : OpenClaim := { program := "ytebfddcmaignaaa", sum := "223d4f1747df91df997f0c7fe5bf305f63b21617b4d91dc282967a26a159997c", func := "loop.example/g03303/laws.FnExactWidestPane", spec := "fnExactWidestPane", unfollowed := true, recurses := true, apart := false }
def FnExactWidestPaneSaid : Prop := fnExactWidestPaneRow.holds Try.pinned (OpenSpec.ofChange fnExactWidestPaneSpec)

/-- ITS FALSE NEIGHBOUR: 'it returns false'. Refute it at one input. -/
def fnExactWidestPaneWrong : ChangeSpec := { name := "fnExactWidestPane", fn := fun _ => fun
  | [d] => { results := [.lit (.bool false)], args := [d] }
  | _ => none }
def FnExactWidestPaneWrongFalsely : Prop := fnExactWidestPaneRow.holds Try.pinned (OpenSpec.ofChange fnExactWidestPaneWrong)

/-- 'laws.FnExactPanesOf': WHATEVER THE INPUT: true; the input reads as it did. -/
def fnExactPanesOfSpec : ChangeSpec := { name := "fnExactPanesOf", fn := fun _ => fun
  | [d] => { results := [.lit (.bool true)], args := [d] }
  | _ => none }
def fnExactPanesOfRow : OpenClaim := { program := "ytebfddcmaignaaa", sum := "223d4f1747df91df997f0c7fe5bf305f63b21617b4d91dc282967a26a159997c", func := "loop.example/g03303/laws.FnExactPanesOf", spec := "fnExactPanesOf", unfollowed := true, recurses := true, apart := false }
def FnExactPanesOfSaid : Prop := fnExactPanesOfRow.holds Try.pinned (OpenSpec.ofChange fnExactPanesOfSpec)

/-- ITS FALSE NEIGHBOUR: 'it returns false'. Refute it at one input. -/
def fnExactPanesOfWrong : ChangeSpec := { name := "fnExactPanesOf", fn := fun _ => fun
  | [d] => { results := [.lit (.bool false)], args := [d] }
  | _ => none }
def FnExactPanesOfWrongFalsely : Prop := fnExactPanesOfRow.holds Try.pinned (OpenSpec.ofChange fnExactPanesOfWrong)

/- THE SECOND FORM. 'bulk': how many values and letters a reading holds, each counted each time it is reached (what is shared counts as often as it is met; a slice's spare places count too). A statement '..UptoSaid' is the law's where the arguments, and the package variables that the reading takes, are together of bulk at most 1048576: NARROWER than '..Said'. Prove '..Said' where nothing that the law and all that it calls make is longer than what came in: it says more and counts as full. Else prove '..UptoSaid'. A law counts once. -/
mutual
def uptoBulk {H : Type} : DataW H → Nat
  | .lit (.string bytes) => bytes.length + 1
  | .lit _ => 1
  | .nil => 1
  | .ptr d => uptoBulk d + 1
  | .slice elems spare => uptoBulkAll elems + uptoBulkAll spare + 1
  | .agg parts => uptoBulkAll parts + 1
  | .iface _ d => uptoBulk d + 1
  | .map entries => uptoBulkEntries entries + 1
  | .held _ => 1
def uptoBulkAll {H : Type} : List (DataW H) → Nat
  | [] => 0
  | d :: r => uptoBulk d + uptoBulkAll r
def uptoBulkEntries {H : Type} : List (Lit × DataW H) → Nat
  | [] => 0
  | x :: r => uptoBulkEntry x + uptoBulkEntries r
def uptoBulkEntry {H : Type} : Lit × DataW H → Nat
  | (.string bytes, d) => bytes.length + uptoBulk d + 1
  | (_, d) => uptoBulk d + 1
 end
def uptoSmall : (H : Type) → List (DataW H) → Bool := fun _ ds => decide (uptoBulkAll ds ≤ 1048576)
def OpenSpec.upto (s : _root_.Go.ChangeSpec) : _root_.Go.OpenSpec := { _root_.Go.OpenSpec.ofChange s with cond := some uptoSmall }

/-- 'laws.FnExactDualSpanning', WHERE WHAT IT READS IS OF BULK AT MOST 1048576: true; the input reads as it did. -/
def fnExactDualSpanningUptoRow : OpenClaim := { program := "ytebfddcmaignaaa", sum := "223d4f1747df91df997f0c7fe5bf305f63b21617b4d91dc282967a26a159997c", func := "loop.example/g03303/laws.FnExactDualSpanning", spec := "fnExactDualSpanning", apart := false, narrowed := true }
def FnExactDualSpanningUptoSaid : Prop := fnExactDualSpanningUptoRow.holds Try.pinned (OpenSpec.upto fnExactDualSpanningSpec)

/-- 'laws.FnExactSidesOf', WHERE WHAT IT READS IS OF BULK AT MOST 1048576: true; the input reads as it did. -/
def fnExactSidesOfUptoRow : OpenClaim := { program := "ytebfddcmaignaaa", sum := "223d4f1747df91df997f0c7fe5bf305f63b21617b4d91dc282967a26a159997c", func := "loop.example/g03303/laws.FnExactSidesOf", spec := "fnExactSidesOf", unfollowed := true, recurses := true, apart := false, narrowed := true }
def FnExactSidesOfUptoSaid : Prop := fnExactSidesOfUptoRow.holds Try.pinned (OpenSpec.upto fnExactSidesOfSpec)

/-- 'laws.FnExactWishesOk', WHERE WHAT IT READS IS OF BULK AT MOST 1048576: true; the input reads as it did. -/
def fnExactWishesOkUptoRow : OpenClaim := { program := "ytebfddcmaignaaa", sum := "223d4f1747df91df997f0c7fe5bf305f63b21617b4d91dc282967a26a159997c", func := "loop.example/g03303/laws.FnExactWishesOk", spec := "fnExactWishesOk", unfollowed := true, recurses := true, apart := false, narrowed := true }
def FnExactWishesOkUptoSaid : Prop := fnExactWishesOkUptoRow.holds Try.pinned (OpenSpec.upto fnExactWishesOkSpec)

/-- 'laws.FnExactIsLoose', WHERE WHAT IT READS IS OF BULK AT MOST 1048576: true; the input reads as it did. -/
def fnExactIsLooseUptoRow : OpenClaim := { program := "ytebfddcmaignaaa", sum := "223d4f1747df91df997f0c7fe5bf305f63b21617b4d91dc282967a26a159997c", func := "loop.example/g03303/laws.FnExactIsLoose", spec := "fnExactIsLoose", unfollowed := true, recurses := true, apart := false, narrowed := true }
def FnExactIsLooseUptoSaid : Prop := fnExactIsLooseUptoRow.holds Try.pinned (OpenSpec.upto fnExactIsLooseSpec)

/-- 'laws.FnExactPaneBox', WHERE WHAT IT READS IS OF BULK AT MOST 1048576: true; the input reads as it did. -/
def fnExactPaneBoxUptoRow : OpenClaim := { program := "ytebfddcmaignaaa", sum := "223d4f1747df91df997f0c7fe5bf305f63b21617b4d91dc282967a26a159997c", func := "loop.example/g03303/laws.FnExactPaneBox", spec := "fnExactPaneBox", unfollowed := true, recurses := true, apart := false, narrowed := true }
def FnExactPaneBoxUptoSaid : Prop := fnExactPaneBoxUptoRow.holds Try.pinned (OpenSpec.upto fnExactPaneBoxSpec)

/-- 'laws.FnExactDualDegree', WHERE WHAT IT READS IS OF BULK AT MOST 1048576: true; the input reads as it did. -/
def fnExactDualDegreeUptoRow : OpenClaim := { program := "ytebfddcmaignaaa", sum := "223d4f1747df91df997f0c7fe5bf305f63b21617b4d91dc282967a26a159997c", func := "loop.example/g03303/laws.FnExactDualDegree", spec := "fnExactDualDegree", unfollowed := true, recurses := true, apart := false, narrowed := true }
def FnExactDualDegreeUptoSaid : Prop := fnExactDualDegreeUptoRow.holds Try.pinned (OpenSpec.upto fnExactDualDegreeSpec)

/-- 'laws.FnExactAreBeside', WHERE WHAT IT READS IS OF BULK AT MOST 1048576: true; the input reads as it did. -/
def fnExactAreBesideUptoRow : OpenClaim := { program := "ytebfddcmaignaaa", sum := "223d4f1747df91df997f0c7fe5bf305f63b21617b4d91dc282967a26a159997c", func := "loop.example/g03303/laws.FnExactAreBeside", spec := "fnExactAreBeside", unfollowed := true, recurses := true, apart := false, narrowed := true }
def FnExactAreBesideUptoSaid : Prop := fnExactAreBesideUptoRow.holds Try.pinned (OpenSpec.upto fnExactAreBesideSpec)

/-- 'laws.FnExactIsTight', WHERE WHAT IT READS IS OF BULK AT MOST 1048576: true; the input reads as it did. -/
def fnExactIsTightUptoRow : OpenClaim := { program := "ytebfddcmaignaaa", sum := "223d4f1747df91df997f0c7fe5bf305f63b21617b4d91dc282967a26a159997c", func := "loop.example/g03303/laws.FnExactIsTight", spec := "fnExactIsTight", unfollowed := true, recurses := true, apart := false, narrowed := true }
def FnExactIsTightUptoSaid : Prop := fnExactIsTightUptoRow.holds Try.pinned (OpenSpec.upto fnExactIsTightSpec)

/-- 'laws.FnExactFaceDegrees', WHERE WHAT IT READS IS OF BULK AT MOST 1048576: true; the input reads as it did. -/
def fnExactFaceDegreesUptoRow : OpenClaim := { program := "ytebfddcmaignaaa", sum := "223d4f1747df91df997f0c7fe5bf305f63b21617b4d91dc282967a26a159997c", func := "loop.example/g03303/laws.FnExactFaceDegrees", spec := "fnExactFaceDegrees", unfollowed := true, recurses := true, apart := false, narrowed := true }
def FnExactFaceDegreesUptoSaid : Prop := fnExactFaceDegreesUptoRow.holds Try.pinned (OpenSpec.upto fnExactFaceDegreesSpec)

/-- 'laws.FnExactPaneNodes', WHERE WHAT IT READS IS OF BULK AT MOST 1048576: true; the input reads as it did. -/
def fnExactPaneNodesUptoRow : OpenClaim := { program := "ytebfddcmaignaaa", sum := "223d4f1747df91df997f0c7fe5bf305f63b21617b4d91dc282967a26a159997c", func := "loop.example/g03303/laws.FnExactPaneNodes", spec := "fnExactPaneNodes", unfollowed := true, recurses := true, apart := false, narrowed := true }
def FnExactPaneNodesUptoSaid : Prop := fnExactPaneNodesUptoRow.holds Try.pinned (OpenSpec.upto fnExactPaneNodesSpec)

/-- 'laws.FnExactClashOf', WHERE WHAT IT READS IS OF BULK AT MOST 1048576: true; the input reads as it did. -/
def fnExactClashOfUptoRow : OpenClaim := { program := "ytebfddcmaignaaa", sum := "223d4f1747df91df997f0c7fe5bf305f63b21617b4d91dc282967a26a159997c", func := "loop.example/g03303/laws.FnExactClashOf", spec := "fnExactClashOf", unfollowed := true, recurses := true, apart := false, narrowed := true }
def FnExactClashOfUptoSaid : Prop := fnExactClashOfUptoRow.holds Try.pinned (OpenSpec.upto fnExactClashOfSpec)

/-- 'laws.FnExactIsPane', WHERE WHAT IT READS IS OF BULK AT MOST 1048576: true; the input reads as it did. -/
def fnExactIsPaneUptoRow : OpenClaim := { program := "ytebfddcmaignaaa", sum := "223d4f1747df91df997f0c7fe5bf305f63b21617b4d91dc282967a26a159997c", func := "loop.example/g03303/laws.FnExactIsPane", spec := "fnExactIsPane", unfollowed := true, recurses := true, apart := false, narrowed := true }
def FnExactIsPaneUptoSaid : Prop := fnExactIsPaneUptoRow.holds Try.pinned (OpenSpec.upto fnExactIsPaneSpec)

/-- 'laws.FnExactAreProper', WHERE WHAT IT READS IS OF BULK AT MOST 1048576: true; the input reads as it did. -/
def fnExactAreProperUptoRow : OpenClaim := { program := "ytebfddcmaignaaa", sum := "223d4f1747df91df997f0c7fe5bf305f63b21617b4d91dc282967a26a159997c", func := "loop.example/g03303/laws.FnExactAreProper", spec := "fnExactAreProper", unfollowed := true, recurses := true, apart := false, narrowed := true }
def FnExactAreProperUptoSaid : Prop := fnExactAreProperUptoRow.holds Try.pinned (OpenSpec.upto fnExactAreProperSpec)

/-- 'laws.FnExactFacesAround', WHERE WHAT IT READS IS OF BULK AT MOST 1048576: true; the input reads as it did. -/
def fnExactFacesAroundUptoRow : OpenClaim := { program := "ytebfddcmaignaaa", sum := "223d4f1747df91df997f0c7fe5bf305f63b21617b4d91dc282967a26a159997c", func := "loop.example/g03303/laws.FnExactFacesAround", spec := "fnExactFacesAround", unfollowed := true, recurses := true, apart := false, narrowed := true }
def FnExactFacesAroundUptoSaid : Prop := fnExactFacesAroundUptoRow.holds Try.pinned (OpenSpec.upto fnExactFacesAroundSpec)

/-- 'laws.FnExactSharedLeads', WHERE WHAT IT READS IS OF BULK AT MOST 1048576: true; the input reads as it did. -/
def fnExactSharedLeadsUptoRow : OpenClaim := { program := "ytebfddcmaignaaa", sum := "223d4f1747df91df997f0c7fe5bf305f63b21617b4d91dc282967a26a159997c", func := "loop.example/g03303/laws.FnExactSharedLeads", spec := "fnExactSharedLeads", unfollowed := true, recurses := true, apart := false, narrowed := true }
def FnExactSharedLeadsUptoSaid : Prop := fnExactSharedLeadsUptoRow.holds Try.pinned (OpenSpec.upto fnExactSharedLeadsSpec)

/-- 'laws.FnExactLooseLeads', WHERE WHAT IT READS IS OF BULK AT MOST 1048576: true; the input reads as it did. -/
def fnExactLooseLeadsUptoRow : OpenClaim := { program := "ytebfddcmaignaaa", sum := "223d4f1747df91df997f0c7fe5bf305f63b21617b4d91dc282967a26a159997c", func := "loop.example/g03303/laws.FnExactLooseLeads", spec := "fnExactLooseLeads", unfollowed := true, recurses := true, apart := false, narrowed := true }
def FnExactLooseLeadsUptoSaid : Prop := fnExactLooseLeadsUptoRow.holds Try.pinned (OpenSpec.upto fnExactLooseLeadsSpec)

/-- 'laws.FnExactIsDualTree', WHERE WHAT IT READS IS OF BULK AT MOST 1048576: true; the input reads as it did. -/
def fnExactIsDualTreeUptoRow : OpenClaim := { program := "ytebfddcmaignaaa", sum := "223d4f1747df91df997f0c7fe5bf305f63b21617b4d91dc282967a26a159997c", func := "loop.example/g03303/laws.FnExactIsDualTree", spec := "fnExactIsDualTree", unfollowed := true, recurses := true, apart := false, narrowed := true }
def FnExactIsDualTreeUptoSaid : Prop := fnExactIsDualTreeUptoRow.holds Try.pinned (OpenSpec.upto fnExactIsDualTreeSpec)

/-- 'laws.FnExactBesideOf', WHERE WHAT IT READS IS OF BULK AT MOST 1048576: true; the input reads as it did. -/
def fnExactBesideOfUptoRow : OpenClaim := { program := "ytebfddcmaignaaa", sum := "223d4f1747df91df997f0c7fe5bf305f63b21617b4d91dc282967a26a159997c", func := "loop.example/g03303/laws.FnExactBesideOf", spec := "fnExactBesideOf", unfollowed := true, recurses := true, apart := false, narrowed := true }
def FnExactBesideOfUptoSaid : Prop := fnExactBesideOfUptoRow.holds Try.pinned (OpenSpec.upto fnExactBesideOfSpec)

/-- 'laws.FnExactIsConvexPane', WHERE WHAT IT READS IS OF BULK AT MOST 1048576: true; the input reads as it did. -/
def fnExactIsConvexPaneUptoRow : OpenClaim := { program := "ytebfddcmaignaaa", sum := "223d4f1747df91df997f0c7fe5bf305f63b21617b4d91dc282967a26a159997c", func := "loop.example/g03303/laws.FnExactIsConvexPane", spec := "fnExactIsConvexPane", unfollowed := true, recurses := true, apart := false, narrowed := true }
def FnExactIsConvexPaneUptoSaid : Prop := fnExactIsConvexPaneUptoRow.holds Try.pinned (OpenSpec.upto fnExactIsConvexPaneSpec)

/-- 'laws.FnExactCornersOf', WHERE WHAT IT READS IS OF BULK AT MOST 1048576: true; the input reads as it did. -/
def fnExactCornersOfUptoRow : OpenClaim := { program := "ytebfddcmaignaaa", sum := "223d4f1747df91df997f0c7fe5bf305f63b21617b4d91dc282967a26a159997c", func := "loop.example/g03303/laws.FnExactCornersOf", spec := "fnExactCornersOf", unfollowed := true, recurses := true, apart := false, narrowed := true }
def FnExactCornersOfUptoSaid : Prop := fnExactCornersOfUptoRow.holds Try.pinned (OpenSpec.upto fnExactCornersOfSpec)

/-- 'laws.FnExactWidestPane', WHERE WHAT IT READS IS OF BULK AT MOST 1048576: true; the input reads as it did. -/
def fnExactWidestPaneUptoRow : OpenClaim := { program := "ytebfddcmaignaaa", sum := "223d4f1747df91df997f0c7fe5bf305f63b21617b4d91dc282967a26a159997c", func := "loop.example/g03303/laws.FnExactWidestPane", spec := "fnExactWidestPane", unfollowed := true, recurses := true, apart := false, narrowed := true }
def FnExactWidestPaneUptoSaid : Prop := fnExactWidestPaneUptoRow.holds Try.pinned (OpenSpec.upto fnExactWidestPaneSpec)

/-- 'laws.FnExactPanesOf', WHERE WHAT IT READS IS OF BULK AT MOST 1048576: true; the input reads as it did. -/
def fnExactPanesOfUptoRow : OpenClaim := { program := "ytebfddcmaignaaa", sum := "223d4f1747df91df997f0c7fe5bf305f63b21617b4d91dc282967a26a159997c", func := "loop.example/g03303/laws.FnExactPanesOf", spec := "fnExactPanesOf", unfollowed := true, recurses := true, apart := false, narrowed := true }
def FnExactPanesOfUptoSaid : Prop := fnExactPanesOfUptoRow.holds Try.pinned (OpenSpec.upto fnExactPanesOfSpec)

end Rows
end Go.Proofs.Ytebfddcmaignaaa
