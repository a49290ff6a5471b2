/-
  No cell of these rows narrows 'for every input' (looked for: loops, veiled, ifaces, maps, wideKeys, modest, calm, conditions, laid).
  DERIVED. THE GIVEN ROWS OF THIS SEAT. 15 by the template 'for every input the law returns true; each argument reads behind the call as it read before'; 0 by the template 'total and deterministic' (their statements: YtimgbllpbadhcaaTotals.lean).
  GIVEN WITH THE SEED: the statements are not yours to turn. If you find one false, say at which input.
  Laid BY PROGRAM, IN A SANDBOX (cutbox-rows.mjs): the forced cells as the released guide's own fill.sh prints them over the translation 590be6b86ff0a9f2… (all of the seat's roots in one cut). By AI agents, Wed Nov 11 2026. No macro, syntax, notation, axiom, sorry.
-/
import Derived.Test.YtimgbllpbadhcaaChecked
import GoSem.Claim
import GoSem.ClaimJoined
import GoSem.ClaimMapViews
import Derived.JoinedTies
import Derived.KernelRfl
namespace Go.Proofs.Ytimgbllpbadhcaa
/- THE CELL 'sum', in the pinned program and in every row, IS THE sha256 OF THE DUMP (.gsa) THAT YtimgbllpbadhcaaProg.lean LOADS. Nothing in Lean hashes anything: it is a label: what it is worth is what the hold of that sum in a sandbox is worth. -/
noncomputable def Try.pinned : Pinned := { name := "ytimgbllpbadhcaa", sum := "590be6b86ff0a9f282b8278c29716d8c8e6bafed9eb43d785d2ae5562a6b38fe", checked := Try.checked }
namespace Rows
def none {H : Type} : Left H := { results := [], args := [] }

/-- 'laws.FnExactSplitLead': WHATEVER THE INPUT: true; the input reads as it did. -/
def fnExactSplitLeadSpec : ChangeSpec := { name := "fnExactSplitLead", fn := fun _ => fun
  | [d1, d2, d3] => { results := [.lit (.bool true)], args := [d1, d2, d3] }
  | _ => none }
def fnExactSplitLeadRow : OpenClaim := { program := "ytimgbllpbadhcaa", sum := "590be6b86ff0a9f282b8278c29716d8c8e6bafed9eb43d785d2ae5562a6b38fe", func := "loop.example/g03303/laws.FnExactSplitLead", spec := "fnExactSplitLead", apart := false }
def FnExactSplitLeadSaid : Prop := fnExactSplitLeadRow.holds Try.pinned (OpenSpec.ofChange fnExactSplitLeadSpec)

/-- ITS FALSE NEIGHBOUR: 'it returns false'. Refute it at one input. -/
def fnExactSplitLeadWrong : ChangeSpec := { name := "fnExactSplitLead", fn := fun _ => fun
  | [d1, d2, d3] => { results := [.lit (.bool false)], args := [d1, d2, d3] }
  | _ => none }
def FnExactSplitLeadWrongFalsely : Prop := fnExactSplitLeadRow.holds Try.pinned (OpenSpec.ofChange fnExactSplitLeadWrong)

/-- 'laws.FnExactDropNode': WHATEVER THE INPUT: true; the input reads as it did. -/
def fnExactDropNodeSpec : ChangeSpec := { name := "fnExactDropNode", fn := fun _ => fun
  | [d1, d2] => { results := [.lit (.bool true)], args := [d1, d2] }
  | _ => none }
def fnExactDropNodeRow : OpenClaim := { program := "ytimgbllpbadhcaa", sum := "590be6b86ff0a9f282b8278c29716d8c8e6bafed9eb43d785d2ae5562a6b38fe", func := "loop.example/g03303/laws.FnExactDropNode", spec := "fnExactDropNode", unfollowed := true, recurses := true, apart := false }
def FnExactDropNodeSaid : Prop := fnExactDropNodeRow.holds Try.pinned (OpenSpec.ofChange fnExactDropNodeSpec)

/-- ITS FALSE NEIGHBOUR: 'it returns false'. Refute it at one input. -/
def fnExactDropNodeWrong : ChangeSpec := { name := "fnExactDropNode", fn := fun _ => fun
  | [d1, d2] => { results := [.lit (.bool false)], args := [d1, d2] }
  | _ => none }
def FnExactDropNodeWrongFalsely : Prop := fnExactDropNodeRow.holds Try.pinned (OpenSpec.ofChange fnExactDropNodeWrong)

/-- 'laws.FnExactJoinLeads': WHATEVER THE INPUT: true; the input reads as it did. -/
def fnExactJoinLeadsSpec : ChangeSpec := { name := "fnExactJoinLeads", fn := fun _ => fun
  | [d1, d2] => { results := [.lit (.bool true)], args := [d1, d2] }
  | _ => none }
def fnExactJoinLeadsRow : OpenClaim := { program := "ytimgbllpbadhcaa", sum := "590be6b86ff0a9f282b8278c29716d8c8e6bafed9eb43d785d2ae5562a6b38fe", func := "loop.example/g03303/laws.FnExactJoinLeads", spec := "fnExactJoinLeads", unfollowed := true, recurses := true, apart := false }
def FnExactJoinLeadsSaid : Prop := fnExactJoinLeadsRow.holds Try.pinned (OpenSpec.ofChange fnExactJoinLeadsSpec)

/-- ITS FALSE NEIGHBOUR: 'it returns false'. Refute it at one input. -/
def fnExactJoinLeadsWrong : ChangeSpec := { name := "fnExactJoinLeads", fn := fun _ => fun
  | [d1, d2] => { results := [.lit (.bool false)], args := [d1, d2] }
  | _ => none }
def FnExactJoinLeadsWrongFalsely : Prop := fnExactJoinLeadsRow.holds Try.pinned (OpenSpec.ofChange fnExactJoinLeadsWrong)

/-- 'laws.FnExactSimplify': WHATEVER THE INPUT: true; the input reads as it did. -/
def fnExactSimplifySpec : ChangeSpec := { name := "fnExactSimplify", fn := fun _ => fun
  | [d] => { results := [.lit (.bool true)], args := [d] }
  | _ => none }
def fnExactSimplifyRow : OpenClaim := { program := "ytimgbllpbadhcaa", sum := "590be6b86ff0a9f282b8278c29716d8c8e6bafed9eb43d785d2ae5562a6b38fe", func := "loop.example/g03303/laws.FnExactSimplify", spec := "fnExactSimplify", unfollowed := true, recurses := true, apart := false }
def FnExactSimplifySaid : Prop := fnExactSimplifyRow.holds Try.pinned (OpenSpec.ofChange fnExactSimplifySpec)

/-- ITS FALSE NEIGHBOUR: 'it returns false'. Refute it at one input. -/
def fnExactSimplifyWrong : ChangeSpec := { name := "fnExactSimplify", fn := fun _ => fun
  | [d] => { results := [.lit (.bool false)], args := [d] }
  | _ => none }
def FnExactSimplifyWrongFalsely : Prop := fnExactSimplifyRow.holds Try.pinned (OpenSpec.ofChange fnExactSimplifyWrong)

/-- 'laws.FnExactPruneEnds': WHATEVER THE INPUT: true; the input reads as it did. -/
def fnExactPruneEndsSpec : ChangeSpec := { name := "fnExactPruneEnds", fn := fun _ => fun
  | [d] => { results := [.lit (.bool true)], args := [d] }
  | _ => none }
def fnExactPruneEndsRow : OpenClaim := { program := "ytimgbllpbadhcaa", sum := "590be6b86ff0a9f282b8278c29716d8c8e6bafed9eb43d785d2ae5562a6b38fe", func := "loop.example/g03303/laws.FnExactPruneEnds", spec := "fnExactPruneEnds", unfollowed := true, recurses := true, apart := false }
def FnExactPruneEndsSaid : Prop := fnExactPruneEndsRow.holds Try.pinned (OpenSpec.ofChange fnExactPruneEndsSpec)

/-- ITS FALSE NEIGHBOUR: 'it returns false'. Refute it at one input. -/
def fnExactPruneEndsWrong : ChangeSpec := { name := "fnExactPruneEnds", fn := fun _ => fun
  | [d] => { results := [.lit (.bool false)], args := [d] }
  | _ => none }
def FnExactPruneEndsWrongFalsely : Prop := fnExactPruneEndsRow.holds Try.pinned (OpenSpec.ofChange fnExactPruneEndsWrong)

/-- 'laws.FnExactCountColorings': WHATEVER THE INPUT: true; the input reads as it did. -/
def fnExactCountColoringsSpec : ChangeSpec := { name := "fnExactCountColorings", fn := fun _ => fun
  | [d1, d2] => { results := [.lit (.bool true)], args := [d1, d2] }
  | _ => none }
def fnExactCountColoringsRow : OpenClaim := { program := "ytimgbllpbadhcaa", sum := "590be6b86ff0a9f282b8278c29716d8c8e6bafed9eb43d785d2ae5562a6b38fe", func := "loop.example/g03303/laws.FnExactCountColorings", spec := "fnExactCountColorings", unfollowed := true, recurses := true, apart := false }
def FnExactCountColoringsSaid : Prop := fnExactCountColoringsRow.holds Try.pinned (OpenSpec.ofChange fnExactCountColoringsSpec)

/-- ITS FALSE NEIGHBOUR: 'it returns false'. Refute it at one input. -/
def fnExactCountColoringsWrong : ChangeSpec := { name := "fnExactCountColorings", fn := fun _ => fun
  | [d1, d2] => { results := [.lit (.bool false)], args := [d1, d2] }
  | _ => none }
def FnExactCountColoringsWrongFalsely : Prop := fnExactCountColoringsRow.holds Try.pinned (OpenSpec.ofChange fnExactCountColoringsWrong)

/-- 'laws.FnExactGreedyColors': WHATEVER THE INPUT: true; the input reads as it did. -/
def fnExactGreedyColorsSpec : ChangeSpec := { name := "fnExactGreedyColors", fn := fun _ => fun
  | [d] => { results := [.lit (.bool true)], args := [d] }
  | _ => none }
def fnExactGreedyColorsRow : OpenClaim := { program := "ytimgbllpbadhcaa", sum := "590be6b86ff0a9f282b8278c29716d8c8e6bafed9eb43d785d2ae5562a6b38fe", func := "loop.example/g03303/laws.FnExactGreedyColors", spec := "fnExactGreedyColors", unfollowed := true, recurses := true, apart := false }
def FnExactGreedyColorsSaid : Prop := fnExactGreedyColorsRow.holds Try.pinned (OpenSpec.ofChange fnExactGreedyColorsSpec)

/-- ITS FALSE NEIGHBOUR: 'it returns false'. Refute it at one input. -/
def fnExactGreedyColorsWrong : ChangeSpec := { name := "fnExactGreedyColors", fn := fun _ => fun
  | [d] => { results := [.lit (.bool false)], args := [d] }
  | _ => none }
def FnExactGreedyColorsWrongFalsely : Prop := fnExactGreedyColorsRow.holds Try.pinned (OpenSpec.ofChange fnExactGreedyColorsWrong)

/-- 'laws.FnExactFewestColors': WHATEVER THE INPUT: true; the input reads as it did. -/
def fnExactFewestColorsSpec : ChangeSpec := { name := "fnExactFewestColors", fn := fun _ => fun
  | [d] => { results := [.lit (.bool true)], args := [d] }
  | _ => none }
def fnExactFewestColorsRow : OpenClaim := { program := "ytimgbllpbadhcaa", sum := "590be6b86ff0a9f282b8278c29716d8c8e6bafed9eb43d785d2ae5562a6b38fe", func := "loop.example/g03303/laws.FnExactFewestColors", spec := "fnExactFewestColors", unfollowed := true, recurses := true, apart := false }
def FnExactFewestColorsSaid : Prop := fnExactFewestColorsRow.holds Try.pinned (OpenSpec.ofChange fnExactFewestColorsSpec)

/-- ITS FALSE NEIGHBOUR: 'it returns false'. Refute it at one input. -/
def fnExactFewestColorsWrong : ChangeSpec := { name := "fnExactFewestColors", fn := fun _ => fun
  | [d] => { results := [.lit (.bool false)], args := [d] }
  | _ => none }
def FnExactFewestColorsWrongFalsely : Prop := fnExactFewestColorsRow.holds Try.pinned (OpenSpec.ofChange fnExactFewestColorsWrong)

/-- 'laws.FnExactCountChains': WHATEVER THE INPUT: true; the input reads as it did. -/
def fnExactCountChainsSpec : ChangeSpec := { name := "fnExactCountChains", fn := fun _ => fun
  | [d1, d2, d3, d4] => { results := [.lit (.bool true)], args := [d1, d2, d3, d4] }
  | _ => none }
def fnExactCountChainsRow : OpenClaim := { program := "ytimgbllpbadhcaa", sum := "590be6b86ff0a9f282b8278c29716d8c8e6bafed9eb43d785d2ae5562a6b38fe", func := "loop.example/g03303/laws.FnExactCountChains", spec := "fnExactCountChains", unfollowed := true, recurses := true, apart := false }
def FnExactCountChainsSaid : Prop := fnExactCountChainsRow.holds Try.pinned (OpenSpec.ofChange fnExactCountChainsSpec)

/-- ITS FALSE NEIGHBOUR: 'it returns false'. Refute it at one input. -/
def fnExactCountChainsWrong : ChangeSpec := { name := "fnExactCountChains", fn := fun _ => fun
  | [d1, d2, d3, d4] => { results := [.lit (.bool false)], args := [d1, d2, d3, d4] }
  | _ => none }
def FnExactCountChainsWrongFalsely : Prop := fnExactCountChainsRow.holds Try.pinned (OpenSpec.ofChange fnExactCountChainsWrong)

/-- 'laws.FnExactFillWishes': WHATEVER THE INPUT: true; the input reads as it did. -/
def fnExactFillWishesSpec : ChangeSpec := { name := "fnExactFillWishes", fn := fun _ => fun
  | [d1, d2, d3] => { results := [.lit (.bool true)], args := [d1, d2, d3] }
  | _ => none }
def fnExactFillWishesRow : OpenClaim := { program := "ytimgbllpbadhcaa", sum := "590be6b86ff0a9f282b8278c29716d8c8e6bafed9eb43d785d2ae5562a6b38fe", func := "loop.example/g03303/laws.FnExactFillWishes", spec := "fnExactFillWishes", unfollowed := true, recurses := true, apart := false }
def FnExactFillWishesSaid : Prop := fnExactFillWishesRow.holds Try.pinned (OpenSpec.ofChange fnExactFillWishesSpec)

/-- ITS FALSE NEIGHBOUR: 'it returns false'. Refute it at one input. -/
def fnExactFillWishesWrong : ChangeSpec := { name := "fnExactFillWishes", fn := fun _ => fun
  | [d1, d2, d3] => { results := [.lit (.bool false)], args := [d1, d2, d3] }
  | _ => none }
def FnExactFillWishesWrongFalsely : Prop := fnExactFillWishesRow.holds Try.pinned (OpenSpec.ofChange fnExactFillWishesWrong)

/-- 'laws.FnExactColorWith': WHATEVER THE INPUT: true; the input reads as it did. -/
def fnExactColorWithSpec : ChangeSpec := { name := "fnExactColorWith", fn := fun _ => fun
  | [d1, d2] => { results := [.lit (.bool true)], args := [d1, d2] }
  | _ => none }
def fnExactColorWithRow : OpenClaim := { program := "ytimgbllpbadhcaa", sum := "590be6b86ff0a9f282b8278c29716d8c8e6bafed9eb43d785d2ae5562a6b38fe", func := "loop.example/g03303/laws.FnExactColorWith", spec := "fnExactColorWith", unfollowed := true, recurses := true, apart := false }
def FnExactColorWithSaid : Prop := fnExactColorWithRow.holds Try.pinned (OpenSpec.ofChange fnExactColorWithSpec)

/-- ITS FALSE NEIGHBOUR: 'it returns false'. Refute it at one input. -/
def fnExactColorWithWrong : ChangeSpec := { name := "fnExactColorWith", fn := fun _ => fun
  | [d1, d2] => { results := [.lit (.bool false)], args := [d1, d2] }
  | _ => none }
def FnExactColorWithWrongFalsely : Prop := fnExactColorWithRow.holds Try.pinned (OpenSpec.ofChange fnExactColorWithWrong)

/-- 'laws.FnExactChainOf': WHATEVER THE INPUT: true; the input reads as it did. -/
def fnExactChainOfSpec : ChangeSpec := { name := "fnExactChainOf", fn := fun _ => fun
  | [d1, d2, d3, d4] => { results := [.lit (.bool true)], args := [d1, d2, d3, d4] }
  | _ => none }
def fnExactChainOfRow : OpenClaim := { program := "ytimgbllpbadhcaa", sum := "590be6b86ff0a9f282b8278c29716d8c8e6bafed9eb43d785d2ae5562a6b38fe", func := "loop.example/g03303/laws.FnExactChainOf", spec := "fnExactChainOf", unfollowed := true, recurses := true, apart := false }
def FnExactChainOfSaid : Prop := fnExactChainOfRow.holds Try.pinned (OpenSpec.ofChange fnExactChainOfSpec)

/-- ITS FALSE NEIGHBOUR: 'it returns false'. Refute it at one input. -/
def fnExactChainOfWrong : ChangeSpec := { name := "fnExactChainOf", fn := fun _ => fun
  | [d1, d2, d3, d4] => { results := [.lit (.bool false)], args := [d1, d2, d3, d4] }
  | _ => none }
def FnExactChainOfWrongFalsely : Prop := fnExactChainOfRow.holds Try.pinned (OpenSpec.ofChange fnExactChainOfWrong)

/-- 'laws.FnExactSwapChain': WHATEVER THE INPUT: true; the input reads as it did. -/
def fnExactSwapChainSpec : ChangeSpec := { name := "fnExactSwapChain", fn := fun _ => fun
  | [d1, d2, d3, d4] => { results := [.lit (.bool true)], args := [d1, d2, d3, d4] }
  | _ => none }
def fnExactSwapChainRow : OpenClaim := { program := "ytimgbllpbadhcaa", sum := "590be6b86ff0a9f282b8278c29716d8c8e6bafed9eb43d785d2ae5562a6b38fe", func := "loop.example/g03303/laws.FnExactSwapChain", spec := "fnExactSwapChain", unfollowed := true, recurses := true, apart := false }
def FnExactSwapChainSaid : Prop := fnExactSwapChainRow.holds Try.pinned (OpenSpec.ofChange fnExactSwapChainSpec)

/-- ITS FALSE NEIGHBOUR: 'it returns false'. Refute it at one input. -/
def fnExactSwapChainWrong : ChangeSpec := { name := "fnExactSwapChain", fn := fun _ => fun
  | [d1, d2, d3, d4] => { results := [.lit (.bool false)], args := [d1, d2, d3, d4] }
  | _ => none }
def FnExactSwapChainWrongFalsely : Prop := fnExactSwapChainRow.holds Try.pinned (OpenSpec.ofChange fnExactSwapChainWrong)

/-- 'laws.FnExactForcedFaces': WHATEVER THE INPUT: true; the input reads as it did. -/
def fnExactForcedFacesSpec : ChangeSpec := { name := "fnExactForcedFaces", fn := fun _ => fun
  | [d1, d2, d3] => { results := [.lit (.bool true)], args := [d1, d2, d3] }
  | _ => none }
def fnExactForcedFacesRow : OpenClaim := { program := "ytimgbllpbadhcaa", sum := "590be6b86ff0a9f282b8278c29716d8c8e6bafed9eb43d785d2ae5562a6b38fe", func := "loop.example/g03303/laws.FnExactForcedFaces", spec := "fnExactForcedFaces", unfollowed := true, recurses := true, apart := false }
def FnExactForcedFacesSaid : Prop := fnExactForcedFacesRow.holds Try.pinned (OpenSpec.ofChange fnExactForcedFacesSpec)

/-- ITS FALSE NEIGHBOUR: 'it returns false'. Refute it at one input. -/
def fnExactForcedFacesWrong : ChangeSpec := { name := "fnExactForcedFaces", fn := fun _ => fun
  | [d1, d2, d3] => { results := [.lit (.bool false)], args := [d1, d2, d3] }
  | _ => none }
def FnExactForcedFacesWrongFalsely : Prop := fnExactForcedFacesRow.holds Try.pinned (OpenSpec.ofChange fnExactForcedFacesWrong)

/-- 'laws.FnExactBadWishes': WHATEVER THE INPUT: true; the input reads as it did. -/
def fnExactBadWishesSpec : ChangeSpec := { name := "fnExactBadWishes", fn := fun _ => fun
  | [d1, d2, d3] => { results := [.lit (.bool true)], args := [d1, d2, d3] }
  | _ => none }
def fnExactBadWishesRow : OpenClaim := { program := "ytimgbllpbadhcaa", sum := "590be6b86ff0a9f282b8278c29716d8c8e6bafed9eb43d785d2ae5562a6b38fe", func := "loop.example/g03303/laws.FnExactBadWishes", spec := "fnExactBadWishes", unfollowed := true, recurses := true, apart := false }
def FnExactBadWishesSaid : Prop := fnExactBadWishesRow.holds Try.pinned (OpenSpec.ofChange fnExactBadWishesSpec)

/-- ITS FALSE NEIGHBOUR: 'it returns false'. Refute it at one input. -/
def fnExactBadWishesWrong : ChangeSpec := { name := "fnExactBadWishes", fn := fun _ => fun
  | [d1, d2, d3] => { results := [.lit (.bool false)], args := [d1, d2, d3] }
  | _ => none }
def FnExactBadWishesWrongFalsely : Prop := fnExactBadWishesRow.holds Try.pinned (OpenSpec.ofChange fnExactBadWishesWrong)

/- THE SECOND FORM. 'bulk': how many values and letters a reading holds, each counted each time it is reached (what is shared counts as often as it is met; a slice's spare places count too). A statement '..UptoSaid' is the law's where the arguments, and the package variables that the reading takes, are together of bulk at most 1048576: NARROWER than '..Said'. Prove '..Said' where nothing that the law and all that it calls make is longer than what came in: it says more and counts as full. Else prove '..UptoSaid'. A law counts once. -/
mutual
def uptoBulk {H : Type} : DataW H → Nat
  | .lit (.string bytes) => bytes.length + 1
  | .lit _ => 1
  | .nil => 1
  | .ptr d => uptoBulk d + 1
  | .slice elems spare => uptoBulkAll elems + uptoBulkAll spare + 1
  | .agg parts => uptoBulkAll parts + 1
  | .iface _ d => uptoBulk d + 1
  | .map entries => uptoBulkEntries entries + 1
  | .held _ => 1
def uptoBulkAll {H : Type} : List (DataW H) → Nat
  | [] => 0
  | d :: r => uptoBulk d + uptoBulkAll r
def uptoBulkEntries {H : Type} : List (Lit × DataW H) → Nat
  | [] => 0
  | x :: r => uptoBulkEntry x + uptoBulkEntries r
def uptoBulkEntry {H : Type} : Lit × DataW H → Nat
  | (.string bytes, d) => bytes.length + uptoBulk d + 1
  | (_, d) => uptoBulk d + 1
 end
def uptoSmall : (H : Type) → List (DataW H) → Bool := fun _ ds => decide (uptoBulkAll ds ≤ 1048576)
def OpenSpec.upto (s : _root_.Go.ChangeSpec) : _root_.Go.OpenSpec := { _root_.Go.OpenSpec.ofChange s with cond := some uptoSmall }

/-- 'laws.FnExactSplitLead', WHERE WHAT IT READS IS OF BULK AT MOST 1048576: true; the input reads as it did. -/
def fnExactSplitLeadUptoRow : OpenClaim := { program := "ytimgbllpbadhcaa", sum := "590be6b86ff0a9f282b8278c29716d8c8e6bafed9eb43d785d2ae5562a6b38fe", func := "loop.example/g03303/laws.FnExactSplitLead", spec := "fnExactSplitLead", apart := false, narrowed := true }
def FnExactSplitLeadUptoSaid : Prop := fnExactSplitLeadUptoRow.holds Try.pinned (OpenSpec.upto fnExactSplitLeadSpec)

/-- 'laws.FnExactDropNode', WHERE WHAT IT READS IS OF BULK AT MOST 1048576: true; the input reads as it did. -/
def fnExactDropNodeUptoRow : OpenClaim := { program := "ytimgbllpbadhcaa", sum := "590be6b86ff0a9f282b8278c29716d8c8e6bafed9eb43d785d2ae5562a6b38fe", func := "loop.example/g03303/laws.FnExactDropNode", spec := "fnExactDropNode", unfollowed := true, recurses := true, apart := false, narrowed := true }
def FnExactDropNodeUptoSaid : Prop := fnExactDropNodeUptoRow.holds Try.pinned (OpenSpec.upto fnExactDropNodeSpec)

/-- 'laws.FnExactJoinLeads', WHERE WHAT IT READS IS OF BULK AT MOST 1048576: true; the input reads as it did. -/
def fnExactJoinLeadsUptoRow : OpenClaim := { program := "ytimgbllpbadhcaa", sum := "590be6b86ff0a9f282b8278c29716d8c8e6bafed9eb43d785d2ae5562a6b38fe", func := "loop.example/g03303/laws.FnExactJoinLeads", spec := "fnExactJoinLeads", unfollowed := true, recurses := true, apart := false, narrowed := true }
def FnExactJoinLeadsUptoSaid : Prop := fnExactJoinLeadsUptoRow.holds Try.pinned (OpenSpec.upto fnExactJoinLeadsSpec)

/-- 'laws.FnExactSimplify', WHERE WHAT IT READS IS OF BULK AT MOST 1048576: true; the input reads as it did. -/
def fnExactSimplifyUptoRow : OpenClaim := { program := "ytimgbllpbadhcaa", sum := "590be6b86ff0a9f282b8278c29716d8c8e6bafed9eb43d785d2ae5562a6b38fe", func := "loop.example/g03303/laws.FnExactSimplify", spec := "fnExactSimplify", unfollowed := true, recurses := true, apart := false, narrowed := true }
def FnExactSimplifyUptoSaid : Prop := fnExactSimplifyUptoRow.holds Try.pinned (OpenSpec.upto fnExactSimplifySpec)

/-- 'laws.FnExactPruneEnds', WHERE WHAT IT READS IS OF BULK AT MOST 1048576: true; the input reads as it did. -/
def fnExactPruneEndsUptoRow : OpenClaim := { program := "ytimgbllpbadhcaa", sum := "590be6b86ff0a9f282b8278c29716d8c8e6bafed9eb43d785d2ae5562a6b38fe", func := "loop.example/g03303/laws.FnExactPruneEnds", spec := "fnExactPruneEnds", unfollowed := true, recurses := true, apart := false, narrowed := true }
def FnExactPruneEndsUptoSaid : Prop := fnExactPruneEndsUptoRow.holds Try.pinned (OpenSpec.upto fnExactPruneEndsSpec)

/-- 'laws.FnExactCountColorings', WHERE WHAT IT READS IS OF BULK AT MOST 1048576: true; the input reads as it did. -/
def fnExactCountColoringsUptoRow : OpenClaim := { program := "ytimgbllpbadhcaa", sum := "590be6b86ff0a9f282b8278c29716d8c8e6bafed9eb43d785d2ae5562a6b38fe", func := "loop.example/g03303/laws.FnExactCountColorings", spec := "fnExactCountColorings", unfollowed := true, recurses := true, apart := false, narrowed := true }
def FnExactCountColoringsUptoSaid : Prop := fnExactCountColoringsUptoRow.holds Try.pinned (OpenSpec.upto fnExactCountColoringsSpec)

/-- 'laws.FnExactGreedyColors', WHERE WHAT IT READS IS OF BULK AT MOST 1048576: true; the input reads as it did. -/
def fnExactGreedyColorsUptoRow : OpenClaim := { program := "ytimgbllpbadhcaa", sum := "590be6b86ff0a9f282b8278c29716d8c8e6bafed9eb43d785d2ae5562a6b38fe", func := "loop.example/g03303/laws.FnExactGreedyColors", spec := "fnExactGreedyColors", unfollowed := true, recurses := true, apart := false, narrowed := true }
def FnExactGreedyColorsUptoSaid : Prop := fnExactGreedyColorsUptoRow.holds Try.pinned (OpenSpec.upto fnExactGreedyColorsSpec)

/-- 'laws.FnExactFewestColors', WHERE WHAT IT READS IS OF BULK AT MOST 1048576: true; the input reads as it did. -/
def fnExactFewestColorsUptoRow : OpenClaim := { program := "ytimgbllpbadhcaa", sum := "590be6b86ff0a9f282b8278c29716d8c8e6bafed9eb43d785d2ae5562a6b38fe", func := "loop.example/g03303/laws.FnExactFewestColors", spec := "fnExactFewestColors", unfollowed := true, recurses := true, apart := false, narrowed := true }
def FnExactFewestColorsUptoSaid : Prop := fnExactFewestColorsUptoRow.holds Try.pinned (OpenSpec.upto fnExactFewestColorsSpec)

/-- 'laws.FnExactCountChains', WHERE WHAT IT READS IS OF BULK AT MOST 1048576: true; the input reads as it did. -/
def fnExactCountChainsUptoRow : OpenClaim := { program := "ytimgbllpbadhcaa", sum := "590be6b86ff0a9f282b8278c29716d8c8e6bafed9eb43d785d2ae5562a6b38fe", func := "loop.example/g03303/laws.FnExactCountChains", spec := "fnExactCountChains", unfollowed := true, recurses := true, apart := false, narrowed := true }
def FnExactCountChainsUptoSaid : Prop := fnExactCountChainsUptoRow.holds Try.pinned (OpenSpec.upto fnExactCountChainsSpec)

/-- 'laws.FnExactFillWishes', WHERE WHAT IT READS IS OF BULK AT MOST 1048576: true; the input reads as it did. -/
def fnExactFillWishesUptoRow : OpenClaim := { program := "ytimgbllpbadhcaa", sum := "590be6b86ff0a9f282b8278c29716d8c8e6bafed9eb43d785d2ae5562a6b38fe", func := "loop.example/g03303/laws.FnExactFillWishes", spec := "fnExactFillWishes", unfollowed := true, recurses := true, apart := false, narrowed := true }
def FnExactFillWishesUptoSaid : Prop := fnExactFillWishesUptoRow.holds Try.pinned (OpenSpec.upto fnExactFillWishesSpec)

/-- 'laws.FnExactColorWith', WHERE WHAT IT READS IS OF BULK AT MOST 1048576: true; the input reads as it did. -/
def fnExactColorWithUptoRow : OpenClaim := { program := "ytimgbllpbadhcaa", sum := "590be6b86ff0a9f282b8278c29716d8c8e6bafed9eb43d785d2ae5562a6b38fe", func := "loop.example/g03303/laws.FnExactColorWith", spec := "fnExactColorWith", unfollowed := true, recurses := true, apart := false, narrowed := true }
def FnExactColorWithUptoSaid : Prop := fnExactColorWithUptoRow.holds Try.pinned (OpenSpec.upto fnExactColorWithSpec)

/-- 'laws.FnExactChainOf', WHERE WHAT IT READS IS OF BULK AT MOST 1048576: true; the input reads as it did. -/
def fnExactChainOfUptoRow : OpenClaim := { program := "ytimgbllpbadhcaa", sum := "590be6b86ff0a9f282b8278c29716d8c8e6bafed9eb43d785d2ae5562a6b38fe", func := "loop.example/g03303/laws.FnExactChainOf", spec := "fnExactChainOf", unfollowed := true, recurses := true, apart := false, narrowed := true }
def FnExactChainOfUptoSaid : Prop := fnExactChainOfUptoRow.holds Try.pinned (OpenSpec.upto fnExactChainOfSpec)

/-- 'laws.FnExactSwapChain', WHERE WHAT IT READS IS OF BULK AT MOST 1048576: true; the input reads as it did. -/
def fnExactSwapChainUptoRow : OpenClaim := { program := "ytimgbllpbadhcaa", sum := "590be6b86ff0a9f282b8278c29716d8c8e6bafed9eb43d785d2ae5562a6b38fe", func := "loop.example/g03303/laws.FnExactSwapChain", spec := "fnExactSwapChain", unfollowed := true, recurses := true, apart := false, narrowed := true }
def FnExactSwapChainUptoSaid : Prop := fnExactSwapChainUptoRow.holds Try.pinned (OpenSpec.upto fnExactSwapChainSpec)

/-- 'laws.FnExactForcedFaces', WHERE WHAT IT READS IS OF BULK AT MOST 1048576: true; the input reads as it did. -/
def fnExactForcedFacesUptoRow : OpenClaim := { program := "ytimgbllpbadhcaa", sum := "590be6b86ff0a9f282b8278c29716d8c8e6bafed9eb43d785d2ae5562a6b38fe", func := "loop.example/g03303/laws.FnExactForcedFaces", spec := "fnExactForcedFaces", unfollowed := true, recurses := true, apart := false, narrowed := true }
def FnExactForcedFacesUptoSaid : Prop := fnExactForcedFacesUptoRow.holds Try.pinned (OpenSpec.upto fnExactForcedFacesSpec)

/-- 'laws.FnExactBadWishes', WHERE WHAT IT READS IS OF BULK AT MOST 1048576: true; the input reads as it did. -/
def fnExactBadWishesUptoRow : OpenClaim := { program := "ytimgbllpbadhcaa", sum := "590be6b86ff0a9f282b8278c29716d8c8e6bafed9eb43d785d2ae5562a6b38fe", func := "loop.example/g03303/laws.FnExactBadWishes", spec := "fnExactBadWishes", unfollowed := true, recurses := true, apart := false, narrowed := true }
def FnExactBadWishesUptoSaid : Prop := fnExactBadWishesUptoRow.holds Try.pinned (OpenSpec.upto fnExactBadWishesSpec)

end Rows
end Go.Proofs.Ytimgbllpbadhcaa
