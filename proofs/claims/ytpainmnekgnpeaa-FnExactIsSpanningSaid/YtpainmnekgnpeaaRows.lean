/-
  No cell of these rows narrows 'for every input' (looked for: loops, veiled, ifaces, maps, wideKeys, modest, calm, conditions, laid).
  DERIVED. THE GIVEN ROWS OF THIS SEAT. 12 by the template 'for every input the law returns true; each argument reads behind the call as it read before'; 0 by the template 'total and deterministic' (their statements: YtpainmnekgnpeaaTotals.lean).
  GIVEN WITH THE SEED: the statements are not yours to turn. If you find one false, say at which input.
  Laid BY PROGRAM, IN A SANDBOX (cutbox-rows.mjs): the forced cells as the released guide's own fill.sh prints them over the translation 1d3ab82c850bfe3e… (all of the seat's roots in one cut). By AI agents, Wed Nov 11 2026. No macro, syntax, notation, axiom, sorry.
-/
import Derived.Test.YtpainmnekgnpeaaChecked
import GoSem.Claim
import GoSem.ClaimJoined
import GoSem.ClaimMapViews
import Derived.JoinedTies
import Derived.KernelRfl
namespace Go.Proofs.Ytpainmnekgnpeaa
/- THE CELL 'sum', in the pinned program and in every row, IS THE sha256 OF THE DUMP (.gsa) THAT YtpainmnekgnpeaaProg.lean LOADS. Nothing in Lean hashes anything: it is a label: what it is worth is what the hold of that sum in a sandbox is worth. -/
noncomputable def Try.pinned : Pinned := { name := "ytpainmnekgnpeaa", sum := "1d3ab82c850bfe3ee2ee4b72a632f3a8e46e28a312f143f7af2d3e9f93634273", checked := Try.checked }
namespace Rows
def none {H : Type} : Left H := { results := [], args := [] }

/-- 'laws.FnExactCountWishes': WHATEVER THE INPUT: true; the input reads as it did. -/
def fnExactCountWishesSpec : ChangeSpec := { name := "fnExactCountWishes", fn := fun _ => fun
  | [d] => { results := [.lit (.bool true)], args := [d] }
  | _ => none }
def fnExactCountWishesRow : OpenClaim := { program := "ytpainmnekgnpeaa", sum := "1d3ab82c850bfe3ee2ee4b72a632f3a8e46e28a312f143f7af2d3e9f93634273", func := "loop.example/g03303/laws.FnExactCountWishes", spec := "fnExactCountWishes", apart := false }
def FnExactCountWishesSaid : Prop := fnExactCountWishesRow.holds Try.pinned (OpenSpec.ofChange fnExactCountWishesSpec)

/-- ITS FALSE NEIGHBOUR: 'it returns false'. Refute it at one input. -/
def fnExactCountWishesWrong : ChangeSpec := { name := "fnExactCountWishes", fn := fun _ => fun
  | [d] => { results := [.lit (.bool false)], args := [d] }
  | _ => none }
def FnExactCountWishesWrongFalsely : Prop := fnExactCountWishesRow.holds Try.pinned (OpenSpec.ofChange fnExactCountWishesWrong)

/-- 'laws.FnExactCountPanes': WHATEVER THE INPUT: true; the input reads as it did. -/
def fnExactCountPanesSpec : ChangeSpec := { name := "fnExactCountPanes", fn := fun _ => fun
  | [d] => { results := [.lit (.bool true)], args := [d] }
  | _ => none }
def fnExactCountPanesRow : OpenClaim := { program := "ytpainmnekgnpeaa", sum := "1d3ab82c850bfe3ee2ee4b72a632f3a8e46e28a312f143f7af2d3e9f93634273", func := "loop.example/g03303/laws.FnExactCountPanes", spec := "fnExactCountPanes", apart := false }
def FnExactCountPanesSaid : Prop := fnExactCountPanesRow.holds Try.pinned (OpenSpec.ofChange fnExactCountPanesSpec)

/-- ITS FALSE NEIGHBOUR: 'it returns false'. Refute it at one input. -/
def fnExactCountPanesWrong : ChangeSpec := { name := "fnExactCountPanes", fn := fun _ => fun
  | [d] => { results := [.lit (.bool false)], args := [d] }
  | _ => none }
def FnExactCountPanesWrongFalsely : Prop := fnExactCountPanesRow.holds Try.pinned (OpenSpec.ofChange fnExactCountPanesWrong)

/-- 'laws.FnExactIsForest': WHATEVER THE INPUT: true; the input reads as it did. -/
def fnExactIsForestSpec : ChangeSpec := { name := "fnExactIsForest", fn := fun _ => fun
  | [d] => { results := [.lit (.bool true)], args := [d] }
  | _ => none }
def fnExactIsForestRow : OpenClaim := { program := "ytpainmnekgnpeaa", sum := "1d3ab82c850bfe3ee2ee4b72a632f3a8e46e28a312f143f7af2d3e9f93634273", func := "loop.example/g03303/laws.FnExactIsForest", spec := "fnExactIsForest", apart := false }
def FnExactIsForestSaid : Prop := fnExactIsForestRow.holds Try.pinned (OpenSpec.ofChange fnExactIsForestSpec)

/-- ITS FALSE NEIGHBOUR: 'it returns false'. Refute it at one input. -/
def fnExactIsForestWrong : ChangeSpec := { name := "fnExactIsForest", fn := fun _ => fun
  | [d] => { results := [.lit (.bool false)], args := [d] }
  | _ => none }
def FnExactIsForestWrongFalsely : Prop := fnExactIsForestRow.holds Try.pinned (OpenSpec.ofChange fnExactIsForestWrong)

/-- 'laws.FnExactIsStraightNode': WHATEVER THE INPUT: true; the input reads as it did. -/
def fnExactIsStraightNodeSpec : ChangeSpec := { name := "fnExactIsStraightNode", fn := fun _ => fun
  | [d1, d2] => { results := [.lit (.bool true)], args := [d1, d2] }
  | _ => none }
def fnExactIsStraightNodeRow : OpenClaim := { program := "ytpainmnekgnpeaa", sum := "1d3ab82c850bfe3ee2ee4b72a632f3a8e46e28a312f143f7af2d3e9f93634273", func := "loop.example/g03303/laws.FnExactIsStraightNode", spec := "fnExactIsStraightNode", apart := false }
def FnExactIsStraightNodeSaid : Prop := fnExactIsStraightNodeRow.holds Try.pinned (OpenSpec.ofChange fnExactIsStraightNodeSpec)

/-- ITS FALSE NEIGHBOUR: 'it returns false'. Refute it at one input. -/
def fnExactIsStraightNodeWrong : ChangeSpec := { name := "fnExactIsStraightNode", fn := fun _ => fun
  | [d1, d2] => { results := [.lit (.bool false)], args := [d1, d2] }
  | _ => none }
def FnExactIsStraightNodeWrongFalsely : Prop := fnExactIsStraightNodeRow.holds Try.pinned (OpenSpec.ofChange fnExactIsStraightNodeWrong)

/-- 'laws.FnExactSplitLead': WHATEVER THE INPUT: true; the input reads as it did. -/
def fnExactSplitLeadSpec : ChangeSpec := { name := "fnExactSplitLead", fn := fun _ => fun
  | [d1, d2, d3] => { results := [.lit (.bool true)], args := [d1, d2, d3] }
  | _ => none }
def fnExactSplitLeadRow : OpenClaim := { program := "ytpainmnekgnpeaa", sum := "1d3ab82c850bfe3ee2ee4b72a632f3a8e46e28a312f143f7af2d3e9f93634273", func := "loop.example/g03303/laws.FnExactSplitLead", spec := "fnExactSplitLead", apart := false }
def FnExactSplitLeadSaid : Prop := fnExactSplitLeadRow.holds Try.pinned (OpenSpec.ofChange fnExactSplitLeadSpec)

/-- ITS FALSE NEIGHBOUR: 'it returns false'. Refute it at one input. -/
def fnExactSplitLeadWrong : ChangeSpec := { name := "fnExactSplitLead", fn := fun _ => fun
  | [d1, d2, d3] => { results := [.lit (.bool false)], args := [d1, d2, d3] }
  | _ => none }
def FnExactSplitLeadWrongFalsely : Prop := fnExactSplitLeadRow.holds Try.pinned (OpenSpec.ofChange fnExactSplitLeadWrong)

/-- 'laws.FnExactPartOf': WHATEVER THE INPUT: true; the input reads as it did. -/
def fnExactPartOfSpec : ChangeSpec := { name := "fnExactPartOf", fn := fun _ => fun
  | [d1, d2] => { results := [.lit (.bool true)], args := [d1, d2] }
  | _ => none }
def fnExactPartOfRow : OpenClaim := { program := "ytpainmnekgnpeaa", sum := "1d3ab82c850bfe3ee2ee4b72a632f3a8e46e28a312f143f7af2d3e9f93634273", func := "loop.example/g03303/laws.FnExactPartOf", spec := "fnExactPartOf", apart := false }
def FnExactPartOfSaid : Prop := fnExactPartOfRow.holds Try.pinned (OpenSpec.ofChange fnExactPartOfSpec)

/-- ITS FALSE NEIGHBOUR: 'it returns false'. Refute it at one input. -/
def fnExactPartOfWrong : ChangeSpec := { name := "fnExactPartOf", fn := fun _ => fun
  | [d1, d2] => { results := [.lit (.bool false)], args := [d1, d2] }
  | _ => none }
def FnExactPartOfWrongFalsely : Prop := fnExactPartOfRow.holds Try.pinned (OpenSpec.ofChange fnExactPartOfWrong)

/-- 'laws.FnExactDropNode': WHATEVER THE INPUT: true; the input reads as it did. -/
def fnExactDropNodeSpec : ChangeSpec := { name := "fnExactDropNode", fn := fun _ => fun
  | [d1, d2] => { results := [.lit (.bool true)], args := [d1, d2] }
  | _ => none }
def fnExactDropNodeRow : OpenClaim := { program := "ytpainmnekgnpeaa", sum := "1d3ab82c850bfe3ee2ee4b72a632f3a8e46e28a312f143f7af2d3e9f93634273", func := "loop.example/g03303/laws.FnExactDropNode", spec := "fnExactDropNode", unfollowed := true, recurses := true, apart := false }
def FnExactDropNodeSaid : Prop := fnExactDropNodeRow.holds Try.pinned (OpenSpec.ofChange fnExactDropNodeSpec)

/-- ITS FALSE NEIGHBOUR: 'it returns false'. Refute it at one input. -/
def fnExactDropNodeWrong : ChangeSpec := { name := "fnExactDropNode", fn := fun _ => fun
  | [d1, d2] => { results := [.lit (.bool false)], args := [d1, d2] }
  | _ => none }
def FnExactDropNodeWrongFalsely : Prop := fnExactDropNodeRow.holds Try.pinned (OpenSpec.ofChange fnExactDropNodeWrong)

/-- 'laws.FnExactIsSpanning': WHATEVER THE INPUT: true; the input reads as it did. -/
def fnExactIsSpanningSpec : ChangeSpec := { name := "fnExactIsSpanning", fn := fun _ => fun
  | [d1, d2] => { results := [.lit (.bool true)], args := [d1, d2] }
  | _ => none }
def fnExactIsSpanningRow : OpenClaim := { program := "ytpainmnekgnpeaa", sum := "1d3ab82c850bfe3ee2ee4b72a632f3a8e46e28a312f143f7af2d3e9f93634273", func := "loop.example/g03303/laws.FnExactIsSpanning", spec := "fnExactIsSpanning", apart := false }
def FnExactIsSpanningSaid : Prop := fnExactIsSpanningRow.holds Try.pinned (OpenSpec.ofChange fnExactIsSpanningSpec)

/-- ITS FALSE NEIGHBOUR: 'it returns false'. Refute it at one input. -/
def fnExactIsSpanningWrong : ChangeSpec := { name := "fnExactIsSpanning", fn := fun _ => fun
  | [d1, d2] => { results := [.lit (.bool false)], args := [d1, d2] }
  | _ => none }
def FnExactIsSpanningWrongFalsely : Prop := fnExactIsSpanningRow.holds Try.pinned (OpenSpec.ofChange fnExactIsSpanningWrong)

/-- 'laws.FnExactEndNodes': WHATEVER THE INPUT: true; the input reads as it did. -/
def fnExactEndNodesSpec : ChangeSpec := { name := "fnExactEndNodes", fn := fun _ => fun
  | [d] => { results := [.lit (.bool true)], args := [d] }
  | _ => none }
def fnExactEndNodesRow : OpenClaim := { program := "ytpainmnekgnpeaa", sum := "1d3ab82c850bfe3ee2ee4b72a632f3a8e46e28a312f143f7af2d3e9f93634273", func := "loop.example/g03303/laws.FnExactEndNodes", spec := "fnExactEndNodes", apart := false }
def FnExactEndNodesSaid : Prop := fnExactEndNodesRow.holds Try.pinned (OpenSpec.ofChange fnExactEndNodesSpec)

/-- ITS FALSE NEIGHBOUR: 'it returns false'. Refute it at one input. -/
def fnExactEndNodesWrong : ChangeSpec := { name := "fnExactEndNodes", fn := fun _ => fun
  | [d] => { results := [.lit (.bool false)], args := [d] }
  | _ => none }
def FnExactEndNodesWrongFalsely : Prop := fnExactEndNodesRow.holds Try.pinned (OpenSpec.ofChange fnExactEndNodesWrong)

/-- 'laws.FnExactStraightNodes': WHATEVER THE INPUT: true; the input reads as it did. -/
def fnExactStraightNodesSpec : ChangeSpec := { name := "fnExactStraightNodes", fn := fun _ => fun
  | [d] => { results := [.lit (.bool true)], args := [d] }
  | _ => none }
def fnExactStraightNodesRow : OpenClaim := { program := "ytpainmnekgnpeaa", sum := "1d3ab82c850bfe3ee2ee4b72a632f3a8e46e28a312f143f7af2d3e9f93634273", func := "loop.example/g03303/laws.FnExactStraightNodes", spec := "fnExactStraightNodes", apart := false }
def FnExactStraightNodesSaid : Prop := fnExactStraightNodesRow.holds Try.pinned (OpenSpec.ofChange fnExactStraightNodesSpec)

/-- ITS FALSE NEIGHBOUR: 'it returns false'. Refute it at one input. -/
def fnExactStraightNodesWrong : ChangeSpec := { name := "fnExactStraightNodes", fn := fun _ => fun
  | [d] => { results := [.lit (.bool false)], args := [d] }
  | _ => none }
def FnExactStraightNodesWrongFalsely : Prop := fnExactStraightNodesRow.holds Try.pinned (OpenSpec.ofChange fnExactStraightNodesWrong)

/-- 'laws.FnExactFirstSpanning': WHATEVER THE INPUT: true; the input reads as it did. -/
def fnExactFirstSpanningSpec : ChangeSpec := { name := "fnExactFirstSpanning", fn := fun _ => fun
  | [d] => { results := [.lit (.bool true)], args := [d] }
  | _ => none }
def fnExactFirstSpanningRow : OpenClaim := { program := "ytpainmnekgnpeaa", sum := "1d3ab82c850bfe3ee2ee4b72a632f3a8e46e28a312f143f7af2d3e9f93634273", func := "loop.example/g03303/laws.FnExactFirstSpanning", spec := "fnExactFirstSpanning", apart := false }
def FnExactFirstSpanningSaid : Prop := fnExactFirstSpanningRow.holds Try.pinned (OpenSpec.ofChange fnExactFirstSpanningSpec)

/-- ITS FALSE NEIGHBOUR: 'it returns false'. Refute it at one input. -/
def fnExactFirstSpanningWrong : ChangeSpec := { name := "fnExactFirstSpanning", fn := fun _ => fun
  | [d] => { results := [.lit (.bool false)], args := [d] }
  | _ => none }
def FnExactFirstSpanningWrongFalsely : Prop := fnExactFirstSpanningRow.holds Try.pinned (OpenSpec.ofChange fnExactFirstSpanningWrong)

/-- 'laws.FnExactCountSpanning': WHATEVER THE INPUT: true; the input reads as it did. -/
def fnExactCountSpanningSpec : ChangeSpec := { name := "fnExactCountSpanning", fn := fun _ => fun
  | [d] => { results := [.lit (.bool true)], args := [d] }
  | _ => none }
def fnExactCountSpanningRow : OpenClaim := { program := "ytpainmnekgnpeaa", sum := "1d3ab82c850bfe3ee2ee4b72a632f3a8e46e28a312f143f7af2d3e9f93634273", func := "loop.example/g03303/laws.FnExactCountSpanning", spec := "fnExactCountSpanning", apart := false }
def FnExactCountSpanningSaid : Prop := fnExactCountSpanningRow.holds Try.pinned (OpenSpec.ofChange fnExactCountSpanningSpec)

/-- ITS FALSE NEIGHBOUR: 'it returns false'. Refute it at one input. -/
def fnExactCountSpanningWrong : ChangeSpec := { name := "fnExactCountSpanning", fn := fun _ => fun
  | [d] => { results := [.lit (.bool false)], args := [d] }
  | _ => none }
def FnExactCountSpanningWrongFalsely : Prop := fnExactCountSpanningRow.holds Try.pinned (OpenSpec.ofChange fnExactCountSpanningWrong)

/- THE SECOND FORM. 'bulk': how many values and letters a reading holds, each counted each time it is reached (what is shared counts as often as it is met; a slice's spare places count too). A statement '..UptoSaid' is the law's where the arguments, and the package variables that the reading takes, are together of bulk at most 1048576: NARROWER than '..Said'. Prove '..Said' where nothing that the law and all that it calls make is longer than what came in: it says more and counts as full. Else prove '..UptoSaid'. A law counts once. -/
mutual
def uptoBulk {H : Type} : DataW H → Nat
  | .lit (.string bytes) => bytes.length + 1
  | .lit _ => 1
  | .nil => 1
  | .ptr d => uptoBulk d + 1
  | .slice elems spare => uptoBulkAll elems + uptoBulkAll spare + 1
  | .agg parts => uptoBulkAll parts + 1
  | .iface _ d => uptoBulk d + 1
  | .map entries => uptoBulkEntries entries + 1
  | .held _ => 1
def uptoBulkAll {H : Type} : List (DataW H) → Nat
  | [] => 0
  | d :: r => uptoBulk d + uptoBulkAll r
def uptoBulkEntries {H : Type} : List (Lit × DataW H) → Nat
  | [] => 0
  | x :: r => uptoBulkEntry x + uptoBulkEntries r
def uptoBulkEntry {H : Type} : Lit × DataW H → Nat
  | (.string bytes, d) => bytes.length + uptoBulk d + 1
  | (_, d) => uptoBulk d + 1
 end
def uptoSmall : (H : Type) → List (DataW H) → Bool := fun _ ds => decide (uptoBulkAll ds ≤ 1048576)
def OpenSpec.upto (s : _root_.Go.ChangeSpec) : _root_.Go.OpenSpec := { _root_.Go.OpenSpec.ofChange s with cond := some uptoSmall }

/-- 'laws.FnExactCountWishes', WHERE WHAT IT READS IS OF BULK AT MOST 1048576: true; the input reads as it did. -/
def fnExactCountWishesUptoRow : OpenClaim := { program := "ytpainmnekgnpeaa", sum := "1d3ab82c850bfe3ee2ee4b72a632f3a8e46e28a312f143f7af2d3e9f93634273", func := "loop.example/g03303/laws.FnExactCountWishes", spec := "fnExactCountWishes", apart := false, narrowed := true }
def FnExactCountWishesUptoSaid : Prop := fnExactCountWishesUptoRow.holds Try.pinned (OpenSpec.upto fnExactCountWishesSpec)

/-- 'laws.FnExactCountPanes', WHERE WHAT IT READS IS OF BULK AT MOST 1048576: true; the input reads as it did. -/
def fnExactCountPanesUptoRow : OpenClaim := { program := "ytpainmnekgnpeaa", sum := "1d3ab82c850bfe3ee2ee4b72a632f3a8e46e28a312f143f7af2d3e9f93634273", func := "loop.example/g03303/laws.FnExactCountPanes", spec := "fnExactCountPanes", apart := false, narrowed := true }
def FnExactCountPanesUptoSaid : Prop := fnExactCountPanesUptoRow.holds Try.pinned (OpenSpec.upto fnExactCountPanesSpec)

/-- 'laws.FnExactIsForest', WHERE WHAT IT READS IS OF BULK AT MOST 1048576: true; the input reads as it did. -/
def fnExactIsForestUptoRow : OpenClaim := { program := "ytpainmnekgnpeaa", sum := "1d3ab82c850bfe3ee2ee4b72a632f3a8e46e28a312f143f7af2d3e9f93634273", func := "loop.example/g03303/laws.FnExactIsForest", spec := "fnExactIsForest", apart := false, narrowed := true }
def FnExactIsForestUptoSaid : Prop := fnExactIsForestUptoRow.holds Try.pinned (OpenSpec.upto fnExactIsForestSpec)

/-- 'laws.FnExactIsStraightNode', WHERE WHAT IT READS IS OF BULK AT MOST 1048576: true; the input reads as it did. -/
def fnExactIsStraightNodeUptoRow : OpenClaim := { program := "ytpainmnekgnpeaa", sum := "1d3ab82c850bfe3ee2ee4b72a632f3a8e46e28a312f143f7af2d3e9f93634273", func := "loop.example/g03303/laws.FnExactIsStraightNode", spec := "fnExactIsStraightNode", apart := false, narrowed := true }
def FnExactIsStraightNodeUptoSaid : Prop := fnExactIsStraightNodeUptoRow.holds Try.pinned (OpenSpec.upto fnExactIsStraightNodeSpec)

/-- 'laws.FnExactSplitLead', WHERE WHAT IT READS IS OF BULK AT MOST 1048576: true; the input reads as it did. -/
def fnExactSplitLeadUptoRow : OpenClaim := { program := "ytpainmnekgnpeaa", sum := "1d3ab82c850bfe3ee2ee4b72a632f3a8e46e28a312f143f7af2d3e9f93634273", func := "loop.example/g03303/laws.FnExactSplitLead", spec := "fnExactSplitLead", apart := false, narrowed := true }
def FnExactSplitLeadUptoSaid : Prop := fnExactSplitLeadUptoRow.holds Try.pinned (OpenSpec.upto fnExactSplitLeadSpec)

/-- 'laws.FnExactPartOf', WHERE WHAT IT READS IS OF BULK AT MOST 1048576: true; the input reads as it did. -/
def fnExactPartOfUptoRow : OpenClaim := { program := "ytpainmnekgnpeaa", sum := "1d3ab82c850bfe3ee2ee4b72a632f3a8e46e28a312f143f7af2d3e9f93634273", func := "loop.example/g03303/laws.FnExactPartOf", spec := "fnExactPartOf", apart := false, narrowed := true }
def FnExactPartOfUptoSaid : Prop := fnExactPartOfUptoRow.holds Try.pinned (OpenSpec.upto fnExactPartOfSpec)

/-- 'laws.FnExactDropNode', WHERE WHAT IT READS IS OF BULK AT MOST 1048576: true; the input reads as it did. -/
def fnExactDropNodeUptoRow : OpenClaim := { program := "ytpainmnekgnpeaa", sum := "1d3ab82c850bfe3ee2ee4b72a632f3a8e46e28a312f143f7af2d3e9f93634273", func := "loop.example/g03303/laws.FnExactDropNode", spec := "fnExactDropNode", unfollowed := true, recurses := true, apart := false, narrowed := true }
def FnExactDropNodeUptoSaid : Prop := fnExactDropNodeUptoRow.holds Try.pinned (OpenSpec.upto fnExactDropNodeSpec)

/-- 'laws.FnExactIsSpanning', WHERE WHAT IT READS IS OF BULK AT MOST 1048576: true; the input reads as it did. -/
def fnExactIsSpanningUptoRow : OpenClaim := { program := "ytpainmnekgnpeaa", sum := "1d3ab82c850bfe3ee2ee4b72a632f3a8e46e28a312f143f7af2d3e9f93634273", func := "loop.example/g03303/laws.FnExactIsSpanning", spec := "fnExactIsSpanning", apart := false, narrowed := true }
def FnExactIsSpanningUptoSaid : Prop := fnExactIsSpanningUptoRow.holds Try.pinned (OpenSpec.upto fnExactIsSpanningSpec)

/-- 'laws.FnExactEndNodes', WHERE WHAT IT READS IS OF BULK AT MOST 1048576: true; the input reads as it did. -/
def fnExactEndNodesUptoRow : OpenClaim := { program := "ytpainmnekgnpeaa", sum := "1d3ab82c850bfe3ee2ee4b72a632f3a8e46e28a312f143f7af2d3e9f93634273", func := "loop.example/g03303/laws.FnExactEndNodes", spec := "fnExactEndNodes", apart := false, narrowed := true }
def FnExactEndNodesUptoSaid : Prop := fnExactEndNodesUptoRow.holds Try.pinned (OpenSpec.upto fnExactEndNodesSpec)

/-- 'laws.FnExactStraightNodes', WHERE WHAT IT READS IS OF BULK AT MOST 1048576: true; the input reads as it did. -/
def fnExactStraightNodesUptoRow : OpenClaim := { program := "ytpainmnekgnpeaa", sum := "1d3ab82c850bfe3ee2ee4b72a632f3a8e46e28a312f143f7af2d3e9f93634273", func := "loop.example/g03303/laws.FnExactStraightNodes", spec := "fnExactStraightNodes", apart := false, narrowed := true }
def FnExactStraightNodesUptoSaid : Prop := fnExactStraightNodesUptoRow.holds Try.pinned (OpenSpec.upto fnExactStraightNodesSpec)

/-- 'laws.FnExactFirstSpanning', WHERE WHAT IT READS IS OF BULK AT MOST 1048576: true; the input reads as it did. -/
def fnExactFirstSpanningUptoRow : OpenClaim := { program := "ytpainmnekgnpeaa", sum := "1d3ab82c850bfe3ee2ee4b72a632f3a8e46e28a312f143f7af2d3e9f93634273", func := "loop.example/g03303/laws.FnExactFirstSpanning", spec := "fnExactFirstSpanning", apart := false, narrowed := true }
def FnExactFirstSpanningUptoSaid : Prop := fnExactFirstSpanningUptoRow.holds Try.pinned (OpenSpec.upto fnExactFirstSpanningSpec)

/-- 'laws.FnExactCountSpanning', WHERE WHAT IT READS IS OF BULK AT MOST 1048576: true; the input reads as it did. -/
def fnExactCountSpanningUptoRow : OpenClaim := { program := "ytpainmnekgnpeaa", sum := "1d3ab82c850bfe3ee2ee4b72a632f3a8e46e28a312f143f7af2d3e9f93634273", func := "loop.example/g03303/laws.FnExactCountSpanning", spec := "fnExactCountSpanning", apart := false, narrowed := true }
def FnExactCountSpanningUptoSaid : Prop := fnExactCountSpanningUptoRow.holds Try.pinned (OpenSpec.upto fnExactCountSpanningSpec)

end Rows
end Go.Proofs.Ytpainmnekgnpeaa
