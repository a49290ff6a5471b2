/-
  No cell of these rows narrows 'for every input' (looked for: loops, veiled, ifaces, maps, wideKeys, modest, calm, conditions, laid).
  DERIVED. THE GIVEN ROWS OF THIS SEAT. 5 by the template 'for every input the law returns true; each argument reads behind the call as it read before'; 0 by the template 'total and deterministic' (their statements: YtfhemddonahjgaaTotals.lean).
  GIVEN WITH THE SEED: the statements are not yours to turn. If you find one false, say at which input.
  Laid BY PROGRAM, IN A SANDBOX (cutbox-rows.mjs): the forced cells as the released guide's own fill.sh prints them over the translation 4bd6ee960b0b345f… (all of the seat's roots in one cut). By AI agents, Wed Nov 11 2026. No macro, syntax, notation, axiom, sorry.
-/
import Derived.Test.YtfhemddonahjgaaChecked
import GoSem.Claim
import GoSem.ClaimJoined
import GoSem.ClaimMapViews
import Derived.JoinedTies
import Derived.KernelRfl
namespace Go.Proofs.Ytfhemddonahjgaa
/- THE CELL 'sum', in the pinned program and in every row, IS THE sha256 OF THE DUMP (.gsa) THAT YtfhemddonahjgaaProg.lean LOADS. Nothing in Lean hashes anything: it is a label: what it is worth is what the hold of that sum in a sandbox is worth. -/
noncomputable def Try.pinned : Pinned := { name := "ytfhemddonahjgaa", sum := "4bd6ee960b0b345f64a4815db163d4a8a8dcda8cdf5c9eb2c7eb89482b106706", checked := Try.checked }
namespace Rows
def none {H : Type} : Left H := { results := [], args := [] }

/-- 'laws.FnExactSplitLead': WHATEVER THE INPUT: true; the input reads as it did. -/
def fnExactSplitLeadSpec : ChangeSpec := { name := "fnExactSplitLead", fn := fun _ => fun
  | [d1, d2, d3] => { results := [.lit (.bool true)], args := [d1, d2, d3] }
  | _ => none }
def fnExactSplitLeadRow : OpenClaim := { program := "ytfhemddonahjgaa", sum := "4bd6ee960b0b345f64a4815db163d4a8a8dcda8cdf5c9eb2c7eb89482b106706", func := "loop.example/g03303/laws.FnExactSplitLead", spec := "fnExactSplitLead", apart := false }
def FnExactSplitLeadSaid : Prop := fnExactSplitLeadRow.holds Try.pinned (OpenSpec.ofChange fnExactSplitLeadSpec)

/-- ITS FALSE NEIGHBOUR: 'it returns false'. Refute it at one input. -/
def fnExactSplitLeadWrong : ChangeSpec := { name := "fnExactSplitLead", fn := fun _ => fun
  | [d1, d2, d3] => { results := [.lit (.bool false)], args := [d1, d2, d3] }
  | _ => none }
def FnExactSplitLeadWrongFalsely : Prop := fnExactSplitLeadRow.holds Try.pinned (OpenSpec.ofChange fnExactSplitLeadWrong)

/-- 'laws.FnExactDropNode': WHATEVER THE INPUT: true; the input reads as it did. -/
def fnExactDropNodeSpec : ChangeSpec := { name := "fnExactDropNode", fn := fun _ => fun
  | [d1, d2] => { results := [.lit (.bool true)], args := [d1, d2] }
  | _ => none }
def fnExactDropNodeRow : OpenClaim := { program := "ytfhemddonahjgaa", sum := "4bd6ee960b0b345f64a4815db163d4a8a8dcda8cdf5c9eb2c7eb89482b106706", func := "loop.example/g03303/laws.FnExactDropNode", spec := "fnExactDropNode", unfollowed := true, recurses := true, apart := false }
def FnExactDropNodeSaid : Prop := fnExactDropNodeRow.holds Try.pinned (OpenSpec.ofChange fnExactDropNodeSpec)

/-- ITS FALSE NEIGHBOUR: 'it returns false'. Refute it at one input. -/
def fnExactDropNodeWrong : ChangeSpec := { name := "fnExactDropNode", fn := fun _ => fun
  | [d1, d2] => { results := [.lit (.bool false)], args := [d1, d2] }
  | _ => none }
def FnExactDropNodeWrongFalsely : Prop := fnExactDropNodeRow.holds Try.pinned (OpenSpec.ofChange fnExactDropNodeWrong)

/-- 'laws.FnExactJoinLeads': WHATEVER THE INPUT: true; the input reads as it did. -/
def fnExactJoinLeadsSpec : ChangeSpec := { name := "fnExactJoinLeads", fn := fun _ => fun
  | [d1, d2] => { results := [.lit (.bool true)], args := [d1, d2] }
  | _ => none }
def fnExactJoinLeadsRow : OpenClaim := { program := "ytfhemddonahjgaa", sum := "4bd6ee960b0b345f64a4815db163d4a8a8dcda8cdf5c9eb2c7eb89482b106706", func := "loop.example/g03303/laws.FnExactJoinLeads", spec := "fnExactJoinLeads", unfollowed := true, recurses := true, apart := false }
def FnExactJoinLeadsSaid : Prop := fnExactJoinLeadsRow.holds Try.pinned (OpenSpec.ofChange fnExactJoinLeadsSpec)

/-- ITS FALSE NEIGHBOUR: 'it returns false'. Refute it at one input. -/
def fnExactJoinLeadsWrong : ChangeSpec := { name := "fnExactJoinLeads", fn := fun _ => fun
  | [d1, d2] => { results := [.lit (.bool false)], args := [d1, d2] }
  | _ => none }
def FnExactJoinLeadsWrongFalsely : Prop := fnExactJoinLeadsRow.holds Try.pinned (OpenSpec.ofChange fnExactJoinLeadsWrong)

/-- 'laws.FnExactSimplify': WHATEVER THE INPUT: true; the input reads as it did. -/
def fnExactSimplifySpec : ChangeSpec := { name := "fnExactSimplify", fn := fun _ => fun
  | [d] => { results := [.lit (.bool true)], args := [d] }
  | _ => none }
def fnExactSimplifyRow : OpenClaim := { program := "ytfhemddonahjgaa", sum := "4bd6ee960b0b345f64a4815db163d4a8a8dcda8cdf5c9eb2c7eb89482b106706", func := "loop.example/g03303/laws.FnExactSimplify", spec := "fnExactSimplify", unfollowed := true, recurses := true, apart := false }
def FnExactSimplifySaid : Prop := fnExactSimplifyRow.holds Try.pinned (OpenSpec.ofChange fnExactSimplifySpec)

/-- ITS FALSE NEIGHBOUR: 'it returns false'. Refute it at one input. -/
def fnExactSimplifyWrong : ChangeSpec := { name := "fnExactSimplify", fn := fun _ => fun
  | [d] => { results := [.lit (.bool false)], args := [d] }
  | _ => none }
def FnExactSimplifyWrongFalsely : Prop := fnExactSimplifyRow.holds Try.pinned (OpenSpec.ofChange fnExactSimplifyWrong)

/-- 'laws.FnExactPruneEnds': WHATEVER THE INPUT: true; the input reads as it did. -/
def fnExactPruneEndsSpec : ChangeSpec := { name := "fnExactPruneEnds", fn := fun _ => fun
  | [d] => { results := [.lit (.bool true)], args := [d] }
  | _ => none }
def fnExactPruneEndsRow : OpenClaim := { program := "ytfhemddonahjgaa", sum := "4bd6ee960b0b345f64a4815db163d4a8a8dcda8cdf5c9eb2c7eb89482b106706", func := "loop.example/g03303/laws.FnExactPruneEnds", spec := "fnExactPruneEnds", unfollowed := true, recurses := true, apart := false }
def FnExactPruneEndsSaid : Prop := fnExactPruneEndsRow.holds Try.pinned (OpenSpec.ofChange fnExactPruneEndsSpec)

/-- ITS FALSE NEIGHBOUR: 'it returns false'. Refute it at one input. -/
def fnExactPruneEndsWrong : ChangeSpec := { name := "fnExactPruneEnds", fn := fun _ => fun
  | [d] => { results := [.lit (.bool false)], args := [d] }
  | _ => none }
def FnExactPruneEndsWrongFalsely : Prop := fnExactPruneEndsRow.holds Try.pinned (OpenSpec.ofChange fnExactPruneEndsWrong)

/- THE SECOND FORM. 'bulk': how many values and letters a reading holds, each counted each time it is reached (what is shared counts as often as it is met; a slice's spare places count too). A statement '..UptoSaid' is the law's where the arguments, and the package variables that the reading takes, are together of bulk at most 1048576: NARROWER than '..Said'. Prove '..Said' where nothing that the law and all that it calls make is longer than what came in: it says more and counts as full. Else prove '..UptoSaid'. A law counts once. -/
mutual
def uptoBulk {H : Type} : DataW H → Nat
  | .lit (.string bytes) => bytes.length + 1
  | .lit _ => 1
  | .nil => 1
  | .ptr d => uptoBulk d + 1
  | .slice elems spare => uptoBulkAll elems + uptoBulkAll spare + 1
  | .agg parts => uptoBulkAll parts + 1
  | .iface _ d => uptoBulk d + 1
  | .map entries => uptoBulkEntries entries + 1
  | .held _ => 1
def uptoBulkAll {H : Type} : List (DataW H) → Nat
  | [] => 0
  | d :: r => uptoBulk d + uptoBulkAll r
def uptoBulkEntries {H : Type} : List (Lit × DataW H) → Nat
  | [] => 0
  | x :: r => uptoBulkEntry x + uptoBulkEntries r
def uptoBulkEntry {H : Type} : Lit × DataW H → Nat
  | (.string bytes, d) => bytes.length + uptoBulk d + 1
  | (_, d) => uptoBulk d + 1
 end
def uptoSmall : (H : Type) → List (DataW H) → Bool := fun _ ds => decide (uptoBulkAll ds ≤ 1048576)
def OpenSpec.upto (s : _root_.Go.ChangeSpec) : _root_.Go.OpenSpec := { _root_.Go.OpenSpec.ofChange s with cond := some uptoSmall }

/-- 'laws.FnExactSplitLead', WHERE WHAT IT READS IS OF BULK AT MOST 1048576: true; the input reads as it did. -/
def fnExactSplitLeadUptoRow : OpenClaim := { program := "ytfhemddonahjgaa", sum := "4bd6ee960b0b345f64a4815db163d4a8a8dcda8cdf5c9eb2c7eb89482b106706", func := "loop.example/g03303/laws.FnExactSplitLead", spec := "fnExactSplitLead", apart := false, narrowed := true }
def FnExactSplitLeadUptoSaid : Prop := fnExactSplitLeadUptoRow.holds Try.pinned (OpenSpec.upto fnExactSplitLeadSpec)

/-- 'laws.FnExactDropNode', WHERE WHAT IT READS IS OF BULK AT MOST 1048576: true; the input reads as it did. -/
def fnExactDropNodeUptoRow : OpenClaim := { program := "ytfhemddonahjgaa", sum := "4bd6ee960b0b345f64a4815db163d4a8a8dcda8cdf5c9eb2c7eb89482b106706", func := "loop.example/g03303/laws.FnExactDropNode", spec := "fnExactDropNode", unfollowed := true, recurses := true, apart := false, narrowed := true }
def FnExactDropNodeUptoSaid : Prop := fnExactDropNodeUptoRow.holds Try.pinned (OpenSpec.upto fnExactDropNodeSpec)

/-- 'laws.FnExactJoinLeads', WHERE WHAT IT READS IS OF BULK AT MOST 1048576: true; the input reads as it did. -/
def fnExactJoinLeadsUptoRow : OpenClaim := { program := "ytfhemddonahjgaa", sum := "4bd6ee960b0b345f64a4815db163d4a8a8dcda8cdf5c9eb2c7eb89482b106706", func := "loop.example/g03303/laws.FnExactJoinLeads", spec := "fnExactJoinLeads", unfollowed := true, recurses := true, apart := false, narrowed := true }
def FnExactJoinLeadsUptoSaid : Prop := fnExactJoinLeadsUptoRow.holds Try.pinned (OpenSpec.upto fnExactJoinLeadsSpec)

/-- 'laws.FnExactSimplify', WHERE WHAT IT READS IS OF BULK AT MOST 1048576: true; the input reads as it did. -/
def fnExactSimplifyUptoRow : OpenClaim := { program := "ytfhemddonahjgaa", sum := "4bd6ee960b0b345f64a4815db163d4a8a8dcda8cdf5c9eb2c7eb89482b106706", func := "loop.example/g03303/laws.FnExactSimplify", spec := "fnExactSimplify", unfollowed := true, recurses := true, apart := false, narrowed := true }
def FnExactSimplifyUptoSaid : Prop := fnExactSimplifyUptoRow.holds Try.pinned (OpenSpec.upto fnExactSimplifySpec)

/-- 'laws.FnExactPruneEnds', WHERE WHAT IT READS IS OF BULK AT MOST 1048576: true; the input reads as it did. -/
def fnExactPruneEndsUptoRow : OpenClaim := { program := "ytfhemddonahjgaa", sum := "4bd6ee960b0b345f64a4815db163d4a8a8dcda8cdf5c9eb2c7eb89482b106706", func := "loop.example/g03303/laws.FnExactPruneEnds", spec := "fnExactPruneEnds", unfollowed := true, recurses := true, apart := false, narrowed := true }
def FnExactPruneEndsUptoSaid : Prop := fnExactPruneEndsUptoRow.holds Try.pinned (OpenSpec.upto fnExactPruneEndsSpec)

end Rows
end Go.Proofs.Ytfhemddonahjgaa
