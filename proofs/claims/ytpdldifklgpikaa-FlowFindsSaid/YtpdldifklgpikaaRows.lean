/-
  No cell of these rows narrows 'for every input' (looked for: loops, veiled, ifaces, maps, wideKeys, modest, calm, conditions, laid).
  DERIVED. THE GIVEN ROWS OF THIS SEAT. 7 by the template 'for every input the law returns true; each argument reads behind the call as it read before'; 0 by the template 'total and deterministic' (their statements: YtpdldifklgpikaaTotals.lean).
  GIVEN WITH THE SEED: the statements are not yours to turn. If you find one false, say at which input.
  Laid BY PROGRAM, IN A SANDBOX (cutbox-rows.mjs): the forced cells as the released guide's own fill.sh prints them over the translation cac855b2f81254f8… (all of the seat's roots in one cut). By AI agents, Wed Nov 11 2026. No macro, syntax, notation, axiom, sorry.
-/
import Derived.Test.YtpdldifklgpikaaChecked
import GoSem.Claim
import GoSem.ClaimJoined
import GoSem.ClaimMapViews
import Derived.JoinedTies
import Derived.KernelRfl
namespace Go.Proofs.Ytpdldifklgpikaa
/- THE CELL 'sum', in the pinned program and in every row, IS THE sha256 OF THE DUMP (.gsa) THAT YtpdldifklgpikaaProg.lean LOADS. Nothing in Lean hashes anything: it is a label: what it is worth is what the hold of that sum in a sandbox is worth. -/
noncomputable def Try.pinned : Pinned := { name := "ytpdldifklgpikaa", sum := "cac855b2f81254f89c607c8fc7062c21e1c2aac777f71613e382afab11b731bd", checked := Try.checked }
namespace Rows
def none {H : Type} : Left H := { results := [], args := [] }

/-- 'parcenerlaw25.FlowFinds': WHATEVER THE INPUT: true; the input reads as it did. -/
def flowFindsSpec : ChangeSpec := { name := "flowFinds", fn := fun _ => fun
  | [d] => { results := [.lit (.bool true)], args := [d] }
  | _ => none }
def flowFindsRow : OpenClaim := { program := "ytpdldifklgpikaa", sum := "cac855b2f81254f89c607c8fc7062c21e1c2aac777f71613e382afab11b731bd", func := "parcener/parcenerlaw25.FlowFinds", spec := "flowFinds", unfollowed := true, recurses := true, apart := false }
def FlowFindsSaid : Prop := flowFindsRow.holds Try.pinned (OpenSpec.ofChange flowFindsSpec)

/-- ITS FALSE NEIGHBOUR: 'it returns false'. Refute it at one input. -/
def flowFindsWrong : ChangeSpec := { name := "flowFinds", fn := fun _ => fun
  | [d] => { results := [.lit (.bool false)], args := [d] }
  | _ => none }
def FlowFindsWrongFalsely : Prop := flowFindsRow.holds Try.pinned (OpenSpec.ofChange flowFindsWrong)

/-- 'parcenerlaw25.FlowAsks': WHATEVER THE INPUT: true; the input reads as it did. -/
def flowAsksSpec : ChangeSpec := { name := "flowAsks", fn := fun _ => fun
  | [d1, d2, d3] => { results := [.lit (.bool true)], args := [d1, d2, d3] }
  | _ => none }
def flowAsksRow : OpenClaim := { program := "ytpdldifklgpikaa", sum := "cac855b2f81254f89c607c8fc7062c21e1c2aac777f71613e382afab11b731bd", func := "parcener/parcenerlaw25.FlowAsks", spec := "flowAsks", unfollowed := true, recurses := true, apart := false }
def FlowAsksSaid : Prop := flowAsksRow.holds Try.pinned (OpenSpec.ofChange flowAsksSpec)

/-- ITS FALSE NEIGHBOUR: 'it returns false'. Refute it at one input. -/
def flowAsksWrong : ChangeSpec := { name := "flowAsks", fn := fun _ => fun
  | [d1, d2, d3] => { results := [.lit (.bool false)], args := [d1, d2, d3] }
  | _ => none }
def FlowAsksWrongFalsely : Prop := flowAsksRow.holds Try.pinned (OpenSpec.ofChange flowAsksWrong)

/-- 'parcenerlaw25.FlowBounds': WHATEVER THE INPUT: true; the input reads as it did. -/
def flowBoundsSpec : ChangeSpec := { name := "flowBounds", fn := fun _ => fun
  | [d1, d2, d3] => { results := [.lit (.bool true)], args := [d1, d2, d3] }
  | _ => none }
def flowBoundsRow : OpenClaim := { program := "ytpdldifklgpikaa", sum := "cac855b2f81254f89c607c8fc7062c21e1c2aac777f71613e382afab11b731bd", func := "parcener/parcenerlaw25.FlowBounds", spec := "flowBounds", unfollowed := true, recurses := true, apart := false }
def FlowBoundsSaid : Prop := flowBoundsRow.holds Try.pinned (OpenSpec.ofChange flowBoundsSpec)

/-- ITS FALSE NEIGHBOUR: 'it returns false'. Refute it at one input. -/
def flowBoundsWrong : ChangeSpec := { name := "flowBounds", fn := fun _ => fun
  | [d1, d2, d3] => { results := [.lit (.bool false)], args := [d1, d2, d3] }
  | _ => none }
def FlowBoundsWrongFalsely : Prop := flowBoundsRow.holds Try.pinned (OpenSpec.ofChange flowBoundsWrong)

/-- 'parcenerlaw25.FlowGrows': WHATEVER THE INPUT: true; the input reads as it did. -/
def flowGrowsSpec : ChangeSpec := { name := "flowGrows", fn := fun _ => fun
  | [d1, d2, d3] => { results := [.lit (.bool true)], args := [d1, d2, d3] }
  | _ => none }
def flowGrowsRow : OpenClaim := { program := "ytpdldifklgpikaa", sum := "cac855b2f81254f89c607c8fc7062c21e1c2aac777f71613e382afab11b731bd", func := "parcener/parcenerlaw25.FlowGrows", spec := "flowGrows", unfollowed := true, recurses := true, apart := false }
def FlowGrowsSaid : Prop := flowGrowsRow.holds Try.pinned (OpenSpec.ofChange flowGrowsSpec)

/-- ITS FALSE NEIGHBOUR: 'it returns false'. Refute it at one input. -/
def flowGrowsWrong : ChangeSpec := { name := "flowGrows", fn := fun _ => fun
  | [d1, d2, d3] => { results := [.lit (.bool false)], args := [d1, d2, d3] }
  | _ => none }
def FlowGrowsWrongFalsely : Prop := flowGrowsRow.holds Try.pinned (OpenSpec.ofChange flowGrowsWrong)

/-- 'parcenerlaw25.FlowProved': WHATEVER THE INPUT: true; the input reads as it did. -/
def flowProvedSpec : ChangeSpec := { name := "flowProved", fn := fun _ => fun
  | [d] => { results := [.lit (.bool true)], args := [d] }
  | _ => none }
def flowProvedRow : OpenClaim := { program := "ytpdldifklgpikaa", sum := "cac855b2f81254f89c607c8fc7062c21e1c2aac777f71613e382afab11b731bd", func := "parcener/parcenerlaw25.FlowProved", spec := "flowProved", unfollowed := true, recurses := true, apart := false }
def FlowProvedSaid : Prop := flowProvedRow.holds Try.pinned (OpenSpec.ofChange flowProvedSpec)

/-- ITS FALSE NEIGHBOUR: 'it returns false'. Refute it at one input. -/
def flowProvedWrong : ChangeSpec := { name := "flowProved", fn := fun _ => fun
  | [d] => { results := [.lit (.bool false)], args := [d] }
  | _ => none }
def FlowProvedWrongFalsely : Prop := flowProvedRow.holds Try.pinned (OpenSpec.ofChange flowProvedWrong)

/-- 'parcenerlaw25.FlowReached': WHATEVER THE INPUT: true; the input reads as it did. -/
def flowReachedSpec : ChangeSpec := { name := "flowReached", fn := fun _ => fun
  | [d1, d2] => { results := [.lit (.bool true)], args := [d1, d2] }
  | _ => none }
def flowReachedRow : OpenClaim := { program := "ytpdldifklgpikaa", sum := "cac855b2f81254f89c607c8fc7062c21e1c2aac777f71613e382afab11b731bd", func := "parcener/parcenerlaw25.FlowReached", spec := "flowReached", unfollowed := true, recurses := true, apart := false }
def FlowReachedSaid : Prop := flowReachedRow.holds Try.pinned (OpenSpec.ofChange flowReachedSpec)

/-- ITS FALSE NEIGHBOUR: 'it returns false'. Refute it at one input. -/
def flowReachedWrong : ChangeSpec := { name := "flowReached", fn := fun _ => fun
  | [d1, d2] => { results := [.lit (.bool false)], args := [d1, d2] }
  | _ => none }
def FlowReachedWrongFalsely : Prop := flowReachedRow.holds Try.pinned (OpenSpec.ofChange flowReachedWrong)

/-- 'parcenerlaw25.FlowNames': WHATEVER THE INPUT: true; the input reads as it did. -/
def flowNamesSpec : ChangeSpec := { name := "flowNames", fn := fun _ => fun
  | [] => { results := [.lit (.bool true)], args := [] }
  | _ => none }
def flowNamesRow : OpenClaim := { program := "ytpdldifklgpikaa", sum := "cac855b2f81254f89c607c8fc7062c21e1c2aac777f71613e382afab11b731bd", func := "parcener/parcenerlaw25.FlowNames", spec := "flowNames", unfollowed := true, recurses := true, apart := false }
def FlowNamesSaid : Prop := flowNamesRow.holds Try.pinned (OpenSpec.ofChange flowNamesSpec)

/-- ITS FALSE NEIGHBOUR: 'it returns false'. Refute it at one input. -/
def flowNamesWrong : ChangeSpec := { name := "flowNames", fn := fun _ => fun
  | [] => { results := [.lit (.bool false)], args := [] }
  | _ => none }
def FlowNamesWrongFalsely : Prop := flowNamesRow.holds Try.pinned (OpenSpec.ofChange flowNamesWrong)

/- THE SECOND FORM. 'bulk': how many values and letters a reading holds, each counted each time it is reached (what is shared counts as often as it is met; a slice's spare places count too). A statement '..UptoSaid' is the law's where the arguments, and the package variables that the reading takes, are together of bulk at most 1048576: NARROWER than '..Said'. Prove '..Said' where nothing that the law and all that it calls make is longer than what came in: it says more and counts as full. Else prove '..UptoSaid'. A law counts once. -/
mutual
def uptoBulk {H : Type} : DataW H → Nat
  | .lit (.string bytes) => bytes.length + 1
  | .lit _ => 1
  | .nil => 1
  | .ptr d => uptoBulk d + 1
  | .slice elems spare => uptoBulkAll elems + uptoBulkAll spare + 1
  | .agg parts => uptoBulkAll parts + 1
  | .iface _ d => uptoBulk d + 1
  | .map entries => uptoBulkEntries entries + 1
  | .held _ => 1
def uptoBulkAll {H : Type} : List (DataW H) → Nat
  | [] => 0
  | d :: r => uptoBulk d + uptoBulkAll r
def uptoBulkEntries {H : Type} : List (Lit × DataW H) → Nat
  | [] => 0
  | x :: r => uptoBulkEntry x + uptoBulkEntries r
def uptoBulkEntry {H : Type} : Lit × DataW H → Nat
  | (.string bytes, d) => bytes.length + uptoBulk d + 1
  | (_, d) => uptoBulk d + 1
 end
def uptoSmall : (H : Type) → List (DataW H) → Bool := fun _ ds => decide (uptoBulkAll ds ≤ 1048576)
def OpenSpec.upto (s : _root_.Go.ChangeSpec) : _root_.Go.OpenSpec := { _root_.Go.OpenSpec.ofChange s with cond := some uptoSmall }

/-- 'parcenerlaw25.FlowFinds', WHERE WHAT IT READS IS OF BULK AT MOST 1048576: true; the input reads as it did. -/
def flowFindsUptoRow : OpenClaim := { program := "ytpdldifklgpikaa", sum := "cac855b2f81254f89c607c8fc7062c21e1c2aac777f71613e382afab11b731bd", func := "parcener/parcenerlaw25.FlowFinds", spec := "flowFinds", unfollowed := true, recurses := true, apart := false, narrowed := true }
def FlowFindsUptoSaid : Prop := flowFindsUptoRow.holds Try.pinned (OpenSpec.upto flowFindsSpec)

/-- 'parcenerlaw25.FlowAsks', WHERE WHAT IT READS IS OF BULK AT MOST 1048576: true; the input reads as it did. -/
def flowAsksUptoRow : OpenClaim := { program := "ytpdldifklgpikaa", sum := "cac855b2f81254f89c607c8fc7062c21e1c2aac777f71613e382afab11b731bd", func := "parcener/parcenerlaw25.FlowAsks", spec := "flowAsks", unfollowed := true, recurses := true, apart := false, narrowed := true }
def FlowAsksUptoSaid : Prop := flowAsksUptoRow.holds Try.pinned (OpenSpec.upto flowAsksSpec)

/-- 'parcenerlaw25.FlowBounds', WHERE WHAT IT READS IS OF BULK AT MOST 1048576: true; the input reads as it did. -/
def flowBoundsUptoRow : OpenClaim := { program := "ytpdldifklgpikaa", sum := "cac855b2f81254f89c607c8fc7062c21e1c2aac777f71613e382afab11b731bd", func := "parcener/parcenerlaw25.FlowBounds", spec := "flowBounds", unfollowed := true, recurses := true, apart := false, narrowed := true }
def FlowBoundsUptoSaid : Prop := flowBoundsUptoRow.holds Try.pinned (OpenSpec.upto flowBoundsSpec)

/-- 'parcenerlaw25.FlowGrows', WHERE WHAT IT READS IS OF BULK AT MOST 1048576: true; the input reads as it did. -/
def flowGrowsUptoRow : OpenClaim := { program := "ytpdldifklgpikaa", sum := "cac855b2f81254f89c607c8fc7062c21e1c2aac777f71613e382afab11b731bd", func := "parcener/parcenerlaw25.FlowGrows", spec := "flowGrows", unfollowed := true, recurses := true, apart := false, narrowed := true }
def FlowGrowsUptoSaid : Prop := flowGrowsUptoRow.holds Try.pinned (OpenSpec.upto flowGrowsSpec)

/-- 'parcenerlaw25.FlowProved', WHERE WHAT IT READS IS OF BULK AT MOST 1048576: true; the input reads as it did. -/
def flowProvedUptoRow : OpenClaim := { program := "ytpdldifklgpikaa", sum := "cac855b2f81254f89c607c8fc7062c21e1c2aac777f71613e382afab11b731bd", func := "parcener/parcenerlaw25.FlowProved", spec := "flowProved", unfollowed := true, recurses := true, apart := false, narrowed := true }
def FlowProvedUptoSaid : Prop := flowProvedUptoRow.holds Try.pinned (OpenSpec.upto flowProvedSpec)

/-- 'parcenerlaw25.FlowReached', WHERE WHAT IT READS IS OF BULK AT MOST 1048576: true; the input reads as it did. -/
def flowReachedUptoRow : OpenClaim := { program := "ytpdldifklgpikaa", sum := "cac855b2f81254f89c607c8fc7062c21e1c2aac777f71613e382afab11b731bd", func := "parcener/parcenerlaw25.FlowReached", spec := "flowReached", unfollowed := true, recurses := true, apart := false, narrowed := true }
def FlowReachedUptoSaid : Prop := flowReachedUptoRow.holds Try.pinned (OpenSpec.upto flowReachedSpec)

/-- 'parcenerlaw25.FlowNames', WHERE WHAT IT READS IS OF BULK AT MOST 1048576: true; the input reads as it did. -/
def flowNamesUptoRow : OpenClaim := { program := "ytpdldifklgpikaa", sum := "cac855b2f81254f89c607c8fc7062c21e1c2aac777f71613e382afab11b731bd", func := "parcener/parcenerlaw25.FlowNames", spec := "flowNames", unfollowed := true, recurses := true, apart := false, narrowed := true }
def FlowNamesUptoSaid : Prop := flowNamesUptoRow.holds Try.pinned (OpenSpec.upto flowNamesSpec)

end Rows
end Go.Proofs.Ytpdldifklgpikaa
