/-
  No cell of these rows narrows 'for every input' (looked for: loops, veiled, ifaces, maps, wideKeys, modest, calm, conditions, laid).
  DERIVED. THE GIVEN ROWS OF THIS SEAT. 12 by the template 'for every input the law returns true; each argument reads behind the call as it read before'; 0 by the template 'total and deterministic' (their statements: YtebklnmafjbhcaaTotals.lean).
  GIVEN WITH THE SEED: the statements are not yours to turn. If you find one false, say at which input.
  Laid BY PROGRAM, IN A SANDBOX (cutbox-rows.mjs): the forced cells as the released guide's own fill.sh prints them over the translation 7f32f3821daf48a8… (all of the seat's roots in one cut). By AI agents, Wed Nov 11 2026. No macro, syntax, notation, axiom, sorry.
-/
import Derived.Test.YtebklnmafjbhcaaChecked
import GoSem.Claim
import GoSem.ClaimJoined
import GoSem.ClaimMapViews
import Derived.JoinedTies
import Derived.KernelRfl
namespace Go.Proofs.Ytebklnmafjbhcaa
/- THE CELL 'sum', in the pinned program and in every row, IS THE sha256 OF THE DUMP (.gsa) THAT YtebklnmafjbhcaaProg.lean LOADS. Nothing in Lean hashes anything: it is a label: what it is worth is what the hold of that sum in a sandbox is worth. -/
noncomputable def Try.pinned : Pinned := { name := "ytebklnmafjbhcaa", sum := "7f32f3821daf48a851a97083227718105b23809867531d28810d80726426ec9a", checked := Try.checked }
namespace Rows
def none {H : Type} : Left H := { results := [], args := [] }

/-- 'parcenerlaw22.BetterAsks': WHATEVER THE INPUT: true; the input reads as it did. -/
def betterAsksSpec : ChangeSpec := { name := "betterAsks", fn := fun _ => fun
  | [d1, d2, d3, d4] => { results := [.lit (.bool true)], args := [d1, d2, d3, d4] }
  | _ => none }
def betterAsksRow : OpenClaim := { program := "ytebklnmafjbhcaa", sum := "7f32f3821daf48a851a97083227718105b23809867531d28810d80726426ec9a", func := "parcener/parcenerlaw22.BetterAsks", spec := "betterAsks", unfollowed := true, recurses := true, apart := false }
def BetterAsksSaid : Prop := betterAsksRow.holds Try.pinned (OpenSpec.ofChange betterAsksSpec)

/-- ITS FALSE NEIGHBOUR: 'it returns false'. Refute it at one input. -/
def betterAsksWrong : ChangeSpec := { name := "betterAsks", fn := fun _ => fun
  | [d1, d2, d3, d4] => { results := [.lit (.bool false)], args := [d1, d2, d3, d4] }
  | _ => none }
def BetterAsksWrongFalsely : Prop := betterAsksRow.holds Try.pinned (OpenSpec.ofChange betterAsksWrong)

/-- 'parcenerlaw19.RoundsRise': WHATEVER THE INPUT: true; the input reads as it did. -/
def roundsRiseSpec : ChangeSpec := { name := "roundsRise", fn := fun _ => fun
  | [d1, d2] => { results := [.lit (.bool true)], args := [d1, d2] }
  | _ => none }
def roundsRiseRow : OpenClaim := { program := "ytebklnmafjbhcaa", sum := "7f32f3821daf48a851a97083227718105b23809867531d28810d80726426ec9a", func := "parcener/parcenerlaw19.RoundsRise", spec := "roundsRise", unfollowed := true, recurses := true, apart := false }
def RoundsRiseSaid : Prop := roundsRiseRow.holds Try.pinned (OpenSpec.ofChange roundsRiseSpec)

/-- ITS FALSE NEIGHBOUR: 'it returns false'. Refute it at one input. -/
def roundsRiseWrong : ChangeSpec := { name := "roundsRise", fn := fun _ => fun
  | [d1, d2] => { results := [.lit (.bool false)], args := [d1, d2] }
  | _ => none }
def RoundsRiseWrongFalsely : Prop := roundsRiseRow.holds Try.pinned (OpenSpec.ofChange roundsRiseWrong)

/-- 'parcenerlaw19.RoundsOne': WHATEVER THE INPUT: true; the input reads as it did. -/
def roundsOneSpec : ChangeSpec := { name := "roundsOne", fn := fun _ => fun
  | [d1, d2] => { results := [.lit (.bool true)], args := [d1, d2] }
  | _ => none }
def roundsOneRow : OpenClaim := { program := "ytebklnmafjbhcaa", sum := "7f32f3821daf48a851a97083227718105b23809867531d28810d80726426ec9a", func := "parcener/parcenerlaw19.RoundsOne", spec := "roundsOne", unfollowed := true, recurses := true, apart := false }
def RoundsOneSaid : Prop := roundsOneRow.holds Try.pinned (OpenSpec.ofChange roundsOneSpec)

/-- ITS FALSE NEIGHBOUR: 'it returns false'. Refute it at one input. -/
def roundsOneWrong : ChangeSpec := { name := "roundsOne", fn := fun _ => fun
  | [d1, d2] => { results := [.lit (.bool false)], args := [d1, d2] }
  | _ => none }
def RoundsOneWrongFalsely : Prop := roundsOneRow.holds Try.pinned (OpenSpec.ofChange roundsOneWrong)

/-- 'parcenerlaw22.BetterFinds': WHATEVER THE INPUT: true; the input reads as it did. -/
def betterFindsSpec : ChangeSpec := { name := "betterFinds", fn := fun _ => fun
  | [d1, d2] => { results := [.lit (.bool true)], args := [d1, d2] }
  | _ => none }
def betterFindsRow : OpenClaim := { program := "ytebklnmafjbhcaa", sum := "7f32f3821daf48a851a97083227718105b23809867531d28810d80726426ec9a", func := "parcener/parcenerlaw22.BetterFinds", spec := "betterFinds", unfollowed := true, recurses := true, apart := false }
def BetterFindsSaid : Prop := betterFindsRow.holds Try.pinned (OpenSpec.ofChange betterFindsSpec)

/-- ITS FALSE NEIGHBOUR: 'it returns false'. Refute it at one input. -/
def betterFindsWrong : ChangeSpec := { name := "betterFinds", fn := fun _ => fun
  | [d1, d2] => { results := [.lit (.bool false)], args := [d1, d2] }
  | _ => none }
def BetterFindsWrongFalsely : Prop := betterFindsRow.holds Try.pinned (OpenSpec.ofChange betterFindsWrong)

/-- 'parcenerlaw22.BetterProved': WHATEVER THE INPUT: true; the input reads as it did. -/
def betterProvedSpec : ChangeSpec := { name := "betterProved", fn := fun _ => fun
  | [d1, d2, d3, d4] => { results := [.lit (.bool true)], args := [d1, d2, d3, d4] }
  | _ => none }
def betterProvedRow : OpenClaim := { program := "ytebklnmafjbhcaa", sum := "7f32f3821daf48a851a97083227718105b23809867531d28810d80726426ec9a", func := "parcener/parcenerlaw22.BetterProved", spec := "betterProved", unfollowed := true, recurses := true, apart := false }
def BetterProvedSaid : Prop := betterProvedRow.holds Try.pinned (OpenSpec.ofChange betterProvedSpec)

/-- ITS FALSE NEIGHBOUR: 'it returns false'. Refute it at one input. -/
def betterProvedWrong : ChangeSpec := { name := "betterProved", fn := fun _ => fun
  | [d1, d2, d3, d4] => { results := [.lit (.bool false)], args := [d1, d2, d3, d4] }
  | _ => none }
def BetterProvedWrongFalsely : Prop := betterProvedRow.holds Try.pinned (OpenSpec.ofChange betterProvedWrong)

/-- 'parcenerlaw22.BetterExact': WHATEVER THE INPUT: true; the input reads as it did. -/
def betterExactSpec : ChangeSpec := { name := "betterExact", fn := fun _ => fun
  | [d1, d2, d3] => { results := [.lit (.bool true)], args := [d1, d2, d3] }
  | _ => none }
def betterExactRow : OpenClaim := { program := "ytebklnmafjbhcaa", sum := "7f32f3821daf48a851a97083227718105b23809867531d28810d80726426ec9a", func := "parcener/parcenerlaw22.BetterExact", spec := "betterExact", unfollowed := true, recurses := true, apart := false }
def BetterExactSaid : Prop := betterExactRow.holds Try.pinned (OpenSpec.ofChange betterExactSpec)

/-- ITS FALSE NEIGHBOUR: 'it returns false'. Refute it at one input. -/
def betterExactWrong : ChangeSpec := { name := "betterExact", fn := fun _ => fun
  | [d1, d2, d3] => { results := [.lit (.bool false)], args := [d1, d2, d3] }
  | _ => none }
def BetterExactWrongFalsely : Prop := betterExactRow.holds Try.pinned (OpenSpec.ofChange betterExactWrong)

/-- 'parcenerlaw22.BetterChain': WHATEVER THE INPUT: true; the input reads as it did. -/
def betterChainSpec : ChangeSpec := { name := "betterChain", fn := fun _ => fun
  | [d1, d2] => { results := [.lit (.bool true)], args := [d1, d2] }
  | _ => none }
def betterChainRow : OpenClaim := { program := "ytebklnmafjbhcaa", sum := "7f32f3821daf48a851a97083227718105b23809867531d28810d80726426ec9a", func := "parcener/parcenerlaw22.BetterChain", spec := "betterChain", unfollowed := true, recurses := true, apart := false }
def BetterChainSaid : Prop := betterChainRow.holds Try.pinned (OpenSpec.ofChange betterChainSpec)

/-- ITS FALSE NEIGHBOUR: 'it returns false'. Refute it at one input. -/
def betterChainWrong : ChangeSpec := { name := "betterChain", fn := fun _ => fun
  | [d1, d2] => { results := [.lit (.bool false)], args := [d1, d2] }
  | _ => none }
def BetterChainWrongFalsely : Prop := betterChainRow.holds Try.pinned (OpenSpec.ofChange betterChainWrong)

/-- 'parcenerlaw22.BetterNames': WHATEVER THE INPUT: true; the input reads as it did. -/
def betterNamesSpec : ChangeSpec := { name := "betterNames", fn := fun _ => fun
  | [] => { results := [.lit (.bool true)], args := [] }
  | _ => none }
def betterNamesRow : OpenClaim := { program := "ytebklnmafjbhcaa", sum := "7f32f3821daf48a851a97083227718105b23809867531d28810d80726426ec9a", func := "parcener/parcenerlaw22.BetterNames", spec := "betterNames", unfollowed := true, recurses := true, apart := false }
def BetterNamesSaid : Prop := betterNamesRow.holds Try.pinned (OpenSpec.ofChange betterNamesSpec)

/-- ITS FALSE NEIGHBOUR: 'it returns false'. Refute it at one input. -/
def betterNamesWrong : ChangeSpec := { name := "betterNames", fn := fun _ => fun
  | [] => { results := [.lit (.bool false)], args := [] }
  | _ => none }
def BetterNamesWrongFalsely : Prop := betterNamesRow.holds Try.pinned (OpenSpec.ofChange betterNamesWrong)

/-- 'parcenerlaw19.RoundsUndo': WHATEVER THE INPUT: true; the input reads as it did. -/
def roundsUndoSpec : ChangeSpec := { name := "roundsUndo", fn := fun _ => fun
  | [d1, d2] => { results := [.lit (.bool true)], args := [d1, d2] }
  | _ => none }
def roundsUndoRow : OpenClaim := { program := "ytebklnmafjbhcaa", sum := "7f32f3821daf48a851a97083227718105b23809867531d28810d80726426ec9a", func := "parcener/parcenerlaw19.RoundsUndo", spec := "roundsUndo", unfollowed := true, recurses := true, apart := false }
def RoundsUndoSaid : Prop := roundsUndoRow.holds Try.pinned (OpenSpec.ofChange roundsUndoSpec)

/-- ITS FALSE NEIGHBOUR: 'it returns false'. Refute it at one input. -/
def roundsUndoWrong : ChangeSpec := { name := "roundsUndo", fn := fun _ => fun
  | [d1, d2] => { results := [.lit (.bool false)], args := [d1, d2] }
  | _ => none }
def RoundsUndoWrongFalsely : Prop := roundsUndoRow.holds Try.pinned (OpenSpec.ofChange roundsUndoWrong)

/-- 'parcenerlaw19.RoundsFree': WHATEVER THE INPUT: true; the input reads as it did. -/
def roundsFreeSpec : ChangeSpec := { name := "roundsFree", fn := fun _ => fun
  | [d1, d2, d3] => { results := [.lit (.bool true)], args := [d1, d2, d3] }
  | _ => none }
def roundsFreeRow : OpenClaim := { program := "ytebklnmafjbhcaa", sum := "7f32f3821daf48a851a97083227718105b23809867531d28810d80726426ec9a", func := "parcener/parcenerlaw19.RoundsFree", spec := "roundsFree", unfollowed := true, recurses := true, apart := false }
def RoundsFreeSaid : Prop := roundsFreeRow.holds Try.pinned (OpenSpec.ofChange roundsFreeSpec)

/-- ITS FALSE NEIGHBOUR: 'it returns false'. Refute it at one input. -/
def roundsFreeWrong : ChangeSpec := { name := "roundsFree", fn := fun _ => fun
  | [d1, d2, d3] => { results := [.lit (.bool false)], args := [d1, d2, d3] }
  | _ => none }
def RoundsFreeWrongFalsely : Prop := roundsFreeRow.holds Try.pinned (OpenSpec.ofChange roundsFreeWrong)

/-- 'parcenerlaw19.RoundsRuns': WHATEVER THE INPUT: true; the input reads as it did. -/
def roundsRunsSpec : ChangeSpec := { name := "roundsRuns", fn := fun _ => fun
  | [d1, d2, d3] => { results := [.lit (.bool true)], args := [d1, d2, d3] }
  | _ => none }
def roundsRunsRow : OpenClaim := { program := "ytebklnmafjbhcaa", sum := "7f32f3821daf48a851a97083227718105b23809867531d28810d80726426ec9a", func := "parcener/parcenerlaw19.RoundsRuns", spec := "roundsRuns", unfollowed := true, recurses := true, apart := false }
def RoundsRunsSaid : Prop := roundsRunsRow.holds Try.pinned (OpenSpec.ofChange roundsRunsSpec)

/-- ITS FALSE NEIGHBOUR: 'it returns false'. Refute it at one input. -/
def roundsRunsWrong : ChangeSpec := { name := "roundsRuns", fn := fun _ => fun
  | [d1, d2, d3] => { results := [.lit (.bool false)], args := [d1, d2, d3] }
  | _ => none }
def RoundsRunsWrongFalsely : Prop := roundsRunsRow.holds Try.pinned (OpenSpec.ofChange roundsRunsWrong)

/-- 'parcenerlaw19.RoundsNames': WHATEVER THE INPUT: true; the input reads as it did. -/
def roundsNamesSpec : ChangeSpec := { name := "roundsNames", fn := fun _ => fun
  | [] => { results := [.lit (.bool true)], args := [] }
  | _ => none }
def roundsNamesRow : OpenClaim := { program := "ytebklnmafjbhcaa", sum := "7f32f3821daf48a851a97083227718105b23809867531d28810d80726426ec9a", func := "parcener/parcenerlaw19.RoundsNames", spec := "roundsNames", unfollowed := true, recurses := true, apart := false }
def RoundsNamesSaid : Prop := roundsNamesRow.holds Try.pinned (OpenSpec.ofChange roundsNamesSpec)

/-- ITS FALSE NEIGHBOUR: 'it returns false'. Refute it at one input. -/
def roundsNamesWrong : ChangeSpec := { name := "roundsNames", fn := fun _ => fun
  | [] => { results := [.lit (.bool false)], args := [] }
  | _ => none }
def RoundsNamesWrongFalsely : Prop := roundsNamesRow.holds Try.pinned (OpenSpec.ofChange roundsNamesWrong)

/- THE SECOND FORM. 'bulk': how many values and letters a reading holds, each counted each time it is reached (what is shared counts as often as it is met; a slice's spare places count too). A statement '..UptoSaid' is the law's where the arguments, and the package variables that the reading takes, are together of bulk at most 1048576: NARROWER than '..Said'. Prove '..Said' where nothing that the law and all that it calls make is longer than what came in: it says more and counts as full. Else prove '..UptoSaid'. A law counts once. -/
mutual
def uptoBulk {H : Type} : DataW H → Nat
  | .lit (.string bytes) => bytes.length + 1
  | .lit _ => 1
  | .nil => 1
  | .ptr d => uptoBulk d + 1
  | .slice elems spare => uptoBulkAll elems + uptoBulkAll spare + 1
  | .agg parts => uptoBulkAll parts + 1
  | .iface _ d => uptoBulk d + 1
  | .map entries => uptoBulkEntries entries + 1
  | .held _ => 1
def uptoBulkAll {H : Type} : List (DataW H) → Nat
  | [] => 0
  | d :: r => uptoBulk d + uptoBulkAll r
def uptoBulkEntries {H : Type} : List (Lit × DataW H) → Nat
  | [] => 0
  | x :: r => uptoBulkEntry x + uptoBulkEntries r
def uptoBulkEntry {H : Type} : Lit × DataW H → Nat
  | (.string bytes, d) => bytes.length + uptoBulk d + 1
  | (_, d) => uptoBulk d + 1
 end
def uptoSmall : (H : Type) → List (DataW H) → Bool := fun _ ds => decide (uptoBulkAll ds ≤ 1048576)
def OpenSpec.upto (s : _root_.Go.ChangeSpec) : _root_.Go.OpenSpec := { _root_.Go.OpenSpec.ofChange s with cond := some uptoSmall }

/-- 'parcenerlaw22.BetterAsks', WHERE WHAT IT READS IS OF BULK AT MOST 1048576: true; the input reads as it did. -/
def betterAsksUptoRow : OpenClaim := { program := "ytebklnmafjbhcaa", sum := "7f32f3821daf48a851a97083227718105b23809867531d28810d80726426ec9a", func := "parcener/parcenerlaw22.BetterAsks", spec := "betterAsks", unfollowed := true, recurses := true, apart := false, narrowed := true }
def BetterAsksUptoSaid : Prop := betterAsksUptoRow.holds Try.pinned (OpenSpec.upto betterAsksSpec)

/-- 'parcenerlaw19.RoundsRise', WHERE WHAT IT READS IS OF BULK AT MOST 1048576: true; the input reads as it did. -/
def roundsRiseUptoRow : OpenClaim := { program := "ytebklnmafjbhcaa", sum := "7f32f3821daf48a851a97083227718105b23809867531d28810d80726426ec9a", func := "parcener/parcenerlaw19.RoundsRise", spec := "roundsRise", unfollowed := true, recurses := true, apart := false, narrowed := true }
def RoundsRiseUptoSaid : Prop := roundsRiseUptoRow.holds Try.pinned (OpenSpec.upto roundsRiseSpec)

/-- 'parcenerlaw19.RoundsOne', WHERE WHAT IT READS IS OF BULK AT MOST 1048576: true; the input reads as it did. -/
def roundsOneUptoRow : OpenClaim := { program := "ytebklnmafjbhcaa", sum := "7f32f3821daf48a851a97083227718105b23809867531d28810d80726426ec9a", func := "parcener/parcenerlaw19.RoundsOne", spec := "roundsOne", unfollowed := true, recurses := true, apart := false, narrowed := true }
def RoundsOneUptoSaid : Prop := roundsOneUptoRow.holds Try.pinned (OpenSpec.upto roundsOneSpec)

/-- 'parcenerlaw22.BetterFinds', WHERE WHAT IT READS IS OF BULK AT MOST 1048576: true; the input reads as it did. -/
def betterFindsUptoRow : OpenClaim := { program := "ytebklnmafjbhcaa", sum := "7f32f3821daf48a851a97083227718105b23809867531d28810d80726426ec9a", func := "parcener/parcenerlaw22.BetterFinds", spec := "betterFinds", unfollowed := true, recurses := true, apart := false, narrowed := true }
def BetterFindsUptoSaid : Prop := betterFindsUptoRow.holds Try.pinned (OpenSpec.upto betterFindsSpec)

/-- 'parcenerlaw22.BetterProved', WHERE WHAT IT READS IS OF BULK AT MOST 1048576: true; the input reads as it did. -/
def betterProvedUptoRow : OpenClaim := { program := "ytebklnmafjbhcaa", sum := "7f32f3821daf48a851a97083227718105b23809867531d28810d80726426ec9a", func := "parcener/parcenerlaw22.BetterProved", spec := "betterProved", unfollowed := true, recurses := true, apart := false, narrowed := true }
def BetterProvedUptoSaid : Prop := betterProvedUptoRow.holds Try.pinned (OpenSpec.upto betterProvedSpec)

/-- 'parcenerlaw22.BetterExact', WHERE WHAT IT READS IS OF BULK AT MOST 1048576: true; the input reads as it did. -/
def betterExactUptoRow : OpenClaim := { program := "ytebklnmafjbhcaa", sum := "7f32f3821daf48a851a97083227718105b23809867531d28810d80726426ec9a", func := "parcener/parcenerlaw22.BetterExact", spec := "betterExact", unfollowed := true, recurses := true, apart := false, narrowed := true }
def BetterExactUptoSaid : Prop := betterExactUptoRow.holds Try.pinned (OpenSpec.upto betterExactSpec)

/-- 'parcenerlaw22.BetterChain', WHERE WHAT IT READS IS OF BULK AT MOST 1048576: true; the input reads as it did. -/
def betterChainUptoRow : OpenClaim := { program := "ytebklnmafjbhcaa", sum := "7f32f3821daf48a851a97083227718105b23809867531d28810d80726426ec9a", func := "parcener/parcenerlaw22.BetterChain", spec := "betterChain", unfollowed := true, recurses := true, apart := false, narrowed := true }
def BetterChainUptoSaid : Prop := betterChainUptoRow.holds Try.pinned (OpenSpec.upto betterChainSpec)

/-- 'parcenerlaw22.BetterNames', WHERE WHAT IT READS IS OF BULK AT MOST 1048576: true; the input reads as it did. -/
def betterNamesUptoRow : OpenClaim := { program := "ytebklnmafjbhcaa", sum := "7f32f3821daf48a851a97083227718105b23809867531d28810d80726426ec9a", func := "parcener/parcenerlaw22.BetterNames", spec := "betterNames", unfollowed := true, recurses := true, apart := false, narrowed := true }
def BetterNamesUptoSaid : Prop := betterNamesUptoRow.holds Try.pinned (OpenSpec.upto betterNamesSpec)

/-- 'parcenerlaw19.RoundsUndo', WHERE WHAT IT READS IS OF BULK AT MOST 1048576: true; the input reads as it did. -/
def roundsUndoUptoRow : OpenClaim := { program := "ytebklnmafjbhcaa", sum := "7f32f3821daf48a851a97083227718105b23809867531d28810d80726426ec9a", func := "parcener/parcenerlaw19.RoundsUndo", spec := "roundsUndo", unfollowed := true, recurses := true, apart := false, narrowed := true }
def RoundsUndoUptoSaid : Prop := roundsUndoUptoRow.holds Try.pinned (OpenSpec.upto roundsUndoSpec)

/-- 'parcenerlaw19.RoundsFree', WHERE WHAT IT READS IS OF BULK AT MOST 1048576: true; the input reads as it did. -/
def roundsFreeUptoRow : OpenClaim := { program := "ytebklnmafjbhcaa", sum := "7f32f3821daf48a851a97083227718105b23809867531d28810d80726426ec9a", func := "parcener/parcenerlaw19.RoundsFree", spec := "roundsFree", unfollowed := true, recurses := true, apart := false, narrowed := true }
def RoundsFreeUptoSaid : Prop := roundsFreeUptoRow.holds Try.pinned (OpenSpec.upto roundsFreeSpec)

/-- 'parcenerlaw19.RoundsRuns', WHERE WHAT IT READS IS OF BULK AT MOST 1048576: true; the input reads as it did. -/
def roundsRunsUptoRow : OpenClaim := { program := "ytebklnmafjbhcaa", sum := "7f32f3821daf48a851a97083227718105b23809867531d28810d80726426ec9a", func := "parcener/parcenerlaw19.RoundsRuns", spec := "roundsRuns", unfollowed := true, recurses := true, apart := false, narrowed := true }
def RoundsRunsUptoSaid : Prop := roundsRunsUptoRow.holds Try.pinned (OpenSpec.upto roundsRunsSpec)

/-- 'parcenerlaw19.RoundsNames', WHERE WHAT IT READS IS OF BULK AT MOST 1048576: true; the input reads as it did. -/
def roundsNamesUptoRow : OpenClaim := { program := "ytebklnmafjbhcaa", sum := "7f32f3821daf48a851a97083227718105b23809867531d28810d80726426ec9a", func := "parcener/parcenerlaw19.RoundsNames", spec := "roundsNames", unfollowed := true, recurses := true, apart := false, narrowed := true }
def RoundsNamesUptoSaid : Prop := roundsNamesUptoRow.holds Try.pinned (OpenSpec.upto roundsNamesSpec)

end Rows
end Go.Proofs.Ytebklnmafjbhcaa
