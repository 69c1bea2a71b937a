/-
  No cell of these rows narrows 'for every input' (looked for: loops, veiled, ifaces, maps, wideKeys, modest, calm, conditions, laid).
  DERIVED. THE GIVEN ROWS OF THIS SEAT. 7 by the template 'for every input the law returns true; each argument reads behind the call as it read before'; 0 by the template 'total and deterministic' (their statements: YtclbiabiiknolaaTotals.lean).
  GIVEN WITH THE SEED: the statements are not yours to turn. If you find one false, say at which input.
  Laid BY PROGRAM, IN A SANDBOX (cutbox-rows.mjs): the forced cells as the released guide's own fill.sh prints them over the translation 4c99feab2d373d76… (all of the seat's roots in one cut). By AI agents, Wed Nov 11 2026. No macro, syntax, notation, axiom, sorry.
-/
import Derived.Test.YtclbiabiiknolaaChecked
import GoSem.Claim
import GoSem.ClaimJoined
import GoSem.ClaimMapViews
import Derived.JoinedTies
import Derived.KernelRfl
namespace Go.Proofs.Ytclbiabiiknolaa
/- THE CELL 'sum', in the pinned program and in every row, IS THE sha256 OF THE DUMP (.gsa) THAT YtclbiabiiknolaaProg.lean LOADS. Nothing in Lean hashes anything: it is a label: what it is worth is what the hold of that sum in a sandbox is worth. -/
noncomputable def Try.pinned : Pinned := { name := "ytclbiabiiknolaa", sum := "4c99feab2d373d76b5764f4182cf3a56ce60c0015050fc6278967f06c9158b56", checked := Try.checked }
namespace Rows
def none {H : Type} : Left H := { results := [], args := [] }

/-- 'parcenerlaw31.StripFinds': WHATEVER THE INPUT: true; the input reads as it did. -/
def stripFindsSpec : ChangeSpec := { name := "stripFinds", fn := fun _ => fun
  | [d] => { results := [.lit (.bool true)], args := [d] }
  | _ => none }
def stripFindsRow : OpenClaim := { program := "ytclbiabiiknolaa", sum := "4c99feab2d373d76b5764f4182cf3a56ce60c0015050fc6278967f06c9158b56", func := "parcener/parcenerlaw31.StripFinds", spec := "stripFinds", unfollowed := true, recurses := true, plainKeys := false, apart := false }
def StripFindsSaid : Prop := stripFindsRow.holds Try.pinned (OpenSpec.ofChange stripFindsSpec)

/-- ITS FALSE NEIGHBOUR: 'it returns false'. Refute it at one input. -/
def stripFindsWrong : ChangeSpec := { name := "stripFinds", fn := fun _ => fun
  | [d] => { results := [.lit (.bool false)], args := [d] }
  | _ => none }
def StripFindsWrongFalsely : Prop := stripFindsRow.holds Try.pinned (OpenSpec.ofChange stripFindsWrong)

/-- 'parcenerlaw31.StripAsks': WHATEVER THE INPUT: true; the input reads as it did. -/
def stripAsksSpec : ChangeSpec := { name := "stripAsks", fn := fun _ => fun
  | [d1, d2, d3, d4] => { results := [.lit (.bool true)], args := [d1, d2, d3, d4] }
  | _ => none }
def stripAsksRow : OpenClaim := { program := "ytclbiabiiknolaa", sum := "4c99feab2d373d76b5764f4182cf3a56ce60c0015050fc6278967f06c9158b56", func := "parcener/parcenerlaw31.StripAsks", spec := "stripAsks", unfollowed := true, recurses := true, plainKeys := false, apart := false }
def StripAsksSaid : Prop := stripAsksRow.holds Try.pinned (OpenSpec.ofChange stripAsksSpec)

/-- ITS FALSE NEIGHBOUR: 'it returns false'. Refute it at one input. -/
def stripAsksWrong : ChangeSpec := { name := "stripAsks", fn := fun _ => fun
  | [d1, d2, d3, d4] => { results := [.lit (.bool false)], args := [d1, d2, d3, d4] }
  | _ => none }
def StripAsksWrongFalsely : Prop := stripAsksRow.holds Try.pinned (OpenSpec.ofChange stripAsksWrong)

/-- 'parcenerlaw31.StripTables': WHATEVER THE INPUT: true; the input reads as it did. -/
def stripTablesSpec : ChangeSpec := { name := "stripTables", fn := fun _ => fun
  | [d1, d2] => { results := [.lit (.bool true)], args := [d1, d2] }
  | _ => none }
def stripTablesRow : OpenClaim := { program := "ytclbiabiiknolaa", sum := "4c99feab2d373d76b5764f4182cf3a56ce60c0015050fc6278967f06c9158b56", func := "parcener/parcenerlaw31.StripTables", spec := "stripTables", unfollowed := true, recurses := true, plainKeys := false, apart := false }
def StripTablesSaid : Prop := stripTablesRow.holds Try.pinned (OpenSpec.ofChange stripTablesSpec)

/-- ITS FALSE NEIGHBOUR: 'it returns false'. Refute it at one input. -/
def stripTablesWrong : ChangeSpec := { name := "stripTables", fn := fun _ => fun
  | [d1, d2] => { results := [.lit (.bool false)], args := [d1, d2] }
  | _ => none }
def StripTablesWrongFalsely : Prop := stripTablesRow.holds Try.pinned (OpenSpec.ofChange stripTablesWrong)

/-- 'parcenerlaw31.StripMirrors': WHATEVER THE INPUT: true; the input reads as it did. -/
def stripMirrorsSpec : ChangeSpec := { name := "stripMirrors", fn := fun _ => fun
  | [d] => { results := [.lit (.bool true)], args := [d] }
  | _ => none }
def stripMirrorsRow : OpenClaim := { program := "ytclbiabiiknolaa", sum := "4c99feab2d373d76b5764f4182cf3a56ce60c0015050fc6278967f06c9158b56", func := "parcener/parcenerlaw31.StripMirrors", spec := "stripMirrors", unfollowed := true, recurses := true, plainKeys := false, apart := false }
def StripMirrorsSaid : Prop := stripMirrorsRow.holds Try.pinned (OpenSpec.ofChange stripMirrorsSpec)

/-- ITS FALSE NEIGHBOUR: 'it returns false'. Refute it at one input. -/
def stripMirrorsWrong : ChangeSpec := { name := "stripMirrors", fn := fun _ => fun
  | [d] => { results := [.lit (.bool false)], args := [d] }
  | _ => none }
def StripMirrorsWrongFalsely : Prop := stripMirrorsRow.holds Try.pinned (OpenSpec.ofChange stripMirrorsWrong)

/-- 'parcenerlaw31.StripProved': WHATEVER THE INPUT: true; the input reads as it did. -/
def stripProvedSpec : ChangeSpec := { name := "stripProved", fn := fun _ => fun
  | [d1, d2] => { results := [.lit (.bool true)], args := [d1, d2] }
  | _ => none }
def stripProvedRow : OpenClaim := { program := "ytclbiabiiknolaa", sum := "4c99feab2d373d76b5764f4182cf3a56ce60c0015050fc6278967f06c9158b56", func := "parcener/parcenerlaw31.StripProved", spec := "stripProved", unfollowed := true, recurses := true, plainKeys := false, apart := false }
def StripProvedSaid : Prop := stripProvedRow.holds Try.pinned (OpenSpec.ofChange stripProvedSpec)

/-- ITS FALSE NEIGHBOUR: 'it returns false'. Refute it at one input. -/
def stripProvedWrong : ChangeSpec := { name := "stripProved", fn := fun _ => fun
  | [d1, d2] => { results := [.lit (.bool false)], args := [d1, d2] }
  | _ => none }
def StripProvedWrongFalsely : Prop := stripProvedRow.holds Try.pinned (OpenSpec.ofChange stripProvedWrong)

/-- 'parcenerlaw31.StripFirst': WHATEVER THE INPUT: true; the input reads as it did. -/
def stripFirstSpec : ChangeSpec := { name := "stripFirst", fn := fun _ => fun
  | [d1, d2] => { results := [.lit (.bool true)], args := [d1, d2] }
  | _ => none }
def stripFirstRow : OpenClaim := { program := "ytclbiabiiknolaa", sum := "4c99feab2d373d76b5764f4182cf3a56ce60c0015050fc6278967f06c9158b56", func := "parcener/parcenerlaw31.StripFirst", spec := "stripFirst", unfollowed := true, recurses := true, plainKeys := false, apart := false }
def StripFirstSaid : Prop := stripFirstRow.holds Try.pinned (OpenSpec.ofChange stripFirstSpec)

/-- ITS FALSE NEIGHBOUR: 'it returns false'. Refute it at one input. -/
def stripFirstWrong : ChangeSpec := { name := "stripFirst", fn := fun _ => fun
  | [d1, d2] => { results := [.lit (.bool false)], args := [d1, d2] }
  | _ => none }
def StripFirstWrongFalsely : Prop := stripFirstRow.holds Try.pinned (OpenSpec.ofChange stripFirstWrong)

/-- 'parcenerlaw31.StripNames': WHATEVER THE INPUT: true; the input reads as it did. -/
def stripNamesSpec : ChangeSpec := { name := "stripNames", fn := fun _ => fun
  | [] => { results := [.lit (.bool true)], args := [] }
  | _ => none }
def stripNamesRow : OpenClaim := { program := "ytclbiabiiknolaa", sum := "4c99feab2d373d76b5764f4182cf3a56ce60c0015050fc6278967f06c9158b56", func := "parcener/parcenerlaw31.StripNames", spec := "stripNames", unfollowed := true, recurses := true, plainKeys := false, apart := false }
def StripNamesSaid : Prop := stripNamesRow.holds Try.pinned (OpenSpec.ofChange stripNamesSpec)

/-- ITS FALSE NEIGHBOUR: 'it returns false'. Refute it at one input. -/
def stripNamesWrong : ChangeSpec := { name := "stripNames", fn := fun _ => fun
  | [] => { results := [.lit (.bool false)], args := [] }
  | _ => none }
def StripNamesWrongFalsely : Prop := stripNamesRow.holds Try.pinned (OpenSpec.ofChange stripNamesWrong)

/- THE SECOND FORM. 'bulk': how many values and letters a reading holds, each counted each time it is reached (what is shared counts as often as it is met; a slice's spare places count too). A statement '..UptoSaid' is the law's where the arguments, and the package variables that the reading takes, are together of bulk at most 1048576: NARROWER than '..Said'. Prove '..Said' where nothing that the law and all that it calls make is longer than what came in: it says more and counts as full. Else prove '..UptoSaid'. A law counts once. -/
mutual
def uptoBulk {H : Type} : DataW H → Nat
  | .lit (.string bytes) => bytes.length + 1
  | .lit _ => 1
  | .nil => 1
  | .ptr d => uptoBulk d + 1
  | .slice elems spare => uptoBulkAll elems + uptoBulkAll spare + 1
  | .agg parts => uptoBulkAll parts + 1
  | .iface _ d => uptoBulk d + 1
  | .map entries => uptoBulkEntries entries + 1
  | .held _ => 1
def uptoBulkAll {H : Type} : List (DataW H) → Nat
  | [] => 0
  | d :: r => uptoBulk d + uptoBulkAll r
def uptoBulkEntries {H : Type} : List (Lit × DataW H) → Nat
  | [] => 0
  | x :: r => uptoBulkEntry x + uptoBulkEntries r
def uptoBulkEntry {H : Type} : Lit × DataW H → Nat
  | (.string bytes, d) => bytes.length + uptoBulk d + 1
  | (_, d) => uptoBulk d + 1
 end
def uptoSmall : (H : Type) → List (DataW H) → Bool := fun _ ds => decide (uptoBulkAll ds ≤ 1048576)
def OpenSpec.upto (s : _root_.Go.ChangeSpec) : _root_.Go.OpenSpec := { _root_.Go.OpenSpec.ofChange s with cond := some uptoSmall }

/-- 'parcenerlaw31.StripFinds', WHERE WHAT IT READS IS OF BULK AT MOST 1048576: true; the input reads as it did. -/
def stripFindsUptoRow : OpenClaim := { program := "ytclbiabiiknolaa", sum := "4c99feab2d373d76b5764f4182cf3a56ce60c0015050fc6278967f06c9158b56", func := "parcener/parcenerlaw31.StripFinds", spec := "stripFinds", unfollowed := true, recurses := true, plainKeys := false, apart := false, narrowed := true }
def StripFindsUptoSaid : Prop := stripFindsUptoRow.holds Try.pinned (OpenSpec.upto stripFindsSpec)

/-- 'parcenerlaw31.StripAsks', WHERE WHAT IT READS IS OF BULK AT MOST 1048576: true; the input reads as it did. -/
def stripAsksUptoRow : OpenClaim := { program := "ytclbiabiiknolaa", sum := "4c99feab2d373d76b5764f4182cf3a56ce60c0015050fc6278967f06c9158b56", func := "parcener/parcenerlaw31.StripAsks", spec := "stripAsks", unfollowed := true, recurses := true, plainKeys := false, apart := false, narrowed := true }
def StripAsksUptoSaid : Prop := stripAsksUptoRow.holds Try.pinned (OpenSpec.upto stripAsksSpec)

/-- 'parcenerlaw31.StripTables', WHERE WHAT IT READS IS OF BULK AT MOST 1048576: true; the input reads as it did. -/
def stripTablesUptoRow : OpenClaim := { program := "ytclbiabiiknolaa", sum := "4c99feab2d373d76b5764f4182cf3a56ce60c0015050fc6278967f06c9158b56", func := "parcener/parcenerlaw31.StripTables", spec := "stripTables", unfollowed := true, recurses := true, plainKeys := false, apart := false, narrowed := true }
def StripTablesUptoSaid : Prop := stripTablesUptoRow.holds Try.pinned (OpenSpec.upto stripTablesSpec)

/-- 'parcenerlaw31.StripMirrors', WHERE WHAT IT READS IS OF BULK AT MOST 1048576: true; the input reads as it did. -/
def stripMirrorsUptoRow : OpenClaim := { program := "ytclbiabiiknolaa", sum := "4c99feab2d373d76b5764f4182cf3a56ce60c0015050fc6278967f06c9158b56", func := "parcener/parcenerlaw31.StripMirrors", spec := "stripMirrors", unfollowed := true, recurses := true, plainKeys := false, apart := false, narrowed := true }
def StripMirrorsUptoSaid : Prop := stripMirrorsUptoRow.holds Try.pinned (OpenSpec.upto stripMirrorsSpec)

/-- 'parcenerlaw31.StripProved', WHERE WHAT IT READS IS OF BULK AT MOST 1048576: true; the input reads as it did. -/
def stripProvedUptoRow : OpenClaim := { program := "ytclbiabiiknolaa", sum := "4c99feab2d373d76b5764f4182cf3a56ce60c0015050fc6278967f06c9158b56", func := "parcener/parcenerlaw31.StripProved", spec := "stripProved", unfollowed := true, recurses := true, plainKeys := false, apart := false, narrowed := true }
def StripProvedUptoSaid : Prop := stripProvedUptoRow.holds Try.pinned (OpenSpec.upto stripProvedSpec)

/-- 'parcenerlaw31.StripFirst', WHERE WHAT IT READS IS OF BULK AT MOST 1048576: true; the input reads as it did. -/
def stripFirstUptoRow : OpenClaim := { program := "ytclbiabiiknolaa", sum := "4c99feab2d373d76b5764f4182cf3a56ce60c0015050fc6278967f06c9158b56", func := "parcener/parcenerlaw31.StripFirst", spec := "stripFirst", unfollowed := true, recurses := true, plainKeys := false, apart := false, narrowed := true }
def StripFirstUptoSaid : Prop := stripFirstUptoRow.holds Try.pinned (OpenSpec.upto stripFirstSpec)

/-- 'parcenerlaw31.StripNames', WHERE WHAT IT READS IS OF BULK AT MOST 1048576: true; the input reads as it did. -/
def stripNamesUptoRow : OpenClaim := { program := "ytclbiabiiknolaa", sum := "4c99feab2d373d76b5764f4182cf3a56ce60c0015050fc6278967f06c9158b56", func := "parcener/parcenerlaw31.StripNames", spec := "stripNames", unfollowed := true, recurses := true, plainKeys := false, apart := false, narrowed := true }
def StripNamesUptoSaid : Prop := stripNamesUptoRow.holds Try.pinned (OpenSpec.upto stripNamesSpec)

end Rows
end Go.Proofs.Ytclbiabiiknolaa
