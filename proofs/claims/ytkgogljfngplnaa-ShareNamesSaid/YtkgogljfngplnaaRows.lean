/-
  No cell of these rows narrows 'for every input' (looked for: loops, veiled, ifaces, maps, wideKeys, modest, calm, conditions, laid).
  DERIVED. THE GIVEN ROWS OF THIS SEAT. 13 by the template 'for every input the law returns true; each argument reads behind the call as it read before'; 0 by the template 'total and deterministic' (their statements: YtkgogljfngplnaaTotals.lean).
  GIVEN WITH THE SEED: the statements are not yours to turn. If you find one false, say at which input.
  Laid BY PROGRAM, IN A SANDBOX (cutbox-rows.mjs): the forced cells as the released guide's own fill.sh prints them over the translation e65b26383013d59b… (all of the seat's roots in one cut). By AI agents, Wed Nov 11 2026. No macro, syntax, notation, axiom, sorry.
-/
import Derived.Test.YtkgogljfngplnaaChecked
import GoSem.Claim
import GoSem.ClaimJoined
import GoSem.ClaimMapViews
import Derived.JoinedTies
import Derived.KernelRfl
namespace Go.Proofs.Ytkgogljfngplnaa
/- THE CELL 'sum', in the pinned program and in every row, IS THE sha256 OF THE DUMP (.gsa) THAT YtkgogljfngplnaaProg.lean LOADS. Nothing in Lean hashes anything: it is a label: what it is worth is what the hold of that sum in a sandbox is worth. -/
noncomputable def Try.pinned : Pinned := { name := "ytkgogljfngplnaa", sum := "e65b26383013d59b4f8d8cc2fde651f30fb003eefac2fdef1c104364bdbd0872", checked := Try.checked }
namespace Rows
def none {H : Type} : Left H := { results := [], args := [] }

/-- 'parcenerlaw20.ShareOf': WHATEVER THE INPUT: true; the input reads as it did. -/
def shareOfSpec : ChangeSpec := { name := "shareOf", fn := fun _ => fun
  | [d1, d2, d3] => { results := [.lit (.bool true)], args := [d1, d2, d3] }
  | _ => none }
def shareOfRow : OpenClaim := { program := "ytkgogljfngplnaa", sum := "e65b26383013d59b4f8d8cc2fde651f30fb003eefac2fdef1c104364bdbd0872", func := "parcener/parcenerlaw20.ShareOf", spec := "shareOf", unfollowed := true, recurses := true, apart := false }
def ShareOfSaid : Prop := shareOfRow.holds Try.pinned (OpenSpec.ofChange shareOfSpec)

/-- ITS FALSE NEIGHBOUR: 'it returns false'. Refute it at one input. -/
def shareOfWrong : ChangeSpec := { name := "shareOf", fn := fun _ => fun
  | [d1, d2, d3] => { results := [.lit (.bool false)], args := [d1, d2, d3] }
  | _ => none }
def ShareOfWrongFalsely : Prop := shareOfRow.holds Try.pinned (OpenSpec.ofChange shareOfWrong)

/-- 'parcenerlaw21.NashOf': WHATEVER THE INPUT: true; the input reads as it did. -/
def nashOfSpec : ChangeSpec := { name := "nashOf", fn := fun _ => fun
  | [d1, d2, d3, d4] => { results := [.lit (.bool true)], args := [d1, d2, d3, d4] }
  | _ => none }
def nashOfRow : OpenClaim := { program := "ytkgogljfngplnaa", sum := "e65b26383013d59b4f8d8cc2fde651f30fb003eefac2fdef1c104364bdbd0872", func := "parcener/parcenerlaw21.NashOf", spec := "nashOf", unfollowed := true, recurses := true, apart := false }
def NashOfSaid : Prop := nashOfRow.holds Try.pinned (OpenSpec.ofChange nashOfSpec)

/-- ITS FALSE NEIGHBOUR: 'it returns false'. Refute it at one input. -/
def nashOfWrong : ChangeSpec := { name := "nashOf", fn := fun _ => fun
  | [d1, d2, d3, d4] => { results := [.lit (.bool false)], args := [d1, d2, d3, d4] }
  | _ => none }
def NashOfWrongFalsely : Prop := nashOfRow.holds Try.pinned (OpenSpec.ofChange nashOfWrong)

/-- 'parcenerlaw20.ShareMost': WHATEVER THE INPUT: true; the input reads as it did. -/
def shareMostSpec : ChangeSpec := { name := "shareMost", fn := fun _ => fun
  | [d1, d2, d3, d4] => { results := [.lit (.bool true)], args := [d1, d2, d3, d4] }
  | _ => none }
def shareMostRow : OpenClaim := { program := "ytkgogljfngplnaa", sum := "e65b26383013d59b4f8d8cc2fde651f30fb003eefac2fdef1c104364bdbd0872", func := "parcener/parcenerlaw20.ShareMost", spec := "shareMost", unfollowed := true, recurses := true, apart := false }
def ShareMostSaid : Prop := shareMostRow.holds Try.pinned (OpenSpec.ofChange shareMostSpec)

/-- ITS FALSE NEIGHBOUR: 'it returns false'. Refute it at one input. -/
def shareMostWrong : ChangeSpec := { name := "shareMost", fn := fun _ => fun
  | [d1, d2, d3, d4] => { results := [.lit (.bool false)], args := [d1, d2, d3, d4] }
  | _ => none }
def ShareMostWrongFalsely : Prop := shareMostRow.holds Try.pinned (OpenSpec.ofChange shareMostWrong)

/-- 'parcenerlaw20.ShareMore': WHATEVER THE INPUT: true; the input reads as it did. -/
def shareMoreSpec : ChangeSpec := { name := "shareMore", fn := fun _ => fun
  | [d1, d2, d3, d4, d5] => { results := [.lit (.bool true)], args := [d1, d2, d3, d4, d5] }
  | _ => none }
def shareMoreRow : OpenClaim := { program := "ytkgogljfngplnaa", sum := "e65b26383013d59b4f8d8cc2fde651f30fb003eefac2fdef1c104364bdbd0872", func := "parcener/parcenerlaw20.ShareMore", spec := "shareMore", unfollowed := true, recurses := true, apart := false }
def ShareMoreSaid : Prop := shareMoreRow.holds Try.pinned (OpenSpec.ofChange shareMoreSpec)

/-- ITS FALSE NEIGHBOUR: 'it returns false'. Refute it at one input. -/
def shareMoreWrong : ChangeSpec := { name := "shareMore", fn := fun _ => fun
  | [d1, d2, d3, d4, d5] => { results := [.lit (.bool false)], args := [d1, d2, d3, d4, d5] }
  | _ => none }
def ShareMoreWrongFalsely : Prop := shareMoreRow.holds Try.pinned (OpenSpec.ofChange shareMoreWrong)

/-- 'parcenerlaw21.NashFinds': WHATEVER THE INPUT: true; the input reads as it did. -/
def nashFindsSpec : ChangeSpec := { name := "nashFinds", fn := fun _ => fun
  | [d] => { results := [.lit (.bool true)], args := [d] }
  | _ => none }
def nashFindsRow : OpenClaim := { program := "ytkgogljfngplnaa", sum := "e65b26383013d59b4f8d8cc2fde651f30fb003eefac2fdef1c104364bdbd0872", func := "parcener/parcenerlaw21.NashFinds", spec := "nashFinds", unfollowed := true, recurses := true, apart := false }
def NashFindsSaid : Prop := nashFindsRow.holds Try.pinned (OpenSpec.ofChange nashFindsSpec)

/-- ITS FALSE NEIGHBOUR: 'it returns false'. Refute it at one input. -/
def nashFindsWrong : ChangeSpec := { name := "nashFinds", fn := fun _ => fun
  | [d] => { results := [.lit (.bool false)], args := [d] }
  | _ => none }
def NashFindsWrongFalsely : Prop := nashFindsRow.holds Try.pinned (OpenSpec.ofChange nashFindsWrong)

/-- 'parcenerlaw21.NashNames': WHATEVER THE INPUT: true; the input reads as it did. -/
def nashNamesSpec : ChangeSpec := { name := "nashNames", fn := fun _ => fun
  | [] => { results := [.lit (.bool true)], args := [] }
  | _ => none }
def nashNamesRow : OpenClaim := { program := "ytkgogljfngplnaa", sum := "e65b26383013d59b4f8d8cc2fde651f30fb003eefac2fdef1c104364bdbd0872", func := "parcener/parcenerlaw21.NashNames", spec := "nashNames", unfollowed := true, recurses := true, apart := false }
def NashNamesSaid : Prop := nashNamesRow.holds Try.pinned (OpenSpec.ofChange nashNamesSpec)

/-- ITS FALSE NEIGHBOUR: 'it returns false'. Refute it at one input. -/
def nashNamesWrong : ChangeSpec := { name := "nashNames", fn := fun _ => fun
  | [] => { results := [.lit (.bool false)], args := [] }
  | _ => none }
def NashNamesWrongFalsely : Prop := nashNamesRow.holds Try.pinned (OpenSpec.ofChange nashNamesWrong)

/-- 'parcenerlaw21.NashMost': WHATEVER THE INPUT: true; the input reads as it did. -/
def nashMostSpec : ChangeSpec := { name := "nashMost", fn := fun _ => fun
  | [d1, d2] => { results := [.lit (.bool true)], args := [d1, d2] }
  | _ => none }
def nashMostRow : OpenClaim := { program := "ytkgogljfngplnaa", sum := "e65b26383013d59b4f8d8cc2fde651f30fb003eefac2fdef1c104364bdbd0872", func := "parcener/parcenerlaw21.NashMost", spec := "nashMost", unfollowed := true, recurses := true, apart := false }
def NashMostSaid : Prop := nashMostRow.holds Try.pinned (OpenSpec.ofChange nashMostSpec)

/-- ITS FALSE NEIGHBOUR: 'it returns false'. Refute it at one input. -/
def nashMostWrong : ChangeSpec := { name := "nashMost", fn := fun _ => fun
  | [d1, d2] => { results := [.lit (.bool false)], args := [d1, d2] }
  | _ => none }
def NashMostWrongFalsely : Prop := nashMostRow.holds Try.pinned (OpenSpec.ofChange nashMostWrong)

/-- 'parcenerlaw21.NashScales': WHATEVER THE INPUT: true; the input reads as it did. -/
def nashScalesSpec : ChangeSpec := { name := "nashScales", fn := fun _ => fun
  | [d1, d2, d3] => { results := [.lit (.bool true)], args := [d1, d2, d3] }
  | _ => none }
def nashScalesRow : OpenClaim := { program := "ytkgogljfngplnaa", sum := "e65b26383013d59b4f8d8cc2fde651f30fb003eefac2fdef1c104364bdbd0872", func := "parcener/parcenerlaw21.NashScales", spec := "nashScales", unfollowed := true, recurses := true, apart := false }
def NashScalesSaid : Prop := nashScalesRow.holds Try.pinned (OpenSpec.ofChange nashScalesSpec)

/-- ITS FALSE NEIGHBOUR: 'it returns false'. Refute it at one input. -/
def nashScalesWrong : ChangeSpec := { name := "nashScales", fn := fun _ => fun
  | [d1, d2, d3] => { results := [.lit (.bool false)], args := [d1, d2, d3] }
  | _ => none }
def NashScalesWrongFalsely : Prop := nashScalesRow.holds Try.pinned (OpenSpec.ofChange nashScalesWrong)

/-- 'parcenerlaw20.ShareFinds': WHATEVER THE INPUT: true; the input reads as it did. -/
def shareFindsSpec : ChangeSpec := { name := "shareFinds", fn := fun _ => fun
  | [d1, d2] => { results := [.lit (.bool true)], args := [d1, d2] }
  | _ => none }
def shareFindsRow : OpenClaim := { program := "ytkgogljfngplnaa", sum := "e65b26383013d59b4f8d8cc2fde651f30fb003eefac2fdef1c104364bdbd0872", func := "parcener/parcenerlaw20.ShareFinds", spec := "shareFinds", unfollowed := true, recurses := true, apart := false }
def ShareFindsSaid : Prop := shareFindsRow.holds Try.pinned (OpenSpec.ofChange shareFindsSpec)

/-- ITS FALSE NEIGHBOUR: 'it returns false'. Refute it at one input. -/
def shareFindsWrong : ChangeSpec := { name := "shareFinds", fn := fun _ => fun
  | [d1, d2] => { results := [.lit (.bool false)], args := [d1, d2] }
  | _ => none }
def ShareFindsWrongFalsely : Prop := shareFindsRow.holds Try.pinned (OpenSpec.ofChange shareFindsWrong)

/-- 'parcenerlaw20.ShareNames': WHATEVER THE INPUT: true; the input reads as it did. -/
def shareNamesSpec : ChangeSpec := { name := "shareNames", fn := fun _ => fun
  | [] => { results := [.lit (.bool true)], args := [] }
  | _ => none }
def shareNamesRow : OpenClaim := { program := "ytkgogljfngplnaa", sum := "e65b26383013d59b4f8d8cc2fde651f30fb003eefac2fdef1c104364bdbd0872", func := "parcener/parcenerlaw20.ShareNames", spec := "shareNames", unfollowed := true, recurses := true, apart := false }
def ShareNamesSaid : Prop := shareNamesRow.holds Try.pinned (OpenSpec.ofChange shareNamesSpec)

/-- ITS FALSE NEIGHBOUR: 'it returns false'. Refute it at one input. -/
def shareNamesWrong : ChangeSpec := { name := "shareNames", fn := fun _ => fun
  | [] => { results := [.lit (.bool false)], args := [] }
  | _ => none }
def ShareNamesWrongFalsely : Prop := shareNamesRow.holds Try.pinned (OpenSpec.ofChange shareNamesWrong)

/-- 'parcenerlaw20.ShareKept': WHATEVER THE INPUT: true; the input reads as it did. -/
def shareKeptSpec : ChangeSpec := { name := "shareKept", fn := fun _ => fun
  | [d1, d2] => { results := [.lit (.bool true)], args := [d1, d2] }
  | _ => none }
def shareKeptRow : OpenClaim := { program := "ytkgogljfngplnaa", sum := "e65b26383013d59b4f8d8cc2fde651f30fb003eefac2fdef1c104364bdbd0872", func := "parcener/parcenerlaw20.ShareKept", spec := "shareKept", unfollowed := true, recurses := true, apart := false }
def ShareKeptSaid : Prop := shareKeptRow.holds Try.pinned (OpenSpec.ofChange shareKeptSpec)

/-- ITS FALSE NEIGHBOUR: 'it returns false'. Refute it at one input. -/
def shareKeptWrong : ChangeSpec := { name := "shareKept", fn := fun _ => fun
  | [d1, d2] => { results := [.lit (.bool false)], args := [d1, d2] }
  | _ => none }
def ShareKeptWrongFalsely : Prop := shareKeptRow.holds Try.pinned (OpenSpec.ofChange shareKeptWrong)

/-- 'parcenerlaw21.NashNear': WHATEVER THE INPUT: true; the input reads as it did. -/
def nashNearSpec : ChangeSpec := { name := "nashNear", fn := fun _ => fun
  | [d1, d2] => { results := [.lit (.bool true)], args := [d1, d2] }
  | _ => none }
def nashNearRow : OpenClaim := { program := "ytkgogljfngplnaa", sum := "e65b26383013d59b4f8d8cc2fde651f30fb003eefac2fdef1c104364bdbd0872", func := "parcener/parcenerlaw21.NashNear", spec := "nashNear", unfollowed := true, recurses := true, apart := false }
def NashNearSaid : Prop := nashNearRow.holds Try.pinned (OpenSpec.ofChange nashNearSpec)

/-- ITS FALSE NEIGHBOUR: 'it returns false'. Refute it at one input. -/
def nashNearWrong : ChangeSpec := { name := "nashNear", fn := fun _ => fun
  | [d1, d2] => { results := [.lit (.bool false)], args := [d1, d2] }
  | _ => none }
def NashNearWrongFalsely : Prop := nashNearRow.holds Try.pinned (OpenSpec.ofChange nashNearWrong)

/-- 'parcenerlaw20.ShareNear': WHATEVER THE INPUT: true; the input reads as it did. -/
def shareNearSpec : ChangeSpec := { name := "shareNear", fn := fun _ => fun
  | [d1, d2] => { results := [.lit (.bool true)], args := [d1, d2] }
  | _ => none }
def shareNearRow : OpenClaim := { program := "ytkgogljfngplnaa", sum := "e65b26383013d59b4f8d8cc2fde651f30fb003eefac2fdef1c104364bdbd0872", func := "parcener/parcenerlaw20.ShareNear", spec := "shareNear", unfollowed := true, recurses := true, apart := false }
def ShareNearSaid : Prop := shareNearRow.holds Try.pinned (OpenSpec.ofChange shareNearSpec)

/-- ITS FALSE NEIGHBOUR: 'it returns false'. Refute it at one input. -/
def shareNearWrong : ChangeSpec := { name := "shareNear", fn := fun _ => fun
  | [d1, d2] => { results := [.lit (.bool false)], args := [d1, d2] }
  | _ => none }
def ShareNearWrongFalsely : Prop := shareNearRow.holds Try.pinned (OpenSpec.ofChange shareNearWrong)

/- THE SECOND FORM. 'bulk': how many values and letters a reading holds, each counted each time it is reached (what is shared counts as often as it is met; a slice's spare places count too). A statement '..UptoSaid' is the law's where the arguments, and the package variables that the reading takes, are together of bulk at most 1048576: NARROWER than '..Said'. Prove '..Said' where nothing that the law and all that it calls make is longer than what came in: it says more and counts as full. Else prove '..UptoSaid'. A law counts once. -/
mutual
def uptoBulk {H : Type} : DataW H → Nat
  | .lit (.string bytes) => bytes.length + 1
  | .lit _ => 1
  | .nil => 1
  | .ptr d => uptoBulk d + 1
  | .slice elems spare => uptoBulkAll elems + uptoBulkAll spare + 1
  | .agg parts => uptoBulkAll parts + 1
  | .iface _ d => uptoBulk d + 1
  | .map entries => uptoBulkEntries entries + 1
  | .held _ => 1
def uptoBulkAll {H : Type} : List (DataW H) → Nat
  | [] => 0
  | d :: r => uptoBulk d + uptoBulkAll r
def uptoBulkEntries {H : Type} : List (Lit × DataW H) → Nat
  | [] => 0
  | x :: r => uptoBulkEntry x + uptoBulkEntries r
def uptoBulkEntry {H : Type} : Lit × DataW H → Nat
  | (.string bytes, d) => bytes.length + uptoBulk d + 1
  | (_, d) => uptoBulk d + 1
 end
def uptoSmall : (H : Type) → List (DataW H) → Bool := fun _ ds => decide (uptoBulkAll ds ≤ 1048576)
def OpenSpec.upto (s : _root_.Go.ChangeSpec) : _root_.Go.OpenSpec := { _root_.Go.OpenSpec.ofChange s with cond := some uptoSmall }

/-- 'parcenerlaw20.ShareOf', WHERE WHAT IT READS IS OF BULK AT MOST 1048576: true; the input reads as it did. -/
def shareOfUptoRow : OpenClaim := { program := "ytkgogljfngplnaa", sum := "e65b26383013d59b4f8d8cc2fde651f30fb003eefac2fdef1c104364bdbd0872", func := "parcener/parcenerlaw20.ShareOf", spec := "shareOf", unfollowed := true, recurses := true, apart := false, narrowed := true }
def ShareOfUptoSaid : Prop := shareOfUptoRow.holds Try.pinned (OpenSpec.upto shareOfSpec)

/-- 'parcenerlaw21.NashOf', WHERE WHAT IT READS IS OF BULK AT MOST 1048576: true; the input reads as it did. -/
def nashOfUptoRow : OpenClaim := { program := "ytkgogljfngplnaa", sum := "e65b26383013d59b4f8d8cc2fde651f30fb003eefac2fdef1c104364bdbd0872", func := "parcener/parcenerlaw21.NashOf", spec := "nashOf", unfollowed := true, recurses := true, apart := false, narrowed := true }
def NashOfUptoSaid : Prop := nashOfUptoRow.holds Try.pinned (OpenSpec.upto nashOfSpec)

/-- 'parcenerlaw20.ShareMost', WHERE WHAT IT READS IS OF BULK AT MOST 1048576: true; the input reads as it did. -/
def shareMostUptoRow : OpenClaim := { program := "ytkgogljfngplnaa", sum := "e65b26383013d59b4f8d8cc2fde651f30fb003eefac2fdef1c104364bdbd0872", func := "parcener/parcenerlaw20.ShareMost", spec := "shareMost", unfollowed := true, recurses := true, apart := false, narrowed := true }
def ShareMostUptoSaid : Prop := shareMostUptoRow.holds Try.pinned (OpenSpec.upto shareMostSpec)

/-- 'parcenerlaw20.ShareMore', WHERE WHAT IT READS IS OF BULK AT MOST 1048576: true; the input reads as it did. -/
def shareMoreUptoRow : OpenClaim := { program := "ytkgogljfngplnaa", sum := "e65b26383013d59b4f8d8cc2fde651f30fb003eefac2fdef1c104364bdbd0872", func := "parcener/parcenerlaw20.ShareMore", spec := "shareMore", unfollowed := true, recurses := true, apart := false, narrowed := true }
def ShareMoreUptoSaid : Prop := shareMoreUptoRow.holds Try.pinned (OpenSpec.upto shareMoreSpec)

/-- 'parcenerlaw21.NashFinds', WHERE WHAT IT READS IS OF BULK AT MOST 1048576: true; the input reads as it did. -/
def nashFindsUptoRow : OpenClaim := { program := "ytkgogljfngplnaa", sum := "e65b26383013d59b4f8d8cc2fde651f30fb003eefac2fdef1c104364bdbd0872", func := "parcener/parcenerlaw21.NashFinds", spec := "nashFinds", unfollowed := true, recurses := true, apart := false, narrowed := true }
def NashFindsUptoSaid : Prop := nashFindsUptoRow.holds Try.pinned (OpenSpec.upto nashFindsSpec)

/-- 'parcenerlaw21.NashNames', WHERE WHAT IT READS IS OF BULK AT MOST 1048576: true; the input reads as it did. -/
def nashNamesUptoRow : OpenClaim := { program := "ytkgogljfngplnaa", sum := "e65b26383013d59b4f8d8cc2fde651f30fb003eefac2fdef1c104364bdbd0872", func := "parcener/parcenerlaw21.NashNames", spec := "nashNames", unfollowed := true, recurses := true, apart := false, narrowed := true }
def NashNamesUptoSaid : Prop := nashNamesUptoRow.holds Try.pinned (OpenSpec.upto nashNamesSpec)

/-- 'parcenerlaw21.NashMost', WHERE WHAT IT READS IS OF BULK AT MOST 1048576: true; the input reads as it did. -/
def nashMostUptoRow : OpenClaim := { program := "ytkgogljfngplnaa", sum := "e65b26383013d59b4f8d8cc2fde651f30fb003eefac2fdef1c104364bdbd0872", func := "parcener/parcenerlaw21.NashMost", spec := "nashMost", unfollowed := true, recurses := true, apart := false, narrowed := true }
def NashMostUptoSaid : Prop := nashMostUptoRow.holds Try.pinned (OpenSpec.upto nashMostSpec)

/-- 'parcenerlaw21.NashScales', WHERE WHAT IT READS IS OF BULK AT MOST 1048576: true; the input reads as it did. -/
def nashScalesUptoRow : OpenClaim := { program := "ytkgogljfngplnaa", sum := "e65b26383013d59b4f8d8cc2fde651f30fb003eefac2fdef1c104364bdbd0872", func := "parcener/parcenerlaw21.NashScales", spec := "nashScales", unfollowed := true, recurses := true, apart := false, narrowed := true }
def NashScalesUptoSaid : Prop := nashScalesUptoRow.holds Try.pinned (OpenSpec.upto nashScalesSpec)

/-- 'parcenerlaw20.ShareFinds', WHERE WHAT IT READS IS OF BULK AT MOST 1048576: true; the input reads as it did. -/
def shareFindsUptoRow : OpenClaim := { program := "ytkgogljfngplnaa", sum := "e65b26383013d59b4f8d8cc2fde651f30fb003eefac2fdef1c104364bdbd0872", func := "parcener/parcenerlaw20.ShareFinds", spec := "shareFinds", unfollowed := true, recurses := true, apart := false, narrowed := true }
def ShareFindsUptoSaid : Prop := shareFindsUptoRow.holds Try.pinned (OpenSpec.upto shareFindsSpec)

/-- 'parcenerlaw20.ShareNames', WHERE WHAT IT READS IS OF BULK AT MOST 1048576: true; the input reads as it did. -/
def shareNamesUptoRow : OpenClaim := { program := "ytkgogljfngplnaa", sum := "e65b26383013d59b4f8d8cc2fde651f30fb003eefac2fdef1c104364bdbd0872", func := "parcener/parcenerlaw20.ShareNames", spec := "shareNames", unfollowed := true, recurses := true, apart := false, narrowed := true }
def ShareNamesUptoSaid : Prop := shareNamesUptoRow.holds Try.pinned (OpenSpec.upto shareNamesSpec)

/-- 'parcenerlaw20.ShareKept', WHERE WHAT IT READS IS OF BULK AT MOST 1048576: true; the input reads as it did. -/
def shareKeptUptoRow : OpenClaim := { program := "ytkgogljfngplnaa", sum := "e65b26383013d59b4f8d8cc2fde651f30fb003eefac2fdef1c104364bdbd0872", func := "parcener/parcenerlaw20.ShareKept", spec := "shareKept", unfollowed := true, recurses := true, apart := false, narrowed := true }
def ShareKeptUptoSaid : Prop := shareKeptUptoRow.holds Try.pinned (OpenSpec.upto shareKeptSpec)

/-- 'parcenerlaw21.NashNear', WHERE WHAT IT READS IS OF BULK AT MOST 1048576: true; the input reads as it did. -/
def nashNearUptoRow : OpenClaim := { program := "ytkgogljfngplnaa", sum := "e65b26383013d59b4f8d8cc2fde651f30fb003eefac2fdef1c104364bdbd0872", func := "parcener/parcenerlaw21.NashNear", spec := "nashNear", unfollowed := true, recurses := true, apart := false, narrowed := true }
def NashNearUptoSaid : Prop := nashNearUptoRow.holds Try.pinned (OpenSpec.upto nashNearSpec)

/-- 'parcenerlaw20.ShareNear', WHERE WHAT IT READS IS OF BULK AT MOST 1048576: true; the input reads as it did. -/
def shareNearUptoRow : OpenClaim := { program := "ytkgogljfngplnaa", sum := "e65b26383013d59b4f8d8cc2fde651f30fb003eefac2fdef1c104364bdbd0872", func := "parcener/parcenerlaw20.ShareNear", spec := "shareNear", unfollowed := true, recurses := true, apart := false, narrowed := true }
def ShareNearUptoSaid : Prop := shareNearUptoRow.holds Try.pinned (OpenSpec.upto shareNearSpec)

end Rows
end Go.Proofs.Ytkgogljfngplnaa
