/-
  No cell of these rows narrows 'for every input' (looked for: loops, veiled, ifaces, maps, wideKeys, modest, calm, conditions, laid).
  DERIVED. THE GIVEN ROWS OF THIS SEAT. 12 by the template 'for every input the law returns true; each argument reads behind the call as it read before'; 0 by the template 'total and deterministic' (their statements: YtiahjkhfkbcjhaaTotals.lean).
  GIVEN WITH THE SEED: the statements are not yours to turn. If you find one false, say at which input.
  Laid BY PROGRAM, IN A SANDBOX (cutbox-rows.mjs): the forced cells as the released guide's own fill.sh prints them over the translation d541177c842ee24a… (all of the seat's roots in one cut). By AI agents, Wed Nov 11 2026. No macro, syntax, notation, axiom, sorry.
-/
import Derived.Test.YtiahjkhfkbcjhaaChecked
import GoSem.Claim
import GoSem.ClaimJoined
import GoSem.ClaimMapViews
import Derived.JoinedTies
import Derived.KernelRfl
namespace Go.Proofs.Ytiahjkhfkbcjhaa
/- THE CELL 'sum', in the pinned program and in every row, IS THE sha256 OF THE DUMP (.gsa) THAT YtiahjkhfkbcjhaaProg.lean LOADS. Nothing in Lean hashes anything: it is a label: what it is worth is what the hold of that sum in a sandbox is worth. -/
noncomputable def Try.pinned : Pinned := { name := "ytiahjkhfkbcjhaa", sum := "d541177c842ee24ad060d85d6e8127828a0225bcdf6c1e6f136c6299d317ba63", checked := Try.checked }
namespace Rows
def none {H : Type} : Left H := { results := [], args := [] }

/-- 'parcenerlaw16.GoodsTells': WHATEVER THE INPUT: true; the input reads as it did. -/
def goodsTellsSpec : ChangeSpec := { name := "goodsTells", fn := fun _ => fun
  | [d1, d2] => { results := [.lit (.bool true)], args := [d1, d2] }
  | _ => none }
def goodsTellsRow : OpenClaim := { program := "ytiahjkhfkbcjhaa", sum := "d541177c842ee24ad060d85d6e8127828a0225bcdf6c1e6f136c6299d317ba63", func := "parcener/parcenerlaw16.GoodsTells", spec := "goodsTells", unfollowed := true, recurses := true, apart := false }
def GoodsTellsSaid : Prop := goodsTellsRow.holds Try.pinned (OpenSpec.ofChange goodsTellsSpec)

/-- ITS FALSE NEIGHBOUR: 'it returns false'. Refute it at one input. -/
def goodsTellsWrong : ChangeSpec := { name := "goodsTells", fn := fun _ => fun
  | [d1, d2] => { results := [.lit (.bool false)], args := [d1, d2] }
  | _ => none }
def GoodsTellsWrongFalsely : Prop := goodsTellsRow.holds Try.pinned (OpenSpec.ofChange goodsTellsWrong)

/-- 'parcenerlaw16.GoodsFair': WHATEVER THE INPUT: true; the input reads as it did. -/
def goodsFairSpec : ChangeSpec := { name := "goodsFair", fn := fun _ => fun
  | [d1, d2] => { results := [.lit (.bool true)], args := [d1, d2] }
  | _ => none }
def goodsFairRow : OpenClaim := { program := "ytiahjkhfkbcjhaa", sum := "d541177c842ee24ad060d85d6e8127828a0225bcdf6c1e6f136c6299d317ba63", func := "parcener/parcenerlaw16.GoodsFair", spec := "goodsFair", unfollowed := true, recurses := true, apart := false }
def GoodsFairSaid : Prop := goodsFairRow.holds Try.pinned (OpenSpec.ofChange goodsFairSpec)

/-- ITS FALSE NEIGHBOUR: 'it returns false'. Refute it at one input. -/
def goodsFairWrong : ChangeSpec := { name := "goodsFair", fn := fun _ => fun
  | [d1, d2] => { results := [.lit (.bool false)], args := [d1, d2] }
  | _ => none }
def GoodsFairWrongFalsely : Prop := goodsFairRow.holds Try.pinned (OpenSpec.ofChange goodsFairWrong)

/-- 'parcenerlaw16.GoodsSums': WHATEVER THE INPUT: true; the input reads as it did. -/
def goodsSumsSpec : ChangeSpec := { name := "goodsSums", fn := fun _ => fun
  | [d1, d2] => { results := [.lit (.bool true)], args := [d1, d2] }
  | _ => none }
def goodsSumsRow : OpenClaim := { program := "ytiahjkhfkbcjhaa", sum := "d541177c842ee24ad060d85d6e8127828a0225bcdf6c1e6f136c6299d317ba63", func := "parcener/parcenerlaw16.GoodsSums", spec := "goodsSums", unfollowed := true, recurses := true, apart := false }
def GoodsSumsSaid : Prop := goodsSumsRow.holds Try.pinned (OpenSpec.ofChange goodsSumsSpec)

/-- ITS FALSE NEIGHBOUR: 'it returns false'. Refute it at one input. -/
def goodsSumsWrong : ChangeSpec := { name := "goodsSums", fn := fun _ => fun
  | [d1, d2] => { results := [.lit (.bool false)], args := [d1, d2] }
  | _ => none }
def GoodsSumsWrongFalsely : Prop := goodsSumsRow.holds Try.pinned (OpenSpec.ofChange goodsSumsWrong)

/-- 'parcenerlaw16.GoodsMoves': WHATEVER THE INPUT: true; the input reads as it did. -/
def goodsMovesSpec : ChangeSpec := { name := "goodsMoves", fn := fun _ => fun
  | [d1, d2, d3, d4, d5] => { results := [.lit (.bool true)], args := [d1, d2, d3, d4, d5] }
  | _ => none }
def goodsMovesRow : OpenClaim := { program := "ytiahjkhfkbcjhaa", sum := "d541177c842ee24ad060d85d6e8127828a0225bcdf6c1e6f136c6299d317ba63", func := "parcener/parcenerlaw16.GoodsMoves", spec := "goodsMoves", unfollowed := true, recurses := true, apart := false }
def GoodsMovesSaid : Prop := goodsMovesRow.holds Try.pinned (OpenSpec.ofChange goodsMovesSpec)

/-- ITS FALSE NEIGHBOUR: 'it returns false'. Refute it at one input. -/
def goodsMovesWrong : ChangeSpec := { name := "goodsMoves", fn := fun _ => fun
  | [d1, d2, d3, d4, d5] => { results := [.lit (.bool false)], args := [d1, d2, d3, d4, d5] }
  | _ => none }
def GoodsMovesWrongFalsely : Prop := goodsMovesRow.holds Try.pinned (OpenSpec.ofChange goodsMovesWrong)

/-- 'parcenerlaw17.NearTells': WHATEVER THE INPUT: true; the input reads as it did. -/
def nearTellsSpec : ChangeSpec := { name := "nearTells", fn := fun _ => fun
  | [d1, d2] => { results := [.lit (.bool true)], args := [d1, d2] }
  | _ => none }
def nearTellsRow : OpenClaim := { program := "ytiahjkhfkbcjhaa", sum := "d541177c842ee24ad060d85d6e8127828a0225bcdf6c1e6f136c6299d317ba63", func := "parcener/parcenerlaw17.NearTells", spec := "nearTells", unfollowed := true, recurses := true, apart := false }
def NearTellsSaid : Prop := nearTellsRow.holds Try.pinned (OpenSpec.ofChange nearTellsSpec)

/-- ITS FALSE NEIGHBOUR: 'it returns false'. Refute it at one input. -/
def nearTellsWrong : ChangeSpec := { name := "nearTells", fn := fun _ => fun
  | [d1, d2] => { results := [.lit (.bool false)], args := [d1, d2] }
  | _ => none }
def NearTellsWrongFalsely : Prop := nearTellsRow.holds Try.pinned (OpenSpec.ofChange nearTellsWrong)

/-- 'parcenerlaw17.NearNames': WHATEVER THE INPUT: true; the input reads as it did. -/
def nearNamesSpec : ChangeSpec := { name := "nearNames", fn := fun _ => fun
  | [] => { results := [.lit (.bool true)], args := [] }
  | _ => none }
def nearNamesRow : OpenClaim := { program := "ytiahjkhfkbcjhaa", sum := "d541177c842ee24ad060d85d6e8127828a0225bcdf6c1e6f136c6299d317ba63", func := "parcener/parcenerlaw17.NearNames", spec := "nearNames", unfollowed := true, recurses := true, apart := false }
def NearNamesSaid : Prop := nearNamesRow.holds Try.pinned (OpenSpec.ofChange nearNamesSpec)

/-- ITS FALSE NEIGHBOUR: 'it returns false'. Refute it at one input. -/
def nearNamesWrong : ChangeSpec := { name := "nearNames", fn := fun _ => fun
  | [] => { results := [.lit (.bool false)], args := [] }
  | _ => none }
def NearNamesWrongFalsely : Prop := nearNamesRow.holds Try.pinned (OpenSpec.ofChange nearNamesWrong)

/-- 'parcenerlaw17.NearImplies': WHATEVER THE INPUT: true; the input reads as it did. -/
def nearImpliesSpec : ChangeSpec := { name := "nearImplies", fn := fun _ => fun
  | [d1, d2] => { results := [.lit (.bool true)], args := [d1, d2] }
  | _ => none }
def nearImpliesRow : OpenClaim := { program := "ytiahjkhfkbcjhaa", sum := "d541177c842ee24ad060d85d6e8127828a0225bcdf6c1e6f136c6299d317ba63", func := "parcener/parcenerlaw17.NearImplies", spec := "nearImplies", unfollowed := true, recurses := true, apart := false }
def NearImpliesSaid : Prop := nearImpliesRow.holds Try.pinned (OpenSpec.ofChange nearImpliesSpec)

/-- ITS FALSE NEIGHBOUR: 'it returns false'. Refute it at one input. -/
def nearImpliesWrong : ChangeSpec := { name := "nearImplies", fn := fun _ => fun
  | [d1, d2] => { results := [.lit (.bool false)], args := [d1, d2] }
  | _ => none }
def NearImpliesWrongFalsely : Prop := nearImpliesRow.holds Try.pinned (OpenSpec.ofChange nearImpliesWrong)

/-- 'parcenerlaw17.NearMarks': WHATEVER THE INPUT: true; the input reads as it did. -/
def nearMarksSpec : ChangeSpec := { name := "nearMarks", fn := fun _ => fun
  | [d1, d2] => { results := [.lit (.bool true)], args := [d1, d2] }
  | _ => none }
def nearMarksRow : OpenClaim := { program := "ytiahjkhfkbcjhaa", sum := "d541177c842ee24ad060d85d6e8127828a0225bcdf6c1e6f136c6299d317ba63", func := "parcener/parcenerlaw17.NearMarks", spec := "nearMarks", unfollowed := true, recurses := true, apart := false }
def NearMarksSaid : Prop := nearMarksRow.holds Try.pinned (OpenSpec.ofChange nearMarksSpec)

/-- ITS FALSE NEIGHBOUR: 'it returns false'. Refute it at one input. -/
def nearMarksWrong : ChangeSpec := { name := "nearMarks", fn := fun _ => fun
  | [d1, d2] => { results := [.lit (.bool false)], args := [d1, d2] }
  | _ => none }
def NearMarksWrongFalsely : Prop := nearMarksRow.holds Try.pinned (OpenSpec.ofChange nearMarksWrong)

/-- 'parcenerlaw17.NearSingle': WHATEVER THE INPUT: true; the input reads as it did. -/
def nearSingleSpec : ChangeSpec := { name := "nearSingle", fn := fun _ => fun
  | [d1, d2] => { results := [.lit (.bool true)], args := [d1, d2] }
  | _ => none }
def nearSingleRow : OpenClaim := { program := "ytiahjkhfkbcjhaa", sum := "d541177c842ee24ad060d85d6e8127828a0225bcdf6c1e6f136c6299d317ba63", func := "parcener/parcenerlaw17.NearSingle", spec := "nearSingle", unfollowed := true, recurses := true, apart := false }
def NearSingleSaid : Prop := nearSingleRow.holds Try.pinned (OpenSpec.ofChange nearSingleSpec)

/-- ITS FALSE NEIGHBOUR: 'it returns false'. Refute it at one input. -/
def nearSingleWrong : ChangeSpec := { name := "nearSingle", fn := fun _ => fun
  | [d1, d2] => { results := [.lit (.bool false)], args := [d1, d2] }
  | _ => none }
def NearSingleWrongFalsely : Prop := nearSingleRow.holds Try.pinned (OpenSpec.ofChange nearSingleWrong)

/-- 'parcenerlaw17.NearGrown': WHATEVER THE INPUT: true; the input reads as it did. -/
def nearGrownSpec : ChangeSpec := { name := "nearGrown", fn := fun _ => fun
  | [d1, d2, d3, d4] => { results := [.lit (.bool true)], args := [d1, d2, d3, d4] }
  | _ => none }
def nearGrownRow : OpenClaim := { program := "ytiahjkhfkbcjhaa", sum := "d541177c842ee24ad060d85d6e8127828a0225bcdf6c1e6f136c6299d317ba63", func := "parcener/parcenerlaw17.NearGrown", spec := "nearGrown", unfollowed := true, recurses := true, apart := false }
def NearGrownSaid : Prop := nearGrownRow.holds Try.pinned (OpenSpec.ofChange nearGrownSpec)

/-- ITS FALSE NEIGHBOUR: 'it returns false'. Refute it at one input. -/
def nearGrownWrong : ChangeSpec := { name := "nearGrown", fn := fun _ => fun
  | [d1, d2, d3, d4] => { results := [.lit (.bool false)], args := [d1, d2, d3, d4] }
  | _ => none }
def NearGrownWrongFalsely : Prop := nearGrownRow.holds Try.pinned (OpenSpec.ofChange nearGrownWrong)

/-- 'parcenerlaw16.GoodsNames': WHATEVER THE INPUT: true; the input reads as it did. -/
def goodsNamesSpec : ChangeSpec := { name := "goodsNames", fn := fun _ => fun
  | [] => { results := [.lit (.bool true)], args := [] }
  | _ => none }
def goodsNamesRow : OpenClaim := { program := "ytiahjkhfkbcjhaa", sum := "d541177c842ee24ad060d85d6e8127828a0225bcdf6c1e6f136c6299d317ba63", func := "parcener/parcenerlaw16.GoodsNames", spec := "goodsNames", unfollowed := true, recurses := true, apart := false }
def GoodsNamesSaid : Prop := goodsNamesRow.holds Try.pinned (OpenSpec.ofChange goodsNamesSpec)

/-- ITS FALSE NEIGHBOUR: 'it returns false'. Refute it at one input. -/
def goodsNamesWrong : ChangeSpec := { name := "goodsNames", fn := fun _ => fun
  | [] => { results := [.lit (.bool false)], args := [] }
  | _ => none }
def GoodsNamesWrongFalsely : Prop := goodsNamesRow.holds Try.pinned (OpenSpec.ofChange goodsNamesWrong)

/-- 'parcenerlaw16.GoodsPass': WHATEVER THE INPUT: true; the input reads as it did. -/
def goodsPassSpec : ChangeSpec := { name := "goodsPass", fn := fun _ => fun
  | [d1, d2, d3, d4, d5] => { results := [.lit (.bool true)], args := [d1, d2, d3, d4, d5] }
  | _ => none }
def goodsPassRow : OpenClaim := { program := "ytiahjkhfkbcjhaa", sum := "d541177c842ee24ad060d85d6e8127828a0225bcdf6c1e6f136c6299d317ba63", func := "parcener/parcenerlaw16.GoodsPass", spec := "goodsPass", unfollowed := true, recurses := true, apart := false }
def GoodsPassSaid : Prop := goodsPassRow.holds Try.pinned (OpenSpec.ofChange goodsPassSpec)

/-- ITS FALSE NEIGHBOUR: 'it returns false'. Refute it at one input. -/
def goodsPassWrong : ChangeSpec := { name := "goodsPass", fn := fun _ => fun
  | [d1, d2, d3, d4, d5] => { results := [.lit (.bool false)], args := [d1, d2, d3, d4, d5] }
  | _ => none }
def GoodsPassWrongFalsely : Prop := goodsPassRow.holds Try.pinned (OpenSpec.ofChange goodsPassWrong)

/- THE SECOND FORM. 'bulk': how many values and letters a reading holds, each counted each time it is reached (what is shared counts as often as it is met; a slice's spare places count too). A statement '..UptoSaid' is the law's where the arguments, and the package variables that the reading takes, are together of bulk at most 1048576: NARROWER than '..Said'. Prove '..Said' where nothing that the law and all that it calls make is longer than what came in: it says more and counts as full. Else prove '..UptoSaid'. A law counts once. -/
mutual
def uptoBulk {H : Type} : DataW H → Nat
  | .lit (.string bytes) => bytes.length + 1
  | .lit _ => 1
  | .nil => 1
  | .ptr d => uptoBulk d + 1
  | .slice elems spare => uptoBulkAll elems + uptoBulkAll spare + 1
  | .agg parts => uptoBulkAll parts + 1
  | .iface _ d => uptoBulk d + 1
  | .map entries => uptoBulkEntries entries + 1
  | .held _ => 1
def uptoBulkAll {H : Type} : List (DataW H) → Nat
  | [] => 0
  | d :: r => uptoBulk d + uptoBulkAll r
def uptoBulkEntries {H : Type} : List (Lit × DataW H) → Nat
  | [] => 0
  | x :: r => uptoBulkEntry x + uptoBulkEntries r
def uptoBulkEntry {H : Type} : Lit × DataW H → Nat
  | (.string bytes, d) => bytes.length + uptoBulk d + 1
  | (_, d) => uptoBulk d + 1
 end
def uptoSmall : (H : Type) → List (DataW H) → Bool := fun _ ds => decide (uptoBulkAll ds ≤ 1048576)
def OpenSpec.upto (s : _root_.Go.ChangeSpec) : _root_.Go.OpenSpec := { _root_.Go.OpenSpec.ofChange s with cond := some uptoSmall }

/-- 'parcenerlaw16.GoodsTells', WHERE WHAT IT READS IS OF BULK AT MOST 1048576: true; the input reads as it did. -/
def goodsTellsUptoRow : OpenClaim := { program := "ytiahjkhfkbcjhaa", sum := "d541177c842ee24ad060d85d6e8127828a0225bcdf6c1e6f136c6299d317ba63", func := "parcener/parcenerlaw16.GoodsTells", spec := "goodsTells", unfollowed := true, recurses := true, apart := false, narrowed := true }
def GoodsTellsUptoSaid : Prop := goodsTellsUptoRow.holds Try.pinned (OpenSpec.upto goodsTellsSpec)

/-- 'parcenerlaw16.GoodsFair', WHERE WHAT IT READS IS OF BULK AT MOST 1048576: true; the input reads as it did. -/
def goodsFairUptoRow : OpenClaim := { program := "ytiahjkhfkbcjhaa", sum := "d541177c842ee24ad060d85d6e8127828a0225bcdf6c1e6f136c6299d317ba63", func := "parcener/parcenerlaw16.GoodsFair", spec := "goodsFair", unfollowed := true, recurses := true, apart := false, narrowed := true }
def GoodsFairUptoSaid : Prop := goodsFairUptoRow.holds Try.pinned (OpenSpec.upto goodsFairSpec)

/-- 'parcenerlaw16.GoodsSums', WHERE WHAT IT READS IS OF BULK AT MOST 1048576: true; the input reads as it did. -/
def goodsSumsUptoRow : OpenClaim := { program := "ytiahjkhfkbcjhaa", sum := "d541177c842ee24ad060d85d6e8127828a0225bcdf6c1e6f136c6299d317ba63", func := "parcener/parcenerlaw16.GoodsSums", spec := "goodsSums", unfollowed := true, recurses := true, apart := false, narrowed := true }
def GoodsSumsUptoSaid : Prop := goodsSumsUptoRow.holds Try.pinned (OpenSpec.upto goodsSumsSpec)

/-- 'parcenerlaw16.GoodsMoves', WHERE WHAT IT READS IS OF BULK AT MOST 1048576: true; the input reads as it did. -/
def goodsMovesUptoRow : OpenClaim := { program := "ytiahjkhfkbcjhaa", sum := "d541177c842ee24ad060d85d6e8127828a0225bcdf6c1e6f136c6299d317ba63", func := "parcener/parcenerlaw16.GoodsMoves", spec := "goodsMoves", unfollowed := true, recurses := true, apart := false, narrowed := true }
def GoodsMovesUptoSaid : Prop := goodsMovesUptoRow.holds Try.pinned (OpenSpec.upto goodsMovesSpec)

/-- 'parcenerlaw17.NearTells', WHERE WHAT IT READS IS OF BULK AT MOST 1048576: true; the input reads as it did. -/
def nearTellsUptoRow : OpenClaim := { program := "ytiahjkhfkbcjhaa", sum := "d541177c842ee24ad060d85d6e8127828a0225bcdf6c1e6f136c6299d317ba63", func := "parcener/parcenerlaw17.NearTells", spec := "nearTells", unfollowed := true, recurses := true, apart := false, narrowed := true }
def NearTellsUptoSaid : Prop := nearTellsUptoRow.holds Try.pinned (OpenSpec.upto nearTellsSpec)

/-- 'parcenerlaw17.NearNames', WHERE WHAT IT READS IS OF BULK AT MOST 1048576: true; the input reads as it did. -/
def nearNamesUptoRow : OpenClaim := { program := "ytiahjkhfkbcjhaa", sum := "d541177c842ee24ad060d85d6e8127828a0225bcdf6c1e6f136c6299d317ba63", func := "parcener/parcenerlaw17.NearNames", spec := "nearNames", unfollowed := true, recurses := true, apart := false, narrowed := true }
def NearNamesUptoSaid : Prop := nearNamesUptoRow.holds Try.pinned (OpenSpec.upto nearNamesSpec)

/-- 'parcenerlaw17.NearImplies', WHERE WHAT IT READS IS OF BULK AT MOST 1048576: true; the input reads as it did. -/
def nearImpliesUptoRow : OpenClaim := { program := "ytiahjkhfkbcjhaa", sum := "d541177c842ee24ad060d85d6e8127828a0225bcdf6c1e6f136c6299d317ba63", func := "parcener/parcenerlaw17.NearImplies", spec := "nearImplies", unfollowed := true, recurses := true, apart := false, narrowed := true }
def NearImpliesUptoSaid : Prop := nearImpliesUptoRow.holds Try.pinned (OpenSpec.upto nearImpliesSpec)

/-- 'parcenerlaw17.NearMarks', WHERE WHAT IT READS IS OF BULK AT MOST 1048576: true; the input reads as it did. -/
def nearMarksUptoRow : OpenClaim := { program := "ytiahjkhfkbcjhaa", sum := "d541177c842ee24ad060d85d6e8127828a0225bcdf6c1e6f136c6299d317ba63", func := "parcener/parcenerlaw17.NearMarks", spec := "nearMarks", unfollowed := true, recurses := true, apart := false, narrowed := true }
def NearMarksUptoSaid : Prop := nearMarksUptoRow.holds Try.pinned (OpenSpec.upto nearMarksSpec)

/-- 'parcenerlaw17.NearSingle', WHERE WHAT IT READS IS OF BULK AT MOST 1048576: true; the input reads as it did. -/
def nearSingleUptoRow : OpenClaim := { program := "ytiahjkhfkbcjhaa", sum := "d541177c842ee24ad060d85d6e8127828a0225bcdf6c1e6f136c6299d317ba63", func := "parcener/parcenerlaw17.NearSingle", spec := "nearSingle", unfollowed := true, recurses := true, apart := false, narrowed := true }
def NearSingleUptoSaid : Prop := nearSingleUptoRow.holds Try.pinned (OpenSpec.upto nearSingleSpec)

/-- 'parcenerlaw17.NearGrown', WHERE WHAT IT READS IS OF BULK AT MOST 1048576: true; the input reads as it did. -/
def nearGrownUptoRow : OpenClaim := { program := "ytiahjkhfkbcjhaa", sum := "d541177c842ee24ad060d85d6e8127828a0225bcdf6c1e6f136c6299d317ba63", func := "parcener/parcenerlaw17.NearGrown", spec := "nearGrown", unfollowed := true, recurses := true, apart := false, narrowed := true }
def NearGrownUptoSaid : Prop := nearGrownUptoRow.holds Try.pinned (OpenSpec.upto nearGrownSpec)

/-- 'parcenerlaw16.GoodsNames', WHERE WHAT IT READS IS OF BULK AT MOST 1048576: true; the input reads as it did. -/
def goodsNamesUptoRow : OpenClaim := { program := "ytiahjkhfkbcjhaa", sum := "d541177c842ee24ad060d85d6e8127828a0225bcdf6c1e6f136c6299d317ba63", func := "parcener/parcenerlaw16.GoodsNames", spec := "goodsNames", unfollowed := true, recurses := true, apart := false, narrowed := true }
def GoodsNamesUptoSaid : Prop := goodsNamesUptoRow.holds Try.pinned (OpenSpec.upto goodsNamesSpec)

/-- 'parcenerlaw16.GoodsPass', WHERE WHAT IT READS IS OF BULK AT MOST 1048576: true; the input reads as it did. -/
def goodsPassUptoRow : OpenClaim := { program := "ytiahjkhfkbcjhaa", sum := "d541177c842ee24ad060d85d6e8127828a0225bcdf6c1e6f136c6299d317ba63", func := "parcener/parcenerlaw16.GoodsPass", spec := "goodsPass", unfollowed := true, recurses := true, apart := false, narrowed := true }
def GoodsPassUptoSaid : Prop := goodsPassUptoRow.holds Try.pinned (OpenSpec.upto goodsPassSpec)

end Rows
end Go.Proofs.Ytiahjkhfkbcjhaa
