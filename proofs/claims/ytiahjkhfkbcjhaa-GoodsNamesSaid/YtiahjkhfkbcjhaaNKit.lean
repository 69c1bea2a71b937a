/- Small lemmas for walks: growth as a fact that is carried, rounds, records of three ints. -/
import Derived.Test.YtiahjkhfkbcjhaaNearSpec
import Derived.Test.YtiahjkhfkbcjhaaPass3
import Derived.Test.YtiahjkhfkbcjhaaL16b
set_option linter.unusedVariables false
set_option linter.unusedSimpArgs false
namespace Go.Eng
theorem Gr.ext {a b c : World} (h : Ext a b) (k : Ext b c) : Ext a c := Gr.trans h k
theorem all_succ {p : Nat → Prop} {c : Nat} (h : ∀ i, i < c → p i) (h1 : p c) : ∀ i, i < c + 1 → p i := fun i hi => by
  by_cases e : i = c
  · subst e; exact h1
  · exact h i (by omega)
theorem VS.b3 {P : Program} {w : World} {t : TypeId} {f0 f1 f2 : Field} {N b : Nat} {z0 z1 z2 : Value} {x y z : Int} {K : Value → Prop} (ht : P.underlying t = some (.struct #[f0, f1, f2])) (hz : Elem P t (.agg #[z0, z1, z2]) N b)
    (hg : P.cellsOf f0.type = 1 ∧ P.cellsOf f1.type = 1 ∧ P.cellsOf f2.type = 1) (ho : f0.offset = 0 ∧ f1.offset = 1 ∧ f2.offset = 2) (hk : K (.agg #[.int .i64 x, .int .i64 y, .int .i64 z])) :
    VS P (Instr.build t [(0, .int .i64 x), (1, .int .i64 y), (2, .int .i64 z)].toArray) w K :=
  VS.fields (l := [f0, f1, f2]) (ps := [(0, .int .i64 x), (1, .int .i64 y), (2, .int .i64 z)]) ht hz (by simp [hg.1, hg.2.1, hg.2.2]) (by simp [ho.1, ho.2.1, ho.2.2, List.range, List.range.loop]) rfl rfl rfl (by simp [Value.cells]) hk
end Go.Eng
namespace Go.Proofs.Ytiahjkhfkbcjhaa
open Go.Eng
theorem eMark : Elem Try.prog 74 (.agg #[.int .i64 0, .int .i64 0, .int .i64 0]) 3 24 := by unfold Elem; kernel_rfl
theorem eEnvy : Elem Try.prog 91 (.agg #[.int .i64 0, .int .i64 0, .int .i64 0]) 3 24 := by unfold Elem; kernel_rfl
theorem guard3 : Try.prog.eqGuardType Try.prog.depth 74 = false := by kernel_rfl
/-- A list of records that the call has made. -/
abbrev OT (B : Nat) (w : World) (v : Value) (l : List T3) : Prop := Own B 74 3 w v l.length (flat3 l)
theorem OT.of {B n : Nat} {w : World} {v : Value} {l : List T3} (h : Own B 74 3 w v n (flat3 l)) : OT B w v l := by
  have e := Own.len h
  rw [flat3_len] at e
  have : n = l.length := by omega
  subst this; exact h
abbrev OE (B : Nat) (w : World) (v : Value) (l : List T3) : Prop := Own B 91 3 w v l.length (flat3 l)
theorem OE.of {B n : Nat} {w : World} {v : Value} {l : List T3} (h : Own B 91 3 w v n (flat3 l)) : OE B w v l := by
  have e := Own.len h
  rw [flat3_len] at e
  have : n = l.length := by omega
  subst this; exact h
end Go.Proofs.Ytiahjkhfkbcjhaa
