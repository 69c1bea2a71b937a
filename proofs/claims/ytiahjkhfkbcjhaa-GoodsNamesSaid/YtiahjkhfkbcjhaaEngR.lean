/- The engine, part R: structs given by some of their fields; equality of structs of ints. -/
import Derived.Test.YtiahjkhfkbcjhaaEngQ
set_option linter.unusedVariables false
set_option linter.unusedSimpArgs false
namespace Go.Eng
open Go.RowKit

theorem fill_one (n : Nat) : ∀ (ps : List (Nat × Value)) (zc : Array Value), (∀ p ∈ ps, p.1 < n ∧ p.2.cells = #[p.2]) → zc.size = n →
    Instr.fill ((((List.range n).map fun i => (i, 1)).toArray)[·]?) zc ps = some (ps.foldl (fun c p => c.setIfInBounds p.1 p.2) zc)
  | [], zc, _, _ => rfl
  | (i, v) :: ps, zc, h, hz => by
    obtain ⟨h1, h2⟩ := h (i, v) (by simp)
    have h1 : i < n := h1
    have h2 : v.cells = #[v] := h2
    have e2 : (((List.range n).map fun i => (i, 1)).toArray)[i]? = some (i, 1) := by simp [h1]
    have e3 : ¬ (decide (#[v].size ≠ 1) || decide (i + #[v].size > zc.size)) = true := by simp; omega
    have e4 : Array.foldl (fun (cs : Array Value) (x : Value × Nat) => cs.setIfInBounds (i + x.snd) x.fst) zc #[v].zipIdx = zc.setIfInBounds i v := by simp [Array.zipIdx]
    simp only [Instr.fill, e2, h2, List.foldl_cons]
    rw [if_neg e3, e4]
    exact fill_one n ps _ (fun p hp => h p (by simp [hp])) (by simpa using hz)

/-- 'T{F: x, ..}': the other fields are zero. -/
theorem VS.sparse {P : Program} {w : World} {t : TypeId} {zc : Array Value} {N b : Nat} {l : List Field} {ps : List (Nat × Value)} {K : Value → Prop} (ht : P.underlying t = some (.struct l.toArray)) (hz : Elem P t (.agg zc) N b)
    (hg : ∀ f ∈ l, P.cellsOf f.type = 1) (ho : l.map (·.offset) = List.range l.length) (hv : ∀ p ∈ ps, p.1 < l.length ∧ p.2.cells = #[p.2]) (hs : zc.size = l.length)
    (hk : K (.agg (ps.foldl (fun c p => c.setIfInBounds p.1 p.2) zc))) : VS P (Instr.build t ps.toArray) w K := by
  refine VS.mk (v := .agg (ps.foldl (fun c p => c.setIfInBounds p.1 p.2) zc)) (fun w1 _ => ?_) hk
  obtain ⟨i, hi, hz1, _, _⟩ := hz.info
  have hfill := fill_one l.length ps zc hv hs
  simp only [Instr.build, Sem.run_bind, zeroValue, typeInfo, run_program, Result.andThen_ok, hi, hz1, Sem.run_pure, run_underlying ht, fields_run hg ho, Value.cells, hfill]
end Go.Eng
