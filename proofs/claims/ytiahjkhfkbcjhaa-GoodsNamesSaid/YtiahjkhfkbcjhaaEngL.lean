/- The engine, part L: arguments opened by their shape. -/
import Derived.Test.YtiahjkhfkbcjhaaEngK
import Derived.Test.YtiahjkhfkbcjhaaEngH
set_option linter.unusedVariables false
set_option linter.unusedSimpArgs false
namespace Go.Eng
open Go.RowKit Go.ChangeShapes Go.WideShapes Go.ChangeAt

section
variable {H : Type} {enc : TypeId × Value → H} {P : Program} {w : World} {base b0 : Nat} {spare : Nat → Bool} {held : Bool} {r : Reach} {v : Value} {d : DataW H} {ps : List MemPlace}

theorem open_I {t : TypeId} (ht : P.underlying t = some (.int .i64)) (hv : Value.okWide P w r b0 t v) (hd : DataW.Trod enc P w base spare held t v d ps) : ∃ n, v = .int .i64 n ∧ I64 n := by
  obtain ⟨n, rfl⟩ := okWide_int ht hv
  obtain ⟨fuel, h⟩ := hd
  obtain ⟨m, hm, hr⟩ := read_i64 ht h
  simp [Value.cells] at hm; subst hm
  exact ⟨_, rfl, hr⟩

theorem open_B {t : TypeId} (ht : P.underlying t = some .bool) (hv : Value.okWide P w r b0 t v) : ∃ n, v = .bool n := okWide_bool ht hv

theorem open_L {t e : TypeId} (ht : P.underlying t = some (.slice e)) (he : P.underlying e = some (.int .i64)) (hs : P.cellsOf e = 1) (hv : Value.okWide P w r b0 t v) (hd : DataW.Trod enc P w base spare held t v d ps) : ∃ l, Ints w v l ∧ ∀ i, I64 (l.getD i 0) := by
  obtain ⟨a, n, c, rfl⟩ := okWide_slice ht hv
  obtain ⟨fuel, h⟩ := hd
  obtain ⟨m, l, hm, h1, h2⟩ := read_ints ht he hs h
  simp [Value.cells] at hm; subst hm
  exact ⟨l, h1, h2⟩

theorem open_M {t e q : TypeId} (ht : P.underlying t = some (.slice e)) (he : P.underlying e = some (.slice q)) (hq : P.underlying q = some (.int .i64)) (hs : P.cellsOf e = 1) (hs2 : P.cellsOf q = 1) (hv : Value.okWide P w r b0 t v) (hd : DataW.Trod enc P w base spare held t v d ps) :
    ∃ vs rr, Mat w v vs rr ∧ ∀ i j, I64 ((rr.getD i []).getD j 0) := by
  obtain ⟨a, n, c, rfl⟩ := okWide_slice ht hv
  obtain ⟨fuel, h⟩ := hd
  obtain ⟨m, vs, rr, hm, h1, h2⟩ := read_mat ht he hq hs hs2 h
  simp [Value.cells] at hm; subst hm
  exact ⟨vs, rr, h1, h2⟩

/-- A struct of one matrix. -/
theorem open_G {t e q : TypeId} {f : Field} (ht : P.underlying t = some (.struct #[f])) (ho : f.offset = 0) (hc : P.cellsOf t = 1) (hcf : P.cellsOf f.type = 1) (hf : P.underlying f.type = some (.slice e)) (he : P.underlying e = some (.slice q)) (hq : P.underlying q = some (.int .i64)) (hs : P.cellsOf e = 1) (hs2 : P.cellsOf q = 1)
    (hv : Value.okWide P w r b0 t v) (hd : DataW.Trod enc P w base spare held t v d ps) : ∃ gv vs rr, v = .agg #[gv] ∧ Mat w gv vs rr ∧ ∀ i j, I64 ((rr.getD i []).getD j 0) := by
  obtain ⟨cs, rfl, hcs⟩ := okWide_struct ht hv
  obtain ⟨fuel, h⟩ := hd
  obtain ⟨y, n, _, hl, hy⟩ := trod_struct1 ht h
  rw [ho, hcf] at hy
  obtain ⟨u, vs, rr, hm, h1, h2⟩ := read_mat hf he hq hs hs2 hy
  have hsz : cs.size = 1 := by omega
  have : cs = #[u] := by
    apply Array.toList_inj.1
    simp only [Value.cells, List.drop_zero] at hm
    rw [List.take_of_length_le (by simp [hsz])] at hm
    simpa using hm
  subst this
  exact ⟨u, vs, rr, rfl, h1, h2⟩
end
end Go.Eng
