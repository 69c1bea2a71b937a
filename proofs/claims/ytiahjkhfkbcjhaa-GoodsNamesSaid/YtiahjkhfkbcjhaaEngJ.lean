/- The engine, part J: arrays and structs by value; slices of ints that the call makes; lists by index. -/
import Derived.Test.YtiahjkhfkbcjhaaEngI
set_option linter.unusedVariables false
set_option linter.unusedSimpArgs false
namespace Go.Eng
open Go.RowKit

theorem ext_getD {α : Type} (d : α) {a b : List α} (hl : a.length = b.length) (h : ∀ i, i < a.length → a.getD i d = b.getD i d) : a = b := by
  apply List.ext_getElem hl
  intro i h1 h2
  have := h i h1
  simpa [List.getD, h1, h2] using this

theorem VS.mk {P : Program} {s : Sem Value} {w : World} {K : Value → Prop} {v : Value} (h : ∀ w', Ext w w' → s.run P w' = .ok v w') (hk : K v) : VS P s w K := by
  simp only [VS]; exact ⟨v, h, hk⟩

section
variable {P : Program} {e : TypeId} {s : Nat} {w w' : World}

/-- '[n]T{..}' by value. -/
theorem VS.arr {t : TypeId} {zc : Array Value} {N b len : Nat} {ps : List (Nat × Value)} {K : Value → Prop} (ht : P.underlying t = some (.array len e)) (hz : Elem P t (.agg zc) N b) (hce : P.cellsOf e = s) (hs0 : s ≠ 0) (hps : ps = enum 0 (ps.map (·.2))) (hzc : zc.size = ps.length * s)
    (hv : ∀ v ∈ ps.map (·.2), v.cells.size = s) (hk : K (.agg (flat (ps.map (·.2))).toArray)) : VS P (Instr.build t ps.toArray) w K := by
  refine VS.mk (v := .agg (flat (ps.map (·.2))).toArray) (fun w1 _ => ?_) hk
  obtain ⟨i, hi, hz1, _, _⟩ := hz.info
  have hfill := fill_run s (ps.map (·.2)) 0 [] zc.toList hv (by simp) (by simpa using hzc)
  rw [← hps] at hfill
  simp only [List.nil_append] at hfill
  have e1 : zc.toList.toArray = zc := by simp
  rw [e1] at hfill
  simp only [Instr.build, Sem.run_bind, zeroValue, typeInfo, run_program, Result.andThen_ok, hi, hz1, Sem.run_pure, run_underlying ht, sizeOf_run hce hs0, Value.cells, hfill]

/-- 'T{..}' by value, every field one cell and given in order. -/
theorem VS.str {t : TypeId} {zc : Array Value} {N b : Nat} {g : Array Field} {ps : List (Nat × Value)} {K : Value → Prop} (ht : P.underlying t = some (.struct g)) (hz : Elem P t (.agg zc) N b)
    (hg : ∀ w, (g.mapM (m := Sem) fun f => do pure (f.offset, ← Go.sizeOf f.type)).run P w = .ok ((List.range ps.length).map fun i => (i, 1)).toArray w) (hps : ps = enum 0 (ps.map (·.2))) (hzc : zc.size = ps.length)
    (hv : ∀ v ∈ ps.map (·.2), v.cells.size = 1) (hk : K (.agg (flat (ps.map (·.2))).toArray)) : VS P (Instr.build t ps.toArray) w K := by
  refine VS.mk (v := .agg (flat (ps.map (·.2))).toArray) (fun w1 _ => ?_) hk
  obtain ⟨i, hi, hz1, _, _⟩ := hz.info
  have hfill := fill_run 1 (ps.map (·.2)) 0 [] zc.toList hv (by simp) (by simpa using hzc)
  rw [← hps] at hfill
  simp only [List.nil_append] at hfill
  have e1 : zc.toList.toArray = zc := by simp
  rw [e1] at hfill
  have same : ∀ (vs : List Value) (i : Nat) (cs : Array Value), i + vs.length ≤ ps.length → Instr.fill ((((List.range ps.length).map fun i => (i, 1)).toArray)[·]?) cs (enum i vs) = Instr.fill (fun i => some (i * 1, 1)) cs (enum i vs) := by
    intro vs
    induction vs with
    | nil => intro i cs _; rfl
    | cons v vs ih =>
      intro i cs hle
      have hi : i < ps.length := by simp at hle; omega
      simp only [enum, Instr.fill]
      have e2 : (((List.range ps.length).map fun i => (i, 1)).toArray)[i]? = some (i * 1, 1) := by simp [hi]
      rw [e2]
      simp only
      split
      · rfl
      · exact ih (i + 1) _ (by simp at hle; omega)
  have hfill2 : Instr.fill ((((List.range ps.length).map fun i => (i, 1)).toArray)[·]?) zc ps = some (flat (ps.map (·.2))).toArray := by
    have h0 := same (ps.map (·.2)) 0 zc (by simp)
    rw [← hps] at h0
    rw [h0]; exact hfill
  simp only [Instr.build, Sem.run_bind, zeroValue, typeInfo, run_program, Result.andThen_ok, hi, hz1, Sem.run_pure, run_underlying ht, hg, Value.cells, hfill2]
end

theorem VS.arr2 {P : Program} {w : World} {t e : TypeId} {N b : Nat} {x y z0 z1 : Int} {K : Value → Prop} (ht : P.underlying t = some (.array 2 e)) (hz : Elem P t (.agg #[.int .i64 z0, .int .i64 z1]) N b) (hce : P.cellsOf e = 1) (hk : K (.agg #[.int .i64 x, .int .i64 y])) :
    VS P (Instr.build t [(0, .int .i64 x), (1, .int .i64 y)].toArray) w K :=
  VS.arr ht hz hce (by decide) rfl rfl (by intro v hv; simp at hv; rcases hv with rfl | rfl <;> rfl) hk

/-- '[]T{x}', x a struct or an array. -/
theorem VX.lit1A {P : Program} {w : World} {e t : TypeId} {z : Value} {s b : Nat} {cs : List Value} {K : Value → World → Prop} (ht : P.underlying t = some (.slice e)) (he : Elem P e z s b) (hx : cs.length = s) (hs : s ≤ 16777216)
    (hk : ∀ v w', Ext w w' → Sl s w' v 1 cs → K v w') : VX P (Instr.buildSlice t 1 [(0, .agg cs.toArray)].toArray) w K :=
  VX.lit (m := 1) ht he rfl rfl (by intro v hv; simp at hv; subst hv; simpa [Value.cells] using hx) (by omega) (by unfold maxLen; omega) fun v w' hw ho _ => by
    refine hk v w' hw ?_
    have := (ho 0 (Nat.zero_le _)).sl
    simpa [flat, Value.cells] using this
theorem VE.lit1A {P : Program} {w : World} {e t : TypeId} {z : Value} {s b : Nat} {cs : List Value} {K : Value → World → Prop} (ht : P.underlying t = some (.slice e)) (he : Elem P e z s b) (hx : cs.length = s) (hs : s ≤ 16777216)
    (hk : ∀ v w', Ext w w' → Sl s w' v 1 cs → K v w') : VE P (Instr.buildSlice t 1 [(0, .agg cs.toArray)].toArray) w K :=
  VE.lit (m := 1) ht he rfl rfl (by intro v hv; simp at hv; subst hv; simpa [Value.cells] using hx) (by omega) (by unfold maxLen; omega) fun v w' hw ho _ => by
    refine hk v w' hw ?_
    have := (ho 0 (Nat.zero_le _)).sl
    simpa [flat, Value.cells] using this

theorem equalIn_arr2 {P : Program} {d : Nat} {t e : TypeId} (ht : P.underlying t = some (.array 2 e)) (he : P.underlying e = some (.int .i64)) (hc : P.cellsOf e = 1) (a b a' b' : Int) (w : World) :
    (Op.equalIn (d + 1 + 1) t (.agg #[.int .i64 a, .int .i64 b]) (.agg #[.int .i64 a', .int .i64 b'])).run P w = .ok (a == a' && b == b') w := by
  have hs : ∀ w, (Go.sizeOf e).run P w = .ok 1 w := fun w => sizeOf_run hc (by omega) w
  have hp : ∀ (x : Value) (cs : Array Value) (i : Nat) w, cs[i]? = some x → (part e cs i).run P w = .ok x w := fun x cs i w h => by
    simp [part, isAgg_run he, aggD, h]
  rw [Op.equalIn]
  simp only [Sem.run_bind, run_underlying ht, Result.andThen_ok, hs]
  simp only [Std.Legacy.Range.forIn_eq_forIn_range', Std.Legacy.Range.size, List.range', List.forIn_cons, List.forIn_nil, Sem.run_bind]
  have p0 : ∀ (x y : Int) w, (part e #[.int .i64 x, .int .i64 y] (0 * 1)).run P w = .ok (.int .i64 x) w := fun x y w => hp _ _ _ w (by simp)
  have p1 : ∀ (x y : Int) w, (part e #[.int .i64 x, .int .i64 y] ((0 + 1) * 1)).run P w = .ok (.int .i64 y) w := fun x y w => hp _ _ _ w (by simp)
  have q : ∀ (x y : Int) w, (Op.equalIn (d + 1) e (.int .i64 x) (.int .i64 y)).run P w = .ok (x == y) w := fun x y w => run_equalIn_int w d e .i64 .i64 x y he
  simp only [p0, q, Result.andThen_ok]
  by_cases h1 : a = a'
  · subst h1
    by_cases h2 : b = b'
    · subst h2; simp [p1, q]
    · simp [p1, q, h2]
  · simp [h1]

/-- '==' and '!=' on two arrays of two ints. -/
theorem VS.eq2 {P : Program} {w : World} {K : Value → Prop} {t e : TypeId} {x y : Operand} {a b a' b' : Int} (ht : P.underlying t = some (.array 2 e)) (he : P.underlying e = some (.int .i64)) (hc : P.cellsOf e = 1) (hm : P.eqGuardType P.depth t = false)
    (h : Split (a = a' ∧ b = b') (K (.bool true)) (K (.bool false))) : VS P (binSem .eql t x y (.agg #[.int .i64 a, .int .i64 b]) (.agg #[.int .i64 a', .int .i64 b'])) w K := by
  have hr : ∀ w', (binSem .eql t x y (.agg #[.int .i64 a, .int .i64 b]) (.agg #[.int .i64 a', .int .i64 b'])).run P w' = .ok (.bool (a == a' && b == b')) w' := fun w' => by
    simp only [binSem, Sem.run_bind, run_eqGuard_agg w' .eql t x y _ _ hm, Result.andThen_ok, run_eql_struct]
    rw [show (10000 : Nat) = 9998 + 1 + 1 from rfl, equalIn_arr2 ht he hc]; rfl
  refine VS.mk (fun w' _ => hr w') ?_
  simp only [Split] at h
  by_cases h1 : a = a' ∧ b = b'
  · have := h.1 h1; simpa [h1.1, h1.2] using this
  · have := h.2 h1
    have e : (a == a' && b == b') = false := by
      cases hh : (a == a' && b == b') with
      | false => rfl
      | true => simp at hh; exact absurd hh h1
    rw [e]; exact this
theorem VS.ne2 {P : Program} {w : World} {K : Value → Prop} {t e : TypeId} {x y : Operand} {a b a' b' : Int} (ht : P.underlying t = some (.array 2 e)) (he : P.underlying e = some (.int .i64)) (hc : P.cellsOf e = 1) (hm : P.eqGuardType P.depth t = false)
    (h : Split (a = a' ∧ b = b') (K (.bool false)) (K (.bool true))) : VS P (binSem .neq t x y (.agg #[.int .i64 a, .int .i64 b]) (.agg #[.int .i64 a', .int .i64 b'])) w K := by
  have hr : ∀ w', (binSem .neq t x y (.agg #[.int .i64 a, .int .i64 b]) (.agg #[.int .i64 a', .int .i64 b'])).run P w' = .ok (.bool (!(a == a' && b == b'))) w' := fun w' => by
    simp only [binSem, Sem.run_bind, run_eqGuard_agg w' .neq t x y _ _ hm, Result.andThen_ok, run_neq_struct]
    rw [show (10000 : Nat) = 9998 + 1 + 1 from rfl, equalIn_arr2 ht he hc]; rfl
  refine VS.mk (fun w' _ => hr w') ?_
  simp only [Split] at h
  by_cases h1 : a = a' ∧ b = b'
  · have := h.1 h1; simpa [h1.1, h1.2] using this
  · have := h.2 h1
    have e : (a == a' && b == b') = false := by
      cases hh : (a == a' && b == b') with
      | false => rfl
      | true => simp at hh; exact absurd hh h1
    rw [e]; exact this

theorem Sl.ld1 {w : World} {v : Value} {n : Nat} {xs : List Value} {c : Nat} {K : Value → Prop} (h : Sl 1 w v n xs) (hc : c < n) (hk : K (xs.getD c undef)) : Ld w (ea v (c * 1)) K := by
  have hl : xs.length = n := by obtain ⟨_, _, _, _, _, h3, _⟩ := id h; omega
  exact h.ld (by simp [show c < xs.length by omega]) hk

/-- the first index with a property, or -1 -/
def firstFrom (p : Nat → Bool) : Nat → Nat → Int
  | 0, _ => -1
  | f + 1, i => if p i = true then (i : Int) else firstFrom p f (i + 1)
theorem firstFrom_spec (p : Nat → Bool) : ∀ (f i : Nat), (∃ j, i ≤ j ∧ j < i + f ∧ p j = true ∧ firstFrom p f i = j ∧ ∀ k, i ≤ k → k < j → p k = false) ∨ (firstFrom p f i = -1 ∧ ∀ k, i ≤ k → k < i + f → p k = false)
  | 0, i => .inr ⟨rfl, fun k h1 h2 => by omega⟩
  | f + 1, i => by
    by_cases h : p i = true
    · exact .inl ⟨i, Nat.le_refl _, by omega, h, by simp [firstFrom, h], fun k h1 h2 => by omega⟩
    · rcases firstFrom_spec p f (i + 1) with ⟨j, h1, h2, h3, h4, h5⟩ | ⟨h1, h2⟩
      · refine .inl ⟨j, by omega, by omega, h3, by simp [firstFrom, h, h4], fun k hk1 hk2 => ?_⟩
        by_cases e : k = i
        · subst e; simpa using h
        · exact h5 k (by omega) hk2
      · refine .inr ⟨by simp [firstFrom, h, h1], fun k hk1 hk2 => ?_⟩
        by_cases e : k = i
        · subst e; simpa using h
        · exact h2 k (by omega) (by omega)

/-! ### pairs of ints -/
def flatP : List (Int × Int) → List Value
  | [] => []
  | p :: r => i64v p.1 :: i64v p.2 :: flatP r
theorem flatP_len : ∀ l : List (Int × Int), (flatP l).length = l.length * 2
  | [] => rfl
  | _ :: r => by simp [flatP, flatP_len r]; omega
theorem flatP_app : ∀ a b : List (Int × Int), flatP (a ++ b) = flatP a ++ flatP b
  | [], _ => rfl
  | _ :: r, b => by simp [flatP, flatP_app r b]
theorem flatP_get : ∀ (l : List (Int × Int)) (c : Nat), c < l.length → (flatP l)[c * 2]? = some (i64v (l.getD c (0, 0)).1) ∧ (flatP l)[c * 2 + 1]? = some (i64v (l.getD c (0, 0)).2)
  | [], _, h => absurd h (Nat.not_lt_zero _)
  | p :: r, 0, _ => by simp [flatP]
  | p :: r, c + 1, h => by
    have := flatP_get r c (by simpa using h)
    rw [show (c + 1) * 2 = c * 2 + 1 + 1 by omega, show c * 2 + 1 + 1 + 1 = (c * 2 + 1) + 1 + 1 by omega]
    simpa [flatP] using this

/-- A slice of pairs. -/
def Prs (w : World) (v : Value) (l : List (Int × Int)) : Prop := Sl 2 w v l.length (flatP l)
section
variable {w w' : World} {v : Value} {l : List (Int × Int)} {K : Value → Prop}
theorem Prs.ext (h : Prs w v l) (hg : Ext w w') : Prs w' v l := Sl.ext h hg
theorem Prs.le (h : Prs w v l) : l.length ≤ 9223372036854775807 := Sl.le h
theorem Prs.ln (h : Prs w v l) (hk : K (.int .i64 (l.length : Int))) : Ln v K := Sl.ln h hk
theorem Prs.ix {c : Nat} (h : Prs w v l) (hc : c < l.length) (hk : K (.pointer (some (ea v (c * 2))))) : Ix 2 v (.int .i64 (c : Int)) K := Sl.ix h hc hk
theorem ea_block {v : Value} {s n : Nat} {w : World} {xs : List Value} (h : Sl s w v n xs) (k j : Nat) : (ea v k).add j = ea v (k + j) ∨ n = 0 := by
  obtain ⟨a, cap, rfl, _, _, _, h4⟩ := h
  rcases h4 with h4 | ⟨p, rfl, _⟩
  · exact .inr h4
  · left; simp only [ea]; exact add_add p k j
theorem Prs.ldN {c : Nat} (h : Prs w v l) (hc : c < l.length) (hk : K (.agg #[.int .i64 (l.getD c (0, 0)).1, .int .i64 (l.getD c (0, 0)).2])) : LdN 2 w (ea v (c * 2)) K := by
  obtain ⟨h1, h2⟩ := flatP_get l c hc
  simp only [LdN]
  refine ⟨[i64v (l.getD c (0, 0)).1, i64v (l.getD c (0, 0)).2], rfl, fun i x hx => ?_, hk⟩
  match i, hx with
  | 0, hx => simp at hx; subst hx; exact Sl.cell h h1
  | 1, hx =>
    simp at hx; subst hx
    rcases ea_block h (c * 2) 1 with e | e
    · rw [e]; exact Sl.cell h h2
    · omega
end
end Go.Eng
