/- The engine, part Q: rows of records of three ints. -/
import Derived.Test.YtiahjkhfkbcjhaaEngP
set_option linter.unusedVariables false
set_option linter.unusedSimpArgs false
namespace Go.Eng

abbrev T3 := Int × Int × Int
def flat3 : List T3 → List Value
  | [] => []
  | p :: r => i64v p.1 :: i64v p.2.1 :: i64v p.2.2 :: flat3 r
theorem flat3_len : ∀ l : List T3, (flat3 l).length = l.length * 3
  | [] => rfl
  | _ :: r => by simp [flat3, flat3_len r]; omega
theorem flat3_app : ∀ a b : List T3, flat3 (a ++ b) = flat3 a ++ flat3 b
  | [], _ => rfl
  | _ :: r, b => by simp [flat3, flat3_app r b]
theorem flat3_get : ∀ (l : List T3) (c : Nat), c < l.length → (flat3 l)[c * 3]? = some (i64v (l.getD c (0, 0, 0)).1) ∧ (flat3 l)[c * 3 + 1]? = some (i64v (l.getD c (0, 0, 0)).2.1) ∧ (flat3 l)[c * 3 + 2]? = some (i64v (l.getD c (0, 0, 0)).2.2)
  | [], _, h => absurd h (Nat.not_lt_zero _)
  | p :: r, 0, _ => by simp [flat3]
  | p :: r, c + 1, h => by
    have := flat3_get r c (by simpa using h)
    rw [show (c + 1) * 3 = c * 3 + 1 + 1 + 1 by omega, show c * 3 + 1 + 1 + 1 + 1 = (c * 3 + 1) + 1 + 1 + 1 by omega, show c * 3 + 1 + 1 + 1 + 2 = (c * 3 + 2) + 1 + 1 + 1 by omega]
    simpa [flat3] using this
theorem flat3_snoc (l : List T3) (x y z : Int) : flat3 l ++ [.int .i64 x, .int .i64 y, .int .i64 z] = flat3 (l ++ [(x, y, z)]) := by rw [flat3_app]; rfl

/-- A slice of records of three ints. -/
def Trs (w : World) (v : Value) (l : List T3) : Prop := Sl 3 w v l.length (flat3 l)
section
variable {w w' : World} {v : Value} {l : List T3} {K : Value → Prop}
theorem Trs.ext (h : Trs w v l) (hg : Ext w w') : Trs w' v l := Sl.ext h hg
theorem Trs.le (h : Trs w v l) : l.length ≤ 9223372036854775807 := Sl.le h
theorem Trs.ln (h : Trs w v l) (hk : K (.int .i64 (l.length : Int))) : Ln v K := Sl.ln h hk
theorem Trs.ix {c : Nat} (h : Trs w v l) (hc : c < l.length) (hk : K (.pointer (some (ea v (c * 3))))) : Ix 3 v (.int .i64 (c : Int)) K := Sl.ix h hc hk
theorem Trs.ldN {c : Nat} (h : Trs w v l) (hc : c < l.length) (hk : K (.agg #[.int .i64 (l.getD c (0, 0, 0)).1, .int .i64 (l.getD c (0, 0, 0)).2.1, .int .i64 (l.getD c (0, 0, 0)).2.2])) : LdN 3 w (ea v (c * 3)) K := by
  obtain ⟨h1, h2, h3⟩ := flat3_get l c hc
  simp only [LdN]
  refine ⟨[i64v (l.getD c (0, 0, 0)).1, i64v (l.getD c (0, 0, 0)).2.1, i64v (l.getD c (0, 0, 0)).2.2], rfl, fun i x hx => ?_, hk⟩
  match i, hx with
  | 0, hx => simp at hx; subst hx; exact Sl.cell h h1
  | 1, hx =>
    simp at hx; subst hx
    rcases ea_block h (c * 3) 1 with e | e
    · rw [e]; exact Sl.cell h h2
    · omega
  | 2, hx =>
    simp at hx; subst hx
    rcases ea_block h (c * 3) 2 with e | e
    · rw [e]; exact Sl.cell h h3
    · omega
theorem Trs.ld0 {c k : Nat} (h : Trs w v l) (hc : c < l.length) (e : k = 0) (hk : K (.int .i64 (l.getD c (0, 0, 0)).1)) : Ld w ((ea v (c * 3)).add k) K := by
  subst e
  rcases ea_block h (c * 3) 0 with e | e
  · rw [e]; simp only [Ld]; exact ⟨_, Sl.cell h (flat3_get l c hc).1, hk⟩
  · omega
theorem Trs.ld1 {c k : Nat} (h : Trs w v l) (hc : c < l.length) (e : k = 1) (hk : K (.int .i64 (l.getD c (0, 0, 0)).2.1)) : Ld w ((ea v (c * 3)).add k) K := by
  subst e
  rcases ea_block h (c * 3) 1 with e | e
  · rw [e]; simp only [Ld]; exact ⟨_, Sl.cell h (flat3_get l c hc).2.1, hk⟩
  · omega
theorem Trs.ld2 {c k : Nat} (h : Trs w v l) (hc : c < l.length) (e : k = 2) (hk : K (.int .i64 (l.getD c (0, 0, 0)).2.2)) : Ld w ((ea v (c * 3)).add k) K := by
  subst e
  rcases ea_block h (c * 3) 2 with e | e
  · rw [e]; simp only [Ld]; exact ⟨_, Sl.cell h (flat3_get l c hc).2.2, hk⟩
  · omega
end

theorem equalIn_str3 {P : Program} {d : Nat} {t : TypeId} {f0 f1 f2 : Field} (ht : P.underlying t = some (.struct #[f0, f1, f2])) (hst : P.stoodInHeld t = false)
    (hn : f0.name ≠ "_" ∧ f1.name ≠ "_" ∧ f2.name ≠ "_") (ho : f0.offset = 0 ∧ f1.offset = 1 ∧ f2.offset = 2)
    (h0 : P.underlying f0.type = some (.int .i64)) (h1 : P.underlying f1.type = some (.int .i64)) (h2 : P.underlying f2.type = some (.int .i64)) (a b c a' b' c' : Int) (w : World) :
    (Op.equalIn (d + 1 + 1) t (.agg #[.int .i64 a, .int .i64 b, .int .i64 c]) (.agg #[.int .i64 a', .int .i64 b', .int .i64 c'])).run P w = .ok (a == a' && b == b' && c == c') w := by
  have hp : ∀ (e : TypeId) (x : Value) (cs : Array Value) (i : Nat) w, P.underlying e = some (.int .i64) → cs[i]? = some x → (part e cs i).run P w = .ok x w := fun e x cs i w he h => by
    simp [part, isAgg_run he, aggD, h]
  have q : ∀ (e : TypeId) (x y : Int) w, P.underlying e = some (.int .i64) → (Op.equalIn (d + 1) e (.int .i64 x) (.int .i64 y)).run P w = .ok (x == y) w := fun e x y w he => run_equalIn_int w d e .i64 .i64 x y he
  rw [Op.equalIn]
  simp only [Sem.run_bind, run_underlying ht, Result.andThen_ok, run_program, hst, Bool.false_eq_true, if_false]
  have p0 : ∀ (x y z : Int) w, (part f0.type #[.int .i64 x, .int .i64 y, .int .i64 z] f0.offset).run P w = .ok (.int .i64 x) w := fun x y z w => hp _ _ _ _ w h0 (by simp [ho.1])
  have p1 : ∀ (x y z : Int) w, (part f1.type #[.int .i64 x, .int .i64 y, .int .i64 z] f1.offset).run P w = .ok (.int .i64 y) w := fun x y z w => hp _ _ _ _ w h1 (by simp [ho.2.1])
  have p2 : ∀ (x y z : Int) w, (part f2.type #[.int .i64 x, .int .i64 y, .int .i64 z] f2.offset).run P w = .ok (.int .i64 z) w := fun x y z w => hp _ _ _ _ w h2 (by simp [ho.2.2])
  simp only [List.forIn_toArray, List.forIn_cons, List.forIn_nil, Sem.run_bind, hn.1, hn.2.1, hn.2.2, ne_eq, not_false_eq_true, if_true]
  by_cases e1 : a = a'
  · subst e1
    by_cases e2 : b = b'
    · subst e2
      by_cases e3 : c = c'
      · subst e3; simp [p0, p1, p2, q, h0, h1, h2]
      · simp [p0, p1, p2, q, h0, h1, h2, e3]
    · simp [p0, p1, q, h0, h1, e2]
  · simp [p0, q, h0, e1]

theorem VS.ne3 {P : Program} {w : World} {K : Value → Prop} {t : TypeId} {f0 f1 f2 : Field} {x y : Operand} {a b c a' b' c' : Int} (ht : P.underlying t = some (.struct #[f0, f1, f2])) (hst : P.stoodInHeld t = false)
    (hn : f0.name ≠ "_" ∧ f1.name ≠ "_" ∧ f2.name ≠ "_") (ho : f0.offset = 0 ∧ f1.offset = 1 ∧ f2.offset = 2)
    (h0 : P.underlying f0.type = some (.int .i64)) (h1 : P.underlying f1.type = some (.int .i64)) (h2 : P.underlying f2.type = some (.int .i64)) (hm : P.eqGuardType P.depth t = false)
    (h : Split (a = a' ∧ b = b' ∧ c = c') (K (.bool false)) (K (.bool true))) : VS P (binSem .neq t x y (.agg #[.int .i64 a, .int .i64 b, .int .i64 c]) (.agg #[.int .i64 a', .int .i64 b', .int .i64 c'])) w K := by
  have hr : ∀ w', (binSem .neq t x y (.agg #[.int .i64 a, .int .i64 b, .int .i64 c]) (.agg #[.int .i64 a', .int .i64 b', .int .i64 c'])).run P w' = .ok (.bool (!(a == a' && b == b' && c == c'))) w' := fun w' => by
    simp only [binSem, Sem.run_bind, run_eqGuard_agg w' .neq t x y _ _ hm, Result.andThen_ok, run_neq_struct]
    rw [show (10000 : Nat) = 9998 + 1 + 1 from rfl, equalIn_str3 ht hst hn ho h0 h1 h2]; rfl
  refine VS.mk (fun w' _ => hr w') ?_
  simp only [Split] at h
  by_cases h1 : a = a' ∧ b = b' ∧ c = c'
  · have := h.1 h1; simpa [h1.1, h1.2.1, h1.2.2] using this
  · have := h.2 h1
    have e : (a == a' && b == b' && c == c') = false := by
      cases hh : (a == a' && b == b' && c == c') with
      | false => rfl
      | true => simp at hh; exact absurd ⟨hh.1.1, hh.1.2, hh.2⟩ h1
    rw [e]; exact this
end Go.Eng
