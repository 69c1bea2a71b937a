/- The statement FlowNames. -/
import Derived.Test.YtpdldifklgpikaaJ3
import Derived.Test.YtpdldifklgpikaaRows
set_option linter.unusedVariables false
set_option linter.unusedSimpArgs false
namespace Go.Eng
open Go.RowKit Go.ChangeShapes Go.WideShapes Go.ChangeAt Go.Deep

abbrev V3 := Value × Int × Int
abbrev S3 := List Int × Int × Int
def flatV : List V3 → List Value
  | [] => []
  | p :: r => p.1 :: i64v p.2.1 :: i64v p.2.2 :: flatV r
theorem flatV_len : ∀ l : List V3, (flatV l).length = l.length * 3
  | [] => rfl
  | _ :: r => by simp [flatV, flatV_len r]; omega
theorem flatV_app : ∀ a b : List V3, flatV (a ++ b) = flatV a ++ flatV b
  | [], _ => rfl
  | _ :: r, b => by simp [flatV, flatV_app r b]
abbrev v30 : V3 := (undef, 0, 0)
abbrev s30 : S3 := ([], 0, 0)
theorem flatV_get : ∀ (l : List V3) (c : Nat), c < l.length → (flatV l)[c * 3]? = some (l.getD c v30).1 ∧ (flatV l)[c * 3 + 1]? = some (i64v (l.getD c v30).2.1) ∧ (flatV l)[c * 3 + 2]? = some (i64v (l.getD c v30).2.2)
  | [], _, h => absurd h (Nat.not_lt_zero _)
  | p :: r, 0, _ => by simp [flatV]
  | p :: r, c + 1, h => by
    have := flatV_get r c (by simpa using h)
    rw [show (c + 1) * 3 = c * 3 + 1 + 1 + 1 by omega, show c * 3 + 1 + 1 + 1 + 1 = (c * 3 + 1) + 1 + 1 + 1 by omega, show c * 3 + 1 + 1 + 1 + 2 = (c * 3 + 2) + 1 + 1 + 1 by omega]
    simpa [flatV] using this

/-- the records behind the cells: the lists lie in the world -/
structure Rws (w : World) (L : List V3) (S : List S3) : Prop where
  len : L.length = S.length
  row : ∀ i, i < S.length → Ints w (L.getD i v30).1 (S.getD i s30).1
  num : ∀ i, i < S.length → (L.getD i v30).2 = (S.getD i s30).2
theorem Rws.ext {w w' : World} {L : List V3} {S : List S3} (h : Rws w L S) (hg : Ext w w') : Rws w' L S := ⟨h.len, fun i hi => (h.row i hi).ext hg, h.num⟩
theorem Rws.nil {w : World} : Rws w [] [] := ⟨rfl, fun i hi => absurd hi (Nat.not_lt_zero _), fun i hi => absurd hi (Nat.not_lt_zero _)⟩
theorem Rws.snoc {w : World} {L : List V3} {S : List S3} {u : Value} {l : List Int} {x y : Int} (h : Rws w L S) (hu : Ints w u l) : Rws w (L ++ [(u, x, y)]) (S ++ [(l, x, y)]) := by
  have hl := h.len
  have g1 : ∀ i, i < L.length → (L ++ [(u, x, y)]).getD i v30 = L.getD i v30 := fun i hi => by simp only [List.getD]; rw [List.getElem?_append_left hi]
  have g2 : ∀ i, i < S.length → (S ++ [(l, x, y)]).getD i s30 = S.getD i s30 := fun i hi => by simp only [List.getD]; rw [List.getElem?_append_left hi]
  have e1 : (L ++ [(u, x, y)]).getD L.length v30 = (u, x, y) := by simp [List.getD]
  have e2 : (S ++ [(l, x, y)]).getD S.length s30 = (l, x, y) := by simp [List.getD]
  refine ⟨by simp [hl], fun i hi => ?_, fun i hi => ?_⟩
  · rw [List.length_append, List.length_singleton] at hi
    by_cases e : i = S.length
    · subst e; rw [e2, ← hl, e1]; exact hu
    · rw [g1 i (by omega), g2 i (by omega)]; exact h.row i (by omega)
  · rw [List.length_append, List.length_singleton] at hi
    by_cases e : i = S.length
    · subst e; rw [e2, ← hl, e1]
    · rw [g1 i (by omega), g2 i (by omega)]; exact h.num i (by omega)
/-- A slice of such records. -/
structure Sps (w : World) (v : Value) (L : List V3) (S : List S3) : Prop where
  top : Sl 3 w v S.length (flatV L)
  rws : Rws w L S
section
variable {w w' : World} {v : Value} {L : List V3} {S : List S3} {K : Value → Prop}
theorem Sps.ext (h : Sps w v L S) (hg : Ext w w') : Sps w' v L S := ⟨Sl.ext h.top hg, h.rws.ext hg⟩
theorem Sps.le (h : Sps w v L S) : S.length ≤ 9223372036854775807 := Sl.le h.top
theorem Sps.ln (h : Sps w v L S) (hk : K (.int .i64 (S.length : Int))) : Ln v K := Sl.ln h.top hk
theorem Sps.ix {c : Nat} (h : Sps w v L S) (hc : c < S.length) (hk : K (.pointer (some (ea v (c * 3))))) : Ix 3 v (.int .i64 (c : Int)) K := Sl.ix h.top hc hk
theorem Sps.get (h : Sps w v L S) {c : Nat} (hc : c < S.length) : ∃ u, (L.getD c v30) = (u, (S.getD c s30).2.1, (S.getD c s30).2.2) ∧ Ints w u (S.getD c s30).1 ∧ u.cells = #[u] ∧ u.oneCell' = true := by
  have h1 := h.rws.row c hc
  have h2 := h.rws.num c hc
  exact ⟨(L.getD c v30).1, Prod.ext rfl h2, h1, (Sl.cells h1).1, (Sl.cells h1).2⟩
theorem Sps.ldN {c : Nat} {u : Value} {x y : Int} (h : Sps w v L S) (hc : c < S.length) (e : L.getD c v30 = (u, x, y)) (hk : K (.agg #[u, .int .i64 x, .int .i64 y])) : LdN 3 w (ea v (c * 3)) K := by
  have hl := h.rws.len
  obtain ⟨h1, h2, h3⟩ := flatV_get L c (by omega)
  rw [e] at h1 h2 h3
  simp only [LdN]
  refine ⟨[u, i64v x, i64v y], rfl, fun i z hz => ?_, hk⟩
  match i, hz with
  | 0, hz => simp at hz; subst hz; exact Sl.cell h.top h1
  | 1, hz =>
    simp at hz; subst hz
    rcases ea_block h.top (c * 3) 1 with e | e
    · rw [e]; exact Sl.cell h.top h2
    · omega
  | 2, hz =>
    simp at hz; subst hz
    rcases ea_block h.top (c * 3) 2 with e | e
    · rw [e]; exact Sl.cell h.top h3
    · omega
theorem Sps.ld0 {c : Nat} {u : Value} {x y : Int} (h : Sps w v L S) (hc : c < S.length) (e : L.getD c v30 = (u, x, y)) (hk : K u) : Ld w ((ea v (c * 3)).add 0) K := by
  have hl := h.rws.len
  have h1 := (flatV_get L c (by omega)).1
  rw [e] at h1
  rcases ea_block h.top (c * 3) 0 with e | e
  · rw [e]; simp only [Ld]; exact ⟨_, Sl.cell h.top h1, hk⟩
  · omega
theorem Sps.ld1 {c : Nat} {u : Value} {x y : Int} (h : Sps w v L S) (hc : c < S.length) (e : L.getD c v30 = (u, x, y)) (hk : K (.int .i64 x)) : Ld w ((ea v (c * 3)).add 1) K := by
  have hl := h.rws.len
  have h1 := (flatV_get L c (by omega)).2.1
  rw [e] at h1
  rcases ea_block h.top (c * 3) 1 with e | e
  · rw [e]; simp only [Ld]; exact ⟨_, Sl.cell h.top h1, hk⟩
  · omega
theorem Sps.ld2 {c : Nat} {u : Value} {x y : Int} (h : Sps w v L S) (hc : c < S.length) (e : L.getD c v30 = (u, x, y)) (hk : K (.int .i64 y)) : Ld w ((ea v (c * 3)).add 2) K := by
  have hl := h.rws.len
  have h1 := (flatV_get L c (by omega)).2.2
  rw [e] at h1
  rcases ea_block h.top (c * 3) 2 with e | e
  · rw [e]; simp only [Ld]; exact ⟨_, Sl.cell h.top h1, hk⟩
  · omega
end

section
variable {H : Type} {enc : TypeId × Value → H} {P : Program} {w : World} {base b0 : Nat} {spare : Nat → Bool} {held : Bool} {r : Reach} {v : Value} {d : DataW H} {ps : List MemPlace}
theorem read_step {t e : TypeId} {f0 f1 f2 : Field} {fuel : Nat} {cs : List Value} {x : DataW H × List MemPlace} (ht : P.underlying t = some (.struct #[f0, f1, f2])) (ho : f0.offset = 0 ∧ f1.offset = 1 ∧ f2.offset = 2) (hc : P.cellsOf t = 3)
    (hs : P.cellsOf f0.type = 1 ∧ P.cellsOf f1.type = 1 ∧ P.cellsOf f2.type = 1) (h0 : P.underlying f0.type = some (.slice e)) (he : P.underlying e = some (.int .i64)) (hse : P.cellsOf e = 1) (h1 : P.underlying f1.type = some (.int .i64)) (h2 : P.underlying f2.type = some (.int .i64))
    (h : DataW.trod enc P w base spare held fuel t cs = some x) : ∃ u l a b, cs = [u, .int .i64 a, .int .i64 b] ∧ Ints w u l ∧ (∀ j, I64 (l.getD j 0)) ∧ I64 a ∧ I64 b := by
  obtain ⟨y0, y1, y2, n, _, hl, e0, e1, e2⟩ := trod_struct3 ht h
  rw [ho.1, hs.1] at e0
  rw [ho.2.1, hs.2.1] at e1
  rw [ho.2.2, hs.2.2] at e2
  obtain ⟨u, l, hu, hI, ru⟩ := read_ints h0 he hse e0
  obtain ⟨b, hb, rb⟩ := read_i64 h1 e1
  obtain ⟨c, hc', rc⟩ := read_i64 h2 e2
  refine ⟨u, l, b, c, ?_, hI, ru, rb, rc⟩
  rw [hc] at hl
  match cs, hl with
  | [x, y, z], _ =>
    simp at hu hb hc'
    rw [hu, hb, hc']
theorem open_S {t q e : TypeId} {f0 f1 f2 : Field} (ht : P.underlying t = some (.slice q)) (hq : P.underlying q = some (.struct #[f0, f1, f2])) (ho : f0.offset = 0 ∧ f1.offset = 1 ∧ f2.offset = 2) (hc : P.cellsOf q = 3)
    (hs : P.cellsOf f0.type = 1 ∧ P.cellsOf f1.type = 1 ∧ P.cellsOf f2.type = 1) (h0 : P.underlying f0.type = some (.slice e)) (he : P.underlying e = some (.int .i64)) (hse : P.cellsOf e = 1) (h1 : P.underlying f1.type = some (.int .i64)) (h2 : P.underlying f2.type = some (.int .i64))
    (hv : Value.okWide P w r b0 t v) (hd : DataW.Trod enc P w base spare held t v d ps) : ∃ L S, Sps w v L S ∧ ∀ i, (∀ j, I64 ((S.getD i s30).1.getD j 0)) ∧ I64 (S.getD i s30).2.1 ∧ I64 (S.getD i s30).2.2 := by
  obtain ⟨a, n, c, rfl⟩ := okWide_slice ht hv
  obtain ⟨fuel, h⟩ := hd
  obtain ⟨v, n, xs, hv2, hsl, hel⟩ := read_sl ht hc h
  simp [Value.cells] at hv2; subst hv2
  letI : Inhabited Value := ⟨undef⟩
  have each : ∀ i, i < n → ∃ z : Value × List Int × Int × Int, ((xs.drop (i * 3)).take 3 = [z.1, .int .i64 z.2.2.1, .int .i64 z.2.2.2]) ∧ Ints w z.1 z.2.1 ∧ (∀ j, I64 (z.2.1.getD j 0)) ∧ I64 z.2.2.1 ∧ I64 z.2.2.2 := fun i hi => by
    obtain ⟨fuel', y, hy⟩ := hel i hi
    obtain ⟨u, l, a, b, e, g1, g2, g3, g4⟩ := read_step hq ho hc hs h0 he hse h1 h2 hy
    exact ⟨(u, l, a, b), e, g1, g2, g3, g4⟩
  obtain ⟨Z, hl, hp⟩ := choose_list each
  have hxl : xs.length = n * 3 := by obtain ⟨_, _, _, _, _, h3, _⟩ := id hsl; omega
  have gV : ∀ i, i < n → (Z.map fun z => ((z.1, z.2.2.1, z.2.2.2) : V3)).getD i v30 = ((Z.getD i default).1, (Z.getD i default).2.2.1, (Z.getD i default).2.2.2) := fun i hi => by simp [List.getD, show i < Z.length by omega]
  have gS : ∀ i, i < n → (Z.map fun z => ((z.2.1, z.2.2.1, z.2.2.2) : S3)).getD i s30 = ((Z.getD i default).2.1, (Z.getD i default).2.2.1, (Z.getD i default).2.2.2) := fun i hi => by simp [List.getD, show i < Z.length by omega]
  have exs : xs = flatV (Z.map fun z => ((z.1, z.2.2.1, z.2.2.2) : V3)) := by
    apply List.ext_getElem?
    intro k
    by_cases hk : k < n * 3
    · obtain ⟨q, r, hk3, hr⟩ : ∃ q r, k = q * 3 + r ∧ r < 3 := ⟨k / 3, k % 3, by omega, by omega⟩
      subst hk3
      have hi : q < n := by omega
      have e := (hp q hi).1
      have e2 := congrArg (fun l => l[r]?) e
      simp only [List.getElem?_take, if_pos hr, List.getElem?_drop] at e2
      rw [e2]
      obtain ⟨g0, g1, g2⟩ := flatV_get (Z.map fun z => ((z.1, z.2.2.1, z.2.2.2) : V3)) q (by simp; omega)
      rw [gV _ hi] at g0 g1 g2
      rcases (by omega : r = 0 ∨ r = 1 ∨ r = 2) with rfl | rfl | rfl
      · rw [Nat.add_zero, g0]; rfl
      · rw [g1]; rfl
      · rw [g2]; rfl
    · rw [List.getElem?_eq_none (by omega), List.getElem?_eq_none (by rw [flatV_len]; simp; omega)]
  refine ⟨Z.map fun z => (z.1, z.2.2.1, z.2.2.2), Z.map fun z => (z.2.1, z.2.2.1, z.2.2.2), ⟨?_, by simp, fun i hi => ?_, fun i hi => ?_⟩, fun i => ?_⟩
  · rw [List.length_map, hl, ← exs]; exact hsl
  · rw [List.length_map, hl] at hi
    rw [gV i hi, gS i hi]; exact (hp i hi).2.1
  · rw [List.length_map, hl] at hi
    rw [gV i hi, gS i hi]
  · by_cases hi : i < n
    · rw [gS i hi]; exact (hp i hi).2.2
    · simp [List.getD, List.getElem?_eq_none (show Z.length ≤ i by omega), I64]
end
end Go.Eng
set_option linter.unusedVariables false
set_option linter.unusedSimpArgs false
namespace Go.Eng
open Go.RowKit

section
variable {P : Program} {w : World} {e : TypeId} {s : Nat}
theorem VE.madeN {t : TypeId} {z : Value} {zs : Array Value} {b n : Nat} {K : Value → World → Prop} (ht : P.underlying t = some (.slice e)) (he : Elem P e z s b) (hz1 : z.cells = zs) (hzs : zs.size = s) (hs0 : 0 < s) (hn : n ≤ 1000000) (hs8 : s ≤ 8) (hb : b * n ≤ 281474976710656)
    (hk : ∀ v w', Ext w w' → (∀ B, B ≤ w.heap.size → Own B e s w' v n ((List.range (n * s)).map fun j => zs[j % s]!)) → K v w') : VE P (Instr.makeSlice t (.int .i64 (n : Int)) (.int .i64 (n : Int))) w K := by
  refine VE.mk fun w1 hw1 => ?_
  obtain ⟨i, hi, hz, hsz, hby⟩ := he.info
  have hns : n * s ≤ 8000000 := Nat.le_trans (Nat.mul_le_mul hn hs8) (by omega)
  refine ⟨_, _, ?_, hk (.slice (some ⟨w1.heap.size, 0, none⟩) n n) (w1.alloc (.cells ((List.range (n * s)).map fun j => zs[j % s]!).toArray e)) (hw1.alloc _) (fun B hB => ?_)⟩
  · have hw : IntKind.i64.wrap (n : Int) = n := IntWalk.i64_in _ (by omega)
    have h1 : ¬ ((n : Int) < 0) := by omega
    have h2 : ¬ ((b : Int) * (n : Int) > 2 ^ 48) := by
      have : (b : Int) * (n : Int) = ((b * n : Nat) : Int) := by simp
      rw [this]; omega
    have harr : (Array.map (fun j => (if n * s = 0 then (#[] : Array Value) else zs)[j % (if n * s = 0 then (#[] : Array Value) else zs).size]!) (Array.range (n * s))) = ((List.range (n * s)).map fun j => zs[j % s]!).toArray := by
      rw [amap_range]
      by_cases h0 : n * s = 0
      · rw [h0]; rfl
      · simp only [if_neg h0, hzs]
    simp only [Instr.makeSlice, Sem.run_bind, run_underlying ht, Result.andThen_ok, asInt, asIntOf, Sem.run_pure, typeInfo, run_program, hi, hby, hw, Go.sizeOf]
    simp only [h1, h2, decide_false, Bool.or_false, Int.lt_irrefl, Bool.false_eq_true, if_false, gt_iff_lt, Int.toNat_natCast, Sem.run_bind, run_askRoom, Result.andThen_ok, zeroValue, typeInfo, run_program, hi, Sem.run_pure, hsz]
    by_cases h0 : n * s = 0
    · rw [if_pos h0] at harr ⊢
      simp only [Sem.run_pure, Result.andThen_ok, newRow, Sem.run_bind, run_newObj, harr]
      rfl
    · rw [if_neg h0] at harr ⊢
      simp only [Sem.run_bind, run_program, hi, hz, Sem.run_pure, Result.andThen_ok, newRow, run_newObj, hz1, harr]
      rfl
  · have := Own.fresh (B := B) (e := e) (s := s) (w := w1) (cur := ((List.range (n * s)).map fun j => zs[j % s]!).toArray) (n := n) (Nat.le_trans hB hw1.size) (by unfold maxLen; omega) (by simp)
    simpa using this
theorem Sl.ldN2 {n c : Nat} {x u v : Value} {xs : List Value} {K : Value → Prop} (h : Sl 2 w x n xs) (h0 : xs[c * 2]? = some u) (h1 : xs[c * 2 + 1]? = some v) (hn : n ≠ 0) (hk : K (.agg #[u, v])) : LdN 2 w (ea x (c * 2)) K := by
  simp only [LdN]
  refine ⟨[u, v], rfl, fun i z hz => ?_, hk⟩
  match i, hz with
  | 0, hz => simp at hz; subst hz; exact Sl.cell h h0
  | 1, hz =>
    simp at hz; subst hz
    rcases ea_block h (c * 2) 1 with e | e
    · rw [e]; exact Sl.cell h h1
    · omega
end
theorem made_trs (n : Nat) : ((List.range (n * 3)).map fun j => (#[Value.int .i64 0, .int .i64 0, .int .i64 0] : Array Value)[j % 3]!) = flat3 (List.replicate n (0, 0, 0)) := by
  apply List.ext_getElem?
  intro k
  by_cases hk : k < n * 3
  · have e : (flat3 (List.replicate n ((0, 0, 0) : T3)))[k]? = some (.int .i64 0) := by
      obtain ⟨g0, g1, g2⟩ := flat3_get (List.replicate n ((0, 0, 0) : T3)) (k / 3) (by simp; omega)
      have hg : (List.replicate n ((0, 0, 0) : T3)).getD (k / 3) (0, 0, 0) = (0, 0, 0) := by simp [List.getD, show k / 3 < n by omega]
      rw [hg] at g0 g1 g2
      rcases (by omega : k % 3 = 0 ∨ k % 3 = 1 ∨ k % 3 = 2) with h | h | h
      · rw [show k = k / 3 * 3 by omega, g0]; rfl
      · rw [show k = k / 3 * 3 + 1 by omega, g1]; rfl
      · rw [show k = k / 3 * 3 + 2 by omega, g2]; rfl
    rw [e]
    simp only [List.getElem?_map, List.getElem?_range hk, Option.map_some]
    rcases (by omega : k % 3 = 0 ∨ k % 3 = 1 ∨ k % 3 = 2) with h | h | h <;> rw [h] <;> rfl
  · rw [List.getElem?_eq_none (by simp; omega), List.getElem?_eq_none (by rw [flat3_len]; simp; omega)]
theorem made_sps (n : Nat) : ((List.range (n * 3)).map fun j => (#[Value.slice none 0 0, .int .i64 0, .int .i64 0] : Array Value)[j % 3]!) = flatV (List.replicate n (.slice none 0 0, 0, 0)) := by
  apply List.ext_getElem?
  intro k
  by_cases hk : k < n * 3
  · simp only [List.getElem?_map, List.getElem?_range hk, Option.map_some]
    obtain ⟨g0, g1, g2⟩ := flatV_get (List.replicate n ((.slice none 0 0, 0, 0) : V3)) (k / 3) (by simp; omega)
    have hg : (List.replicate n ((.slice none 0 0, 0, 0) : V3)).getD (k / 3) v30 = (.slice none 0 0, 0, 0) := by simp [List.getD, show k / 3 < n by omega]
    rw [hg] at g0 g1 g2
    obtain ⟨q, r, hk3, hr⟩ : ∃ q r, k = q * 3 + r ∧ r < 3 := ⟨k / 3, k % 3, by omega, by omega⟩
    have hq : k / 3 = q := by omega
    rw [hq] at g0 g1 g2
    subst hk3
    have hr3 : (q * 3 + r) % 3 = r := by omega
    rw [hr3]
    rcases (by omega : r = 0 ∨ r = 1 ∨ r = 2) with rfl | rfl | rfl
    · rw [Nat.add_zero, g0]; rfl
    · rw [g1]; rfl
    · rw [g2]; rfl
  · rw [List.getElem?_eq_none (by simp; omega), List.getElem?_eq_none (by rw [flatV_len]; simp; omega)]
end Go.Eng
set_option linter.unusedVariables false
set_option linter.unusedSimpArgs false
namespace Go.Proofs.Ytpdldifklgpikaa
open Go.Eng
set_option maxRecDepth 100000
set_option maxHeartbeats 4000000

theorem nil_trs {w : World} : Trs w (.slice none 0 0) [] := Own.sl (B := 0) (e := 56) Own.nil
theorem netE_n {n : Int} {A : List T3} (h1 : n ≤ 40) (h2 : A.length ≤ 200) (h : n < 2) : netE n A = 8 := netE_bad (by omega) (.inl h)
theorem netE_x {n : Int} {x : T3} (h1 : n ≤ 40) (h : badX n x) : netE n [x] = 8 := netE_bad (by simp; omega) (.inr ⟨0, by simp, h⟩)
def oneA : List T3 := [(0, 1, 1000000), (1, 0, 5), (0, 1, 3)]
def twoA : List T3 := [(0, 1, 2), (0, 1, 2), (1, 2, 3)]
theorem one_ok : netE ((2 : Nat) : Int) oneA = 0 := net_of (by decide +kernel)
theorem one_net : NetOk 2 oneA := netOk_of (by decide +kernel)
theorem one_gf : gf 2 oneA = [1000000, 0, 3] := gf_ex one_net (c := [true, false]) (cs := [[true, false], [], [true, false]]) (by decide +kernel)
theorem two_ok : netE ((3 : Nat) : Int) twoA = 0 := net_of (by decide +kernel)
theorem two_net : NetOk 3 twoA := netOk_of (by decide +kernel)
theorem two_gf : gf 3 twoA = [1, 2, 3] := gf_ex two_net (c := [true, true, false]) (cs := [[true, false, false], [true, false, false], [false, true, false]]) (by decide +kernel)
theorem non_ok : netE ((2 : Nat) : Int) [] = 0 := net_of (by decide +kernel)
theorem non_net : NetOk 2 [] := netOk_of (by decide +kernel)
theorem non_gf : gf 2 [] = [] := gf_ex non_net (c := [true, false]) (cs := []) (by decide +kernel)
theorem isW_iff {N : Nat} {A : List T3} {f : List Int} : isWB N A f = true ↔ isW N A f := by
  refine ⟨isW_of, fun h => ?_⟩
  simp only [isWB, Bool.and_eq_true, List.all_eq_true, decide_eq_true_eq, List.mem_range]
  exact ⟨⟨h.1.1, fun i hi => h.1.2 i (by rw [h.1.1]; exact hi)⟩, fun v hv => h.2 (v + 1) (by omega) (by omega)⟩
theorem isW_no {N : Nat} {A : List T3} {f : List Int} (h : isWB N A f = false) : ¬ isW N A f := fun h2 => by rw [isW_iff.2 h2] at h; cases h

theorem fnames_pc {w : World} : PC Try.prog 9 [] w (.bool true) := by
  refine PC.mk tyOk Try.func9 rfl (by kernel_rfl) fun w1 E1 => ?_
  have EE := Ext.refl w1
  repeat' ((conv => whnf); first | (refine Dr.quiet tyOk (by kernel_rfl) ?_) | (refine Rng.mk (by omega) ?_) | (refine Split.pos (by omega) ?_) | (refine Split.neg (by omega) ?_) | (refine Split.mk (fun h => ?_) (fun h => ?_)) | (refine Need.mk (by omega) ?_) | (refine Ints.ln (by assumption) ?_) | (refine Mat.ln (by assumption) ?_) | (refine Ints.ln (Mat.row (by assumption) _ (by omega)) ?_) | (refine Ints.ix (by assumption) (by omega) ?_) | (refine Mat.ix (by assumption) (by omega) ?_) | (refine Ints.ix (Mat.row (by assumption) _ (by omega)) (by omega) ?_) | (refine Ints.ix (c := 0) (by assumption) (by omega) ?_) | (refine Mat.ix (c := 0) (by assumption) (by omega) ?_) | (refine Ints.ix (c := 0) (Mat.row (by assumption) _ (by omega)) (by omega) ?_) | (refine Ints.ixI (by assumption) (by omega) ?_) | (refine Mat.ixI (by assumption) (by omega) ?_) | (refine Ints.ixI (Mat.row (by assumption) _ (by omega)) (by omega) ?_) | (refine Ints.ld (by assumption) (by omega) ?_) | (refine Mat.ld (by assumption) (by omega) ?_) | (refine Ints.ld (Mat.row (by assumption) _ (by omega)) (by omega) ?_) | (refine At.ld (by assumption) rfl ?_) | (refine At.ldN (by assumption) rfl ?_) | (refine Prs.ln (by assumption) ?_) | (refine Trs.ln (by assumption) ?_) | (refine Prs.ix (by assumption) (by omega) ?_) | (refine Trs.ix (by assumption) (by omega) ?_) | (refine Prs.ldN (by assumption) (by omega) ?_) | (refine Trs.ldN (by assumption) (by omega) ?_) | (refine At.ldN (Blk.at (by assumption)) rfl ?_) | (refine At.ld (Blk.at (by assumption)) rfl ?_) | (refine IxA.mk (by omega) ?_) | (refine Sl.ln (Own.sl (by assumption)) ?_) | (refine Ints.ix (Own.sl (by assumption)) (by omega) ?_) | (refine Ints.ixI (Own.sl (by assumption)) (by omega) ?_) | (refine Ints.ld (Own.sl (by assumption)) (by omega) ?_))
  conv => whnf
  refine VS.sparseR (ps := []) #[.int .i64 0, .slice none 0 0] Try.underlying24 eNet (by decide +kernel) (by intro p hp; simp at hp) rfl ?_
  conv => whnf
  refine VS.sparseR (ps := [(0, .int .i64 (1))]) #[.int .i64 (1), .slice none 0 0] Try.underlying24 eNet (by decide +kernel) (by intro p hp; simp only [List.mem_cons, List.not_mem_nil, or_false] at hp; rcases hp with rfl <;> first | exact ⟨by kernel_rfl, by simp, rfl⟩) rfl ?_
  conv => whnf
  refine VS.sparseR (ps := []) #[.int .i64 0, .int .i64 0, .int .i64 0] Try.underlying56 eArc (by decide +kernel) (by intro p hp; simp at hp) rfl ?_
  conv => whnf
  refine VE.litA [[i64v (0), i64v (0), i64v (0)]] Try.underlying22 eArc (by simp) (by simp) (by simp) fun s2 w2 E2 H2 _ => ?_
  replace H2 : OA 0 w2 s2 [(0, 0, 0)] := H2 0 (Nat.zero_le _)
  replace EE := EE.ext E2
  conv => whnf
  refine VS.sparseR (ps := [(0, .int .i64 (2)), (1, s2)]) #[.int .i64 (2), s2] Try.underlying24 eNet (by decide +kernel) (by intro p hp; simp only [List.mem_cons, List.not_mem_nil, or_false] at hp; rcases hp with rfl | rfl <;> first | exact ⟨by kernel_rfl, by simp, rfl⟩ | exact ⟨by kernel_rfl, by simp, (Sl.cells (Own.sl H2)).1⟩) rfl ?_
  conv => whnf
  refine VS.sparseR (ps := [(0, .int .i64 (0)), (1, .int .i64 (2))]) #[.int .i64 (0), .int .i64 (2), .int .i64 0] Try.underlying56 eArc (by decide +kernel) (by intro p hp; simp only [List.mem_cons, List.not_mem_nil, or_false] at hp; rcases hp with rfl | rfl <;> first | exact ⟨by kernel_rfl, by simp, rfl⟩) rfl ?_
  conv => whnf
  refine VE.litA [[i64v (0), i64v (2), i64v (0)]] Try.underlying22 eArc (by simp) (by simp) (by simp) fun s3 w3 E3 H3 _ => ?_
  replace H3 : OA 0 w3 s3 [(0, 2, 0)] := H3 0 (Nat.zero_le _)
  replace EE := EE.ext E3
  replace H2 := H2.ext E3
  conv => whnf
  refine VS.sparseR (ps := [(0, .int .i64 (2)), (1, s3)]) #[.int .i64 (2), s3] Try.underlying24 eNet (by decide +kernel) (by intro p hp; simp only [List.mem_cons, List.not_mem_nil, or_false] at hp; rcases hp with rfl | rfl <;> first | exact ⟨by kernel_rfl, by simp, rfl⟩ | exact ⟨by kernel_rfl, by simp, (Sl.cells (Own.sl H3)).1⟩) rfl ?_
  conv => whnf
  refine VS.sparseR (ps := [(0, .int .i64 (-1)), (1, .int .i64 (1))]) #[.int .i64 (-1), .int .i64 (1), .int .i64 0] Try.underlying56 eArc (by decide +kernel) (by intro p hp; simp only [List.mem_cons, List.not_mem_nil, or_false] at hp; rcases hp with rfl | rfl <;> first | exact ⟨by kernel_rfl, by simp, rfl⟩) rfl ?_
  conv => whnf
  refine VE.litA [[i64v (-1), i64v (1), i64v (0)]] Try.underlying22 eArc (by simp) (by simp) (by simp) fun s4 w4 E4 H4 _ => ?_
  replace H4 : OA 0 w4 s4 [(-1, 1, 0)] := H4 0 (Nat.zero_le _)
  replace EE := EE.ext E4
  replace H2 := H2.ext E4
  replace H3 := H3.ext E4
  conv => whnf
  refine VS.sparseR (ps := [(0, .int .i64 (2)), (1, s4)]) #[.int .i64 (2), s4] Try.underlying24 eNet (by decide +kernel) (by intro p hp; simp only [List.mem_cons, List.not_mem_nil, or_false] at hp; rcases hp with rfl | rfl <;> first | exact ⟨by kernel_rfl, by simp, rfl⟩ | exact ⟨by kernel_rfl, by simp, (Sl.cells (Own.sl H4)).1⟩) rfl ?_
  conv => whnf
  refine VS.sparseR (ps := [(1, .int .i64 (1)), (2, .int .i64 (-1))]) #[.int .i64 0, .int .i64 (1), .int .i64 (-1)] Try.underlying56 eArc (by decide +kernel) (by intro p hp; simp only [List.mem_cons, List.not_mem_nil, or_false] at hp; rcases hp with rfl | rfl <;> first | exact ⟨by kernel_rfl, by simp, rfl⟩) rfl ?_
  conv => whnf
  refine VE.litA [[i64v (0), i64v (1), i64v (-1)]] Try.underlying22 eArc (by simp) (by simp) (by simp) fun s5 w5 E5 H5 _ => ?_
  replace H5 : OA 0 w5 s5 [(0, 1, -1)] := H5 0 (Nat.zero_le _)
  replace EE := EE.ext E5
  replace H2 := H2.ext E5
  replace H3 := H3.ext E5
  replace H4 := H4.ext E5
  conv => whnf
  refine VS.sparseR (ps := [(0, .int .i64 (2)), (1, s5)]) #[.int .i64 (2), s5] Try.underlying24 eNet (by decide +kernel) (by intro p hp; simp only [List.mem_cons, List.not_mem_nil, or_false] at hp; rcases hp with rfl | rfl <;> first | exact ⟨by kernel_rfl, by simp, rfl⟩ | exact ⟨by kernel_rfl, by simp, (Sl.cells (Own.sl H5)).1⟩) rfl ?_
  conv => whnf
  refine VS.sparseR (ps := [(1, .int .i64 (1)), (2, .int .i64 (1000001))]) #[.int .i64 0, .int .i64 (1), .int .i64 (1000001)] Try.underlying56 eArc (by decide +kernel) (by intro p hp; simp only [List.mem_cons, List.not_mem_nil, or_false] at hp; rcases hp with rfl | rfl <;> first | exact ⟨by kernel_rfl, by simp, rfl⟩) rfl ?_
  conv => whnf
  refine VE.litA [[i64v (0), i64v (1), i64v (1000001)]] Try.underlying22 eArc (by simp) (by simp) (by simp) fun s6 w6 E6 H6 _ => ?_
  replace H6 : OA 0 w6 s6 [(0, 1, 1000001)] := H6 0 (Nat.zero_le _)
  replace EE := EE.ext E6
  replace H2 := H2.ext E6
  replace H3 := H3.ext E6
  replace H4 := H4.ext E6
  replace H5 := H5.ext E6
  conv => whnf
  refine VS.sparseR (ps := [(0, .int .i64 (2)), (1, s6)]) #[.int .i64 (2), s6] Try.underlying24 eNet (by decide +kernel) (by intro p hp; simp only [List.mem_cons, List.not_mem_nil, or_false] at hp; rcases hp with rfl | rfl <;> first | exact ⟨by kernel_rfl, by simp, rfl⟩ | exact ⟨by kernel_rfl, by simp, (Sl.cells (Own.sl H6)).1⟩) rfl ?_
  conv => whnf
  refine VE.litA [[i64v 0, .slice none 0 0], [i64v 1, .slice none 0 0], [i64v 2, s2], [i64v 2, s3], [i64v 2, s4], [i64v 2, s5], [i64v 2, s6]] Try.underlying60 eNet (by simp) (by simp) (by simp) fun bv w20 E20 HB _ => ?_
  replace EE := EE.ext E20
  replace H2 := H2.ext E20
  replace H3 := H3.ext E20
  replace H4 := H4.ext E20
  replace H5 := H5.ext E20
  replace H6 := H6.ext E20
  replace HB := HB 0 (Nat.zero_le _)
  repeat' ((conv => whnf); first | (refine Dr.quiet tyOk (by kernel_rfl) ?_) | (refine Rng.mk (by omega) ?_) | (refine Split.pos (by omega) ?_) | (refine Split.neg (by omega) ?_) | (refine Split.mk (fun h => ?_) (fun h => ?_)) | (refine Need.mk (by omega) ?_) | (refine Ints.ln (by assumption) ?_) | (refine Mat.ln (by assumption) ?_) | (refine Ints.ln (Mat.row (by assumption) _ (by omega)) ?_) | (refine Ints.ix (by assumption) (by omega) ?_) | (refine Mat.ix (by assumption) (by omega) ?_) | (refine Ints.ix (Mat.row (by assumption) _ (by omega)) (by omega) ?_) | (refine Ints.ix (c := 0) (by assumption) (by omega) ?_) | (refine Mat.ix (c := 0) (by assumption) (by omega) ?_) | (refine Ints.ix (c := 0) (Mat.row (by assumption) _ (by omega)) (by omega) ?_) | (refine Ints.ixI (by assumption) (by omega) ?_) | (refine Mat.ixI (by assumption) (by omega) ?_) | (refine Ints.ixI (Mat.row (by assumption) _ (by omega)) (by omega) ?_) | (refine Ints.ld (by assumption) (by omega) ?_) | (refine Mat.ld (by assumption) (by omega) ?_) | (refine Ints.ld (Mat.row (by assumption) _ (by omega)) (by omega) ?_) | (refine At.ld (by assumption) rfl ?_) | (refine At.ldN (by assumption) rfl ?_) | (refine Prs.ln (by assumption) ?_) | (refine Trs.ln (by assumption) ?_) | (refine Prs.ix (by assumption) (by omega) ?_) | (refine Trs.ix (by assumption) (by omega) ?_) | (refine Prs.ldN (by assumption) (by omega) ?_) | (refine Trs.ldN (by assumption) (by omega) ?_) | (refine At.ldN (Blk.at (by assumption)) rfl ?_) | (refine At.ld (Blk.at (by assumption)) rfl ?_) | (refine IxA.mk (by omega) ?_) | (refine Sl.ln (Own.sl (by assumption)) ?_) | (refine Ints.ix (Own.sl (by assumption)) (by omega) ?_) | (refine Ints.ixI (Own.sl (by assumption)) (by omega) ?_) | (refine Ints.ld (Own.sl (by assumption)) (by omega) ?_))
  have EE__1 := EE
  have H2__1 := H2
  have H3__1 := H3
  have H4__1 := H4
  have H5__1 := H5
  have H6__1 := H6
  have HB__1 := HB
  have hz1 := Nat.le_trans E1.size EE.size
  refine Lp.mk tyOk [true, false, true, true, true, false, false, false, false, false, false, false, false, false, false, false, false, false, false, false, false, false, false, false, false, false, false, false, false, false, false, false, false, false, false, false, false, false, false, false, false, false, false, false, false, false, false, false, false, false, false, false, true, true, true, true, true, true, true, true, true, true, true, true, true, true, true, true, true, true, true, true, true, true, true, true] (fun m fr wr => getK fr 2 fun i => ∃ c : Nat, c ≤ 7 ∧ m = 7 - c ∧ i = .int .i64 (c : Int) ∧ Ext w20 wr) (7) ?_ ?_
  · exact ⟨0, Nat.zero_le _, rfl, rfl, Ext.refl _⟩
  · intro m w21 u0 u2 u3 u4 u52 u53 u54 u55 u56 u57 u58 u59 u60 u61 u62 u63 u64 u65 u66 u67 u68 u69 u70 u71 u72 u73 u74 u75 hR
    obtain ⟨c, hc, rfl, rfl, EL1⟩ := hR
    replace EE := EE__1.ext EL1
    replace H2 := H2__1.ext EL1
    replace H3 := H3__1.ext EL1
    replace H4 := H4__1.ext EL1
    replace H5 := H5__1.ext EL1
    replace H6 := H6__1.ext EL1
    replace HB := HB__1.ext EL1
    have HBs : Sl 2 w21 bv 7 [i64v 0, .slice none 0 0, i64v 1, .slice none 0 0, i64v 2, s2, i64v 2, s3, i64v 2, s4, i64v 2, s5, i64v 2, s6] := Own.sl HB
    by_cases hcl : c < 7
    · have hx : ∃ (n : Int) (sv : Value) (A : List T3), ([i64v 0, .slice none 0 0, i64v 1, .slice none 0 0, i64v 2, s2, i64v 2, s3, i64v 2, s4, i64v 2, s5, i64v 2, s6] : List Value)[c * 2]? = some (.int .i64 n) ∧ ([i64v 0, .slice none 0 0, i64v 1, .slice none 0 0, i64v 2, s2, i64v 2, s3, i64v 2, s4, i64v 2, s5, i64v 2, s6] : List Value)[c * 2 + 1]? = some sv ∧ Trs w21 sv A ∧ netE n A = 8 := by
        match c, hcl with
        | 0, _ => exact ⟨0, _, [], rfl, rfl, nil_trs, netE_n (by decide) (by decide) (by decide)⟩
        | 1, _ => exact ⟨1, _, [], rfl, rfl, nil_trs, netE_n (by decide) (by decide) (by decide)⟩
        | 2, _ => exact ⟨2, _, _, rfl, rfl, Own.sl H2, netE_x (by decide) (by unfold badX; decide)⟩
        | 3, _ => exact ⟨2, _, _, rfl, rfl, Own.sl H3, netE_x (by decide) (by unfold badX; decide)⟩
        | 4, _ => exact ⟨2, _, _, rfl, rfl, Own.sl H4, netE_x (by decide) (by unfold badX; decide)⟩
        | 5, _ => exact ⟨2, _, _, rfl, rfl, Own.sl H5, netE_x (by decide) (by unfold badX; decide)⟩
        | 6, _ => exact ⟨2, _, _, rfl, rfl, Own.sl H6, netE_x (by decide) (by unfold badX; decide)⟩
      obtain ⟨n, sv, A, g0, g1, HA, hE⟩ := hx
      repeat' ((conv => whnf); first | (refine Dr.quiet tyOk (by kernel_rfl) ?_) | (refine Sl.ln HBs ?_) | (refine Sl.ix HBs hcl ?_) | (refine Sl.ldN2 HBs g0 g1 (by decide) ?_) | (refine Rng.mk (by omega) ?_) | (refine Split.pos (by omega) ?_) | (refine Split.neg (by omega) ?_) | (refine Split.mk (fun h => ?_) (fun h => ?_)) | (refine Need.mk (by omega) ?_) | (refine Ints.ln (by assumption) ?_) | (refine Mat.ln (by assumption) ?_) | (refine Ints.ln (Mat.row (by assumption) _ (by omega)) ?_) | (refine Ints.ix (by assumption) (by omega) ?_) | (refine Mat.ix (by assumption) (by omega) ?_) | (refine Ints.ix (Mat.row (by assumption) _ (by omega)) (by omega) ?_) | (refine Ints.ix (c := 0) (by assumption) (by omega) ?_) | (refine Mat.ix (c := 0) (by assumption) (by omega) ?_) | (refine Ints.ix (c := 0) (Mat.row (by assumption) _ (by omega)) (by omega) ?_) | (refine Ints.ixI (by assumption) (by omega) ?_) | (refine Mat.ixI (by assumption) (by omega) ?_) | (refine Ints.ixI (Mat.row (by assumption) _ (by omega)) (by omega) ?_) | (refine Ints.ld (by assumption) (by omega) ?_) | (refine Mat.ld (by assumption) (by omega) ?_) | (refine Ints.ld (Mat.row (by assumption) _ (by omega)) (by omega) ?_) | (refine At.ld (by assumption) rfl ?_) | (refine At.ldN (by assumption) rfl ?_) | (refine Prs.ln (by assumption) ?_) | (refine Trs.ln (by assumption) ?_) | (refine Prs.ix (by assumption) (by omega) ?_) | (refine Trs.ix (by assumption) (by omega) ?_) | (refine Prs.ldN (by assumption) (by omega) ?_) | (refine Trs.ldN (by assumption) (by omega) ?_) | (refine At.ldN (Blk.at (by assumption)) rfl ?_) | (refine At.ld (Blk.at (by assumption)) rfl ?_) | (refine IxA.mk (by omega) ?_) | (refine Sl.ln (Own.sl (by assumption)) ?_) | (refine Ints.ix (Own.sl (by assumption)) (by omega) ?_) | (refine Ints.ixI (Own.sl (by assumption)) (by omega) ?_) | (refine Ints.ld (Own.sl (by assumption)) (by omega) ?_))
      conv => whnf
      refine VC.rc (gMax_rc HA) ?_
      rintro _ w22 E22 ⟨fv, rfl, HF, hM⟩
      replace EE := EE.ext E22
      replace H2 := H2.ext E22
      replace H3 := H3.ext E22
      replace H4 := H4.ext E22
      replace H5 := H5.ext E22
      replace H6 := H6.ext E22
      replace HB := HB.ext E22
      replace EL1 := EL1.ext E22
      replace HA := HA.ext E22
      replace HBs := HBs.ext E22
      have cn := gnet_pc (n := n) HA
      rw [hE] at cn ⊢
      repeat' ((conv => whnf); first | (refine Dr.quiet tyOk (by kernel_rfl) ?_) | (refine Sl.ix HBs hcl ?_) | (refine Sl.ldN2 HBs g0 g1 (by decide) ?_) | (refine VC.pure cn ?_) | (refine VCQ.pure cn ?_) | (refine Rng.mk (by omega) ?_) | (refine Split.pos (by omega) ?_) | (refine Split.neg (by omega) ?_) | (refine Split.mk (fun h => ?_) (fun h => ?_)) | (refine Need.mk (by omega) ?_) | (refine Ints.ln (by assumption) ?_) | (refine Mat.ln (by assumption) ?_) | (refine Ints.ln (Mat.row (by assumption) _ (by omega)) ?_) | (refine Ints.ix (by assumption) (by omega) ?_) | (refine Mat.ix (by assumption) (by omega) ?_) | (refine Ints.ix (Mat.row (by assumption) _ (by omega)) (by omega) ?_) | (refine Ints.ix (c := 0) (by assumption) (by omega) ?_) | (refine Mat.ix (c := 0) (by assumption) (by omega) ?_) | (refine Ints.ix (c := 0) (Mat.row (by assumption) _ (by omega)) (by omega) ?_) | (refine Ints.ixI (by assumption) (by omega) ?_) | (refine Mat.ixI (by assumption) (by omega) ?_) | (refine Ints.ixI (Mat.row (by assumption) _ (by omega)) (by omega) ?_) | (refine Ints.ld (by assumption) (by omega) ?_) | (refine Mat.ld (by assumption) (by omega) ?_) | (refine Ints.ld (Mat.row (by assumption) _ (by omega)) (by omega) ?_) | (refine At.ld (by assumption) rfl ?_) | (refine At.ldN (by assumption) rfl ?_) | (refine Prs.ln (by assumption) ?_) | (refine Trs.ln (by assumption) ?_) | (refine Prs.ix (by assumption) (by omega) ?_) | (refine Trs.ix (by assumption) (by omega) ?_) | (refine Prs.ldN (by assumption) (by omega) ?_) | (refine Trs.ldN (by assumption) (by omega) ?_) | (refine At.ldN (Blk.at (by assumption)) rfl ?_) | (refine At.ld (Blk.at (by assumption)) rfl ?_) | (refine IxA.mk (by omega) ?_) | (refine Sl.ln (Own.sl (by assumption)) ?_) | (refine Ints.ix (Own.sl (by assumption)) (by omega) ?_) | (refine Ints.ixI (Own.sl (by assumption)) (by omega) ?_) | (refine Ints.ld (Own.sl (by assumption)) (by omega) ?_))
      refine ⟨_, (by omega : 7 - (c + 1) < 7 - c), rfl, c + 1, by omega, rfl, rfl, EL1⟩
    · obtain rfl : c = 7 := by omega
      repeat' ((conv => whnf); first | (refine Dr.quiet tyOk (by kernel_rfl) ?_) | (refine Sl.ln HBs ?_) | (refine Rng.mk (by omega) ?_) | (refine Split.pos (by omega) ?_) | (refine Split.neg (by omega) ?_) | (refine Split.mk (fun h => ?_) (fun h => ?_)) | (refine Need.mk (by omega) ?_) | (refine Ints.ln (by assumption) ?_) | (refine Mat.ln (by assumption) ?_) | (refine Ints.ln (Mat.row (by assumption) _ (by omega)) ?_) | (refine Ints.ix (by assumption) (by omega) ?_) | (refine Mat.ix (by assumption) (by omega) ?_) | (refine Ints.ix (Mat.row (by assumption) _ (by omega)) (by omega) ?_) | (refine Ints.ix (c := 0) (by assumption) (by omega) ?_) | (refine Mat.ix (c := 0) (by assumption) (by omega) ?_) | (refine Ints.ix (c := 0) (Mat.row (by assumption) _ (by omega)) (by omega) ?_) | (refine Ints.ixI (by assumption) (by omega) ?_) | (refine Mat.ixI (by assumption) (by omega) ?_) | (refine Ints.ixI (Mat.row (by assumption) _ (by omega)) (by omega) ?_) | (refine Ints.ld (by assumption) (by omega) ?_) | (refine Mat.ld (by assumption) (by omega) ?_) | (refine Ints.ld (Mat.row (by assumption) _ (by omega)) (by omega) ?_) | (refine At.ld (by assumption) rfl ?_) | (refine At.ldN (by assumption) rfl ?_) | (refine Prs.ln (by assumption) ?_) | (refine Trs.ln (by assumption) ?_) | (refine Prs.ix (by assumption) (by omega) ?_) | (refine Trs.ix (by assumption) (by omega) ?_) | (refine Prs.ldN (by assumption) (by omega) ?_) | (refine Trs.ldN (by assumption) (by omega) ?_) | (refine At.ldN (Blk.at (by assumption)) rfl ?_) | (refine At.ld (Blk.at (by assumption)) rfl ?_) | (refine IxA.mk (by omega) ?_) | (refine Sl.ln (Own.sl (by assumption)) ?_) | (refine Ints.ix (Own.sl (by assumption)) (by omega) ?_) | (refine Ints.ixI (Own.sl (by assumption)) (by omega) ?_) | (refine Ints.ld (Own.sl (by assumption)) (by omega) ?_))
      conv => whnf
      refine VS.sparseR (ps := [(1, .int .i64 (1)), (2, .int .i64 (1000000))]) #[.int .i64 0, .int .i64 (1), .int .i64 (1000000)] Try.underlying56 eArc (by decide +kernel) (by intro p hp; simp only [List.mem_cons, List.not_mem_nil, or_false] at hp; rcases hp with rfl | rfl <;> first | exact ⟨by kernel_rfl, by simp, rfl⟩) rfl ?_
      conv => whnf
      refine VS.sparseR (ps := [(0, .int .i64 (1)), (1, .int .i64 (0)), (2, .int .i64 (5))]) #[.int .i64 (1), .int .i64 (0), .int .i64 (5)] Try.underlying56 eArc (by decide +kernel) (by intro p hp; simp only [List.mem_cons, List.not_mem_nil, or_false] at hp; rcases hp with rfl | rfl | rfl <;> first | exact ⟨by kernel_rfl, by simp, rfl⟩) rfl ?_
      conv => whnf
      refine VS.sparseR (ps := [(1, .int .i64 (1)), (2, .int .i64 (3))]) #[.int .i64 0, .int .i64 (1), .int .i64 (3)] Try.underlying56 eArc (by decide +kernel) (by intro p hp; simp only [List.mem_cons, List.not_mem_nil, or_false] at hp; rcases hp with rfl | rfl <;> first | exact ⟨by kernel_rfl, by simp, rfl⟩) rfl ?_
      conv => whnf
      refine VE.litA [[i64v (0), i64v (1), i64v (1000000)], [i64v (1), i64v (0), i64v (5)], [i64v (0), i64v (1), i64v (3)]] Try.underlying22 eArc (by simp) (by simp) (by simp) fun nv w23 E23 HO _ => ?_
      replace HO : OA 0 w23 nv [(0, 1, 1000000), (1, 0, 5), (0, 1, 3)] := HO 0 (Nat.zero_le _)
      replace EE := EE.ext E23
      replace H2 := H2.ext E23
      replace H3 := H3.ext E23
      replace H4 := H4.ext E23
      replace H5 := H5.ext E23
      replace H6 := H6.ext E23
      replace HB := HB.ext E23
      replace EL1 := EL1.ext E23
      conv => whnf
      refine VS.sparseR (ps := [(0, .int .i64 (2)), (1, nv)]) #[.int .i64 (2), nv] Try.underlying24 eNet (by decide +kernel) (by intro p hp; simp only [List.mem_cons, List.not_mem_nil, or_false] at hp; rcases hp with rfl | rfl <;> first | exact ⟨by kernel_rfl, by simp, rfl⟩ | exact ⟨by kernel_rfl, by simp, (Sl.cells (Own.sl HO)).1⟩) rfl ?_
      conv => whnf
      have EE__2 := EE
      have H2__2 := H2
      have H3__2 := H3
      have H4__2 := H4
      have H5__2 := H5
      have H6__2 := H6
      have HB__2 := HB
      have EL1__2 := EL1
      have HO__2 := HO
      conv => whnf
      refine VE.alloc eNet fun nb w24 E24 hb_nb Hk => ?_
      replace EE := EE.ext E24
      replace H2 := H2.ext E24
      replace H3 := H3.ext E24
      replace H4 := H4.ext E24
      replace H5 := H5.ext E24
      replace H6 := H6.ext E24
      replace HB := HB.ext E24
      replace EL1 := EL1.ext E24
      replace HO := HO.ext E24
      have EL2 := E24
      conv => whnf
      refine Blk.all Hk (by kernel_rfl) (by first | decide | simp) rfl rfl (by intro v hv; simp only [List.mem_cons, List.not_mem_nil, or_false] at hv; rcases hv with rfl | rfl; rfl; exact (Sl.cells (Own.sl HO)).2) fun w25 G25 Hk' => ?_
      have E25 : Ext w23 w25 := EL2.new G25 fun i hi hk => by omega
      replace Hk := Hk'
      replace EE := EE__2.ext E25
      replace H2 := H2__2.ext E25
      replace H3 := H3__2.ext E25
      replace H4 := H4__2.ext E25
      replace H5 := H5__2.ext E25
      replace H6 := H6__2.ext E25
      replace HB := HB__2.ext E25
      replace EL1 := EL1__2.ext E25
      replace HO := HO__2.ext E25
      replace EL2 := E25
      have HT : Trs w25 nv oneA := Own.sl HO
      repeat' ((conv => whnf); first | (refine Dr.quiet tyOk (by kernel_rfl) ?_) | (refine At.ldN (Blk.at Hk) rfl ?_) | (refine Rng.mk (by omega) ?_) | (refine Split.pos (by omega) ?_) | (refine Split.neg (by omega) ?_) | (refine Split.mk (fun h => ?_) (fun h => ?_)) | (refine Need.mk (by omega) ?_) | (refine Ints.ln (by assumption) ?_) | (refine Mat.ln (by assumption) ?_) | (refine Ints.ln (Mat.row (by assumption) _ (by omega)) ?_) | (refine Ints.ix (by assumption) (by omega) ?_) | (refine Mat.ix (by assumption) (by omega) ?_) | (refine Ints.ix (Mat.row (by assumption) _ (by omega)) (by omega) ?_) | (refine Ints.ix (c := 0) (by assumption) (by omega) ?_) | (refine Mat.ix (c := 0) (by assumption) (by omega) ?_) | (refine Ints.ix (c := 0) (Mat.row (by assumption) _ (by omega)) (by omega) ?_) | (refine Ints.ixI (by assumption) (by omega) ?_) | (refine Mat.ixI (by assumption) (by omega) ?_) | (refine Ints.ixI (Mat.row (by assumption) _ (by omega)) (by omega) ?_) | (refine Ints.ld (by assumption) (by omega) ?_) | (refine Mat.ld (by assumption) (by omega) ?_) | (refine Ints.ld (Mat.row (by assumption) _ (by omega)) (by omega) ?_) | (refine At.ld (by assumption) rfl ?_) | (refine At.ldN (by assumption) rfl ?_) | (refine Prs.ln (by assumption) ?_) | (refine Trs.ln (by assumption) ?_) | (refine Prs.ix (by assumption) (by omega) ?_) | (refine Trs.ix (by assumption) (by omega) ?_) | (refine Prs.ldN (by assumption) (by omega) ?_) | (refine Trs.ldN (by assumption) (by omega) ?_) | (refine At.ldN (Blk.at (by assumption)) rfl ?_) | (refine At.ld (Blk.at (by assumption)) rfl ?_) | (refine IxA.mk (by omega) ?_) | (refine Sl.ln (Own.sl (by assumption)) ?_) | (refine Ints.ix (Own.sl (by assumption)) (by omega) ?_) | (refine Ints.ixI (Own.sl (by assumption)) (by omega) ?_) | (refine Ints.ld (Own.sl (by assumption)) (by omega) ?_))
      conv => whnf
      refine VC.rc (gMax_rc (n := ((2 : Nat) : Int)) HT) ?_
      rintro _ w26 E26 ⟨fv, rfl, HF, hM⟩
      replace EE := EE.ext E26
      replace H2 := H2.ext E26
      replace H3 := H3.ext E26
      replace H4 := H4.ext E26
      replace H5 := H5.ext E26
      replace H6 := H6.ext E26
      replace HB := HB.ext E26
      replace EL1 := EL1.ext E26
      replace HO := HO.ext E26
      replace EL2 := EL2.ext E26
      replace Hk := Hk.ext E26
      replace HT := HT.ext E26
      rw [mxL_ok one_ok, one_gf] at HF
      rw [one_ok]
      repeat' ((conv => whnf); first | (refine Dr.quiet tyOk (by kernel_rfl) ?_) | (refine Rng.mk (by omega) ?_) | (refine Split.pos (by omega) ?_) | (refine Split.neg (by omega) ?_) | (refine Split.mk (fun h => ?_) (fun h => ?_)) | (refine Need.mk (by omega) ?_) | (refine Ints.ln (by assumption) ?_) | (refine Mat.ln (by assumption) ?_) | (refine Ints.ln (Mat.row (by assumption) _ (by omega)) ?_) | (refine Ints.ix (by assumption) (by omega) ?_) | (refine Mat.ix (by assumption) (by omega) ?_) | (refine Ints.ix (Mat.row (by assumption) _ (by omega)) (by omega) ?_) | (refine Ints.ix (c := 0) (by assumption) (by omega) ?_) | (refine Mat.ix (c := 0) (by assumption) (by omega) ?_) | (refine Ints.ix (c := 0) (Mat.row (by assumption) _ (by omega)) (by omega) ?_) | (refine Ints.ixI (by assumption) (by omega) ?_) | (refine Mat.ixI (by assumption) (by omega) ?_) | (refine Ints.ixI (Mat.row (by assumption) _ (by omega)) (by omega) ?_) | (refine Ints.ld (by assumption) (by omega) ?_) | (refine Mat.ld (by assumption) (by omega) ?_) | (refine Ints.ld (Mat.row (by assumption) _ (by omega)) (by omega) ?_) | (refine At.ld (by assumption) rfl ?_) | (refine At.ldN (by assumption) rfl ?_) | (refine Prs.ln (by assumption) ?_) | (refine Trs.ln (by assumption) ?_) | (refine Prs.ix (by assumption) (by omega) ?_) | (refine Trs.ix (by assumption) (by omega) ?_) | (refine Prs.ldN (by assumption) (by omega) ?_) | (refine Trs.ldN (by assumption) (by omega) ?_) | (refine At.ldN (Blk.at (by assumption)) rfl ?_) | (refine At.ld (Blk.at (by assumption)) rfl ?_) | (refine IxA.mk (by omega) ?_) | (refine Sl.ln (Own.sl (by assumption)) ?_) | (refine Ints.ix (Own.sl (by assumption)) (by omega) ?_) | (refine Ints.ixI (Own.sl (by assumption)) (by omega) ?_) | (refine Ints.ld (Own.sl (by assumption)) (by omega) ?_))
      conv => whnf
      refine VS.sparseR (ps := [(0, .int .i64 (41))]) #[.int .i64 (41), .slice none 0 0] Try.underlying24 eNet (by decide +kernel) (by intro p hp; simp only [List.mem_cons, List.not_mem_nil, or_false] at hp; rcases hp with rfl <;> first | exact ⟨by kernel_rfl, by simp, rfl⟩) rfl ?_
      have c41 := gnet_pc (n := 41) (nil_trs (w := w26))
      rw [netE_many (.inl (by decide))] at c41
      conv => whnf
      refine VC.pure c41 ?_
      repeat' ((conv => whnf); first | (refine Dr.quiet tyOk (by kernel_rfl) ?_) | (refine Rng.mk (by omega) ?_) | (refine Split.pos (by omega) ?_) | (refine Split.neg (by omega) ?_) | (refine Split.mk (fun h => ?_) (fun h => ?_)) | (refine Need.mk (by omega) ?_) | (refine Ints.ln (by assumption) ?_) | (refine Mat.ln (by assumption) ?_) | (refine Ints.ln (Mat.row (by assumption) _ (by omega)) ?_) | (refine Ints.ix (by assumption) (by omega) ?_) | (refine Mat.ix (by assumption) (by omega) ?_) | (refine Ints.ix (Mat.row (by assumption) _ (by omega)) (by omega) ?_) | (refine Ints.ix (c := 0) (by assumption) (by omega) ?_) | (refine Mat.ix (c := 0) (by assumption) (by omega) ?_) | (refine Ints.ix (c := 0) (Mat.row (by assumption) _ (by omega)) (by omega) ?_) | (refine Ints.ixI (by assumption) (by omega) ?_) | (refine Mat.ixI (by assumption) (by omega) ?_) | (refine Ints.ixI (Mat.row (by assumption) _ (by omega)) (by omega) ?_) | (refine Ints.ld (by assumption) (by omega) ?_) | (refine Mat.ld (by assumption) (by omega) ?_) | (refine Ints.ld (Mat.row (by assumption) _ (by omega)) (by omega) ?_) | (refine At.ld (by assumption) rfl ?_) | (refine At.ldN (by assumption) rfl ?_) | (refine Prs.ln (by assumption) ?_) | (refine Trs.ln (by assumption) ?_) | (refine Prs.ix (by assumption) (by omega) ?_) | (refine Trs.ix (by assumption) (by omega) ?_) | (refine Prs.ldN (by assumption) (by omega) ?_) | (refine Trs.ldN (by assumption) (by omega) ?_) | (refine At.ldN (Blk.at (by assumption)) rfl ?_) | (refine At.ld (Blk.at (by assumption)) rfl ?_) | (refine IxA.mk (by omega) ?_) | (refine Sl.ln (Own.sl (by assumption)) ?_) | (refine Ints.ix (Own.sl (by assumption)) (by omega) ?_) | (refine Ints.ixI (Own.sl (by assumption)) (by omega) ?_) | (refine Ints.ld (Own.sl (by assumption)) (by omega) ?_))
      refine VE.madeN (zs := #[.int .i64 0, .int .i64 0, .int .i64 0]) (n := 201) Try.underlying22 eArc rfl rfl (by decide) (by decide) (by decide) (by decide) fun mv w30 E30 HMk => ?_
      replace EE := EE.ext E30
      replace H2 := H2.ext E30
      replace H3 := H3.ext E30
      replace H4 := H4.ext E30
      replace H5 := H5.ext E30
      replace H6 := H6.ext E30
      replace HB := HB.ext E30
      replace EL1 := EL1.ext E30
      replace HO := HO.ext E30
      replace EL2 := EL2.ext E30
      replace Hk := Hk.ext E30
      replace HT := HT.ext E30
      replace HF := HF.ext E30
      have HMt : Trs w30 mv (List.replicate 201 (0, 0, 0)) := by
        have h := Own.sl (HMk 0 (Nat.zero_le _))
        rw [made_trs] at h
        unfold Trs; rw [List.length_replicate]; exact h
      conv => whnf
      refine VS.sparseR (ps := [(0, .int .i64 2), (1, mv)]) #[.int .i64 2, mv] Try.underlying24 eNet (by decide +kernel) (by intro p hp; simp only [List.mem_cons, List.not_mem_nil, or_false] at hp; rcases hp with rfl | rfl <;> first | exact ⟨by kernel_rfl, by simp, rfl⟩ | exact ⟨by kernel_rfl, by simp, (Sl.cells HMt).1⟩) rfl ?_
      have c201 := gnet_pc (n := 2) HMt
      rw [netE_many (.inr (by rw [List.length_replicate]; decide))] at c201
      conv => whnf
      refine VC.pure c201 ?_
      repeat' ((conv => whnf); first | (refine Dr.quiet tyOk (by kernel_rfl) ?_) | (refine At.ldN (Blk.at Hk) rfl ?_) | (refine Rng.mk (by omega) ?_) | (refine Split.pos (by omega) ?_) | (refine Split.neg (by omega) ?_) | (refine Split.mk (fun h => ?_) (fun h => ?_)) | (refine Need.mk (by omega) ?_) | (refine Ints.ln (by assumption) ?_) | (refine Mat.ln (by assumption) ?_) | (refine Ints.ln (Mat.row (by assumption) _ (by omega)) ?_) | (refine Ints.ix (by assumption) (by omega) ?_) | (refine Mat.ix (by assumption) (by omega) ?_) | (refine Ints.ix (Mat.row (by assumption) _ (by omega)) (by omega) ?_) | (refine Ints.ix (c := 0) (by assumption) (by omega) ?_) | (refine Mat.ix (c := 0) (by assumption) (by omega) ?_) | (refine Ints.ix (c := 0) (Mat.row (by assumption) _ (by omega)) (by omega) ?_) | (refine Ints.ixI (by assumption) (by omega) ?_) | (refine Mat.ixI (by assumption) (by omega) ?_) | (refine Ints.ixI (Mat.row (by assumption) _ (by omega)) (by omega) ?_) | (refine Ints.ld (by assumption) (by omega) ?_) | (refine Mat.ld (by assumption) (by omega) ?_) | (refine Ints.ld (Mat.row (by assumption) _ (by omega)) (by omega) ?_) | (refine At.ld (by assumption) rfl ?_) | (refine At.ldN (by assumption) rfl ?_) | (refine Prs.ln (by assumption) ?_) | (refine Trs.ln (by assumption) ?_) | (refine Prs.ix (by assumption) (by omega) ?_) | (refine Trs.ix (by assumption) (by omega) ?_) | (refine Prs.ldN (by assumption) (by omega) ?_) | (refine Trs.ldN (by assumption) (by omega) ?_) | (refine At.ldN (Blk.at (by assumption)) rfl ?_) | (refine At.ld (Blk.at (by assumption)) rfl ?_) | (refine IxA.mk (by omega) ?_) | (refine Sl.ln (Own.sl (by assumption)) ?_) | (refine Ints.ix (Own.sl (by assumption)) (by omega) ?_) | (refine Ints.ixI (Own.sl (by assumption)) (by omega) ?_) | (refine Ints.ld (Own.sl (by assumption)) (by omega) ?_))
      conv => whnf
      refine VE.litI [0, 0] Try.underlying26 eInt (by first | decide | simp) fun f1 w31 E31 F1 _ => ?_
      replace F1 := F1 0 (Nat.zero_le _)
      replace EE := EE.ext E31
      replace H2 := H2.ext E31
      replace H3 := H3.ext E31
      replace H4 := H4.ext E31
      replace H5 := H5.ext E31
      replace H6 := H6.ext E31
      replace HB := HB.ext E31
      replace EL1 := EL1.ext E31
      replace HO := HO.ext E31
      replace EL2 := EL2.ext E31
      replace Hk := Hk.ext E31
      replace HT := HT.ext E31
      replace HF := HF.ext E31
      have k1 := gvalue_pc (n := ((2 : Nat) : Int)) HT (Own.sl F1)
      rw [vE_bad one_ok (isW_no (by decide +kernel))] at k1
      conv => whnf
      refine VC.pure k1 ?_
      repeat' ((conv => whnf); first | (refine Dr.quiet tyOk (by kernel_rfl) ?_) | (refine At.ldN (Blk.at Hk) rfl ?_) | (refine Rng.mk (by omega) ?_) | (refine Split.pos (by omega) ?_) | (refine Split.neg (by omega) ?_) | (refine Split.mk (fun h => ?_) (fun h => ?_)) | (refine Need.mk (by omega) ?_) | (refine Ints.ln (by assumption) ?_) | (refine Mat.ln (by assumption) ?_) | (refine Ints.ln (Mat.row (by assumption) _ (by omega)) ?_) | (refine Ints.ix (by assumption) (by omega) ?_) | (refine Mat.ix (by assumption) (by omega) ?_) | (refine Ints.ix (Mat.row (by assumption) _ (by omega)) (by omega) ?_) | (refine Ints.ix (c := 0) (by assumption) (by omega) ?_) | (refine Mat.ix (c := 0) (by assumption) (by omega) ?_) | (refine Ints.ix (c := 0) (Mat.row (by assumption) _ (by omega)) (by omega) ?_) | (refine Ints.ixI (by assumption) (by omega) ?_) | (refine Mat.ixI (by assumption) (by omega) ?_) | (refine Ints.ixI (Mat.row (by assumption) _ (by omega)) (by omega) ?_) | (refine Ints.ld (by assumption) (by omega) ?_) | (refine Mat.ld (by assumption) (by omega) ?_) | (refine Ints.ld (Mat.row (by assumption) _ (by omega)) (by omega) ?_) | (refine At.ld (by assumption) rfl ?_) | (refine At.ldN (by assumption) rfl ?_) | (refine Prs.ln (by assumption) ?_) | (refine Trs.ln (by assumption) ?_) | (refine Prs.ix (by assumption) (by omega) ?_) | (refine Trs.ix (by assumption) (by omega) ?_) | (refine Prs.ldN (by assumption) (by omega) ?_) | (refine Trs.ldN (by assumption) (by omega) ?_) | (refine At.ldN (Blk.at (by assumption)) rfl ?_) | (refine At.ld (Blk.at (by assumption)) rfl ?_) | (refine IxA.mk (by omega) ?_) | (refine Sl.ln (Own.sl (by assumption)) ?_) | (refine Ints.ix (Own.sl (by assumption)) (by omega) ?_) | (refine Ints.ixI (Own.sl (by assumption)) (by omega) ?_) | (refine Ints.ld (Own.sl (by assumption)) (by omega) ?_))
      conv => whnf
      refine VE.litI [-1, 0, 0] Try.underlying26 eInt (by first | decide | simp) fun f2 w32 E32 F2 _ => ?_
      replace F2 := F2 0 (Nat.zero_le _)
      replace EE := EE.ext E32
      replace H2 := H2.ext E32
      replace H3 := H3.ext E32
      replace H4 := H4.ext E32
      replace H5 := H5.ext E32
      replace H6 := H6.ext E32
      replace HB := HB.ext E32
      replace EL1 := EL1.ext E32
      replace HO := HO.ext E32
      replace EL2 := EL2.ext E32
      replace Hk := Hk.ext E32
      replace HT := HT.ext E32
      replace HF := HF.ext E32
      replace F1 := F1.ext E32
      have k2 := gvalue_pc (n := ((2 : Nat) : Int)) HT (Own.sl F2)
      rw [vE_bad one_ok (isW_no (by decide +kernel))] at k2
      conv => whnf
      refine VC.pure k2 ?_
      repeat' ((conv => whnf); first | (refine Dr.quiet tyOk (by kernel_rfl) ?_) | (refine At.ldN (Blk.at Hk) rfl ?_) | (refine Rng.mk (by omega) ?_) | (refine Split.pos (by omega) ?_) | (refine Split.neg (by omega) ?_) | (refine Split.mk (fun h => ?_) (fun h => ?_)) | (refine Need.mk (by omega) ?_) | (refine Ints.ln (by assumption) ?_) | (refine Mat.ln (by assumption) ?_) | (refine Ints.ln (Mat.row (by assumption) _ (by omega)) ?_) | (refine Ints.ix (by assumption) (by omega) ?_) | (refine Mat.ix (by assumption) (by omega) ?_) | (refine Ints.ix (Mat.row (by assumption) _ (by omega)) (by omega) ?_) | (refine Ints.ix (c := 0) (by assumption) (by omega) ?_) | (refine Mat.ix (c := 0) (by assumption) (by omega) ?_) | (refine Ints.ix (c := 0) (Mat.row (by assumption) _ (by omega)) (by omega) ?_) | (refine Ints.ixI (by assumption) (by omega) ?_) | (refine Mat.ixI (by assumption) (by omega) ?_) | (refine Ints.ixI (Mat.row (by assumption) _ (by omega)) (by omega) ?_) | (refine Ints.ld (by assumption) (by omega) ?_) | (refine Mat.ld (by assumption) (by omega) ?_) | (refine Ints.ld (Mat.row (by assumption) _ (by omega)) (by omega) ?_) | (refine At.ld (by assumption) rfl ?_) | (refine At.ldN (by assumption) rfl ?_) | (refine Prs.ln (by assumption) ?_) | (refine Trs.ln (by assumption) ?_) | (refine Prs.ix (by assumption) (by omega) ?_) | (refine Trs.ix (by assumption) (by omega) ?_) | (refine Prs.ldN (by assumption) (by omega) ?_) | (refine Trs.ldN (by assumption) (by omega) ?_) | (refine At.ldN (Blk.at (by assumption)) rfl ?_) | (refine At.ld (Blk.at (by assumption)) rfl ?_) | (refine IxA.mk (by omega) ?_) | (refine Sl.ln (Own.sl (by assumption)) ?_) | (refine Ints.ix (Own.sl (by assumption)) (by omega) ?_) | (refine Ints.ixI (Own.sl (by assumption)) (by omega) ?_) | (refine Ints.ld (Own.sl (by assumption)) (by omega) ?_))
      conv => whnf
      refine VE.litI [0, 6, 0] Try.underlying26 eInt (by first | decide | simp) fun f3 w33 E33 F3 _ => ?_
      replace F3 := F3 0 (Nat.zero_le _)
      replace EE := EE.ext E33
      replace H2 := H2.ext E33
      replace H3 := H3.ext E33
      replace H4 := H4.ext E33
      replace H5 := H5.ext E33
      replace H6 := H6.ext E33
      replace HB := HB.ext E33
      replace EL1 := EL1.ext E33
      replace HO := HO.ext E33
      replace EL2 := EL2.ext E33
      replace Hk := Hk.ext E33
      replace HT := HT.ext E33
      replace HF := HF.ext E33
      replace F1 := F1.ext E33
      replace F2 := F2.ext E33
      have k3 := gvalue_pc (n := ((2 : Nat) : Int)) HT (Own.sl F3)
      rw [vE_bad one_ok (isW_no (by decide +kernel))] at k3
      conv => whnf
      refine VC.pure k3 ?_
      repeat' ((conv => whnf); first | (refine Dr.quiet tyOk (by kernel_rfl) ?_) | (refine At.ldN (Blk.at Hk) rfl ?_) | (refine Rng.mk (by omega) ?_) | (refine Split.pos (by omega) ?_) | (refine Split.neg (by omega) ?_) | (refine Split.mk (fun h => ?_) (fun h => ?_)) | (refine Need.mk (by omega) ?_) | (refine Ints.ln (by assumption) ?_) | (refine Mat.ln (by assumption) ?_) | (refine Ints.ln (Mat.row (by assumption) _ (by omega)) ?_) | (refine Ints.ix (by assumption) (by omega) ?_) | (refine Mat.ix (by assumption) (by omega) ?_) | (refine Ints.ix (Mat.row (by assumption) _ (by omega)) (by omega) ?_) | (refine Ints.ix (c := 0) (by assumption) (by omega) ?_) | (refine Mat.ix (c := 0) (by assumption) (by omega) ?_) | (refine Ints.ix (c := 0) (Mat.row (by assumption) _ (by omega)) (by omega) ?_) | (refine Ints.ixI (by assumption) (by omega) ?_) | (refine Mat.ixI (by assumption) (by omega) ?_) | (refine Ints.ixI (Mat.row (by assumption) _ (by omega)) (by omega) ?_) | (refine Ints.ld (by assumption) (by omega) ?_) | (refine Mat.ld (by assumption) (by omega) ?_) | (refine Ints.ld (Mat.row (by assumption) _ (by omega)) (by omega) ?_) | (refine At.ld (by assumption) rfl ?_) | (refine At.ldN (by assumption) rfl ?_) | (refine Prs.ln (by assumption) ?_) | (refine Trs.ln (by assumption) ?_) | (refine Prs.ix (by assumption) (by omega) ?_) | (refine Trs.ix (by assumption) (by omega) ?_) | (refine Prs.ldN (by assumption) (by omega) ?_) | (refine Trs.ldN (by assumption) (by omega) ?_) | (refine At.ldN (Blk.at (by assumption)) rfl ?_) | (refine At.ld (Blk.at (by assumption)) rfl ?_) | (refine IxA.mk (by omega) ?_) | (refine Sl.ln (Own.sl (by assumption)) ?_) | (refine Ints.ix (Own.sl (by assumption)) (by omega) ?_) | (refine Ints.ixI (Own.sl (by assumption)) (by omega) ?_) | (refine Ints.ld (Own.sl (by assumption)) (by omega) ?_))
      conv => whnf
      refine VE.litI [0, 5, 3] Try.underlying26 eInt (by first | decide | simp) fun f4 w34 E34 F4 _ => ?_
      replace F4 := F4 0 (Nat.zero_le _)
      replace EE := EE.ext E34
      replace H2 := H2.ext E34
      replace H3 := H3.ext E34
      replace H4 := H4.ext E34
      replace H5 := H5.ext E34
      replace H6 := H6.ext E34
      replace HB := HB.ext E34
      replace EL1 := EL1.ext E34
      replace HO := HO.ext E34
      replace EL2 := EL2.ext E34
      replace Hk := Hk.ext E34
      replace HT := HT.ext E34
      replace HF := HF.ext E34
      replace F1 := F1.ext E34
      replace F2 := F2.ext E34
      replace F3 := F3.ext E34
      have k4 := gvalue_pc (n := ((2 : Nat) : Int)) HT (Own.sl F4)
      rw [vE_ok one_ok (isW_of (by decide +kernel)), vV_ok one_ok (isW_of (by decide +kernel)), show -bal oneA [0, 5, 3] 0 oneA.length = -2 by decide +kernel] at k4
      conv => whnf
      refine VC.pure k4 ?_
      repeat' ((conv => whnf); first | (refine Dr.quiet tyOk (by kernel_rfl) ?_) | (refine At.ldN (Blk.at Hk) rfl ?_) | (refine Rng.mk (by omega) ?_) | (refine Split.pos (by omega) ?_) | (refine Split.neg (by omega) ?_) | (refine Split.mk (fun h => ?_) (fun h => ?_)) | (refine Need.mk (by omega) ?_) | (refine Ints.ln (by assumption) ?_) | (refine Mat.ln (by assumption) ?_) | (refine Ints.ln (Mat.row (by assumption) _ (by omega)) ?_) | (refine Ints.ix (by assumption) (by omega) ?_) | (refine Mat.ix (by assumption) (by omega) ?_) | (refine Ints.ix (Mat.row (by assumption) _ (by omega)) (by omega) ?_) | (refine Ints.ix (c := 0) (by assumption) (by omega) ?_) | (refine Mat.ix (c := 0) (by assumption) (by omega) ?_) | (refine Ints.ix (c := 0) (Mat.row (by assumption) _ (by omega)) (by omega) ?_) | (refine Ints.ixI (by assumption) (by omega) ?_) | (refine Mat.ixI (by assumption) (by omega) ?_) | (refine Ints.ixI (Mat.row (by assumption) _ (by omega)) (by omega) ?_) | (refine Ints.ld (by assumption) (by omega) ?_) | (refine Mat.ld (by assumption) (by omega) ?_) | (refine Ints.ld (Mat.row (by assumption) _ (by omega)) (by omega) ?_) | (refine At.ld (by assumption) rfl ?_) | (refine At.ldN (by assumption) rfl ?_) | (refine Prs.ln (by assumption) ?_) | (refine Trs.ln (by assumption) ?_) | (refine Prs.ix (by assumption) (by omega) ?_) | (refine Trs.ix (by assumption) (by omega) ?_) | (refine Prs.ldN (by assumption) (by omega) ?_) | (refine Trs.ldN (by assumption) (by omega) ?_) | (refine At.ldN (Blk.at (by assumption)) rfl ?_) | (refine At.ld (Blk.at (by assumption)) rfl ?_) | (refine IxA.mk (by omega) ?_) | (refine Sl.ln (Own.sl (by assumption)) ?_) | (refine Ints.ix (Own.sl (by assumption)) (by omega) ?_) | (refine Ints.ixI (Own.sl (by assumption)) (by omega) ?_) | (refine Ints.ld (Own.sl (by assumption)) (by omega) ?_))
      conv => whnf
      refine VE.litV [.bool true, .bool true] Try.underlying32 eBool (by intro v hv; simp only [List.mem_cons, List.not_mem_nil, or_false] at hv; rcases hv with rfl | rfl <;> rfl) (by simp) fun z1 w35 E35 Z1 _ => ?_
      replace Z1 : OZ 0 w35 z1 [true, true] := Z1 0 (Nat.zero_le _)
      replace EE := EE.ext E35
      replace H2 := H2.ext E35
      replace H3 := H3.ext E35
      replace H4 := H4.ext E35
      replace H5 := H5.ext E35
      replace H6 := H6.ext E35
      replace HB := HB.ext E35
      replace EL1 := EL1.ext E35
      replace HO := HO.ext E35
      replace EL2 := EL2.ext E35
      replace Hk := Hk.ext E35
      replace HT := HT.ext E35
      replace HF := HF.ext E35
      replace F1 := F1.ext E35
      replace F2 := F2.ext E35
      replace F3 := F3.ext E35
      replace F4 := F4.ext E35
      have k5 := gCut_pc (n := ((2 : Nat) : Int)) HT (Own.sl Z1)
      rw [cE_bad one_ok (fun h => absurd h.2.2 (by decide))] at k5
      conv => whnf
      refine VC.pure k5 ?_
      repeat' ((conv => whnf); first | (refine Dr.quiet tyOk (by kernel_rfl) ?_) | (refine At.ldN (Blk.at Hk) rfl ?_) | (refine Rng.mk (by omega) ?_) | (refine Split.pos (by omega) ?_) | (refine Split.neg (by omega) ?_) | (refine Split.mk (fun h => ?_) (fun h => ?_)) | (refine Need.mk (by omega) ?_) | (refine Ints.ln (by assumption) ?_) | (refine Mat.ln (by assumption) ?_) | (refine Ints.ln (Mat.row (by assumption) _ (by omega)) ?_) | (refine Ints.ix (by assumption) (by omega) ?_) | (refine Mat.ix (by assumption) (by omega) ?_) | (refine Ints.ix (Mat.row (by assumption) _ (by omega)) (by omega) ?_) | (refine Ints.ix (c := 0) (by assumption) (by omega) ?_) | (refine Mat.ix (c := 0) (by assumption) (by omega) ?_) | (refine Ints.ix (c := 0) (Mat.row (by assumption) _ (by omega)) (by omega) ?_) | (refine Ints.ixI (by assumption) (by omega) ?_) | (refine Mat.ixI (by assumption) (by omega) ?_) | (refine Ints.ixI (Mat.row (by assumption) _ (by omega)) (by omega) ?_) | (refine Ints.ld (by assumption) (by omega) ?_) | (refine Mat.ld (by assumption) (by omega) ?_) | (refine Ints.ld (Mat.row (by assumption) _ (by omega)) (by omega) ?_) | (refine At.ld (by assumption) rfl ?_) | (refine At.ldN (by assumption) rfl ?_) | (refine Prs.ln (by assumption) ?_) | (refine Trs.ln (by assumption) ?_) | (refine Prs.ix (by assumption) (by omega) ?_) | (refine Trs.ix (by assumption) (by omega) ?_) | (refine Prs.ldN (by assumption) (by omega) ?_) | (refine Trs.ldN (by assumption) (by omega) ?_) | (refine At.ldN (Blk.at (by assumption)) rfl ?_) | (refine At.ld (Blk.at (by assumption)) rfl ?_) | (refine IxA.mk (by omega) ?_) | (refine Sl.ln (Own.sl (by assumption)) ?_) | (refine Ints.ix (Own.sl (by assumption)) (by omega) ?_) | (refine Ints.ixI (Own.sl (by assumption)) (by omega) ?_) | (refine Ints.ld (Own.sl (by assumption)) (by omega) ?_))
      conv => whnf
      refine VE.litV [.bool true] Try.underlying32 eBool (by intro v hv; simp only [List.mem_cons, List.not_mem_nil, or_false] at hv; rcases hv with rfl <;> rfl) (by simp) fun z2 w36 E36 Z2 _ => ?_
      replace Z2 : OZ 0 w36 z2 [true] := Z2 0 (Nat.zero_le _)
      replace EE := EE.ext E36
      replace H2 := H2.ext E36
      replace H3 := H3.ext E36
      replace H4 := H4.ext E36
      replace H5 := H5.ext E36
      replace H6 := H6.ext E36
      replace HB := HB.ext E36
      replace EL1 := EL1.ext E36
      replace HO := HO.ext E36
      replace EL2 := EL2.ext E36
      replace Hk := Hk.ext E36
      replace HT := HT.ext E36
      replace HF := HF.ext E36
      replace F1 := F1.ext E36
      replace F2 := F2.ext E36
      replace F3 := F3.ext E36
      replace F4 := F4.ext E36
      replace Z1 := Z1.ext E36
      have k6 := gCut_pc (n := ((2 : Nat) : Int)) HT (Own.sl Z2)
      rw [cE_bad one_ok (fun h => absurd h.1 (by decide))] at k6
      conv => whnf
      refine VC.pure k6 ?_
      repeat' ((conv => whnf); first | (refine Dr.quiet tyOk (by kernel_rfl) ?_) | (refine Rng.mk (by omega) ?_) | (refine Split.pos (by omega) ?_) | (refine Split.neg (by omega) ?_) | (refine Split.mk (fun h => ?_) (fun h => ?_)) | (refine Need.mk (by omega) ?_) | (refine Ints.ln (by assumption) ?_) | (refine Mat.ln (by assumption) ?_) | (refine Ints.ln (Mat.row (by assumption) _ (by omega)) ?_) | (refine Ints.ix (by assumption) (by omega) ?_) | (refine Mat.ix (by assumption) (by omega) ?_) | (refine Ints.ix (Mat.row (by assumption) _ (by omega)) (by omega) ?_) | (refine Ints.ix (c := 0) (by assumption) (by omega) ?_) | (refine Mat.ix (c := 0) (by assumption) (by omega) ?_) | (refine Ints.ix (c := 0) (Mat.row (by assumption) _ (by omega)) (by omega) ?_) | (refine Ints.ixI (by assumption) (by omega) ?_) | (refine Mat.ixI (by assumption) (by omega) ?_) | (refine Ints.ixI (Mat.row (by assumption) _ (by omega)) (by omega) ?_) | (refine Ints.ld (by assumption) (by omega) ?_) | (refine Mat.ld (by assumption) (by omega) ?_) | (refine Ints.ld (Mat.row (by assumption) _ (by omega)) (by omega) ?_) | (refine At.ld (by assumption) rfl ?_) | (refine At.ldN (by assumption) rfl ?_) | (refine Prs.ln (by assumption) ?_) | (refine Trs.ln (by assumption) ?_) | (refine Prs.ix (by assumption) (by omega) ?_) | (refine Trs.ix (by assumption) (by omega) ?_) | (refine Prs.ldN (by assumption) (by omega) ?_) | (refine Trs.ldN (by assumption) (by omega) ?_) | (refine At.ldN (Blk.at (by assumption)) rfl ?_) | (refine At.ld (Blk.at (by assumption)) rfl ?_) | (refine IxA.mk (by omega) ?_) | (refine Sl.ln (Own.sl (by assumption)) ?_) | (refine Ints.ix (Own.sl (by assumption)) (by omega) ?_) | (refine Ints.ixI (Own.sl (by assumption)) (by omega) ?_) | (refine Ints.ld (Own.sl (by assumption)) (by omega) ?_))
      conv => whnf
      refine VC.rc (example_rc) ?_
      rintro _ w37 E37 ⟨ev, rfl, HE⟩
      replace EE := EE.ext E37
      replace H2 := H2.ext E37
      replace H3 := H3.ext E37
      replace H4 := H4.ext E37
      replace H5 := H5.ext E37
      replace H6 := H6.ext E37
      replace HB := HB.ext E37
      replace EL1 := EL1.ext E37
      replace HO := HO.ext E37
      replace EL2 := EL2.ext E37
      replace Hk := Hk.ext E37
      replace HT := HT.ext E37
      replace HF := HF.ext E37
      replace F1 := F1.ext E37
      replace F2 := F2.ext E37
      replace F3 := F3.ext E37
      replace F4 := F4.ext E37
      replace Z1 := Z1.ext E37
      replace Z2 := Z2.ext E37
      conv => whnf
      refine VE.litI [1, 0, 0, 0, 0] Try.underlying26 eInt (by first | decide | simp) fun f5 w38 E38 F5 _ => ?_
      replace F5 := F5 0 (Nat.zero_le _)
      replace EE := EE.ext E38
      replace H2 := H2.ext E38
      replace H3 := H3.ext E38
      replace H4 := H4.ext E38
      replace H5 := H5.ext E38
      replace H6 := H6.ext E38
      replace HB := HB.ext E38
      replace EL1 := EL1.ext E38
      replace HO := HO.ext E38
      replace EL2 := EL2.ext E38
      replace Hk := Hk.ext E38
      replace HT := HT.ext E38
      replace HF := HF.ext E38
      replace F1 := F1.ext E38
      replace F2 := F2.ext E38
      replace F3 := F3.ext E38
      replace F4 := F4.ext E38
      replace Z1 := Z1.ext E38
      replace Z2 := Z2.ext E38
      replace HE := HE.ext E38
      conv => whnf
      refine VC.rc (gReach_rc (n := ((4 : Nat) : Int)) (Own.sl HE) (Own.sl F5)) ?_
      rintro _ w39 E39 ⟨rv, rfl, HR⟩
      replace EE := EE.ext E39
      replace H2 := H2.ext E39
      replace H3 := H3.ext E39
      replace H4 := H4.ext E39
      replace H5 := H5.ext E39
      replace H6 := H6.ext E39
      replace HB := HB.ext E39
      replace EL1 := EL1.ext E39
      replace HO := HO.ext E39
      replace EL2 := EL2.ext E39
      replace Hk := Hk.ext E39
      replace HT := HT.ext E39
      replace HF := HF.ext E39
      replace F1 := F1.ext E39
      replace F2 := F2.ext E39
      replace F3 := F3.ext E39
      replace F4 := F4.ext E39
      replace Z1 := Z1.ext E39
      replace Z2 := Z2.ext E39
      replace HE := HE.ext E39
      replace F5 := F5.ext E39
      rw [vE_bad ex3_ok (isW_no (by decide +kernel))]
      repeat' ((conv => whnf); first | (refine Dr.quiet tyOk (by kernel_rfl) ?_) | (refine At.ldN (Blk.at Hk) rfl ?_) | (refine Rng.mk (by omega) ?_) | (refine Split.pos (by omega) ?_) | (refine Split.neg (by omega) ?_) | (refine Split.mk (fun h => ?_) (fun h => ?_)) | (refine Need.mk (by omega) ?_) | (refine Ints.ln (by assumption) ?_) | (refine Mat.ln (by assumption) ?_) | (refine Ints.ln (Mat.row (by assumption) _ (by omega)) ?_) | (refine Ints.ix (by assumption) (by omega) ?_) | (refine Mat.ix (by assumption) (by omega) ?_) | (refine Ints.ix (Mat.row (by assumption) _ (by omega)) (by omega) ?_) | (refine Ints.ix (c := 0) (by assumption) (by omega) ?_) | (refine Mat.ix (c := 0) (by assumption) (by omega) ?_) | (refine Ints.ix (c := 0) (Mat.row (by assumption) _ (by omega)) (by omega) ?_) | (refine Ints.ixI (by assumption) (by omega) ?_) | (refine Mat.ixI (by assumption) (by omega) ?_) | (refine Ints.ixI (Mat.row (by assumption) _ (by omega)) (by omega) ?_) | (refine Ints.ld (by assumption) (by omega) ?_) | (refine Mat.ld (by assumption) (by omega) ?_) | (refine Ints.ld (Mat.row (by assumption) _ (by omega)) (by omega) ?_) | (refine At.ld (by assumption) rfl ?_) | (refine At.ldN (by assumption) rfl ?_) | (refine Prs.ln (by assumption) ?_) | (refine Trs.ln (by assumption) ?_) | (refine Prs.ix (by assumption) (by omega) ?_) | (refine Trs.ix (by assumption) (by omega) ?_) | (refine Prs.ldN (by assumption) (by omega) ?_) | (refine Trs.ldN (by assumption) (by omega) ?_) | (refine At.ldN (Blk.at (by assumption)) rfl ?_) | (refine At.ld (Blk.at (by assumption)) rfl ?_) | (refine IxA.mk (by omega) ?_) | (refine Sl.ln (Own.sl (by assumption)) ?_) | (refine Ints.ix (Own.sl (by assumption)) (by omega) ?_) | (refine Ints.ixI (Own.sl (by assumption)) (by omega) ?_) | (refine Ints.ld (Own.sl (by assumption)) (by omega) ?_))
      conv => whnf
      refine VE.litV [.bool true, .bool false] Try.underlying32 eBool (by intro v hv; simp only [List.mem_cons, List.not_mem_nil, or_false] at hv; rcases hv with rfl | rfl <;> rfl) (by simp) fun z3 w40 E40 Z3 _ => ?_
      replace Z3 : OZ 0 w40 z3 [true, false] := Z3 0 (Nat.zero_le _)
      replace EE := EE.ext E40
      replace H2 := H2.ext E40
      replace H3 := H3.ext E40
      replace H4 := H4.ext E40
      replace H5 := H5.ext E40
      replace H6 := H6.ext E40
      replace HB := HB.ext E40
      replace EL1 := EL1.ext E40
      replace HO := HO.ext E40
      replace EL2 := EL2.ext E40
      replace Hk := Hk.ext E40
      replace HT := HT.ext E40
      replace HF := HF.ext E40
      replace F1 := F1.ext E40
      replace F2 := F2.ext E40
      replace F3 := F3.ext E40
      replace F4 := F4.ext E40
      replace Z1 := Z1.ext E40
      replace Z2 := Z2.ext E40
      replace HE := HE.ext E40
      replace F5 := F5.ext E40
      replace HR := HR.ext E40
      have hW : isW 2 oneA [1000000, 0, 3] := isW_of (by decide +kernel)
      have k7 := gaccept_pc (n := ((2 : Nat) : Int)) HT (Own.sl HF) (Own.sl Z3)
      rw [aB_ok one_ok, tf_t (p := okB 2 oneA [1000000, 0, 3] [true, false]) ⟨hW, ⟨rfl, rfl, rfl⟩, by decide +kernel⟩, one_ok] at k7
      conv => whnf
      refine VC.pure k7 ?_
      repeat' ((conv => whnf); first | (refine Dr.quiet tyOk (by kernel_rfl) ?_) | (refine At.ldN (Blk.at Hk) rfl ?_) | (refine Rng.mk (by omega) ?_) | (refine Split.pos (by omega) ?_) | (refine Split.neg (by omega) ?_) | (refine Split.mk (fun h => ?_) (fun h => ?_)) | (refine Need.mk (by omega) ?_) | (refine Ints.ln (by assumption) ?_) | (refine Mat.ln (by assumption) ?_) | (refine Ints.ln (Mat.row (by assumption) _ (by omega)) ?_) | (refine Ints.ix (by assumption) (by omega) ?_) | (refine Mat.ix (by assumption) (by omega) ?_) | (refine Ints.ix (Mat.row (by assumption) _ (by omega)) (by omega) ?_) | (refine Ints.ix (c := 0) (by assumption) (by omega) ?_) | (refine Mat.ix (c := 0) (by assumption) (by omega) ?_) | (refine Ints.ix (c := 0) (Mat.row (by assumption) _ (by omega)) (by omega) ?_) | (refine Ints.ixI (by assumption) (by omega) ?_) | (refine Mat.ixI (by assumption) (by omega) ?_) | (refine Ints.ixI (Mat.row (by assumption) _ (by omega)) (by omega) ?_) | (refine Ints.ld (by assumption) (by omega) ?_) | (refine Mat.ld (by assumption) (by omega) ?_) | (refine Ints.ld (Mat.row (by assumption) _ (by omega)) (by omega) ?_) | (refine At.ld (by assumption) rfl ?_) | (refine At.ldN (by assumption) rfl ?_) | (refine Prs.ln (by assumption) ?_) | (refine Trs.ln (by assumption) ?_) | (refine Prs.ix (by assumption) (by omega) ?_) | (refine Trs.ix (by assumption) (by omega) ?_) | (refine Prs.ldN (by assumption) (by omega) ?_) | (refine Trs.ldN (by assumption) (by omega) ?_) | (refine At.ldN (Blk.at (by assumption)) rfl ?_) | (refine At.ld (Blk.at (by assumption)) rfl ?_) | (refine IxA.mk (by omega) ?_) | (refine Sl.ln (Own.sl (by assumption)) ?_) | (refine Ints.ix (Own.sl (by assumption)) (by omega) ?_) | (refine Ints.ixI (Own.sl (by assumption)) (by omega) ?_) | (refine Ints.ld (Own.sl (by assumption)) (by omega) ?_))
      conv => whnf
      refine VE.litI [1] Try.underlying26 eInt (by first | decide | simp) fun f6 w41 E41 F6 _ => ?_
      replace F6 := F6 0 (Nat.zero_le _)
      replace EE := EE.ext E41
      replace H2 := H2.ext E41
      replace H3 := H3.ext E41
      replace H4 := H4.ext E41
      replace H5 := H5.ext E41
      replace H6 := H6.ext E41
      replace HB := HB.ext E41
      replace EL1 := EL1.ext E41
      replace HO := HO.ext E41
      replace EL2 := EL2.ext E41
      replace Hk := Hk.ext E41
      replace HT := HT.ext E41
      replace HF := HF.ext E41
      replace F1 := F1.ext E41
      replace F2 := F2.ext E41
      replace F3 := F3.ext E41
      replace F4 := F4.ext E41
      replace Z1 := Z1.ext E41
      replace Z2 := Z2.ext E41
      replace HE := HE.ext E41
      replace F5 := F5.ext E41
      replace HR := HR.ext E41
      replace Z3 := Z3.ext E41
      have zn : Bls w41 (.slice none 0 0) [] := Own.sl (B := 0) (e := 4) Own.nil
      have k8 := gaccept_pc (n := ((2 : Nat) : Int)) HT (Own.sl F6) zn
      rw [aB_ok one_ok, tf_f (p := okB 2 oneA [1] []) (fun h => isW_no (by decide +kernel) h.1), one_ok] at k8
      conv => whnf
      refine VC.pure k8 ?_
      repeat' ((conv => whnf); first | (refine Dr.quiet tyOk (by kernel_rfl) ?_) | (refine Rng.mk (by omega) ?_) | (refine Split.pos (by omega) ?_) | (refine Split.neg (by omega) ?_) | (refine Split.mk (fun h => ?_) (fun h => ?_)) | (refine Need.mk (by omega) ?_) | (refine Ints.ln (by assumption) ?_) | (refine Mat.ln (by assumption) ?_) | (refine Ints.ln (Mat.row (by assumption) _ (by omega)) ?_) | (refine Ints.ix (by assumption) (by omega) ?_) | (refine Mat.ix (by assumption) (by omega) ?_) | (refine Ints.ix (Mat.row (by assumption) _ (by omega)) (by omega) ?_) | (refine Ints.ix (c := 0) (by assumption) (by omega) ?_) | (refine Mat.ix (c := 0) (by assumption) (by omega) ?_) | (refine Ints.ix (c := 0) (Mat.row (by assumption) _ (by omega)) (by omega) ?_) | (refine Ints.ixI (by assumption) (by omega) ?_) | (refine Mat.ixI (by assumption) (by omega) ?_) | (refine Ints.ixI (Mat.row (by assumption) _ (by omega)) (by omega) ?_) | (refine Ints.ld (by assumption) (by omega) ?_) | (refine Mat.ld (by assumption) (by omega) ?_) | (refine Ints.ld (Mat.row (by assumption) _ (by omega)) (by omega) ?_) | (refine At.ld (by assumption) rfl ?_) | (refine At.ldN (by assumption) rfl ?_) | (refine Prs.ln (by assumption) ?_) | (refine Trs.ln (by assumption) ?_) | (refine Prs.ix (by assumption) (by omega) ?_) | (refine Trs.ix (by assumption) (by omega) ?_) | (refine Prs.ldN (by assumption) (by omega) ?_) | (refine Trs.ldN (by assumption) (by omega) ?_) | (refine At.ldN (Blk.at (by assumption)) rfl ?_) | (refine At.ld (Blk.at (by assumption)) rfl ?_) | (refine IxA.mk (by omega) ?_) | (refine Sl.ln (Own.sl (by assumption)) ?_) | (refine Ints.ix (Own.sl (by assumption)) (by omega) ?_) | (refine Ints.ixI (Own.sl (by assumption)) (by omega) ?_) | (refine Ints.ld (Own.sl (by assumption)) (by omega) ?_))
      conv => whnf
      refine VS.sparseR (ps := [(0, .int .i64 (2))]) #[.int .i64 (2), .slice none 0 0] Try.underlying24 eNet (by decide +kernel) (by intro p hp; simp only [List.mem_cons, List.not_mem_nil, or_false] at hp; rcases hp with rfl <;> first | exact ⟨by kernel_rfl, by simp, rfl⟩) rfl ?_
      conv => whnf
      refine VC.rc (gMax_rc (n := ((2 : Nat) : Int)) (nil_trs (w := w41))) ?_
      rintro _ w42 E42 ⟨xv, rfl, HX, hM2⟩
      replace EE := EE.ext E42
      replace H2 := H2.ext E42
      replace H3 := H3.ext E42
      replace H4 := H4.ext E42
      replace H5 := H5.ext E42
      replace H6 := H6.ext E42
      replace HB := HB.ext E42
      replace EL1 := EL1.ext E42
      replace HO := HO.ext E42
      replace EL2 := EL2.ext E42
      replace Hk := Hk.ext E42
      replace HT := HT.ext E42
      replace HF := HF.ext E42
      replace F1 := F1.ext E42
      replace F2 := F2.ext E42
      replace F3 := F3.ext E42
      replace F4 := F4.ext E42
      replace Z1 := Z1.ext E42
      replace Z2 := Z2.ext E42
      replace HE := HE.ext E42
      replace F5 := F5.ext E42
      replace HR := HR.ext E42
      replace Z3 := Z3.ext E42
      replace F6 := F6.ext E42
      rw [mxL_ok non_ok, non_gf] at HX
      rw [non_ok]
      have HXI : Ints w42 xv [] := Own.sl HX
      have hl00 : ([] : List Int).length = 0 := rfl
      repeat' ((conv => whnf); first | (refine Dr.quiet tyOk (by kernel_rfl) ?_) | (refine Rng.mk (by omega) ?_) | (refine Split.pos (by omega) ?_) | (refine Split.neg (by omega) ?_) | (refine Split.mk (fun h => ?_) (fun h => ?_)) | (refine Need.mk (by omega) ?_) | (refine Ints.ln (by assumption) ?_) | (refine Mat.ln (by assumption) ?_) | (refine Ints.ln (Mat.row (by assumption) _ (by omega)) ?_) | (refine Ints.ix (by assumption) (by omega) ?_) | (refine Mat.ix (by assumption) (by omega) ?_) | (refine Ints.ix (Mat.row (by assumption) _ (by omega)) (by omega) ?_) | (refine Ints.ix (c := 0) (by assumption) (by omega) ?_) | (refine Mat.ix (c := 0) (by assumption) (by omega) ?_) | (refine Ints.ix (c := 0) (Mat.row (by assumption) _ (by omega)) (by omega) ?_) | (refine Ints.ixI (by assumption) (by omega) ?_) | (refine Mat.ixI (by assumption) (by omega) ?_) | (refine Ints.ixI (Mat.row (by assumption) _ (by omega)) (by omega) ?_) | (refine Ints.ld (by assumption) (by omega) ?_) | (refine Mat.ld (by assumption) (by omega) ?_) | (refine Ints.ld (Mat.row (by assumption) _ (by omega)) (by omega) ?_) | (refine At.ld (by assumption) rfl ?_) | (refine At.ldN (by assumption) rfl ?_) | (refine Prs.ln (by assumption) ?_) | (refine Trs.ln (by assumption) ?_) | (refine Prs.ix (by assumption) (by omega) ?_) | (refine Trs.ix (by assumption) (by omega) ?_) | (refine Prs.ldN (by assumption) (by omega) ?_) | (refine Trs.ldN (by assumption) (by omega) ?_) | (refine At.ldN (Blk.at (by assumption)) rfl ?_) | (refine At.ld (Blk.at (by assumption)) rfl ?_) | (refine IxA.mk (by omega) ?_) | (refine Sl.ln (Own.sl (by assumption)) ?_) | (refine Ints.ix (Own.sl (by assumption)) (by omega) ?_) | (refine Ints.ixI (Own.sl (by assumption)) (by omega) ?_) | (refine Ints.ld (Own.sl (by assumption)) (by omega) ?_))
      conv => whnf
      refine VS.sparseR (ps := [(1, .int .i64 (1)), (2, .int .i64 (2))]) #[.int .i64 0, .int .i64 (1), .int .i64 (2)] Try.underlying56 eArc (by decide +kernel) (by intro p hp; simp only [List.mem_cons, List.not_mem_nil, or_false] at hp; rcases hp with rfl | rfl <;> first | exact ⟨by kernel_rfl, by simp, rfl⟩) rfl ?_
      conv => whnf
      refine VS.sparseR (ps := [(1, .int .i64 (1)), (2, .int .i64 (2))]) #[.int .i64 0, .int .i64 (1), .int .i64 (2)] Try.underlying56 eArc (by decide +kernel) (by intro p hp; simp only [List.mem_cons, List.not_mem_nil, or_false] at hp; rcases hp with rfl | rfl <;> first | exact ⟨by kernel_rfl, by simp, rfl⟩) rfl ?_
      conv => whnf
      refine VS.sparseR (ps := [(0, .int .i64 (1)), (1, .int .i64 (2)), (2, .int .i64 (3))]) #[.int .i64 (1), .int .i64 (2), .int .i64 (3)] Try.underlying56 eArc (by decide +kernel) (by intro p hp; simp only [List.mem_cons, List.not_mem_nil, or_false] at hp; rcases hp with rfl | rfl | rfl <;> first | exact ⟨by kernel_rfl, by simp, rfl⟩) rfl ?_
      conv => whnf
      refine VE.litA [[i64v (0), i64v (1), i64v (2)], [i64v (0), i64v (1), i64v (2)], [i64v (1), i64v (2), i64v (3)]] Try.underlying22 eArc (by simp) (by simp) (by simp) fun pv w43 E43 HP _ => ?_
      replace HP : OA 0 w43 pv [(0, 1, 2), (0, 1, 2), (1, 2, 3)] := HP 0 (Nat.zero_le _)
      replace EE := EE.ext E43
      replace H2 := H2.ext E43
      replace H3 := H3.ext E43
      replace H4 := H4.ext E43
      replace H5 := H5.ext E43
      replace H6 := H6.ext E43
      replace HB := HB.ext E43
      replace EL1 := EL1.ext E43
      replace HO := HO.ext E43
      replace EL2 := EL2.ext E43
      replace Hk := Hk.ext E43
      replace HT := HT.ext E43
      replace HF := HF.ext E43
      replace F1 := F1.ext E43
      replace F2 := F2.ext E43
      replace F3 := F3.ext E43
      replace F4 := F4.ext E43
      replace Z1 := Z1.ext E43
      replace Z2 := Z2.ext E43
      replace HE := HE.ext E43
      replace F5 := F5.ext E43
      replace HR := HR.ext E43
      replace Z3 := Z3.ext E43
      replace F6 := F6.ext E43
      replace HX := HX.ext E43
      replace HXI := HXI.ext E43
      conv => whnf
      refine VS.sparseR (ps := [(0, .int .i64 (3)), (1, pv)]) #[.int .i64 (3), pv] Try.underlying24 eNet (by decide +kernel) (by intro p hp; simp only [List.mem_cons, List.not_mem_nil, or_false] at hp; rcases hp with rfl | rfl <;> first | exact ⟨by kernel_rfl, by simp, rfl⟩ | exact ⟨by kernel_rfl, by simp, (Sl.cells (Own.sl HP)).1⟩) rfl ?_
      conv => whnf
      have EE__3 := EE
      have H2__3 := H2
      have H3__3 := H3
      have H4__3 := H4
      have H5__3 := H5
      have H6__3 := H6
      have HB__3 := HB
      have EL1__3 := EL1
      have HO__3 := HO
      have EL2__3 := EL2
      have Hk__3 := Hk
      have HT__3 := HT
      have HF__3 := HF
      have F1__3 := F1
      have F2__3 := F2
      have F3__3 := F3
      have F4__3 := F4
      have Z1__3 := Z1
      have Z2__3 := Z2
      have HE__3 := HE
      have F5__3 := F5
      have HR__3 := HR
      have Z3__3 := Z3
      have F6__3 := F6
      have HX__3 := HX
      have HXI__3 := HXI
      have HP__3 := HP
      conv => whnf
      refine VE.alloc eNet fun qb w44 E44 hb_qb Hq => ?_
      replace EE := EE.ext E44
      replace H2 := H2.ext E44
      replace H3 := H3.ext E44
      replace H4 := H4.ext E44
      replace H5 := H5.ext E44
      replace H6 := H6.ext E44
      replace HB := HB.ext E44
      replace EL1 := EL1.ext E44
      replace HO := HO.ext E44
      replace EL2 := EL2.ext E44
      replace Hk := Hk.ext E44
      replace HT := HT.ext E44
      replace HF := HF.ext E44
      replace F1 := F1.ext E44
      replace F2 := F2.ext E44
      replace F3 := F3.ext E44
      replace F4 := F4.ext E44
      replace Z1 := Z1.ext E44
      replace Z2 := Z2.ext E44
      replace HE := HE.ext E44
      replace F5 := F5.ext E44
      replace HR := HR.ext E44
      replace Z3 := Z3.ext E44
      replace F6 := F6.ext E44
      replace HX := HX.ext E44
      replace HXI := HXI.ext E44
      replace HP := HP.ext E44
      have EL3 := E44
      conv => whnf
      refine Blk.all Hq (by kernel_rfl) (by first | decide | simp) rfl rfl (by intro v hv; simp only [List.mem_cons, List.not_mem_nil, or_false] at hv; rcases hv with rfl | rfl; rfl; exact (Sl.cells (Own.sl HP)).2) fun w45 G45 Hq' => ?_
      have E45 : Ext w43 w45 := EL3.new G45 fun i hi hk => by omega
      replace Hq := Hq'
      replace EE := EE__3.ext E45
      replace H2 := H2__3.ext E45
      replace H3 := H3__3.ext E45
      replace H4 := H4__3.ext E45
      replace H5 := H5__3.ext E45
      replace H6 := H6__3.ext E45
      replace HB := HB__3.ext E45
      replace EL1 := EL1__3.ext E45
      replace HO := HO__3.ext E45
      replace EL2 := EL2__3.ext E45
      replace Hk := Hk__3.ext E45
      replace HT := HT__3.ext E45
      replace HF := HF__3.ext E45
      replace F1 := F1__3.ext E45
      replace F2 := F2__3.ext E45
      replace F3 := F3__3.ext E45
      replace F4 := F4__3.ext E45
      replace Z1 := Z1__3.ext E45
      replace Z2 := Z2__3.ext E45
      replace HE := HE__3.ext E45
      replace F5 := F5__3.ext E45
      replace HR := HR__3.ext E45
      replace Z3 := Z3__3.ext E45
      replace F6 := F6__3.ext E45
      replace HX := HX__3.ext E45
      replace HXI := HXI__3.ext E45
      replace HP := HP__3.ext E45
      replace EL3 := E45
      have HPT : Trs w45 pv twoA := Own.sl HP
      repeat' ((conv => whnf); first | (refine Dr.quiet tyOk (by kernel_rfl) ?_) | (refine At.ldN (Blk.at Hq) rfl ?_) | (refine Rng.mk (by omega) ?_) | (refine Split.pos (by omega) ?_) | (refine Split.neg (by omega) ?_) | (refine Split.mk (fun h => ?_) (fun h => ?_)) | (refine Need.mk (by omega) ?_) | (refine Ints.ln (by assumption) ?_) | (refine Mat.ln (by assumption) ?_) | (refine Ints.ln (Mat.row (by assumption) _ (by omega)) ?_) | (refine Ints.ix (by assumption) (by omega) ?_) | (refine Mat.ix (by assumption) (by omega) ?_) | (refine Ints.ix (Mat.row (by assumption) _ (by omega)) (by omega) ?_) | (refine Ints.ix (c := 0) (by assumption) (by omega) ?_) | (refine Mat.ix (c := 0) (by assumption) (by omega) ?_) | (refine Ints.ix (c := 0) (Mat.row (by assumption) _ (by omega)) (by omega) ?_) | (refine Ints.ixI (by assumption) (by omega) ?_) | (refine Mat.ixI (by assumption) (by omega) ?_) | (refine Ints.ixI (Mat.row (by assumption) _ (by omega)) (by omega) ?_) | (refine Ints.ld (by assumption) (by omega) ?_) | (refine Mat.ld (by assumption) (by omega) ?_) | (refine Ints.ld (Mat.row (by assumption) _ (by omega)) (by omega) ?_) | (refine At.ld (by assumption) rfl ?_) | (refine At.ldN (by assumption) rfl ?_) | (refine Prs.ln (by assumption) ?_) | (refine Trs.ln (by assumption) ?_) | (refine Prs.ix (by assumption) (by omega) ?_) | (refine Trs.ix (by assumption) (by omega) ?_) | (refine Prs.ldN (by assumption) (by omega) ?_) | (refine Trs.ldN (by assumption) (by omega) ?_) | (refine At.ldN (Blk.at (by assumption)) rfl ?_) | (refine At.ld (Blk.at (by assumption)) rfl ?_) | (refine IxA.mk (by omega) ?_) | (refine Sl.ln (Own.sl (by assumption)) ?_) | (refine Ints.ix (Own.sl (by assumption)) (by omega) ?_) | (refine Ints.ixI (Own.sl (by assumption)) (by omega) ?_) | (refine Ints.ld (Own.sl (by assumption)) (by omega) ?_))
      conv => whnf
      refine VC.rc (gMax_rc (n := ((3 : Nat) : Int)) HPT) ?_
      rintro _ w46 E46 ⟨yv, rfl, HY, hM3⟩
      replace EE := EE.ext E46
      replace H2 := H2.ext E46
      replace H3 := H3.ext E46
      replace H4 := H4.ext E46
      replace H5 := H5.ext E46
      replace H6 := H6.ext E46
      replace HB := HB.ext E46
      replace EL1 := EL1.ext E46
      replace HO := HO.ext E46
      replace EL2 := EL2.ext E46
      replace Hk := Hk.ext E46
      replace HT := HT.ext E46
      replace HF := HF.ext E46
      replace F1 := F1.ext E46
      replace F2 := F2.ext E46
      replace F3 := F3.ext E46
      replace F4 := F4.ext E46
      replace Z1 := Z1.ext E46
      replace Z2 := Z2.ext E46
      replace HE := HE.ext E46
      replace F5 := F5.ext E46
      replace HR := HR.ext E46
      replace Z3 := Z3.ext E46
      replace F6 := F6.ext E46
      replace HX := HX.ext E46
      replace HXI := HXI.ext E46
      replace HP := HP.ext E46
      replace EL3 := EL3.ext E46
      replace Hq := Hq.ext E46
      replace HPT := HPT.ext E46
      rw [mxL_ok two_ok, two_gf] at HY
      rw [two_ok]
      repeat' ((conv => whnf); first | (refine Dr.quiet tyOk (by kernel_rfl) ?_) | (refine VC.pure alive25_pc ?_) | (refine Rng.mk (by omega) ?_) | (refine Split.pos (by omega) ?_) | (refine Split.neg (by omega) ?_) | (refine Split.mk (fun h => ?_) (fun h => ?_)) | (refine Need.mk (by omega) ?_) | (refine Ints.ln (by assumption) ?_) | (refine Mat.ln (by assumption) ?_) | (refine Ints.ln (Mat.row (by assumption) _ (by omega)) ?_) | (refine Ints.ix (by assumption) (by omega) ?_) | (refine Mat.ix (by assumption) (by omega) ?_) | (refine Ints.ix (Mat.row (by assumption) _ (by omega)) (by omega) ?_) | (refine Ints.ix (c := 0) (by assumption) (by omega) ?_) | (refine Mat.ix (c := 0) (by assumption) (by omega) ?_) | (refine Ints.ix (c := 0) (Mat.row (by assumption) _ (by omega)) (by omega) ?_) | (refine Ints.ixI (by assumption) (by omega) ?_) | (refine Mat.ixI (by assumption) (by omega) ?_) | (refine Ints.ixI (Mat.row (by assumption) _ (by omega)) (by omega) ?_) | (refine Ints.ld (by assumption) (by omega) ?_) | (refine Mat.ld (by assumption) (by omega) ?_) | (refine Ints.ld (Mat.row (by assumption) _ (by omega)) (by omega) ?_) | (refine At.ld (by assumption) rfl ?_) | (refine At.ldN (by assumption) rfl ?_) | (refine Prs.ln (by assumption) ?_) | (refine Trs.ln (by assumption) ?_) | (refine Prs.ix (by assumption) (by omega) ?_) | (refine Trs.ix (by assumption) (by omega) ?_) | (refine Prs.ldN (by assumption) (by omega) ?_) | (refine Trs.ldN (by assumption) (by omega) ?_) | (refine At.ldN (Blk.at (by assumption)) rfl ?_) | (refine At.ld (Blk.at (by assumption)) rfl ?_) | (refine IxA.mk (by omega) ?_) | (refine Sl.ln (Own.sl (by assumption)) ?_) | (refine Ints.ix (Own.sl (by assumption)) (by omega) ?_) | (refine Ints.ixI (Own.sl (by assumption)) (by omega) ?_) | (refine Ints.ld (Own.sl (by assumption)) (by omega) ?_))
      conv => whnf
      refine VE.litI [1000000, 0, 3] Try.underlying26 eInt (by first | decide | simp) fun g1 w47 E47 G1 _ => ?_
      replace G1 := G1 0 (Nat.zero_le _)
      replace EE := EE.ext E47
      replace H2 := H2.ext E47
      replace H3 := H3.ext E47
      replace H4 := H4.ext E47
      replace H5 := H5.ext E47
      replace H6 := H6.ext E47
      replace HB := HB.ext E47
      replace EL1 := EL1.ext E47
      replace HO := HO.ext E47
      replace EL2 := EL2.ext E47
      replace Hk := Hk.ext E47
      replace HT := HT.ext E47
      replace HF := HF.ext E47
      replace F1 := F1.ext E47
      replace F2 := F2.ext E47
      replace F3 := F3.ext E47
      replace F4 := F4.ext E47
      replace Z1 := Z1.ext E47
      replace Z2 := Z2.ext E47
      replace HE := HE.ext E47
      replace F5 := F5.ext E47
      replace HR := HR.ext E47
      replace Z3 := Z3.ext E47
      replace F6 := F6.ext E47
      replace HX := HX.ext E47
      replace HXI := HXI.ext E47
      replace HP := HP.ext E47
      replace EL3 := EL3.ext E47
      replace Hq := Hq.ext E47
      replace HPT := HPT.ext E47
      replace HY := HY.ext E47
      have m1 := sameints_pc (Own.sl HF) (Own.sl G1)
      rw [tf_t rfl] at m1
      conv => whnf
      refine VC.pure m1 ?_
      repeat' ((conv => whnf); first | (refine Dr.quiet tyOk (by kernel_rfl) ?_) | (refine Ints.ln HXI ?_) | (refine Rng.mk (by omega) ?_) | (refine Split.pos (by omega) ?_) | (refine Split.neg (by omega) ?_) | (refine Split.mk (fun h => ?_) (fun h => ?_)) | (refine Need.mk (by omega) ?_) | (refine Ints.ln (by assumption) ?_) | (refine Mat.ln (by assumption) ?_) | (refine Ints.ln (Mat.row (by assumption) _ (by omega)) ?_) | (refine Ints.ix (by assumption) (by omega) ?_) | (refine Mat.ix (by assumption) (by omega) ?_) | (refine Ints.ix (Mat.row (by assumption) _ (by omega)) (by omega) ?_) | (refine Ints.ix (c := 0) (by assumption) (by omega) ?_) | (refine Mat.ix (c := 0) (by assumption) (by omega) ?_) | (refine Ints.ix (c := 0) (Mat.row (by assumption) _ (by omega)) (by omega) ?_) | (refine Ints.ixI (by assumption) (by omega) ?_) | (refine Mat.ixI (by assumption) (by omega) ?_) | (refine Ints.ixI (Mat.row (by assumption) _ (by omega)) (by omega) ?_) | (refine Ints.ld (by assumption) (by omega) ?_) | (refine Mat.ld (by assumption) (by omega) ?_) | (refine Ints.ld (Mat.row (by assumption) _ (by omega)) (by omega) ?_) | (refine At.ld (by assumption) rfl ?_) | (refine At.ldN (by assumption) rfl ?_) | (refine Prs.ln (by assumption) ?_) | (refine Trs.ln (by assumption) ?_) | (refine Prs.ix (by assumption) (by omega) ?_) | (refine Trs.ix (by assumption) (by omega) ?_) | (refine Prs.ldN (by assumption) (by omega) ?_) | (refine Trs.ldN (by assumption) (by omega) ?_) | (refine At.ldN (Blk.at (by assumption)) rfl ?_) | (refine At.ld (Blk.at (by assumption)) rfl ?_) | (refine IxA.mk (by omega) ?_) | (refine Sl.ln (Own.sl (by assumption)) ?_) | (refine Ints.ix (Own.sl (by assumption)) (by omega) ?_) | (refine Ints.ixI (Own.sl (by assumption)) (by omega) ?_) | (refine Ints.ld (Own.sl (by assumption)) (by omega) ?_))
      conv => whnf
      refine VE.litI [1, 2, 3] Try.underlying26 eInt (by first | decide | simp) fun g2 w48 E48 G2 _ => ?_
      replace G2 := G2 0 (Nat.zero_le _)
      replace EE := EE.ext E48
      replace H2 := H2.ext E48
      replace H3 := H3.ext E48
      replace H4 := H4.ext E48
      replace H5 := H5.ext E48
      replace H6 := H6.ext E48
      replace HB := HB.ext E48
      replace EL1 := EL1.ext E48
      replace HO := HO.ext E48
      replace EL2 := EL2.ext E48
      replace Hk := Hk.ext E48
      replace HT := HT.ext E48
      replace HF := HF.ext E48
      replace F1 := F1.ext E48
      replace F2 := F2.ext E48
      replace F3 := F3.ext E48
      replace F4 := F4.ext E48
      replace Z1 := Z1.ext E48
      replace Z2 := Z2.ext E48
      replace HE := HE.ext E48
      replace F5 := F5.ext E48
      replace HR := HR.ext E48
      replace Z3 := Z3.ext E48
      replace F6 := F6.ext E48
      replace HX := HX.ext E48
      replace HXI := HXI.ext E48
      replace HP := HP.ext E48
      replace EL3 := EL3.ext E48
      replace Hq := Hq.ext E48
      replace HPT := HPT.ext E48
      replace HY := HY.ext E48
      replace G1 := G1.ext E48
      have m2 := sameints_pc (Own.sl HY) (Own.sl G2)
      rw [tf_t rfl] at m2
      conv => whnf
      refine VC.pure m2 ?_
      repeat' ((conv => whnf); first | (refine Dr.quiet tyOk (by kernel_rfl) ?_) | (refine Rng.mk (by omega) ?_) | (refine Split.pos (by omega) ?_) | (refine Split.neg (by omega) ?_) | (refine Split.mk (fun h => ?_) (fun h => ?_)) | (refine Need.mk (by omega) ?_) | (refine Ints.ln (by assumption) ?_) | (refine Mat.ln (by assumption) ?_) | (refine Ints.ln (Mat.row (by assumption) _ (by omega)) ?_) | (refine Ints.ix (by assumption) (by omega) ?_) | (refine Mat.ix (by assumption) (by omega) ?_) | (refine Ints.ix (Mat.row (by assumption) _ (by omega)) (by omega) ?_) | (refine Ints.ix (c := 0) (by assumption) (by omega) ?_) | (refine Mat.ix (c := 0) (by assumption) (by omega) ?_) | (refine Ints.ix (c := 0) (Mat.row (by assumption) _ (by omega)) (by omega) ?_) | (refine Ints.ixI (by assumption) (by omega) ?_) | (refine Mat.ixI (by assumption) (by omega) ?_) | (refine Ints.ixI (Mat.row (by assumption) _ (by omega)) (by omega) ?_) | (refine Ints.ld (by assumption) (by omega) ?_) | (refine Mat.ld (by assumption) (by omega) ?_) | (refine Ints.ld (Mat.row (by assumption) _ (by omega)) (by omega) ?_) | (refine At.ld (by assumption) rfl ?_) | (refine At.ldN (by assumption) rfl ?_) | (refine Prs.ln (by assumption) ?_) | (refine Trs.ln (by assumption) ?_) | (refine Prs.ix (by assumption) (by omega) ?_) | (refine Trs.ix (by assumption) (by omega) ?_) | (refine Prs.ldN (by assumption) (by omega) ?_) | (refine Trs.ldN (by assumption) (by omega) ?_) | (refine At.ldN (Blk.at (by assumption)) rfl ?_) | (refine At.ld (Blk.at (by assumption)) rfl ?_) | (refine IxA.mk (by omega) ?_) | (refine Sl.ln (Own.sl (by assumption)) ?_) | (refine Ints.ix (Own.sl (by assumption)) (by omega) ?_) | (refine Ints.ixI (Own.sl (by assumption)) (by omega) ?_) | (refine Ints.ld (Own.sl (by assumption)) (by omega) ?_))
      exact ⟨rfl, EE⟩

open Go.ChangeShapes Go.WideShapes Go.ChangeAt Go.RowKit Go.Eng in
theorem flowNames_lifted (os : Os) (started : os.Started) (H : Type) (enc : TypeId × Value → H) :
    ReturnsInHanded {} Try.checked os 9 .any (Rows.flowNamesSpec.pre6 enc Try.prog Try.f9 Rows.flowNamesRow.domain false) (Rows.flowNamesSpec.post enc Try.prog Try.f9 false true false false) := by
  refine returnsInHanded_of_change (C := Try.checked) own started (by kernel_rfl) Try.func9
    (ChangeSpec.witness6 (enc := enc) (C := Try.checked) false ⟨#[], #[], []⟩ 8 (by kernel_rfl) (by kernel_rfl) (by kernel_rfl) (by kernel_rfl)) ?_
  intro W base args ds gs before hval0 hW hcnd _
  have hval : ∀ (j : Nat) t v, Try.f9.params[j]? = some t → args[j]? = some v → Value.okWide Try.prog W .any base t v := hval0
  have hW' := hW
  obtain ⟨p, q, hA0, hV, e0, hfz, hnd⟩ := hW
  have hA : DataW.TrodAll enc Try.prog W 0 (fun _ => true) true Try.f9.params.toList args.toList ds p := hA0
  rw [Try.params9] at hA hval
  clear hfz hnd hV e0 hval0
  obtain ⟨ee, rfl, _⟩ := trodAll_nil hA
  obtain rfl : args = #[] := Array.toList_inj.1 (by simpa using ee)
  exact law_calls laidOut (by rw [Try.params9]; intro t ht; revert t; decide +kernel) rfl Try.underlying4 rfl ⟨rfl, rfl, rfl⟩ hW' (fnames_pc)

theorem flowNames_holds : Rows.FlowNamesSaid :=
  OpenClaim.holds_of_wide 9 Try.f9 rfl rfl rfl rfl rfl rfl rfl ⟨rfl, rfl, rfl, rfl, rfl⟩ rfl rfl rfl rfl rfl (by kernel_rfl) Try.func9 (by kernel_rfl)
    (of_decide_eq_true (by kernel_rfl)) (by unfold Func.isWrapper; first | (rw [if_pos (by decide +kernel)]; kernel_rfl) | (rw [if_neg (by decide +kernel)]; exact ⟨rfl, rfl⟩))
    (fun os started H enc _ => flowNames_lifted os started H enc)
end Go.Proofs.Ytpdldifklgpikaa
