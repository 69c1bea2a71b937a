/- The engine, part M: literals of many elements. -/
import Derived.Test.YtiahjkhfkbcjhaaEngK
set_option linter.unusedVariables false
set_option linter.unusedSimpArgs false
namespace Go.Eng

theorem enum_snd : ∀ (vs : List Value) (i : Nat), (enum i vs).map (·.2) = vs
  | [], _ => rfl
  | v :: vs, i => by simp [enum, enum_snd vs]
theorem flat_ones : ∀ {vs : List Value}, (∀ v ∈ vs, v.cells = #[v]) → flat vs = vs
  | [], _ => rfl
  | v :: vs, h => by
    have ih := flat_ones (vs := vs) (fun u hu => h u (List.mem_cons_of_mem _ hu))
    simp [flat, h v (by simp), ih]
theorem enum_len : ∀ (vs : List Value) (i : Nat), (enum i vs).length = vs.length
  | [], _ => rfl
  | v :: vs, i => by simp [enum, enum_len vs]

section
variable {P : Program} {e t : TypeId} {w : World} {z : Value} {b : Nat} {K : Value → World → Prop}
/-- '[]T{..}' of one-cell elements. -/
theorem VX.litV (vs : List Value) (ht : P.underlying t = some (.slice e)) (he : Elem P e z 1 b) (h1 : ∀ v ∈ vs, v.cells = #[v]) (hl : vs.length ≤ 16777216)
    (hk : ∀ v w', Ext w w' → (∀ B, B ≤ w.heap.size → Own B e 1 w' v vs.length vs) → (∀ k, v.ownBlock = some k → w.heap.size ≤ k) → K v w') : VX P (Instr.buildSlice t vs.length (enum 0 vs).toArray) w K := by
  refine VX.lit (m := vs.length) ht he (by rw [enum_snd]) (enum_len vs 0) (by rw [enum_snd]; intro v hv; rw [h1 v hv]; rfl) (by omega) (by unfold maxLen; omega) fun v w' hw ho hb => ?_
  rw [enum_snd, flat_ones h1] at ho
  exact hk v w' hw ho fun k hk => hb.elim (fun h => by rw [h] at hk; cases hk; exact Nat.le_refl _) (fun h => h k hk)
theorem VE.litV (vs : List Value) (ht : P.underlying t = some (.slice e)) (he : Elem P e z 1 b) (h1 : ∀ v ∈ vs, v.cells = #[v]) (hl : vs.length ≤ 16777216)
    (hk : ∀ v w', Ext w w' → (∀ B, B ≤ w.heap.size → Own B e 1 w' v vs.length vs) → (∀ k, v.ownBlock = some k → w.heap.size ≤ k) → K v w') : VE P (Instr.buildSlice t vs.length (enum 0 vs).toArray) w K := by
  refine VE.lit (m := vs.length) ht he (by rw [enum_snd]) (enum_len vs 0) (by rw [enum_snd]; intro v hv; rw [h1 v hv]; rfl) (by omega) (by unfold maxLen; omega) fun v w' hw ho hb => ?_
  rw [enum_snd, flat_ones h1] at ho
  exact hk v w' hw ho fun k hk => hb.elim (fun h => by rw [h] at hk; cases hk; exact Nat.le_refl _) (fun h => h k hk)

theorem cells_i64 (l : List Int) : ∀ v ∈ l.map i64v, v.cells = #[v] := by
  intro v hv
  obtain ⟨x, _, rfl⟩ := List.mem_map.1 hv
  rfl

/-- '[]int{..}'. -/
theorem VX.litI (l : List Int) (ht : P.underlying t = some (.slice e)) (he : Elem P e z 1 b) (hl : l.length ≤ 16777216)
    (hk : ∀ v w', Ext w w' → (∀ B, B ≤ w.heap.size → Own B e 1 w' v l.length (l.map i64v)) → (∀ k, v.ownBlock = some k → w.heap.size ≤ k) → K v w') : VX P (Instr.buildSlice t l.length (enum 0 (l.map i64v)).toArray) w K := by
  have h := VX.litV (P := P) (K := K) (w := w) (l.map i64v) ht he (cells_i64 l) (by simpa using hl) (fun v w' h1 h2 h3 => hk v w' h1 (by simpa using h2) h3)
  simpa using h
theorem VE.litI (l : List Int) (ht : P.underlying t = some (.slice e)) (he : Elem P e z 1 b) (hl : l.length ≤ 16777216)
    (hk : ∀ v w', Ext w w' → (∀ B, B ≤ w.heap.size → Own B e 1 w' v l.length (l.map i64v)) → (∀ k, v.ownBlock = some k → w.heap.size ≤ k) → K v w') : VE P (Instr.buildSlice t l.length (enum 0 (l.map i64v)).toArray) w K := by
  have h := VE.litV (P := P) (K := K) (w := w) (l.map i64v) ht he (cells_i64 l) (by simpa using hl) (fun v w' h1 h2 h3 => hk v w' h1 (by simpa using h2) h3)
  simpa using h

theorem enum_agg : ∀ {s : Nat} (ls : List (List Value)), (∀ l ∈ ls, l.length = s) → flat (ls.map fun l => Value.agg l.toArray) = ls.flatten
  | _, [], _ => rfl
  | s, l :: ls, h => by
    have ih := enum_agg (s := s) ls (fun x hx => h x (List.mem_cons_of_mem _ hx))
    simp [flat, Value.cells, ih]

/-- '[]T{..}', T a struct or an array of s cells. -/
theorem VX.litA {s : Nat} (ls : List (List Value)) (ht : P.underlying t = some (.slice e)) (he : Elem P e z s b) (h1 : ∀ l ∈ ls, l.length = s) (hl : ls.length * s ≤ 16777216) (hl2 : ls.length ≤ 16777216)
    (hk : ∀ v w', Ext w w' → (∀ B, B ≤ w.heap.size → Own B e s w' v ls.length ls.flatten) → (∀ k, v.ownBlock = some k → w.heap.size ≤ k) → K v w') : VX P (Instr.buildSlice t ls.length (enum 0 (ls.map fun l => Value.agg l.toArray)).toArray) w K := by
  refine VX.lit (m := ls.length) ht he (by rw [enum_snd]) (by rw [enum_len]; simp) (by rw [enum_snd]; intro v hv; obtain ⟨l, hl, rfl⟩ := List.mem_map.1 hv; simpa [Value.cells] using h1 l hl) hl (by unfold maxLen; omega) fun v w' hw ho hb => ?_
  rw [enum_snd, enum_agg ls h1] at ho
  exact hk v w' hw ho fun k hk => hb.elim (fun h => by rw [h] at hk; cases hk; exact Nat.le_refl _) (fun h => h k hk)
theorem VE.litA {s : Nat} (ls : List (List Value)) (ht : P.underlying t = some (.slice e)) (he : Elem P e z s b) (h1 : ∀ l ∈ ls, l.length = s) (hl : ls.length * s ≤ 16777216) (hl2 : ls.length ≤ 16777216)
    (hk : ∀ v w', Ext w w' → (∀ B, B ≤ w.heap.size → Own B e s w' v ls.length ls.flatten) → (∀ k, v.ownBlock = some k → w.heap.size ≤ k) → K v w') : VE P (Instr.buildSlice t ls.length (enum 0 (ls.map fun l => Value.agg l.toArray)).toArray) w K := by
  refine VE.lit (m := ls.length) ht he (by rw [enum_snd]) (by rw [enum_len]; simp) (by rw [enum_snd]; intro v hv; obtain ⟨l, hl, rfl⟩ := List.mem_map.1 hv; simpa [Value.cells] using h1 l hl) hl (by unfold maxLen; omega) fun v w' hw ho hb => ?_
  rw [enum_snd, enum_agg ls h1] at ho
  exact hk v w' hw ho fun k hk => hb.elim (fun h => by rw [h] at hk; cases hk; exact Nat.le_refl _) (fun h => h k hk)
end

/-- A box of another type is written: the row stays. -/
theorem Own.blk {B : Nat} {e T : TypeId} {s n b : Nat} {w w' : World} {v : Value} {xs ys : List Value} (h : Own B e s w v n xs) (hk : Blk w b T ys) (he : e ≠ T) (hg : Gr (fun j => j = b) w w') : Own B e s w' v n xs :=
  Own.gr h hg fun k hv hb => by
    subst hb
    rcases h.2 with ⟨rfl, _⟩ | ⟨g, cap, cur, rfl, _, hc, _⟩
    · simp [Value.ownBlock] at hv
    · simp [Value.ownBlock] at hv
      subst hv
      unfold Blk at hk
      rw [hk] at hc
      simp at hc
      exact he hc.2.symm
end Go.Eng
