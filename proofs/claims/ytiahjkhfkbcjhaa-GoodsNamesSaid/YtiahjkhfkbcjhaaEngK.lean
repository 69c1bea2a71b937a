/- The engine, part K: boxes that the call has made itself. -/
import Derived.Test.YtiahjkhfkbcjhaaEngJ
set_option linter.unusedVariables false
set_option linter.unusedSimpArgs false
namespace Go.Eng

/-- Block b is a box of type T that holds the cells xs. -/
def Blk (w : World) (b : Nat) (T : TypeId) (xs : List Value) : Prop := w.heap[b]? = some (.cells xs.toArray T (0, 0))

theorem one_ints (l : List Int) : ∀ u ∈ l.map i64v, u.oneCell' = true := by
  intro u hu
  obtain ⟨z, _, rfl⟩ := List.mem_map.1 hu
  rfl

theorem IxA.mk {len s : Nat} {p : Addr} {j : Int} {K : Value → Prop} (h : 0 ≤ j ∧ j < (len : Int)) (hk : K (.pointer (some (p.add (j.toNat * s))))) : IxA len s p (.int .i64 j) K := by
  simp only [IxA]; exact ⟨j, rfl, h.1, h.2, hk⟩
theorem Prs.ldA0 {w : World} {v : Value} {l : List (Int × Int)} {c k : Nat} {K : Value → Prop} (h : Prs w v l) (hc : c < l.length) (e : k = 0) (hk : K (.int .i64 (l.getD c (0, 0)).1)) : Ld w ((ea v (c * 2)).add k) K := by
  subst e
  obtain ⟨h1, _⟩ := flatP_get l c hc
  rcases ea_block h (c * 2) 0 with e | e
  · rw [e]; simp only [Ld]; exact ⟨_, Sl.cell h h1, hk⟩
  · omega
theorem Prs.ldA1 {w : World} {v : Value} {l : List (Int × Int)} {c k : Nat} {K : Value → Prop} (h : Prs w v l) (hc : c < l.length) (e : k = 1) (hk : K (.int .i64 (l.getD c (0, 0)).2)) : Ld w ((ea v (c * 2)).add k) K := by
  subst e
  obtain ⟨_, h2⟩ := flatP_get l c hc
  rcases ea_block h (c * 2) 1 with e | e
  · rw [e]; simp only [Ld]; exact ⟨_, Sl.cell h h2, hk⟩
  · omega

section
variable {P : Program} {T : TypeId} {w w' : World} {b : Nat} {xs : List Value}
theorem Blk.gr {S : Nat → Prop} (h : Blk w b T xs) (hg : Gr S w w') (hs : ¬ S b) : Blk w' b T xs := by
  unfold Blk at *
  rw [hg.block b (Array.getElem?_eq_some_iff.1 h).1 hs]; exact h
theorem Blk.ext (h : Blk w b T xs) (hg : Ext w w') : Blk w' b T xs := h.gr hg fun hf => hf
theorem Blk.lt (h : Blk w b T xs) : b < w.heap.size := (Array.getElem?_eq_some_iff.1 h).1
theorem Blk.at (h : Blk w b T xs) : At w ⟨b, 0, none⟩ xs := by
  intro i x hx
  rw [add0]
  unfold Blk at h
  simp only [World.cell?, h]
  simpa using hx

theorem Blk.put (h : Blk w b T xs) (i : Nat) (x : Value) : Blk (w.setCell ⟨b, i, none⟩ x) b T (xs.set i x) := by
  unfold Blk at *
  obtain ⟨hlt, hh⟩ := Array.getElem?_eq_some_iff.1 h
  simp only [World.setCell]
  rw [Array.getElem?_modify, if_pos rfl, h]
  simp

theorem Blk.set {i : Nat} {x : Value} {K : World → Prop} (h : Blk w b T xs) (hi : i < xs.length) (hx : x.oneCell' = true)
    (hK : ∀ w', Gr (fun j => j = b) w w' → Blk w' b T (xs.set i x) → K w') : St w ⟨b, i, none⟩ x K := by
  have hcell : w.cell? ⟨b, i, none⟩ = some (xs[i]'hi) := by unfold Blk at h; simp only [World.cell?, h]; simp [hi]
  simp only [St]
  refine ⟨hx, ⟨_, hcell⟩, by unfold Blk at h; simp only [World.frozen?, h]; simp, fun w1 hw1 => ?_⟩
  exact hK _ (Gr.setCell (S := fun j => j = b) (p := ⟨b, i, none⟩) (Gr.ofExt hw1) rfl x) ((h.ext hw1).put i x)
theorem Blk.set0 {x : Value} {K : World → Prop} (h : Blk w b T xs) (hi : 0 < xs.length) (hx : x.oneCell' = true)
    (hK : ∀ w', Gr (fun j => j = b) w w' → Blk w' b T (xs.set 0 x) → K w') : St w ⟨b, 0, none⟩ x K := h.set hi hx hK

theorem Blk.new (w : World) (T : TypeId) (xs : List Value) : Blk (w.alloc (.cells xs.toArray T)) w.heap.size T xs := heap_alloc_new w _

/-- 'new(T)', 'x := T{..}'s box. -/
theorem VX.alloc {z : Value} {s n : Nat} {K : Value → World → Prop} (he : Elem P T z s n) (hk : ∀ b w', Ext w w' → w.heap.size ≤ b → Blk w' b T z.cells.toList → K (.pointer (some ⟨b, 0, none⟩)) w') : VX P (Instr.alloc T true (.tuple #[])) w K := by
  refine VX.mk fun w1 hw1 => ?_
  obtain ⟨i, hi, hz, _, _⟩ := he.info
  refine ⟨.pointer (some ⟨w1.heap.size, 0, none⟩), w1.alloc (.cells z.cells T), ?_, (Ext.refl w1).alloc _, hk _ _ (hw1.alloc _) hw1.size (by have := Blk.new w1 T z.cells.toList; simpa using this)⟩
  simp only [Instr.alloc, Sem.run_bind, zeroValue, typeInfo, run_program, Result.andThen_ok, hi, hz, Sem.run_pure, newVar, newRow, run_newObj_alloc]
theorem VE.alloc {z : Value} {s n : Nat} {K : Value → World → Prop} (he : Elem P T z s n) (hk : ∀ b w', Ext w w' → w.heap.size ≤ b → Blk w' b T z.cells.toList → K (.pointer (some ⟨b, 0, none⟩)) w') : VE P (Instr.alloc T true (.tuple #[])) w K := VX.toVE (VX.alloc he hk)

theorem storeCells_run : ∀ (vs : List Value) (i : Nat) (w : World) (xs : List Value), Blk w b T xs → i + vs.length = xs.length → (∀ v ∈ vs, v.oneCell' = true) →
    ∃ w', (storeCells ⟨b, 0, none⟩ vs i).run P w = .ok () w' ∧ Gr (fun j => j = b) w w' ∧ Blk w' b T (xs.take i ++ vs)
  | [], i, w, xs, h, hl, _ => ⟨w, by simp [storeCells], Gr.ofExt (Ext.refl w), by simp at hl; subst hl; simpa using h⟩
  | v :: vs, i, w, xs, h, hl, h1 => by
    have hi : i < xs.length := by simp at hl; omega
    have hcell : w.cell? ⟨b, i, none⟩ = some (xs[i]'hi) := by unfold Blk at h; simp only [World.cell?, h]; simp [hi]
    have hf : w.frozen? ⟨b, i, none⟩ = false := by unfold Blk at h; simp only [World.frozen?, h]; simp
    obtain ⟨w', hr, hg, hb⟩ := storeCells_run vs (i + 1) (w.setCell ⟨b, i, none⟩ v) (xs.set i v) (h.put i v) (by simp at hl ⊢; omega) (fun u hu => h1 u (by simp [hu]))
    have hg1 : Gr (fun j => j = b) w (w.setCell ⟨b, i, none⟩ v) := Gr.setCell (S := fun j => j = b) (p := ⟨b, i, none⟩) (Gr.ofExt (Ext.refl w)) rfl v
    refine ⟨w', ?_, hg1.trans hg, ?_⟩
    · simp only [storeCells, Sem.run_bind, add0]
      rw [run_store P w _ v .plain (h1 v (by simp))]
      simp only [hcell, hf]
      simpa using hr
    · have e : (xs.set i v).take (i + 1) ++ vs = xs.take i ++ v :: vs := by
        rw [List.take_set]
        apply List.ext_getElem?
        intro j
        simp only [List.getElem?_append, List.getElem?_set, List.length_set, List.length_take, List.getElem?_take, List.getElem?_cons]
        rcases Nat.lt_trichotomy j i with hj | hj | hj
        · have a1 : j < min (i + 1) xs.length := by omega
          have a2 : j < min i xs.length := by omega
          have a3 : ¬ i = j := by omega
          have a4 : j < i + 1 := by omega
          simp [a1, a2, a3, a4, hj]
        · subst hj
          have a1 : j < min (j + 1) xs.length := by omega
          have a2 : ¬ j < min j xs.length := by omega
          have a3 : j - min j xs.length = 0 := by omega
          simp [a1, a2, a3]
        · have a1 : ¬ j < min (i + 1) xs.length := by omega
          have a2 : ¬ j < min i xs.length := by omega
          have a3 : j - min i xs.length = (j - min (i + 1) xs.length) + 1 := by omega
          simp [a1, a2, a3]
      rw [e] at hb; exact hb

/-- The whole of a box is written. -/
theorem Blk.all {s : Nat} {cs : List Value} {K : World → Prop} (h : Blk w b T xs) (hs : P.cellsOf T = s) (hs0 : s ≠ 0) (hl : xs.length = s) (hc : cs.length = s) (h1 : ∀ v ∈ cs, v.oneCell' = true)
    (hK : ∀ w', Gr (fun j => j = b) w w' → Blk w' b T cs → K w') : VU P (Instr.storeAt T (.pointer (some ⟨b, 0, none⟩)) (.agg cs.toArray)) w K := by
  simp only [VU]
  intro w1 hw1
  obtain ⟨w2, hr, hg, hb⟩ := storeCells_run (P := P) cs 0 w1 xs (h.ext hw1) (by omega) h1
  refine ⟨w2, ?_, w2, Ext.refl _, hK w2 ((Gr.ofExt hw1).trans hg) (by simpa using hb)⟩
  simp only [Instr.storeAt, Instr.sureAddr, pure_bind, storeVar, Sem.run_bind, sizeOf_run hs hs0, Result.andThen_ok, Value.cells]
  simp [hc]
  simpa using hr

theorem mapM_run {α β : Type} (f : α → Sem β) (g : α → β) {w : World} : ∀ (l : List α), (∀ x ∈ l, (f x).run P w = .ok (g x) w) → (l.mapM f).run P w = .ok (l.map g) w
  | [], _ => by simp
  | x :: l, h => by
    rw [List.mapM_cons]
    simp only [Sem.run_bind, h x (by simp), Result.andThen_ok, mapM_run f g l (fun y hy => h y (by simp [hy])), Sem.run_pure, List.map_cons]

/-- The fields' places, when each is one cell. -/
theorem fields_run {l : List Field} {w : World} (hg : ∀ f ∈ l, P.cellsOf f.type = 1) (ho : l.map (·.offset) = List.range l.length) :
    ((l.toArray).mapM (m := Sem) fun f => do pure (f.offset, ← Go.sizeOf f.type)).run P w = .ok ((List.range l.length).map fun i => (i, 1)).toArray w := by
  rw [List.mapM_toArray]
  have h := mapM_run (P := P) (w := w) (fun f : Field => (do pure (f.offset, ← Go.sizeOf f.type) : Sem (Nat × Nat))) (fun f => (f.offset, 1)) l (fun f hf => by
    simp only [Sem.run_bind, sizeOf_run (hg f hf) (by decide), Result.andThen_ok, Sem.run_pure])
  rw [map_eq_pure_bind]
  simp only [Sem.run_bind, h, Result.andThen_ok, Sem.run_pure]
  rw [← ho]
  simp [Function.comp_def]

/-- 'T{..}' by value, every field one cell and given in order. -/
theorem VS.fields {t : TypeId} {zc : Array Value} {N b : Nat} {l : List Field} {ps : List (Nat × Value)} {K : Value → Prop} (ht : P.underlying t = some (.struct l.toArray)) (hz : Elem P t (.agg zc) N b)
    (hg : ∀ f ∈ l, P.cellsOf f.type = 1) (ho : l.map (·.offset) = List.range l.length) (hn : ps.length = l.length) (hps : ps = enum 0 (ps.map (·.2))) (hzc : zc.size = ps.length)
    (hv : ∀ v ∈ ps.map (·.2), v.cells = #[v]) (hk : K (.agg (ps.map (·.2)).toArray)) : VS P (Instr.build t ps.toArray) w K := by
  have hf : ∀ vs : List Value, (∀ v ∈ vs, v.cells = #[v]) → Eng.flat vs = vs := by
    intro vs
    induction vs with
    | nil => intro _; rfl
    | cons v vs ih => intro h; simp [Eng.flat, h v (by simp), ih (fun u hu => h u (by simp [hu]))]
  refine VS.str ht hz (fun w => by rw [hn]; exact fields_run hg ho) hps hzc (fun v h => by rw [hv v h]; rfl) ?_
  rw [hf _ hv]; exact hk

/-- 'T{x}' by value. -/
theorem VS.field1 {t : TypeId} {z x : Value} {N b : Nat} {f : Field} {K : Value → Prop} (ht : P.underlying t = some (.struct #[f])) (hz : Elem P t (.agg #[z]) N b) (hg : P.cellsOf f.type = 1) (ho : f.offset = 0) (hx : x.cells = #[x]) (hk : K (.agg #[x])) :
    VS P (Instr.build t #[(0, x)]) w K :=
  VS.fields (l := [f]) (ps := [(0, x)]) ht hz (by simpa using hg) (by simp [ho]) rfl rfl rfl (by simpa using hx) hk
end
end Go.Eng
