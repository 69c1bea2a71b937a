/- The engine, part I: memory that the call itself makes: literals, make, append, stores. -/
import Derived.Test.YtiahjkhfkbcjhaaEngH
set_option linter.unusedVariables false
set_option linter.unusedSimpArgs false
namespace Go.Eng
open Go.RowKit

noncomputable def tf (p : Prop) : Bool := @decide p (Classical.propDecidable p)
theorem tf_t {p : Prop} (h : p) : tf p = true := by unfold tf; exact @decide_eq_true p (Classical.propDecidable p) h
theorem tf_f {p : Prop} (h : ¬ p) : tf p = false := by unfold tf; exact @decide_eq_false p (Classical.propDecidable p) h

abbrev Own (B : Nat) (e : TypeId) (s : Nat) (w : World) (v : Value) (n : Nat) (xs : List Value) : Prop := w.ownsRow B e s v n xs

/-- What is told of an element's type. -/
def Elem (P : Program) (e : TypeId) (z : Value) (s b : Nat) : Prop := (P.info? e).map (fun i => (i.zero, i.size, i.bytes)) = some (some z, s, b)

section
variable {P : Program} {B : Nat} {e : TypeId} {s : Nat} {w w' : World} {v : Value} {n : Nat} {xs : List Value}

theorem Own.nil : Own B e s w (.slice none 0 0) 0 [] := World.ownsRow_nil w B e s
theorem Own.gr {S : Nat → Prop} (h : Own B e s w v n xs) (hg : Gr S w w') (hs : ∀ k, v.ownBlock = some k → ¬ S k) : Own B e s w' v n xs := by
  refine ⟨h.1, ?_⟩
  rcases h.2 with hn | ⟨g, cap, cur, rfl, hb, hgg, rest⟩
  · exact .inl hn
  · refine .inr ⟨g, cap, cur, rfl, hb, ?_, rest⟩
    rw [hg.block g (Array.getElem?_eq_some_iff.1 hgg).1 (hs g rfl)]
    exact hgg
theorem Own.ext (h : Own B e s w v n xs) (hg : Ext w w') : Own B e s w' v n xs := Own.gr h hg fun _ _ hf => hf
theorem Own.lt (h : Own B e s w v n xs) : ∀ k, v.ownBlock = some k → B ≤ k ∧ k < w.heap.size := World.ownsRow.lt h
theorem Own.base {B' : Nat} (h : Own B e s w v n xs) (hB : B' ≤ B) : Own B' e s w v n xs := by
  refine ⟨h.1, ?_⟩
  rcases h.2 with hn | ⟨g, cap, cur, hv, hb, rest⟩
  · exact .inl hn
  · exact .inr ⟨g, cap, cur, hv, Nat.le_trans hB hb, rest⟩
theorem Own.ne {B' : Nat} {e' : TypeId} {s' : Nat} {v' : Value} {n' : Nat} {xs' : List Value} (h : Own B e s w v n xs) (h' : Own B' e' s' w v' n' xs') (he : e ≠ e') : ∀ k, v.ownBlock = some k → v'.ownBlock ≠ some k := by
  intro k hk hk'
  rcases h.2 with ⟨rfl, _⟩ | ⟨g, cap, cur, rfl, _, hg, _⟩
  · simp [Value.ownBlock] at hk
  · rcases h'.2 with ⟨rfl, _⟩ | ⟨g', cap', cur', rfl, _, hg', _⟩
    · simp [Value.ownBlock] at hk'
    · simp [Value.ownBlock] at hk hk'
      subst hk; subst hk'
      rw [hg] at hg'
      simp at hg'
      exact he hg'.2
theorem add0 (g j : Nat) : (⟨g, 0, none⟩ : Addr).add j = ⟨g, j, none⟩ := by unfold Addr.add; split <;> simp_all
theorem Own.len (h : Own B e s w v n xs) : xs.length = n * s := h.1
theorem Own.sl (h : Own B e s w v n xs) : Sl s w v n xs := by
  rcases h.2 with ⟨rfl, rfl⟩ | ⟨g, cap, cur, rfl, hb, hg, h1, h2, h3, h4⟩
  · exact ⟨none, 0, rfl, Nat.le_refl _, Nat.zero_le _, h.1, .inl rfl⟩
  · refine ⟨_, cap, rfl, h1, h2, h.1, .inr ⟨_, rfl, fun i x hx => ?_⟩⟩
    exact World.ownsRow.cells h rfl i x hx
theorem blk_own (h : Own B e s w v n xs) (hn : n ≠ 0) : v.ownBlock = some (blk v) := by
  rcases h.2 with ⟨rfl, rfl⟩ | ⟨g, cap, cur, rfl, _⟩
  · exact absurd rfl hn
  · rfl

/-! ### a store -/
theorem Own.set {k : Nat} {x : Value} {K : World → Prop} (h : Own B e s w v n xs) (hk : k < xs.length) (hx : x.oneCell' = true)
    (hK : ∀ w', Gr (fun j => v.ownBlock = some j) w w' → Own B e s w' v n (xs.set k x) → K w') : St w (ea v k) x K := by
  rcases h.2 with ⟨rfl, rfl⟩ | ⟨g, cap, cur, rfl, hb, hg, h1, h2, h3, h4⟩
  · have := h.1; omega
  · have hlen := h.1
    have hns : n * s ≤ cap * s := Nat.mul_le_mul_right s h1
    have ea0 : ea (.slice (some ⟨g, 0, none⟩) n cap) k = ⟨g, k, none⟩ := by simp only [ea]; exact add0 g k
    rw [ea0]
    have hcell : w.cell? ⟨g, k, none⟩ = some (cur[k]'(by omega)) := by
      simp only [World.cell?, hg]
      simp [show k < cur.size by omega]
    simp only [St]
    refine ⟨hx, ⟨_, hcell⟩, by simp only [World.frozen?, hg]; simp, fun w1 hw1 => ?_⟩
    have hg1 : w1.heap[g]? = some (.cells cur e (0, 0)) := by rw [hw1.block g (Array.getElem?_eq_some_iff.1 hg).1 (fun hf => hf)]; exact hg
    refine hK _ (Gr.setCell (S := fun j => Value.ownBlock (.slice (some ⟨g, 0, none⟩) n cap) = some j) (p := ⟨g, k, none⟩) (Gr.ofExt hw1) rfl x) ⟨by simp [hlen], .inr ⟨g, cap, cur.setIfInBounds k x, rfl, hb, ?_, h1, h2, by simp [h3], ?_⟩⟩
    · obtain ⟨hlt, hh⟩ := Array.getElem?_eq_some_iff.1 hg1
      simp only [World.setCell]
      rw [Array.getElem?_modify, if_pos rfl, hg1]
      simp
    · rw [Array.toList_setIfInBounds, List.take_set, h4]

/-! ### literals -/
def enum (i : Nat) : List Value → List (Nat × Value)
  | [] => []
  | v :: vs => (i, v) :: enum (i + 1) vs

def flat : List Value → List Value
  | [] => []
  | v :: vs => v.cells.toList ++ flat vs

theorem flat_len : ∀ {vs : List Value} {s : Nat}, (∀ v ∈ vs, v.cells.size = s) → (flat vs).length = vs.length * s
  | [], _, _ => by simp [flat]
  | v :: vs, s, h => by
    have := flat_len (vs := vs) (s := s) (fun u hu => h u (by simp [hu]))
    have hv := h v (by simp)
    simp [flat, this, hv, Nat.add_mul, Nat.add_comm]

theorem amap_range {α : Type} (f : Nat → α) (N : Nat) : (Array.range N).map f = ((List.range N).map f).toArray := by
  apply Array.toList_inj.1; simp

theorem fill_run (s : Nat) : ∀ (vs : List Value) (i : Nat) (pre rest : List Value), (∀ v ∈ vs, v.cells.size = s) → pre.length = i * s → rest.length = vs.length * s →
    Instr.fill (fun i => some (i * s, s)) (pre ++ rest).toArray (enum i vs) = some (pre ++ flat vs).toArray
  | [], i, pre, rest, _, _, hr => by
    have : rest = [] := by simpa using hr
    simp [enum, Instr.fill, flat, this]
  | v :: vs, i, pre, rest, hv, hp, hr => by
    have hvs := hv v (by simp)
    have hr' : rest.length = s + vs.length * s := by rw [hr, List.length_cons, Nat.add_mul, Nat.one_mul, Nat.add_comm]
    have hfold : ∀ (l : List Value) (k : Nat) (p : List Value) (r : List Value), l.length ≤ r.length → p.length = pre.length + k →
        (l.zipIdx k).foldl (fun (cs : Array Value) (c : Value × Nat) => cs.setIfInBounds (i * s + c.2) c.1) (p ++ r).toArray = (p ++ l ++ r.drop l.length).toArray := by
      intro l
      induction l with
      | nil => intro k p r _ _; simp
      | cons x l ih =>
        intro k p r hl hpk
        match r, hl with
        | y :: r, hl =>
          simp only [List.zipIdx_cons, List.foldl_cons]
          have e1 : ((p ++ y :: r).toArray).setIfInBounds (i * s + k) x = ((p ++ [x]) ++ r).toArray := by
            apply Array.toList_inj.1
            simp only [Array.toList_setIfInBounds, List.append_assoc, List.singleton_append]
            rw [← hp, ← hpk, List.set_append_right _ _ (Nat.le_refl _)]
            simp
          rw [e1, ih (k + 1) (p ++ [x]) r (by simpa using hl) (by simp [hpk]; omega)]
          simp
    simp only [enum, Instr.fill]
    rw [if_neg (by simp [hvs]; omega)]
    have e2 : v.cells.zipIdx.foldl (fun (cs : Array Value) (c : Value × Nat) => cs.setIfInBounds (i * s + c.2) c.1) (pre ++ rest).toArray = ((pre ++ v.cells.toList) ++ rest.drop s).toArray := by
      have := hfold v.cells.toList 0 pre rest (by simp [hvs]; omega) rfl
      rw [← Array.foldl_toList, Array.toList_zipIdx]
      simpa [hvs] using this
    have e3 := fill_run s vs (i + 1) (pre ++ v.cells.toList) (rest.drop s) (fun u hu => hv u (by simp [hu])) (by simp [hp, hvs, Nat.add_mul]) (by simp [hr'])
    rw [e2, e3]
    simp [flat]

theorem Elem.info {P : Program} {e : TypeId} {z : Value} {s b : Nat} (h : Elem P e z s b) : ∃ i, P.info? e = some i ∧ i.zero = some z ∧ i.size = s ∧ i.bytes = b := info_parts h

theorem VE.mk {sem : Sem Value} {K : Value → World → Prop} (h : ∀ w', Ext w w' → ∃ v w'', sem.run P w' = .ok v w'' ∧ K v w'') : VE P sem w K := by
  simp only [VE]
  intro w' hw
  obtain ⟨v, w'', hr, hk⟩ := h w' hw
  exact ⟨v, w'', hr, w'', Ext.refl _, hk⟩

theorem VX.mk {sem : Sem Value} {K : Value → World → Prop} (h : ∀ w', Ext w w' → ∃ v w'', sem.run P w' = .ok v w'' ∧ Ext w' w'' ∧ K v w'') : VX P sem w K := by
  simp only [VX]
  intro w' hw
  obtain ⟨v, w'', hr, hx, hk⟩ := h w' hw
  exact ⟨v, w'', hr, hx, w'', Ext.refl _, hk⟩
theorem VX.toVE {sem : Sem Value} {K : Value → World → Prop} (h : VX P sem w K) : VE P sem w K := by
  simp only [VX] at h
  simp only [VE]
  intro w' hw
  obtain ⟨v, w'', hr, _, hk⟩ := h w' hw
  exact ⟨v, w'', hr, hk⟩

/-- A new row of cells. -/
theorem Own.fresh {cur : Array Value} {n : Nat} (hB : B ≤ w.heap.size) (hm : n ≤ maxLen) (hs : cur.size = n * s) : Own B e s (w.alloc (.cells cur e)) (.slice (some ⟨w.heap.size, 0, none⟩) n n) n cur.toList :=
  ⟨by simp [hs], .inr ⟨w.heap.size, n, cur, rfl, hB, heap_alloc_new w _, Nat.le_refl _, hm, hs, by rw [← hs, ← Array.length_toList, List.take_length]⟩⟩

/-- '[]T{..}'. -/
theorem VX.lit {t : TypeId} {ps : List (Nat × Value)} {z : Value} {b m : Nat} {K : Value → World → Prop} (ht : P.underlying t = some (.slice e)) (he : Elem P e z s b) (hps : ps = enum 0 (ps.map (·.2))) (hm : ps.length = m) (hv : ∀ v ∈ ps.map (·.2), v.cells.size = s) (hsm : m * s ≤ 16777216) (hmm : m ≤ maxLen)
    (hk : ∀ v w', Ext w w' → (∀ B, B ≤ w.heap.size → Own B e s w' v m (flat (ps.map (·.2)))) → (v.ownBlock = some w.heap.size ∨ ∀ k, v.ownBlock = some k → w.heap.size ≤ k) → K v w') : VX P (Instr.buildSlice t m ps.toArray) w K := by
  refine VX.mk fun w1 hw1 => ?_
  obtain ⟨i, hi, hz, hsz, _⟩ := he.info
  subst hm
  have hfill : Instr.fill (fun i => some (i * s, s)) ((Array.range (ps.length * s)).map (fun j => (if ps.length * s = 0 then (#[] : Array Value) else z.cells)[j % (if ps.length * s = 0 then (#[] : Array Value) else z.cells).size]!)) ps = some (flat (ps.map (·.2))).toArray := by
    rw [amap_range]
    have h := fill_run s (ps.map (·.2)) 0 [] ((List.range (ps.length * s)).map (fun j => (if ps.length * s = 0 then (#[] : Array Value) else z.cells)[j % (if ps.length * s = 0 then (#[] : Array Value) else z.cells).size]!)) hv (by simp) (by simp)
    rw [← hps] at h
    exact h
  have hlen : (flat (ps.map (·.2))).length = ps.length * s := by rw [flat_len hv, List.length_map]
  refine ⟨_, _, ?_, (Ext.refl w1).alloc _, hk (.slice (some ⟨w1.heap.size, 0, none⟩) ps.length ps.length) (w1.alloc (.cells (flat (ps.map (·.2))).toArray e)) (hw1.alloc _) (fun B hB => ?_) (.inr fun k hk => ?_)⟩
  · have hge : ¬ (ps.length * s > 2 ^ 24) := by omega
    simp only [Instr.buildSlice, Sem.run_bind, run_underlying ht, Result.andThen_ok, Go.sizeOf, typeInfo, run_program, hi, Sem.run_pure, hsz, if_neg hge]
    by_cases h0 : ps.length * s = 0
    · rw [if_pos h0] at hfill ⊢
      simp only [Sem.run_pure, Result.andThen_ok, hfill, newRow, Sem.run_bind, run_newObj]
      rfl
    · rw [if_neg h0] at hfill ⊢
      simp only [Sem.run_pure, Result.andThen_ok, hfill, newRow, Sem.run_bind, run_newObj, zeroValue, typeInfo, run_program, hi, hz]
      rfl
  · have := Own.fresh (B := B) (e := e) (s := s) (w := w1) (cur := (flat (ps.map (·.2))).toArray) (n := ps.length) (Nat.le_trans hB hw1.size) hmm (by simp [hlen])
    simpa using this
  · simp [Value.ownBlock] at hk
    have := hw1.size; omega
theorem VE.lit {t : TypeId} {ps : List (Nat × Value)} {z : Value} {b m : Nat} {K : Value → World → Prop} (ht : P.underlying t = some (.slice e)) (he : Elem P e z s b) (hps : ps = enum 0 (ps.map (·.2))) (hm : ps.length = m) (hv : ∀ v ∈ ps.map (·.2), v.cells.size = s) (hsm : m * s ≤ 16777216) (hmm : m ≤ maxLen)
    (hk : ∀ v w', Ext w w' → (∀ B, B ≤ w.heap.size → Own B e s w' v m (flat (ps.map (·.2)))) → (v.ownBlock = some w.heap.size ∨ ∀ k, v.ownBlock = some k → w.heap.size ≤ k) → K v w') : VE P (Instr.buildSlice t m ps.toArray) w K := VX.toVE (VX.lit ht he hps hm hv hsm hmm hk)

/-- 'make([]T, n)'. -/
theorem VX.made {t : TypeId} {z : Value} {b : Nat} {n : Nat} {K : Value → World → Prop} (ht : P.underlying t = some (.slice e)) (he : Elem P e z 1 b) (hz1 : z.cells = #[z]) (hn : n ≤ 9223372036854775807) (hb : b * n ≤ 281474976710656)
    (hk : ∀ v w', Ext w w' → (∀ B, B ≤ w.heap.size → Own B e 1 w' v n (List.replicate n z)) → (∀ k, v.ownBlock = some k → w.heap.size ≤ k) → K v w') : VX P (Instr.makeSlice t (.int .i64 (n : Int)) (.int .i64 (n : Int))) w K := by
  refine VX.mk fun w1 hw1 => ?_
  obtain ⟨i, hi, hz, hsz, hby⟩ := he.info
  refine ⟨_, _, ?_, (Ext.refl w1).alloc _, hk (.slice (some ⟨w1.heap.size, 0, none⟩) n n) (w1.alloc (.cells (List.replicate n z).toArray e)) (hw1.alloc _) (fun B hB => ?_) (fun k hk => ?_)⟩
  · have hw : IntKind.i64.wrap (n : Int) = n := IntWalk.i64_in _ (by omega)
    have h1 : ¬ ((n : Int) < 0) := by omega
    have h2 : ¬ ((b : Int) * (n : Int) > 2 ^ 48) := by
      have : (b : Int) * (n : Int) = ((b * n : Nat) : Int) := by simp
      rw [this]; omega
    have harr : (Array.map (fun j => (if n = 0 then (#[] : Array Value) else #[z])[j % (if n = 0 then (#[] : Array Value) else #[z]).size]!) (Array.range n)) = (List.replicate n z).toArray := by
      apply Array.ext
      · simp
      · intro j hj1 hj2
        have hn0 : n ≠ 0 := by
          simp at hj2; omega
        simp [hn0, Nat.mod_one]
    simp only [Instr.makeSlice, Sem.run_bind, run_underlying ht, Result.andThen_ok, asInt, asIntOf, Sem.run_pure, typeInfo, run_program, hi, hby, hw, Go.sizeOf]
    simp only [h1, h2, decide_false, Bool.or_false, Int.lt_irrefl, Bool.false_eq_true, if_false, gt_iff_lt, Int.toNat_natCast, Sem.run_bind, run_askRoom, Result.andThen_ok, zeroValue, typeInfo, run_program, hi, Sem.run_pure, hsz, Nat.mul_one]
    by_cases h0 : n = 0
    · rw [if_pos h0] at harr ⊢
      simp only [Sem.run_pure, Result.andThen_ok, newRow, Sem.run_bind, run_newObj, harr]
      rfl
    · rw [if_neg h0] at harr ⊢
      simp only [Sem.run_bind, run_program, hi, hz, Sem.run_pure, Result.andThen_ok, newRow, run_newObj, hz1, harr]
      rfl
  · have := Own.fresh (B := B) (e := e) (s := 1) (w := w1) (cur := (List.replicate n z).toArray) (n := n) (Nat.le_trans hB hw1.size) (by unfold maxLen; omega) (by simp)
    simpa using this
  · simp [Value.ownBlock] at hk
    have := hw1.size; omega
theorem VE.made {t : TypeId} {z : Value} {b : Nat} {n : Nat} {K : Value → World → Prop} (ht : P.underlying t = some (.slice e)) (he : Elem P e z 1 b) (hz1 : z.cells = #[z]) (hn : n ≤ 9223372036854775807) (hb : b * n ≤ 281474976710656)
    (hk : ∀ v w', Ext w w' → (∀ B, B ≤ w.heap.size → Own B e 1 w' v n (List.replicate n z)) → (∀ k, v.ownBlock = some k → w.heap.size ≤ k) → K v w') : VE P (Instr.makeSlice t (.int .i64 (n : Int)) (.int .i64 (n : Int))) w K := VX.toVE (VX.made ht he hz1 hn hb hk)

/-- 'append(v, ..x)': v is the call's own, x any slice. -/
theorem VE.append {t T : TypeId} {z x : Value} {b m : Nat} {ys : List Value} {K : Value → World → Prop} (ht : P.underlying t = some (.slice e)) (he : Elem P e z s b) (hzs : z.cells.size = s) (hs0 : 0 < s)
    (Ho : Own B e s w v n xs) (Hx : Sl s w x m ys) (h1 : ∀ u ∈ ys, u.oneCell' = true) (h63 : n + m ≤ 9223372036854775807) (hb : (n + m) * b ≤ 140737488355328) (hB : B ≤ w.heap.size)
    (hk : ∀ v' w', Gr (fun k => v.ownBlock = some k) w w' → Own B e s w' v' (n + m) (xs ++ ys) → K v' w') : VE P (Builtin.append_ #[t, t] T #[v, x]) w K := by
  refine VE.mk fun w1 hw1 => ?_
  obtain ⟨i, hi, hz, hsz, hby⟩ := he.info
  have Ho1 := Own.ext Ho hw1
  obtain ⟨a, cap, rfl, hc1, hc2, hc3, hat⟩ := Hx.ext hw1
  cases a with
  | some a =>
    have hnews : ∀ (j : Nat) (u : Value), ys[j]? = some u → w1.cell? (a.add j) = some u := by
      intro j u hu
      rcases hat with h0 | ⟨p, hp, hat⟩
      · have := (List.getElem?_eq_some_iff.1 hu).1
        rw [hc3, h0] at this; omega
      · cases hp; exact hat j u hu
    obtain ⟨v', w', hr, ho, hg, _⟩ := run_append_own w1 (P := P) B t T e i z s b ht hi hz hsz hby hzs hs0 v n xs Ho1 a m cap ys hc3 hnews h1 (by unfold maxLen; omega) hb (Nat.le_trans hB hw1.size)
    refine ⟨v', w', hr, hk v' w' ((Gr.ofExt hw1).trans ((Gr.ofGrown hg).mono fun k _ hk => hk.symm)) ho⟩
  | none =>
    have hm0 : m = 0 := by
      rcases hat with h0 | ⟨p, hp, _⟩
      · exact h0
      · cases hp
    subst hm0
    have hys : ys = [] := by simpa using hc3
    subst hys
    have hcap : ∃ a' c', v = .slice a' n c' ∧ n ≤ c' := by
      rcases Ho.2 with ⟨hv, hn⟩ | ⟨g, c', cur, hv, _, _, hle, _⟩
      · subst hn; exact ⟨none, 0, hv, Nat.le_refl _⟩
      · exact ⟨_, c', hv, hle⟩
    obtain ⟨a', c', rfl, hle⟩ := hcap
    refine ⟨.slice a' n c', w1, ?_, hk _ _ (Gr.ofExt hw1) (by simpa using Ho1)⟩
    simp only [Builtin.append_]
    cases a' <;> simp [run_underlying ht, Go.sizeOf, typeInfo, hi, Builtin.lenOf, hle, Builtin.firstCells, storeCells]

/-- A world that grows out of an old one stays so while a row of the call's own turns. -/
theorem Own.keep {a : World} (h : Own B e s w v n xs) (hx : Ext a w) (hB : a.heap.size ≤ B) (hg : Gr (fun k => v.ownBlock = some k) w w') : Ext a w' :=
  hx.new hg fun i hi hk => by have := (Own.lt h i hk).1; omega

theorem Sl.cells {m : Nat} {ys : List Value} (h : Sl s w v m ys) : v.cells = #[v] ∧ v.oneCell' = true := by
  obtain ⟨a, cap, rfl, _⟩ := h
  exact ⟨rfl, rfl⟩

/-- '[]T{x}': the argument of an append of one element. -/
theorem VX.lit1 {t : TypeId} {z x : Value} {b : Nat} {K : Value → World → Prop} (ht : P.underlying t = some (.slice e)) (he : Elem P e z 1 b) (hx : x.cells = #[x])
    (hk : ∀ v w', Ext w w' → Sl 1 w' v 1 [x] → K v w') : VX P (Instr.buildSlice t 1 [(0, x)].toArray) w K :=
  VX.lit (m := 1) ht he rfl rfl (by intro v hv; simp at hv; subst hv; rw [hx]; rfl) (by omega) (by unfold maxLen; omega) fun v w' hw ho _ => by
    refine hk v w' hw ?_
    have := (ho 0 (Nat.zero_le _)).sl
    simpa [flat, hx] using this
theorem VE.lit1 {t : TypeId} {z x : Value} {b : Nat} {K : Value → World → Prop} (ht : P.underlying t = some (.slice e)) (he : Elem P e z 1 b) (hx : x.cells = #[x])
    (hk : ∀ v w', Ext w w' → Sl 1 w' v 1 [x] → K v w') : VE P (Instr.buildSlice t 1 [(0, x)].toArray) w K :=
  VE.lit (m := 1) ht he rfl rfl (by intro v hv; simp at hv; subst hv; rw [hx]; rfl) (by omega) (by unfold maxLen; omega) fun v w' hw ho _ => by
    refine hk v w' hw ?_
    have := (ho 0 (Nat.zero_le _)).sl
    simpa [flat, hx] using this

/-- '[]T{}'. -/
theorem VX.lit0 {t : TypeId} {z : Value} {b : Nat} {K : Value → World → Prop} (ht : P.underlying t = some (.slice e)) (he : Elem P e z s b)
    (hk : ∀ v w', Ext w w' → (∀ B, B ≤ w.heap.size → Own B e s w' v 0 []) → K v w') : VX P (Instr.buildSlice t 0 [].toArray) w K :=
  VX.lit (m := 0) ht he rfl rfl (by intro v hv; simp at hv) (by omega) (Nat.zero_le _) fun v w' hw ho _ => hk v w' hw ho
theorem VE.lit0 {t : TypeId} {z : Value} {b : Nat} {K : Value → World → Prop} (ht : P.underlying t = some (.slice e)) (he : Elem P e z s b)
    (hk : ∀ v w', Ext w w' → (∀ B, B ≤ w.heap.size → Own B e s w' v 0 []) → K v w') : VE P (Instr.buildSlice t 0 [].toArray) w K :=
  VE.lit (m := 0) ht he rfl rfl (by intro v hv; simp at hv) (by omega) (Nat.zero_le _) fun v w' hw ho _ => hk v w' hw ho

/-- An append onto a row of the call's own, made since the world a. -/
theorem VE.app {a : World} {t T : TypeId} {z x : Value} {b m : Nat} {ys : List Value} {K : Value → World → Prop} (ht : P.underlying t = some (.slice e)) (he : Elem P e z s b) (hzs : z.cells.size = s) (hs0 : 0 < s)
    (Ho : Own B e s w v n xs) (hx : Ext a w) (hB : a.heap.size = B) (Hx : Sl s w x m ys) (h1 : ∀ u ∈ ys, u.oneCell' = true) (h63 : n + m ≤ 9223372036854775807) (hb : (n + m) * b ≤ 140737488355328)
    (hk : ∀ v' w', Ext a w' → Gr (fun k => v.ownBlock = some k) w w' → Own B e s w' v' (n + m) (xs ++ ys) → K v' w') : VE P (Builtin.append_ #[t, t] T #[v, x]) w K :=
  VE.append ht he hzs hs0 Ho Hx h1 h63 hb (by rw [← hB]; exact hx.size) fun v' w' hg ho => hk v' w' (Own.keep Ho hx (by omega) hg) hg ho
end
end Go.Eng
