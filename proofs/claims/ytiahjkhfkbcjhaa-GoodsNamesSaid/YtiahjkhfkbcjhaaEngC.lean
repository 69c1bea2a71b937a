/- The engine, part C: what a quiet operation asks is enough. -/
import Derived.Test.YtiahjkhfkbcjhaaEngB
set_option linter.unusedVariables false
set_option linter.unusedSimpArgs false
namespace Go.Eng
open Go.RowKit

section
variable {P : Program} {tys : List Ty} {fr : Fr} {w : World} {K : Value → Prop}

theorem yields_pure {o : Oper} {v : Value} (h : execOp (ev fr) o = pure (.value v)) : Yields P fr o w v :=
  .inl fun w' _ => by rw [h]; rfl

theorem yields_sem {o : Oper} {v : Value} {s : Sem Value} (h : execOp (ev fr) o = (do pure (.value (← s)))) (hs : ∀ w', Ext w w' → s.run P w' = .ok v w') : Yields P fr o w v :=
  .inl fun w' hw => by rw [h]; simp [hs w' hw]

theorem vs_sound {o : Oper} {s : Sem Value} (h : execOp (ev fr) o = (do pure (.value (← s)))) (hv : VS P s w K) : ∃ v, Yields P fr o w v ∧ K v := by
  simp only [VS] at hv
  obtain ⟨v, hs, hk⟩ := hv
  exact ⟨v, yields_sem h hs, hk⟩

theorem split_yields {o : Oper} {p : Prop} [Decidable p] {s : Sem Value} {u v : Value} (h : execOp (ev fr) o = (do pure (.value (← s)))) (hs : ∀ w', s.run P w' = .ok (if p then u else v) w') (hk : Split p (K u) (K v)) :
    ∃ v, Yields P fr o w v ∧ K v := by
  simp only [Split] at hk
  refine ⟨if p then u else v, yields_sem h (fun w' _ => hs w'), ?_⟩
  by_cases hp : p
  · rw [if_pos hp]; exact hk.1 hp
  · rw [if_neg hp]; exact hk.2 hp

theorem eqGuard_int (op : BinOp) (T : TypeId) (x y : Operand) (a b : IntKind) (m n : Int) : eqGuard op T x y (.int a m) (.int b n) = pure () := by
  cases op <;> rfl

theorem eqGuard_bool (op : BinOp) (T : TypeId) (x y : Operand) (a b : Bool) : eqGuard op T x y (.bool a) (.bool b) = pure () := by
  cases op <;> rfl

theorem equal_bool {T : TypeId} (h : P.underlying T = some .bool) (a b : Bool) (w : World) : (Op.equal T (.bool a) (.bool b)).run P w = .ok (a == b) w := by
  unfold Op.equal
  rw [show Op.maxDepth = 9999 + 1 from rfl, Op.equalIn]
  simp only [Sem.run_bind, run_underlying h, Result.andThen_ok, Sem.run_pure]

theorem binq_sound (hty : TyOk P tys) {op : BinOp} {T : TypeId} {x y : Operand} {a b : Value} {o : Oper} (h : execOp (ev fr) o = (do pure (.value (← binSem op T x y a b))))
    (hk : binq P tys op T x y a b w K) : ∃ v, Yields P fr o w v ∧ K v := by
  unfold binq at hk
  split at hk
  · rename_i m n
    have hg := eqGuard_int op T x y .i64 .i64 m n
    have hb : binSem op T x y (.int .i64 m) (.int .i64 n) = binOp op T (.int .i64 m) (.int .i64 n) := by unfold binSem; rw [hg]; rfl
    split at hk
    · simp only [Rng] at hk
      refine ⟨_, yields_sem h (fun w' _ => ?_), hk.2⟩
      rw [hb]; simp only [binOp, ne_eq, not_true_eq_false, if_false, Op.intArith, Sem.run_pure, IntWalk.i64_in _ hk.1]
    · simp only [Rng] at hk
      refine ⟨_, yields_sem h (fun w' _ => ?_), hk.2⟩
      rw [hb]; simp only [binOp, ne_eq, not_true_eq_false, if_false, Op.intArith, Sem.run_pure, IntWalk.i64_in _ hk.1]
    · simp only [Rng] at hk
      refine ⟨_, yields_sem h (fun w' _ => ?_), hk.2⟩
      rw [hb]; simp only [binOp, ne_eq, not_true_eq_false, if_false, Op.intArith, Sem.run_pure, IntWalk.i64_in _ hk.1]
    · simp only [Need] at hk
      obtain ⟨⟨h0, h1, h2⟩, hK⟩ := hk
      refine ⟨_, yields_sem h (fun w' _ => ?_), hK⟩
      have hn : n ≠ 0 := by omega
      rw [hb]; simp only [binOp, ne_eq, not_true_eq_false, if_false, Op.intDiv, if_neg hn, Sem.run_pure]
      rw [IntWalk.i64_quo m n ⟨h0, h1, by omega⟩]
    · simp only [Need] at hk
      obtain ⟨⟨h0, h2⟩, hK⟩ := hk
      refine ⟨_, yields_sem h (fun w' _ => ?_), hK⟩
      have hn : n ≠ 0 := by omega
      rw [hb]; simp only [binOp, ne_eq, not_true_eq_false, if_false, Op.intDiv, if_neg hn, Sem.run_pure]
      rw [IntWalk.rem_in m n h0]
    · exact split_yields (p := m = n) h (fun w' => by rw [hb]; by_cases e : m = n <;> simp [binOp, Op.intCmp, e]) hk
    · exact split_yields (p := m = n) h (fun w' => by rw [hb]; by_cases e : m = n <;> simp [binOp, Op.intCmp, e]) hk
    · exact split_yields (p := m < n) h (fun w' => by rw [hb]; by_cases e : m < n <;> simp [binOp, Op.intCmp, e]) hk
    · exact split_yields (p := m ≤ n) h (fun w' => by rw [hb]; by_cases e : m ≤ n <;> simp [binOp, Op.intCmp, e]) hk
    · exact split_yields (p := n < m) h (fun w' => by rw [hb]; by_cases e : n < m <;> simp [binOp, Op.intCmp, e]) hk
    · exact split_yields (p := n ≤ m) h (fun w' => by rw [hb]; by_cases e : n ≤ m <;> simp [binOp, Op.intCmp, e]) hk
    · exact vs_sound h hk
  · rename_i p q
    have hg := eqGuard_bool op T x y p q
    have hb : binSem op T x y (.bool p) (.bool q) = binOp op T (.bool p) (.bool q) := by unfold binSem; rw [hg]; rfl
    have hu : tyAt tys T = .bo → P.underlying T = some .bool := by
      intro e
      have := hty.at T
      rw [e] at this
      simp only [TyB, Bool.and_eq_true] at this
      have h2 := this.2
      split at h2
      · rename_i hu; exact hu
      · cases h2
    split at hk
    · rename_i e
      rw [boolK_eq] at hk
      refine ⟨_, yields_sem h (fun w' _ => ?_), hk⟩
      rw [hb]; simp only [binOp, Sem.run_bind, equal_bool (hu e), Result.andThen_ok, Sem.run_pure]
    · rename_i e
      rw [boolK_eq] at hk
      refine ⟨_, yields_sem h (fun w' _ => ?_), hk⟩
      rw [hb]; simp only [binOp, Sem.run_bind, equal_bool (hu e), Result.andThen_ok, Sem.run_pure]; rfl
    · simp [Stuck] at hk
  · exact vs_sound h hk

theorem loadVar_one (hty : TyOk P tys) {T : TypeId} (h1 : isOne (tyAt tys T) = true) {p : Addr} {v : Value} {w' : World} (hv : w'.cell? p = some v) :
    (Instr.loadAt T (.pointer (some p))).run P w' = .ok v w' := by
  obtain ⟨hc, d, hd, hf⟩ := one_cells (hty.at T) h1
  simp [Instr.loadAt, Instr.sureAddr, loadVar, isAgg_run hd, hf, hv]

theorem ext_cells {w w' : World} (h : Ext w w') {p : Addr} {vs : List Value} (hv : ∀ (i : Nat) (x : Value), vs[i]? = some x → w.cell? (p.add i) = some x) (i : Nat) (x : Value) (hx : vs[i]? = some x) : w'.cell? (p.add i) = some x :=
  h.cell (hv i x hx)

theorem loadVar_agg {T : TypeId} {n : Nat} (hc : P.cellsOf T = n) (hn : n ≠ 0) {d : TypeDesc} (hd : P.underlying T = some d) (hf : (aggD d) = true)
    {p : Addr} {vs : List Value} (hl : vs.length = n) {w' : World} (hv : ∀ (i : Nat) (x : Value), vs[i]? = some x → w'.cell? (p.add i) = some x) :
    (Instr.loadAt T (.pointer (some p))).run P w' = .ok (.agg vs.toArray) w' := by
  have := loadCellsFrom_run (P := P) (w := w') (p := p) vs 0 #[] (by simpa using hv)
  simp [Instr.loadAt, Instr.sureAddr, loadVar, isAgg_run hd, hf, sizeOf_run hc hn, loadCells, ← hl, this]

theorem agg_ty {t : TypeId} {y : Ty} (h : TyB P t y = true) : (∀ n fs, y = .st n fs → P.cellsOf t = n ∧ n ≠ 0 ∧ ∃ g, P.underlying t = some (.struct g)) ∧
    (∀ n len s, y = .ar n len s → P.cellsOf t = n ∧ n ≠ 0 ∧ s ≠ 0 ∧ ∃ e, P.underlying t = some (.array len e) ∧ P.cellsOf e = s ∧ (s = 1 → ∃ d, P.underlying e = some d ∧ (aggD d) = false)) := by
  refine ⟨fun n fs e => ?_, fun n len s e => ?_⟩
  · subst e
    simp only [TyB, Bool.and_eq_true, beq_iff_eq, bne_iff_ne] at h
    refine ⟨h.1.1, h.1.2, ?_⟩
    have h2 := h.2
    split at h2
    · rename_i g hu; exact ⟨g, hu⟩
    · cases h2
  · subst e
    simp only [TyB, Bool.and_eq_true, beq_iff_eq, bne_iff_ne] at h
    refine ⟨h.1.1.1, h.1.1.2, h.1.2, ?_⟩
    have h2 := h.2
    split at h2
    · rename_i l e' hu
      simp only [Bool.and_eq_true, beq_iff_eq, Bool.or_eq_true, bne_iff_ne] at h2
      refine ⟨e', by rw [← h2.1.1]; exact hu, h2.1.2, fun hs => ?_⟩
      have h3 := h2.2.resolve_left (fun hh => hh hs)
      cases hd : P.underlying e' with
      | none => rw [hd] at h3; simp at h3
      | some d => refine ⟨d, rfl, ?_⟩; rw [hd] at h3; cases d <;> simp [aggD] at h3 ⊢
    · cases h2

theorem sl_ty {t : TypeId} {s : Nat} (h : TyB P t (.sl s) = true) : s ≠ 0 ∧ ∃ e, P.underlying t = some (.slice e) ∧ P.cellsOf e = s := by
  simp only [TyB, Bool.and_eq_true, beq_iff_eq, bne_iff_ne] at h
  refine ⟨h.1.2, ?_⟩
  have h2 := h.2
  split at h2
  · rename_i e hu; exact ⟨e, hu, by simpa using h2⟩
  · cases h2

theorem opq_sound (hty : TyOk P tys) (o : Oper) (h : opq P tys o.op o.type fr w K) : ∃ v, Yields P fr o w v ∧ K v := by
  obtain ⟨dst, op, T, pos, after, guard⟩ := o
  dsimp only at h
  unfold opq at h
  split at h <;> (try simp only [evK_eq] at h)
  · exact ⟨_, yields_pure rfl, h⟩
  · exact ⟨_, yields_pure rfl, h⟩
  · -- pick
    rename_i c a b
    split at h
    · rename_i e; exact ⟨_, yields_pure (by simp [execOp, e, asBool]), h⟩
    · rename_i e; exact ⟨_, yields_pure (by simp [execOp, e, asBool]), h⟩
    · simp [Stuck] at h
  · exact binq_sound hty rfl h
  · -- unOp
    split at h
    · rename_i e; exact ⟨_, yields_sem rfl (fun w' _ => by simp [e, Op.unary]), h⟩
    · rename_i e; exact ⟨_, yields_sem rfl (fun w' _ => by simp [e, Op.unary]), h⟩
    · rename_i n e
      simp only [Rng] at h
      exact ⟨_, yields_sem rfl (fun w' _ => by rw [e]; simp only [Op.unary, Op.intArith, Sem.run_pure, IntWalk.i64_in _ h.1]), h.2⟩
    · simp [Stuck] at h
  · -- convert
    rename_i src dst x
    split at h
    · rename_i n e1 e2 e
      have hs := hty.at src
      have hd := hty.at dst
      rw [e1] at hs
      rw [e2] at hd
      simp only [TyB, Bool.and_eq_true] at hs hd
      have hs2 : P.underlying src = some (.int .i64) := by have := hs.2; split at this <;> first | (rename_i hu; exact hu) | cases this
      have hd2 : P.underlying dst = some (.int .i64) := by have := hd.2; split at this <;> first | (rename_i hu; exact hu) | cases this
      simp only [Rng] at h
      refine ⟨_, yields_sem rfl (fun w' _ => ?_), h.2⟩
      rw [e]; simp only [convert, Sem.run_bind, run_underlying hs2, run_underlying hd2, Result.andThen_ok, Conv.intToInt, Sem.run_pure, IntWalk.i64_in _ h.1]
    · exact vs_sound rfl h
  · -- extract
    rename_i t i
    split at h
    · rename_i vs e
      obtain ⟨v, hv, hk⟩ := nthK_spec h
      have hv' : vs[i]? = some v := by simpa using hv
      exact ⟨v, yields_sem rfl (fun w' _ => by simp [e, Instr.extract, hv']), hk⟩
    · simp [Stuck] at h
  · -- field
    rename_i S x f
    split at h
    · rename_i cs n fs e1 e2
      have hS := hty.at S
      rw [e2] at hS
      split at h
      · rename_i off e3
        obtain ⟨g, q, hu, hq, ho, hf⟩ := st_field hS e3
        obtain ⟨v, hv, hk⟩ := nthK_spec h
        have hv' : cs[q.offset]? = some v := by rw [ho]; simpa using hv
        simp only [fieldFits, Bool.and_eq_true] at hf
        have hu2 : ∃ d, P.underlying q.type = some d ∧ (aggD d) = false := by
          have h3 := hf.2.2
          cases hd : P.underlying q.type with
          | none => rw [hd] at h3; simp at h3
          | some d => refine ⟨d, rfl, ?_⟩; rw [hd] at h3; cases d <;> simp [aggD] at h3 ⊢
        obtain ⟨d, hd, hda⟩ := hu2
        exact ⟨v, yields_sem rfl (fun w' _ => by simp [e1, Instr.field, run_underlying hu, hq, part, isAgg_run hd, hda, hv', asAgg]), hk⟩
      · rename_i off k e3
        obtain ⟨g, q, hu, hq, ho, hf⟩ := st_field hS e3
        have hk := subK_spec h
        simp only [fieldFits, Bool.and_eq_true, beq_iff_eq, bne_iff_ne] at hf
        have hu2 : ∃ d, P.underlying q.type = some d ∧ (aggD d) = true := by
          have h3 := hf.2.2
          cases hd : P.underlying q.type with
          | none => rw [hd] at h3; simp at h3
          | some d => refine ⟨d, rfl, ?_⟩; rw [hd] at h3; cases d <;> simp [aggD] at h3 ⊢
        obtain ⟨d, hd, hda⟩ := hu2
        have hoff : q.offset = off := ho
        refine ⟨_, yields_sem rfl (fun w' _ => ?_), hk⟩
        simp [e1, Instr.field, run_underlying hu, hq, part, isAgg_run hd, hda, sizeOf_run hf.2.1.1 hf.2.1.2, asAgg, hoff]
        apply Array.toList_inj.1
        simp [Array.toList_extract, List.extract]
      · simp [Stuck] at h
    · simp [Stuck] at h
  · -- fieldAddr
    rename_i S x f
    split at h
    · rename_i p n fs e1 e2
      have hS := hty.at S
      rw [e2] at hS
      split at h
      · rename_i off sz e3
        obtain ⟨g, q, hu, hq, ho, hf⟩ := st_field hS e3
        have hne : P.cellsOf q.type ≠ 0 := by
          simp only [fieldFits, Bool.and_eq_true] at hf
          have h2 := hf.2
          cases sz <;> simp only [Bool.and_eq_true, beq_iff_eq, bne_iff_ne] at h2 <;> omega
        have hoff : q.offset = off := ho
        refine ⟨_, yields_sem rfl (fun w' _ => ?_), h⟩
        simp [e1, Instr.fieldAt, run_underlying hu, hq, Instr.sureAddr, fieldPlace, sizeOf_run rfl hne, hne, hoff]
      · simp [Stuck] at h
    · simp [Stuck] at h
  · -- indexAddr
    rename_i S x i
    split at h
    · rename_i s e2
      have hS := hty.at S
      rw [e2] at hS
      obtain ⟨hs0, e, hu, hce⟩ := sl_ty hS
      simp only [Ix] at h
      obtain ⟨a, n, cap, j, hv, hj, h0, h1, hk⟩ := h
      refine ⟨_, yields_sem rfl (fun w' _ => ?_), hk⟩
      rw [hv, hj]
      simp [Instr.indexAt, asIntOf, run_underlying hu, h0, h1, sizeOf_run hce hs0, ea]
    · rename_i n len s e2
      have hS := hty.at S
      rw [e2] at hS
      obtain ⟨_, _, hs0, e, hu, hce, _⟩ := (agg_ty hS).2 _ _ _ rfl
      split at h
      · rename_i p e1
        simp only [IxA] at h
        obtain ⟨j, hj, h0, h1, hk⟩ := h
        refine ⟨_, yields_sem rfl (fun w' _ => ?_), hk⟩
        rw [e1, hj]
        simp [Instr.indexAt, asIntOf, run_underlying hu, h0, h1, sizeOf_run hce hs0, Instr.sureAddr]
      · simp [Stuck] at h
    · simp [Stuck] at h
  · -- index
    rename_i S x i
    split at h
    · rename_i n len cs k e2 e1 e3
      have hS := hty.at S
      rw [e2] at hS
      obtain ⟨_, _, hs0, e, hu, hce, hone⟩ := (agg_ty hS).2 _ _ _ rfl
      obtain ⟨d, hd, hda⟩ := hone rfl
      simp only [Need] at h
      obtain ⟨hlt, h⟩ := h
      obtain ⟨v, hv, hk⟩ := nthK_spec h
      have hv' : cs[k]? = some v := by simpa using hv
      refine ⟨v, yields_sem rfl (fun w' _ => ?_), hk⟩
      rw [e1, e3]
      simp [Instr.index, asIntOf, run_underlying hu, hlt, sizeOf_run hce (by omega), part, isAgg_run hd, hda, hv']
    · exact vs_sound rfl h
  · -- load
    rename_i T' a
    split at h
    · rename_i p e1
      have hT := hty.at T'
      split at h
      any_goals
        rename_i e2
        simp only [Ld] at h
        obtain ⟨v, hv, hk⟩ := h
        refine ⟨v, yields_sem rfl (fun w' hw => ?_), hk⟩
        rw [e1]
        exact loadVar_one hty (by rw [e2]; rfl) (hw.cell hv)
      · rename_i n fs e2
        rw [e2] at hT
        obtain ⟨hc, hn, g, hu⟩ := (agg_ty hT).1 _ _ rfl
        simp only [LdN] at h
        obtain ⟨vs, hl, hv, hk⟩ := h
        refine ⟨_, yields_sem rfl (fun w' hw => ?_), hk⟩
        rw [e1]
        exact loadVar_agg hc hn hu rfl hl (ext_cells hw hv)
      · rename_i n len s e2
        rw [e2] at hT
        obtain ⟨hc, hn, _, e, hu, _⟩ := (agg_ty hT).2 _ _ _ rfl
        simp only [LdN] at h
        obtain ⟨vs, hl, hv, hk⟩ := h
        refine ⟨_, yields_sem rfl (fun w' hw => ?_), hk⟩
        rw [e1]
        exact loadVar_agg hc hn hu rfl hl (ext_cells hw hv)
      · simp [Stuck] at h
    · simp [Stuck] at h
  · -- nilCheck
    split at h
    · rename_i e; exact ⟨_, .inl (fun w' _ => by simp [execOp, e]), h⟩
    · rename_i e; exact ⟨_, .inl (fun w' _ => by simp [execOp, e]), h⟩
    · simp [Stuck] at h
  · -- makeFunc
    rename_i fn first captured
    simp only [argsK_eq] at h
    refine ⟨_, yields_sem rfl (fun w' _ => ?_), h⟩
    have e1 : first.map (ev fr) = (first.toList.map (ev fr)).toArray := by rw [← Array.toList_map]
    have e2 : captured.map (ev fr) = (captured.toList.map (ev fr)).toArray := by rw [← Array.toList_map]
    rw [e1, e2]; rfl
  · -- build
    rename_i S parts
    rw [partsK_eq] at h
    have e : parts.map (fun (i, x) => (i, ev fr x)) = (parts.toList.map fun (i, x) => (i, ev fr x)).toArray := by rw [← Array.toList_map]
    refine vs_sound ?_ h
    rw [← e]; rfl
  · exact vs_sound rfl h
  · -- slice
    simp only [optK_eq] at h
    exact vs_sound rfl h
  · -- call
    rename_i c
    split at h
    · rename_i b hcal
      rw [argsK_eq] at h
      have hrun : ∀ (s : Sem Value), (∀ cs, builtin b c.argTypes T cs (c.args.map (ev fr)) = (do pure (.value (← s)))) → execOp (ev fr) ⟨dst, .call c, T, pos, after, guard⟩ = (do pure (.value (← s))) := by
        intro s hs
        simp only [execOp, resolve, hcal, invoke]
        exact hs _
      have hargs : c.args.map (ev fr) = (c.args.toList.map (ev fr)).toArray := by rw [← Array.toList_map]
      split at h
      · rename_i v t hvs hts
        have hat : c.argTypes = #[t] := by rw [← hts]
        split at h
        · rename_i s e2
          have hS := hty.at t
          rw [e2] at hS
          obtain ⟨_, e, hu, _⟩ := sl_ty hS
          simp only [Ln] at h
          obtain ⟨a, n, cap, hv, hk⟩ := h
          refine ⟨_, yields_sem (hrun (Builtin.len_ c.argTypes T (c.args.map (ev fr))) (fun _ => rfl)) (fun w' _ => ?_), hk⟩
          rw [hargs, hvs, hat, hv]
          simp [Builtin.len_, run_underlying hu, goInt]
        · exact vs_sound (hrun _ (fun _ => by rw [hargs, hvs]; rfl)) h
      · rename_i m n hvs
        exact split_yields (p := n < m) (hrun (Builtin.min_ c.argTypes T (c.args.map (ev fr))) (fun _ => rfl)) (fun w' => by rw [hargs, hvs]; by_cases e : n < m <;> simp [Builtin.min_, Builtin.min2, e]) h
      · rename_i m n hvs
        exact split_yields (p := m < n) (hrun (Builtin.max_ c.argTypes T (c.args.map (ev fr))) (fun _ => rfl)) (fun w' => by rw [hargs, hvs]; by_cases e : m < n <;> simp [Builtin.max_, Builtin.max2, e]) h
      · simp [Stuck] at h
    · rename_i f hcal
      split at h
      · rename_i g first captured hf
        simp only [argsK_eq, appK_eq, VCQ] at h
        obtain ⟨v, hpc, hk⟩ := h
        refine ⟨v, .inr ⟨g, _, hpc, fun w' _ => ?_⟩, hk⟩
        have hfn := hpc
        simp only [PC] at hfn
        obtain ⟨⟨fn, h1, h2, h3⟩, _⟩ := hfn
        have e : execOp (ev fr) ⟨dst, .call c, T, pos, after, guard⟩ = callFunc g (first ++ c.args.map (ev fr) ++ captured) := by
          simp only [execOp, resolve, hcal, hf, Deferred.ofValue, pure_bind, invoke]
        have ea : first ++ c.args.map (ev fr) ++ captured = (first.toList ++ c.args.toList.map (ev fr) ++ captured.toList).toArray := by
          apply Array.toList_inj.1; simp
        rw [e, ea]
        simp only [callFunc, Sem.run_bind, run_program, Result.andThen_ok, h1, h2, h3, Bool.false_eq_true, if_false, Sem.run_pure]
      · simp [Stuck] at h
    · simp [Stuck] at h
  · simp [Stuck] at h
end
end Go.Eng
