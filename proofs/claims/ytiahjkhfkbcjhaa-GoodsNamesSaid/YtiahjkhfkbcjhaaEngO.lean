/- The engine, part O: any region that draws its order, by a plan: quiet operations first, then each effect that may come up. -/
import Derived.Test.YtiahjkhfkbcjhaaEngN
set_option linter.unusedVariables false
set_option linter.unusedSimpArgs false
namespace Go.Eng
open Go.RowKit

section
variable {P : Program} {ops : Array Oper} {Q : Exit → Act → World → Prop} {md : Region.Mode}

/-- An operation that succeeds with a value. -/
def ok1 (P : Program) (o : Oper) (ρ : Operand → Value) (w : World) (K : Value → World → Prop) : Prop :=
  match (execOp ρ o).run P w with
  | .ok (.value v) w' => K v w'
  | .ok .skip w' => K undef w'
  | .ok (.enter f args) w' => Calls P f args w' fun e w'' => ∃ v, e = .returned v ∧ K v w''
  | .ok (.row row args) w' => Rows P row args w' K
  | _ => False

theorem ok1_mono {o : Oper} {ρ : Operand → Value} {w : World} {K K' : Value → World → Prop} (h : ok1 P o ρ w K) (hk : ∀ v w', K v w' → K' v w') : ok1 P o ρ w K' := by
  unfold ok1 at *
  split at h
  · exact hk _ _ h
  · exact hk _ _ h
  · exact h.mono fun e w'' ⟨v, he, hv⟩ => ⟨v, he, hk v w'' hv⟩
  · exact h.mono fun v w'' hv => hk v w'' hv
  · exact h.elim

theorem ok1_congr {o : Oper} {ρ ρ' : Operand → Value} {w : World} {K : Value → World → Prop} (h : execOp ρ o = execOp ρ' o) : ok1 P o ρ w K = ok1 P o ρ' w K := by
  unfold ok1; rw [h]

theorem wp_of_ok1 {o : Oper} {a : Act} {w : World} {next : Act → World → Prop} (h : ok1 P o a.eval w fun v w' => next (a.put o.dst v) w') : o.wp P a w next Q := by
  unfold ok1 at h
  unfold Oper.wp
  split at h
  · rename_i e; rw [e]; exact h
  · rename_i e; rw [e]; exact h
  · rename_i e
    rw [e, Oper.upon_enter]
    refine h.mono fun e w'' ⟨v, he, hv⟩ => ?_
    subst he; exact hv
  · rename_i e; rw [e]; exact h
  · exact h.elim

theorem ok1_of_wp {o : Oper} {a : Act} {w : World} {next : Act → World → Prop} (hd : ∀ a' w', next a' w' → a'.defers = [])
    (h : o.wp P a w next (fun _ _ _ => False)) : ok1 P o a.eval w fun v w' => next (a.put o.dst v) w' := by
  unfold Oper.wp at h
  unfold ok1
  generalize he : (execOp a.eval o).run P w = r at *
  cases r with
  | ok n w' =>
    cases n with
    | value v => exact h
    | skip => exact h
    | defer d =>
      have := hd _ _ h
      cases hdst : o.dst <;> rw [hdst] at this <;> simp [Act.put] at this
    | row r args => exact h
    | enter f args =>
      rw [Oper.upon_enter] at h
      refine h.mono fun e w'' hh => ?_
      cases e with
      | returned v => exact ⟨v, rfl, hh⟩
      | panicked c => exact hh.elim
      | outgrown => obtain ⟨_, _, h⟩ := hh; exact h.elim
    | _ => exact h.elim
  | halt x w' => cases x <;> exact h.elim

/-- One step of a region. -/
def stepS (P : Program) (ops : Array Oper) (wr : List Nat) (i : Nat) (K : Act → World → Prop) (a : Act) (w : World) : Prop :=
  match ops[i]? with
  | none => K a w
  | some o => if Region.wanted o (yielded ops a.tmps) = true then ok1 P o a.eval w (fun v w' => (i ∉ wr → Ext w w') ∧ K (a.put o.dst v) w') else K (a.put o.dst undef) w

def anyS (P : Program) (md : Region.Mode) (ops : Array Oper) (wr : List Nat) (Qf : Act → World → Prop) : Nat → Array Bool → Act → World → Prop
  | 0, listed, a, w => Region.ready md ops listed = [] ∧ Qf a w
  | n + 1, listed, a, w => (Region.ready md ops listed = [] → Qf a w) ∧ ∀ i ∈ Region.ready md ops listed, stepS P ops wr i (anyS P md ops wr Qf n (listed.setIfInBounds i true)) a w

theorem any_of_anyS {wr : List Nat} {Qf : Act → World → Prop} (hQ : ∀ a w, Qf a w → Q .normal a w) : ∀ (n : Nat) (listed : Array Bool) (a : Act) (w : World), anyS P md ops wr Qf n listed a w → wpAny P md ops Q n listed a w
  | 0, _, _, _, h => ⟨h.1, hQ _ _ h.2⟩
  | n + 1, listed, a, w, h => by
    refine ⟨fun hr => hQ _ _ (h.1 hr), fun i hi => ?_⟩
    have := h.2 i hi
    unfold stepS at this
    unfold wpOp
    split
    · rename_i ho; rw [ho] at this; exact any_of_anyS hQ n _ a w this
    · rename_i o ho
      rw [ho] at this
      simp only at this
      split
      · rename_i hw
        rw [if_pos hw] at this
        exact .inl (wp_of_ok1 (ok1_mono this fun v w' hv => any_of_anyS hQ n _ _ w' hv.2))
      · rename_i hw
        rw [if_neg hw] at this
        exact any_of_anyS hQ n _ _ w this

/-! ### what an operation looks at -/
theorem map_parts {ρ ρ' : Operand → Value} {ps : Array (Nat × Operand)} (h : ∀ x ∈ (ps.toList.map (·.2)).toArray, ρ x = ρ' x) : ps.map (fun (i, x) => (i, ρ x)) = ps.map (fun (i, x) => (i, ρ' x)) := by
  apply Array.map_congr_left
  rintro ⟨i, x⟩ hx
  have : ρ x = ρ' x := h x (by simp; exact ⟨i, hx⟩)
  simp [this]

def plainOp : Op → Bool
  | .go _ | .defer _ | .select _ _ | .send _ _ | .recv _ _ _ | .panic _ => false
  | .call c => match c.callee with | .invoke _ _ => false | _ => true
  | _ => true

theorem exec_local {ρ ρ' : Operand → Value} (o : Oper) (hp : plainOp o.op = true) (h : ∀ x ∈ o.op.operands, ρ x = ρ' x) : execOp ρ o = execOp ρ' o := by
  obtain ⟨dst, op, T, pos, after, guard⟩ := o
  cases op
  case build t ps => simp only [execOp]; rw [map_parts (by simpa [Op.operands] using h)]
  case buildSlice t n ps => simp only [execOp]; rw [map_parts (by simpa [Op.operands] using h)]
  case makeFunc fn f c =>
    simp only [Op.operands, Array.mem_append] at h
    simp only [execOp]
    rw [Array.map_congr_left (fun x hx => h x (.inl hx)), Array.map_congr_left (fun x hx => h x (.inr hx))]
  case call c =>
    simp only [Op.operands, Call.operands, Array.mem_append] at h
    have ha : c.args.map ρ = c.args.map ρ' := Array.map_congr_left (fun x hx => h x (.inr hx))
    cases hc : c.callee with
    | value f => rw [hc] at h; simp only [execOp, resolve, hc, ha, h f (.inl (by simp))]
    | builtin b => simp only [execOp, resolve, hc, ha]
    | invoke r m => simp [plainOp, hc] at hp
  case slice t x l hh m =>
    simp [Op.operands] at h
    simp only [execOp]
    have e1 := h.1
    have e2 : l.map ρ = l.map ρ' := by cases l with | none => rfl | some y => simp [h.2 y (.inl rfl)]
    have e3 : hh.map ρ = hh.map ρ' := by cases hh with | none => rfl | some y => simp [h.2 y (.inr (.inl rfl))]
    have e4 : m.map ρ = m.map ρ' := by cases m with | none => rfl | some y => simp [h.2 y (.inr (.inr rfl))]
    rw [e1, e2, e3, e4]
  case makeMap t r =>
    simp [Op.operands] at h
    simp only [execOp]
    have e2 : r.map ρ = r.map ρ' := by cases r with | none => rfl | some y => simp [h y (by simp)]
    rw [e2]
  all_goals first | (simp [plainOp] at hp; done) | (simp [Op.operands] at h; simp [execOp, h])

def isTmp (d : Tmp) : Operand → Bool
  | .tmp t => t == d
  | _ => false
theorem eval_put {a : Act} {d : Option Tmp} {v : Value} {x : Operand} (h : ∀ t, d = some t → isTmp t x = false) : (a.put d v).eval x = a.eval x := by
  cases d with
  | none => rfl
  | some t =>
    have := h t rfl
    cases x <;> simp [Act.eval, Act.put, isTmp] at *
    rename_i s
    rw [Array.getElem?_setIfInBounds_ne (fun e => this e.symm)]

/-- The destination of the one is not looked at by the other. -/
def apartB (ops : Array Oper) (x y : Oper) : Bool :=
  match x.dst with
  | none => true
  | some d => (y.op.operands.all fun z => !isTmp d z) && (match y.guard with | none => true | some (g, _) => (ops[g]?).bind (·.dst) != some d)
def sepB (ops : Array Oper) (x y : Oper) : Bool := apartB ops x y && apartB ops y x && (x.dst.isNone || x.dst != y.dst)

theorem put_comm {a : Act} {d e : Option Tmp} {v u : Value} (h : d.isNone = true ∨ d ≠ e) : (a.put d v).put e u = (a.put e u).put d v := by
  cases d with
  | none => rfl
  | some d => cases e with
    | none => rfl
    | some e =>
      have hde : d ≠ e := by
        rcases h with h | h
        · simp at h
        · exact fun e => h (by rw [e])
      simp only [Act.put]
      rw [Array.setIfInBounds_comm _ _ hde]

theorem wanted_put {x y : Oper} {a : Act} {v : Value} (h : apartB ops x y = true) : Region.wanted y (yielded ops (a.put x.dst v).tmps) = Region.wanted y (yielded ops a.tmps) := by
  unfold Region.wanted
  split
  · rfl
  · rename_i g b e
    have : yielded ops (a.put x.dst v).tmps g = yielded ops a.tmps g := by
      unfold apartB at h
      cases hd : x.dst with
      | none => rfl
      | some d =>
        rw [hd, e] at h
        simp only [Bool.and_eq_true, bne_iff_ne, ne_eq] at h
        unfold yielded
        cases hg : (ops[g]?).bind (·.dst) with
        | none => rfl
        | some t =>
          have ht : d ≠ t := fun e => h.2 (by rw [hg, e])
          simp only [Option.bind_some, Act.put]
          rw [Array.getElem?_setIfInBounds_ne ht]
    rw [this]

theorem exec_put {x y : Oper} {a : Act} {v : Value} (hp : plainOp y.op = true) (h : apartB ops x y = true) : execOp (a.put x.dst v).eval y = execOp a.eval y := by
  refine exec_local y hp fun z hz => eval_put fun t ht => ?_
  unfold apartB at h
  rw [ht] at h
  simp only [Bool.and_eq_true, Array.all_eq_true', Bool.not_eq_eq_eq_not, Bool.not_true] at h
  exact h.1 z hz

/-! ### what must come ahead -/
def befB (md : Region.Mode) (ops : Array Oper) : Nat → Nat → Nat → Bool
  | 0, i, j => Region.waitsFor md ops j i
  | f + 1, i, j => Region.waitsFor md ops j i || (List.range ops.size).any fun k => Region.waitsFor md ops j k && befB md ops f i k

def Closed (md : Region.Mode) (ops : Array Oper) (listed : Array Bool) : Prop := ∀ j k, listed.getD j false = true → Region.waitsFor md ops j k = true → listed.getD k false = true

theorem befB_spec {listed : Array Bool} (hc : Closed md ops listed) {i : Nat} : ∀ (f j : Nat), (∀ k, Region.waitsFor md ops j k = true → listed.getD k false = true) → befB md ops f i j = true → listed.getD i false = true
  | 0, j, hj, h => hj i h
  | f + 1, j, hj, h => by
    unfold befB at h
    rw [Bool.or_eq_true] at h
    rcases h with h | h
    · exact hj i h
    · obtain ⟨k, _, hk⟩ := List.any_eq_true.1 h
      rw [Bool.and_eq_true] at hk
      exact befB_spec hc f k (fun m hm => hc k m (hj k hk.1) hm) hk.2

theorem ready_waits {listed : Array Bool} {j : Nat} (h : j ∈ Region.ready md ops listed) : ∀ k, Region.waitsFor md ops j k = true → listed.getD k false = true := by
  intro k hk
  obtain ⟨_, o, ho, ha⟩ := mem_ready.1 h
  obtain ⟨o', ho', e, he, hb, rfl⟩ := Region.waitsFor_spec hk
  rw [ho] at ho'; cases ho'
  exact ha e he hb

theorem getD_set {listed : Array Bool} {j k : Nat} (hk : listed.getD k false = true) : (listed.setIfInBounds j true).getD k false = true := by
  simp only [Array.getD_eq_getD_getElem?, Array.getElem?_setIfInBounds] at *
  split
  · rename_i e
    subst e
    split
    · rfl
    · rename_i h
      rw [Array.getElem?_eq_none (by omega)] at hk; simp at hk
  · exact hk

theorem closed_set {listed : Array Bool} (hc : Closed md ops listed) {j : Nat} (h : j ∈ Region.ready md ops listed) : Closed md ops (listed.setIfInBounds j true) := by
  intro m k hm hk
  have mono : ∀ k, listed.getD k false = true → (listed.setIfInBounds j true).getD k false = true := fun k hk => getD_set hk
  by_cases e : m = j
  · subst e; exact mono k (ready_waits h k hk)
  · refine mono k (hc m k ?_ hk)
    simp only [Array.getD_eq_getD_getElem?] at *
    rwa [Array.getElem?_setIfInBounds_ne (fun h => e h.symm)] at hm

theorem ready_set {listed : Array Bool} {i j : Nat} (hij : j ≠ i) (h : j ∈ Region.ready md ops listed) : j ∈ Region.ready md ops (listed.setIfInBounds i true) := by
  obtain ⟨h1, o, ho, ha⟩ := mem_ready.1 h
  refine mem_ready.2 ⟨?_, o, ho, fun e he hb => ?_⟩
  · simp only [Array.getD_eq_getD_getElem?] at *
    rwa [Array.getElem?_setIfInBounds_ne (fun h => hij h.symm)]
  · exact getD_set (ha e he hb)

theorem unlisted {listed : Array Bool} {j : Nat} (h : j ∈ Region.ready md ops listed) : listed.getD j false = false := by
  have := (mem_ready.1 h).1
  simp only [Array.getD_eq_getD_getElem?] at *
  cases hh : listed[j]? with
  | none => rfl
  | some b => rw [hh] at this; simpa using this

/-- A quiet operation that may come up may be taken first. -/
theorem insert_quiet {wr : List Nat} {Qf : Act → World → Prop} {i : Nat} {oi : Oper} {C : World → Prop} {v : Value} (hi : ops[i]? = some oi) (hpl : ∀ (j : Nat) (o : Oper), ops[j]? = some o → plainOp o.op = true)
    (hsep : ∀ (j : Nat) (oj : Oper), j ≠ i → ops[j]? = some oj → Region.waitsFor md ops j i = true ∨ Region.waitsFor md ops i j = true ∨ sepB ops oi oj = true)
    (hCx : ∀ w w', C w → Ext w w' → C w') (hwr : (∀ w, C w) ∨ ∀ j ∈ wr, j ≠ i → ∃ f, befB md ops f i j = true ∨ befB md ops f j i = true) (hni : i ∉ wr) :
    ∀ (n : Nat) (listed : Array Bool) (a : Act) (w : World), C w → Closed md ops listed → i ∈ Region.ready md ops listed →
      ((Region.wanted oi (yielded ops a.tmps) = true ∧ ∀ w, C w → (execOp a.eval oi).run P w = .ok (.value v) w) ∨ (Region.wanted oi (yielded ops a.tmps) = false ∧ v = undef)) →
      anyS P md ops wr Qf n (listed.setIfInBounds i true) (a.put oi.dst v) w → anyS P md ops wr Qf (n + 1) listed a w := by
  intro n
  induction n with
  | zero =>
    intro listed a w hC hcl hir hq h
    refine ⟨fun h0 => (by rw [h0] at hir; cases hir), fun j hj => ?_⟩
    by_cases e : j = i
    · subst e
      unfold stepS
      rw [hi]
      dsimp only
      rcases hq with ⟨h1, h2⟩ | ⟨h1, rfl⟩
      · rw [if_pos h1]; unfold ok1; rw [h2 w hC]; exact ⟨fun _ => Ext.refl w, h⟩
      · rw [if_neg (by rw [h1]; simp)]; exact h
    · have := ready_set e hj
      rw [h.1] at this; cases this
  | succ m ih =>
    intro listed a w hC hcl hir hq h
    refine ⟨fun h0 => (by rw [h0] at hir; cases hir), fun j hj => ?_⟩
    by_cases e : j = i
    · subst e
      unfold stepS
      rw [hi]
      dsimp only
      rcases hq with ⟨h1, h2⟩ | ⟨h1, rfl⟩
      · rw [if_pos h1]; unfold ok1; rw [h2 w hC]; exact ⟨fun _ => Ext.refl w, h⟩
      · rw [if_neg (by rw [h1]; simp)]; exact h
    · have hj' := ready_set e hj
      have h3 := h.2 j hj'
      obtain ⟨_, oj, hoj, _⟩ := mem_ready.1 hj
      have hs : sepB ops oi oj = true := by
        rcases hsep j oj e hoj with h4 | h4 | h4
        · have := ready_waits hj i h4
          rw [unlisted hir] at this; cases this
        · have := ready_waits hir j h4
          rw [unlisted hj] at this; cases this
        · exact h4
      unfold sepB at hs
      simp only [Bool.and_eq_true] at hs
      have hdd : oi.dst.isNone = true ∨ oi.dst ≠ oj.dst := by
        have := hs.2
        rw [Bool.or_eq_true] at this
        exact this.imp id (by simp)
      have step : ∀ (u : Value) (w'' : World), C w'' → anyS P md ops wr Qf m ((listed.setIfInBounds i true).setIfInBounds j true) ((a.put oi.dst v).put oj.dst u) w'' → anyS P md ops wr Qf (m + 1) (listed.setIfInBounds j true) (a.put oj.dst u) w'' := by
        intro u w'' hC2 h5
        refine ih _ _ _ hC2 (closed_set hcl hj) (ready_set (fun h => e h.symm) hir) ?_ ?_
        · rw [wanted_put hs.1.2, exec_put (hpl i oi hi) hs.1.2]; exact hq
        · rw [Array.setIfInBounds_comm _ _ (fun h => e h.symm), put_comm hdd] at h5
          exact h5
      unfold stepS at h3 ⊢
      rw [hoj] at h3 ⊢
      simp only at h3 ⊢
      rw [wanted_put hs.1.1, ok1_congr (exec_put (hpl j oj hoj) hs.1.1)] at h3
      by_cases hw : Region.wanted oj (yielded ops a.tmps) = true
      · rw [if_pos hw] at h3 ⊢
        refine ok1_mono h3 fun u w'' hv => ⟨hv.1, step u w'' ?_ hv.2⟩
        by_cases hjw : j ∈ wr
        · rcases hwr with h6 | h6
          · exact h6 w''
          · obtain ⟨f, hf | hf⟩ := h6 j hjw e
            · have := befB_spec hcl f j (ready_waits hj) hf
              rw [unlisted hir] at this; cases this
            · have := befB_spec hcl f i (ready_waits hir) hf
              rw [unlisted hj] at this; cases this
        · exact hCx w w'' hC (hv.1 hjw)
      · rw [if_neg hw] at h3 ⊢
        exact step undef w hC h3

/-! ### quiet operations -/
def isQ : Op → Bool
  | .move _ | .assign _ | .pick _ _ _ | .binOp _ _ _ _ _ | .unOp _ _ _ | .convert _ _ _ | .extract _ _ | .field _ _ _ | .fieldAddr _ _ _ | .indexAddr _ _ _ | .index _ _ _ | .load _ _ | .build _ _ | .lookup _ _ _ _ | .slice _ _ _ _ _ | .makeFunc _ _ _ => true
  | .nilCheck _ => true
  | .call c => match c.callee with | .builtin .len => true | .builtin .cap => true | .builtin .min => true | .builtin .max => true | _ => false
  | _ => false
/-- Whatever the world. -/
def isFree : Op → Bool
  | .move _ | .assign _ => true
  | _ => false

theorem noEnter {s : Sem Value} {w w' : World} {f : FuncId} {args : Array Value} : ((do pure (Next.value (← s))) : Sem Next).run P w ≠ .ok (.enter f args) w' := by
  simp only [Sem.run_bind]
  cases s.run P w <;> simp [Result.andThen]

theorem quiet_value {o : Oper} {fr : Fr} {w : World} {v : Value} (hq : isQ o.op = true) (h : Yields P fr o w v) : ∀ w', Ext w w' → (execOp (ev fr) o).run P w' = .ok (.value v) w' := by
  rcases h with h | ⟨f, args, _, h⟩
  · exact h
  · exfalso
    have h0 := h w (Ext.refl w)
    obtain ⟨dst, op, T, pos, after, guard⟩ := o
    cases op <;> simp only [isQ, Bool.false_eq_true] at hq <;> first | exact noEnter h0 | skip
    case move x => simp [execOp] at h0
    case assign x => simp [execOp] at h0
    case pick c a b =>
      simp only [execOp, Sem.run_bind] at h0
      cases hh : (asBool (ev fr c)).run P w with
      | ok b w1 => rw [hh] at h0; simp [Result.andThen] at h0
      | halt x w1 => rw [hh] at h0; simp [Result.andThen] at h0
    case nilCheck x =>
      simp only [execOp] at h0
      split at h0
      · simp [runtimePanic, goPanic] at h0
      · simp [runtimePanic, goPanic] at h0
      · simp [runtimePanic, goPanic] at h0
      · split at h0
        · simp [runtimePanic, goPanic] at h0
        · simp only [Sem.run_bind] at h0
          revert h0
          simp only [run_program, Result.andThen_ok]
          generalize (nilAhead _ _ _ _).run P w = r
          cases r with
          | halt x1 w1 => simp [Result.andThen]
          | ok a w1 =>
            simp only [Result.andThen_ok]
            split <;> simp [unsupported]
        · simp at h0
      · simp at h0
    case call c =>
      cases hc : c.callee with
      | value f => simp [hc] at hq
      | invoke r m => simp [hc] at hq
      | builtin b =>
        rw [hc] at hq
        cases b <;> simp at hq
        all_goals
          simp only [execOp, resolve, hc, pure_bind, invoke] at h0
          exact noEnter h0

theorem quiet_free {o : Oper} {ρ : Operand → Value} {w w' : World} {v : Value} (hf : isFree o.op = true) (h : (execOp ρ o).run P w = .ok (.value v) w) : (execOp ρ o).run P w' = .ok (.value v) w' := by
  obtain ⟨dst, op, T, pos, after, guard⟩ := o
  cases op <;> simp only [isFree, Bool.false_eq_true] at hf
  all_goals
    simp only [execOp, Sem.run_pure, Result.ok.injEq, Next.value.injEq] at h ⊢
    exact ⟨h.1, trivial⟩

/-! ### effects -/
@[irreducible] def VCX (P : Program) (f : FuncId) (args : List Value) (w : World) (K : Value → World → Prop) : Prop :=
  IsFn P f ∧ ∀ w', Ext w w' → Calls P f args.toArray w' fun e w'' => ∃ v, e = .returned v ∧ Ext w' w'' ∧ ∃ wb, Ext wb w'' ∧ K v wb

/-- An effect that leaves all old blocks as they are. -/
def opx (P : Program) (_tys : List Ty) (o : Op) (fr : Fr) (w : World) (K : Value → World → Prop) : Prop :=
  match o with
  | .box T' x => evK fr x fun v => Bx T' v w K
  | .alloc T' => VX P (Instr.alloc T' true (.tuple #[])) w K
  | .makeSlice T' l c => evK fr l fun l => evK fr c fun c => VX P (Instr.makeSlice T' l c) w K
  | .buildSlice T' n parts => partsK fr parts.toList fun ps => VX P (Instr.buildSlice T' n ps.toArray) w K
  | .makeMap T' r => optK fr r fun r => VX P (Instr.makeMap T' r) w K
  | .call c => match c.callee with
    | .value f => evK fr f fun fv => match fv with
      | .func (.func g) first captured => argsK fr c.args.toList fun vs => appK first.toList vs fun us => appK us captured.toList fun ts => VCX P g ts w K
      | _ => Stuck 42
    | _ => Stuck 41
  | _ => Stuck 40

theorem ok1_sem {o : Oper} {fr : Fr} {w w' : World} {s : Sem Value} {K : Value → World → Prop} (hw : Ext w w') (he : execOp (ev fr) o = (do pure (.value (← s)))) (h : VX P s w K) :
    ok1 P o (ev fr) w' fun v w'' => Ext w' w'' ∧ ∃ wb, Ext wb w'' ∧ K v wb := by
  simp only [VX] at h
  obtain ⟨v, w'', hr, hx⟩ := h w' hw
  unfold ok1
  rw [he]
  simp only [Sem.run_bind, hr, Result.andThen_ok, Sem.run_pure]
  exact hx

theorem opx_sound {tys : List Ty} (o : Oper) {fr : Fr} {w w' : World} {K : Value → World → Prop} (hw : Ext w w') (h : opx P tys o.op fr w K) :
    ok1 P o (ev fr) w' fun v w'' => Ext w' w'' ∧ ∃ wb, Ext wb w'' ∧ K v wb := by
  obtain ⟨dst, op, T, pos, after, guard⟩ := o
  dsimp only at h
  unfold opx at h
  split at h
  · rename_i T' x
    rw [evK_eq] at h
    simp only [Bx] at h
    unfold ok1
    simp only [execOp, Instr.box, newVar, newRow, Sem.run_bind, run_newObj_alloc, Result.andThen_ok, Sem.run_pure]
    exact ⟨(Ext.refl w').alloc _, _, Ext.refl _, h w' hw⟩
  · exact ok1_sem hw rfl h
  · simp only [evK_eq] at h; exact ok1_sem hw rfl h
  · rename_i T' n parts
    rw [partsK_eq] at h
    have e : parts.map (fun (i, x) => (i, ev fr x)) = (parts.toList.map fun (i, x) => (i, ev fr x)).toArray := by rw [← Array.toList_map]
    refine ok1_sem hw ?_ h
    rw [← e]; rfl
  · rw [optK_eq] at h; exact ok1_sem hw rfl h
  · rename_i c
    split at h
    · rename_i f hcal
      rw [evK_eq] at h
      split at h
      · rename_i g first captured hf
        simp only [argsK_eq, appK_eq, VCX] at h
        obtain ⟨⟨fn, h1, h2, h3⟩, hcall⟩ := h
        have e : execOp (ev fr) ⟨dst, .call c, T, pos, after, guard⟩ = callFunc g (first ++ c.args.map (ev fr) ++ captured) := by
          simp only [execOp, resolve, hcal, hf, Deferred.ofValue, pure_bind, invoke]
        have ea : first ++ c.args.map (ev fr) ++ captured = (first.toList ++ c.args.toList.map (ev fr) ++ captured.toList).toArray := by
          apply Array.toList_inj.1; simp
        unfold ok1
        rw [e, ea]
        simp only [callFunc, Sem.run_bind, run_program, Result.andThen_ok, h1, h2, h3, Bool.false_eq_true, if_false, Sem.run_pure]
        exact hcall w' hw
      · simp [Stuck] at h
    · simp [Stuck] at h
  · simp [Stuck] at h

theorem op1_ok1 {tys : List Ty} (hty : TyOk P tys) (o : Oper) {fr : Fr} {w w' : World} {K : Value → World → Prop} (hw : Ext w w') (h : op1 P tys o.op o.type fr w K) :
    ok1 P o (ev fr) w' fun u w'' => ∃ v wb, (Act.mk fr.toArray []).put o.dst u = (Act.mk fr.toArray []).put o.dst v ∧ Ext wb w'' ∧ K v wb := by
  have h1 := op1_sound hty o hw h (next := fun a' w'' => a'.defers = [] ∧ ∃ v wb, a' = (Act.mk fr.toArray []).put o.dst v ∧ Ext wb w'' ∧ K v wb) (Q := fun _ _ _ => False)
    (fun v wb w'' hx hK => ⟨by cases o.dst <;> rfl, v, wb, rfl, hx, hK⟩)
  have h2 := ok1_of_wp (fun a' w' h => h.1) h1
  rw [ev_eq] at h2
  exact ok1_mono h2 fun u w'' h => h.2
end
end Go.Eng
