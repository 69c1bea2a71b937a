/- Joined texts: EngV EngW FRow Share1 Share2 EngAB Better2 Share3. -/
import Derived.Test.YtkgogljfngplnaaJ2
import Derived.RangeFuncNested
import Derived.OrdersIn
set_option linter.unusedVariables false
set_option linter.unusedSimpArgs false
namespace Go.Eng
open Go.RowKit

abbrev Ds := List Deferred
abbrev WF (ro : Option Nat) : Fence := { Fence.wide with round := ro }
def LiftX (Q : Exit → Ds → Fr → World → Prop) : Exit → Act → World → Prop := fun e a w' => ∃ fr wb, a.tmps = fr.toArray ∧ Ext wb w' ∧ Q e a.defers fr wb

/-- A call of yield. -/
@[irreducible] def VY (P : Program) (l : Nat) (args : List Value) (w : World) (K : Value → World → Prop) : Prop :=
  ∀ w', Ext w w' → YieldAt Fence.wide 0 P l args.toArray w' fun e w'' => ∃ v, e = .returned v ∧ ∃ wb, Ext wb w'' ∧ K v wb
@[irreducible] def Lpx (ro : Option Nat) (P : Program) (b : Code) (ds : Ds) (fr : Fr) (w : World) (Q : Exit → Ds → Fr → World → Prop) : Prop :=
  ∀ w', Ext w w' → (Code.loop b).wpIn (WF ro) 0 P (LiftX Q) (Act.mk fr.toArray ds) w'
@[irreducible] def Rwx (ro : Option Nat) (P : Program) (c : Code) (ds : Ds) (fr : Fr) (w : World) (Q : Exit → Ds → Fr → World → Prop) : Prop :=
  ∀ w', Ext w w' → c.wpIn (WF ro) 0 P (LiftX Q) (Act.mk fr.toArray ds) w'
@[irreducible] def Drx (ro : Option Nat) (P : Program) (ops : List Oper) (ds : Ds) (fr : Fr) (w : World) (K : Fr → World → Prop) : Prop :=
  ∀ (id : Nat) (Q : Exit → Act → World → Prop), (∀ fr' wb w'', Ext wb w'' → K fr' wb → Q .normal (Act.mk fr'.toArray ds) w'') → ∀ w', Ext w w' → (Code.region id ops.toArray true).wpIn (WF ro) 0 P Q (Act.mk fr.toArray ds) w'

def op1x (P : Program) (tys : List Ty) (o : Op) (T : TypeId) (fr : Fr) (w : World) (K : Value → World → Prop) : Prop :=
  match o with
  | .call c => match c.callee with
    | .value f => evK fr f fun fv => match fv with
      | .func (.func g) first captured => argsK fr c.args.toList fun vs => appK first.toList vs fun us => appK us captured.toList fun ts => VC P g ts w K
      | .func (.yield l) first _ => argsK fr c.args.toList fun vs => appK first.toList vs fun us => VY P l us w K
      | _ => Stuck 22
    | _ => op1 P tys o T fr w K
  | _ => op1 P tys o T fr w K

section
variable {P : Program} {tys : List Ty} {ro : Option Nat}

theorem ok1_nodefer {o : Oper} {ρ : Operand → Value} {w : World} {K : Value → World → Prop} (h : ok1 P o ρ w K) : ∀ c, o.op ≠ .defer c := by
  intro c e
  obtain ⟨dst, op, T, pos, after, guard⟩ := o
  simp only at e
  subst e
  unfold ok1 at h
  simp only [execOp, Sem.run_bind] at h
  generalize (resolve ρ c T).run P w = r at h
  cases r with
  | ok d w' => simp [Result.andThen_ok] at h
  | halt x w' => simp [Result.andThen] at h

theorem wpIn_of_ok1 {o : Oper} {a : Act} {w : World} {next : Act → World → Prop} {Q : Exit → Act → World → Prop} (h : ok1 P o a.eval w fun v w' => next (a.put o.dst v) w') : o.wpIn (WF ro) 0 P a w next Q := by
  unfold Oper.wpIn
  refine ⟨fun _ _ => trivial, ?_⟩
  rw [Oper.semAt_eq _ _ _ (ok1_nodefer h)]
  unfold ok1 at h
  split at h
  · rename_i e; rw [e]; exact h
  · rename_i e; rw [e]; exact h
  · rename_i e
    rw [e, Oper.uponIn_enter]
    refine ⟨fun h => (by cases h), ?_⟩
    have h2 : CallsIn (WF ro) 0 P _ _ _ _ := (callsIn_wide (n := 0)).2 h
    refine h2.mono ?_
    rintro e w'' ⟨v, rfl, hv⟩
    exact hv
  · rename_i e
    rw [e, Oper.uponIn_row]
    refine ⟨fun h => (by cases h), fun c cs _ => ?_⟩
    obtain ⟨v, w', hr, hs⟩ := h c cs
    exact ⟨v, w', hr, stepsIn_wide.2 hs⟩
  · exact h.elim

theorem mkAct_put {fr : Fr} {d : Option Tmp} {v v' : Value} (h : (Act.mk fr.toArray []).put d v = (Act.mk fr.toArray []).put d v') : putF fr d v = putF fr d v' := by
  rw [act_put, act_put] at h
  have := congrArg Act.tmps h
  simpa using this

theorem op1_ok1x (hty : TyOk P tys) (o : Oper) {fr : Fr} {w w' : World} {K : Value → World → Prop} (hw : Ext w w') (h : op1 P tys o.op o.type fr w K) :
    ok1 P o (ev fr) w' fun v w'' => ∃ u wb, putF fr o.dst v = putF fr o.dst u ∧ Ext wb w'' ∧ K u wb := by
  have h1 := op1_sound (P := P) hty o (Q := fun _ _ _ => False) (next := fun a' w'' => a'.defers = [] ∧ ∃ u wb, a' = (Act.mk fr.toArray []).put o.dst u ∧ Ext wb w'' ∧ K u wb) hw h
    (fun v wb w'' hx hk => ⟨by rw [act_put], v, wb, rfl, hx, hk⟩)
  have h2 := ok1_of_wp (fun a' w' h => h.1) h1
  rw [ev_eq] at h2
  refine ok1_mono h2 ?_
  rintro v w'' ⟨_, u, wb, e, hx, hk⟩
  exact ⟨u, wb, mkAct_put e, hx, hk⟩

theorem op1x_sound (hty : TyOk P tys) (o : Oper) {ds : Ds} {fr : Fr} {w w' : World} {K : Value → World → Prop} (hw : Ext w w') (h : op1x P tys o.op o.type fr w K)
    {next : Act → World → Prop} {Q : Exit → Act → World → Prop} (hk : ∀ v wb w'', Ext wb w'' → K v wb → next ((Act.mk fr.toArray ds).put o.dst v) w'') : o.wpIn (WF ro) 0 P (Act.mk fr.toArray ds) w' next Q := by
  have plain : op1 P tys o.op o.type fr w K → o.wpIn (WF ro) 0 P (Act.mk fr.toArray ds) w' next Q := fun hp => by
    refine wpIn_of_ok1 ?_
    rw [ev_eq]
    refine ok1_mono (op1_ok1x hty o hw hp) ?_
    rintro v w'' ⟨u, wb, e, hx, hK⟩
    have := hk u wb w'' hx hK
    rw [act_put] at this
    rw [act_put, e]; exact this
  obtain ⟨dst, op, T, pos, after, guard⟩ := o
  dsimp only at h plain hk ⊢
  unfold op1x at h
  split at h
  · rename_i c
    split at h
    · rename_i f hcal
      rw [evK_eq] at h
      split at h
      · rename_i g first captured hf
        refine plain ?_
        unfold op1
        simp only [hcal, evK_eq, hf]
        exact h
      · rename_i l first captured hf
        simp only [argsK_eq, appK_eq, VY] at h
        obtain ⟨fn, tmps, assign, body, hy, hR⟩ := h w' hw
        have ea : first ++ c.args.map (ev fr) = (first.toList ++ c.args.toList.map (ev fr)).toArray := by
          apply Array.toList_inj.1; simp
        have e : execOp (ev fr) ⟨dst, .call c, T, pos, after, guard⟩ = Instr.yield l (first ++ c.args.map (ev fr)) := by
          simp only [execOp, resolve, hcal, hf, Deferred.ofValue, pure_bind, invoke]
        unfold Oper.wpIn
        refine ⟨fun _ _ => trivial, ?_⟩
        rw [Oper.semAt_eq _ _ _ (fun c => by simp), ev_eq, e, ea, hy, Oper.uponIn_round]
        refine ⟨fun h => (by cases h), ?_⟩
        have hR2 : RoundIn (WF ro) 0 P l fn tmps assign body w' _ := hR
        refine hR2.mono ?_
        rintro e w'' ⟨v, rfl, wb, hx, hK⟩
        exact hk v wb w'' hx hK
      · simp [Stuck] at h
    · exact plain h
  · exact plain h

def rgnx (P : Program) (tys : List Ty) (all l : List Oper) : Fr → World → (Fr → World → Prop) → Prop :=
  @List.rec Oper (fun _ => Fr → World → (Fr → World → Prop) → Prop) (fun fr w K => K fr w)
    (fun o _ ih fr w K => grd all fr o.guard (op1x P tys o.op o.type fr w fun v w' => putK fr o.dst v fun fr' => ih fr' w' K) (putK fr o.dst undef fun fr' => ih fr' w K)) l

theorem rgnx_sound (hty : TyOk P tys) {ds : Ds} {all : List Oper} {Q : Exit → Act → World → Prop} : ∀ (l : List Oper) (fr : Fr) (w : World) (K : Fr → World → Prop), rgnx P tys all l fr w K →
    (∀ fr' wb w'', Ext wb w'' → K fr' wb → Q .normal (Act.mk fr'.toArray ds) w'') → ∀ w', Ext w w' → wpListIn (WF ro) 0 P all.toArray Q l (Act.mk fr.toArray ds) w'
  | [], fr, w, K, h, hq, w', hw => hq fr w w' hw h
  | o :: rest, fr, w, K, h, hq, w', hw => by
    unfold wpListIn
    have h : grd all fr o.guard (op1x P tys o.op o.type fr w fun v w' => putK fr o.dst v fun fr' => rgnx P tys all rest fr' w' K) (putK fr o.dst undef fun fr' => rgnx P tys all rest fr' w K) := h
    rcases grd_spec h with ⟨hwt, h⟩ | ⟨hwt, h⟩
    · rw [if_pos hwt]
      refine op1x_sound hty o hw h fun v wb w'' hx hK => ?_
      rw [putK_eq] at hK
      rw [act_put]
      exact rgnx_sound hty rest _ wb K hK hq w'' hx
    · rw [if_neg (by rw [hwt]; simp)]
      rw [putK_eq] at h
      rw [act_put]
      exact ⟨fun _ _ => trivial, rgnx_sound hty rest _ w K h hq w' hw⟩

/-! ### drawn regions -/
theorem anyIn_of_anyS {ds : Ds} {md : Region.Mode} {ops : Array Oper} {wr : List Nat} {Qf : Act → World → Prop} {Q : Exit → Act → World → Prop} (hQ : ∀ t w, Qf (Act.mk t []) w → Q .normal (Act.mk t ds) w) :
    ∀ (n : Nat) (listed : Array Bool) (t : Array Value) (w : World), anyS P md ops wr Qf n listed (Act.mk t []) w → wpAnyIn (WF ro) 0 P md ops Q n listed (Act.mk t ds) w
  | 0, _, _, _, h => ⟨h.1, hQ _ _ h.2⟩
  | n + 1, listed, t, w, h => by
    refine ⟨fun hr => hQ _ _ (h.1 hr), fun i hi => ?_⟩
    have := h.2 i hi
    unfold stepS at this
    unfold wpOpIn
    have pe : ∀ d v, (Act.mk t []).put d v = Act.mk ((Act.mk t []).put d v).tmps [] := fun d v => by cases d <;> rfl
    have pe2 : ∀ d v, (Act.mk t ds).put d v = Act.mk ((Act.mk t []).put d v).tmps ds := fun d v => by cases d <;> rfl
    split
    · rename_i ho; rw [ho] at this; exact anyIn_of_anyS hQ n _ t w this
    · rename_i o ho
      rw [ho] at this
      simp only at this
      split
      · rename_i hw
        rw [if_pos hw] at this
        refine wpIn_of_ok1 ?_
        refine ok1_mono (ok1_congr (P := P) (o := o) (w := w) ?_ |>.mp this) fun v w' hv => ?_
        · have e : (Act.mk t []).eval = (Act.mk t ds).eval := by funext x; cases x <;> rfl
          rw [e]
        · rw [pe2]
          have := hv.2
          rw [pe] at this
          exact anyIn_of_anyS hQ n _ _ w' this
      · rename_i hw
        rw [if_neg hw] at this
        rw [pe2]
        rw [pe] at this
        exact ⟨fun _ _ => trivial, anyIn_of_anyS hQ n _ _ w this⟩

theorem Drx.plan {ds : Ds} {all : List Oper} (d : Nat) (wr : List Nat) (p : Plan) (hty : TyOk P tys) {fr : Fr} {w : World} {K : Fr → World → Prop} (_hd : firstDst all = some d) (hB : planB .any all wr p = true) (h : pw P tys all wr p false fr w K) : Drx ro P all ds fr w K := by
  simp only [Drx]
  intro id Q hk w' hw
  simp only [planB, Bool.and_eq_true, decide_eq_true_eq, List.all_eq_true] at hB
  obtain ⟨⟨hpl, hd⟩, hc⟩ := hB
  refine wpIn_region_any hty.mixed ?_
  have hcl : Closed .any all.toArray (Array.replicate all.length false) := fun j k hj _ => by rw [getD_replicate_false all.length j] at hj; cases hj
  have := (pw_sound hty (fun j o ho => hpl o (List.mem_of_getElem? (by simpa using ho))) K p _ fr w hcl).1 h hc all.length hd _ (hw.drawn (w'.drawn + 1))
  refine anyIn_of_anyS (Qf := Qp K) ?_ _ _ _ _ (by simpa using this)
  rintro t w2 ⟨fr', wb, e, hx, hK⟩
  have : t = fr'.toArray := congrArg Act.tmps e
  subst this
  exact hk fr' wb w2 hx hK

/-! ### code -/
def thenX (K : Ds → Fr → World → Prop) (Q : Exit → Ds → Fr → World → Prop) : Exit → Ds → Fr → World → Prop
  | .normal, ds, fr, w => K ds fr w
  | e, ds, fr, w => Q e ds fr w
def blockX (id : Nat) (Q : Exit → Ds → Fr → World → Prop) : Exit → Ds → Fr → World → Prop
  | .exit id', ds, fr, w => match Nat.beq id' id with
    | true => Q .normal ds fr w
    | false => Q (.exit id') ds fr w
  | e, ds, fr, w => Q e ds fr w

def gvx (ro : Option Nat) (P : Program) (tys : List Ty) (c : Code) : Ds → Fr → World → (Exit → Ds → Fr → World → Prop) → Prop :=
  @Code.rec (fun _ => Ds → Fr → World → (Exit → Ds → Fr → World → Prop) → Prop)
    (fun ds fr w Q => Q .normal ds fr w)
    (fun _ ops draw ds fr w Q => match draw with
      | true => Drx ro P ops.toList ds fr w fun fr' w' => Q .normal ds fr' w'
      | false => rgnx P tys ops.toList ops.toList fr w fun fr' w' => Q .normal ds fr' w')
    (fun _ _ iha ihb ds fr w Q => iha ds fr w (thenX (fun ds' fr' w' => ihb ds' fr' w' Q) Q))
    (fun c _ _ iha ihb ds fr w Q => evK fr c fun v => match v with
      | .bool true => iha ds fr w Q
      | .bool false => ihb ds fr w Q
      | _ => Stuck 30)
    (fun id _ ih ds fr w Q => ih ds fr w (blockX id Q))
    (fun b _ ds fr w Q => Lpx ro P b ds fr w Q)
    (fun f ps a b _ _ ds fr w Q => Rwx ro P (.rangeFunc f ps a b) ds fr w Q)
    (fun id ds fr w Q => Q (.exit id) ds fr w)
    (fun c _ ds fr w Q => Rwx ro P (.scope c) ds fr w Q)
    (fun _ ds fr w Q => Q .normal ds fr w)
    (fun l ds fr w Q => Rwx ro P (.goto l) ds fr w Q)
    (fun ds fr w Q => Q .ret ds fr w)
    (fun s ds fr w Q => Rwx ro P (.refuse s) ds fr w Q) c

theorem liftX_mk {Q : Exit → Ds → Fr → World → Prop} {e : Exit} {ds : Ds} {fr : Fr} {wb w : World} (hx : Ext wb w) (h : Q e ds fr wb) : LiftX Q e (Act.mk fr.toArray ds) w := ⟨fr, wb, rfl, hx, h⟩
theorem act_eta {a : Act} {fr : Fr} (h : a.tmps = fr.toArray) : a = Act.mk fr.toArray a.defers := by cases a; simp at h; subst h; rfl

theorem gvx_sound (hty : TyOk P tys) : ∀ (c : Code) (ds : Ds) (fr : Fr) (w : World) (Q : Exit → Ds → Fr → World → Prop), gvx ro P tys c ds fr w Q → ∀ w', Ext w w' → c.wpIn (WF ro) 0 P (LiftX Q) (Act.mk fr.toArray ds) w'
  | .skip, ds, fr, w, Q, h, w', hw => wpIn_skip (liftX_mk hw h)
  | .label _, ds, fr, w, Q, h, w', hw => wpIn_label (liftX_mk hw h)
  | .region id ops draw, ds, fr, w, Q, h, w', hw => by
    cases draw with
    | true =>
      have h : Drx ro P ops.toList ds fr w fun fr' w' => Q .normal ds fr' w' := h
      simp only [Drx] at h
      have := h id (LiftX Q) (fun fr' wb w'' hx hk => liftX_mk hx hk) w' hw
      simpa using this
    | false =>
      refine wpIn_region_list ?_
      have := rgnx_sound (ro := ro) (ds := ds) (Q := LiftX Q) hty ops.toList fr w _ h (fun fr' wb w'' hx hk => liftX_mk hx hk) w' hw
      simpa using this
  | .seq a b, ds, fr, w, Q, h, w', hw => by
    refine wpIn_seq (wpIn_mono (gvx_sound hty a ds fr w _ h w' hw) ?_)
    rintro e a' w'' ⟨fr', wb, ha, hx, hq⟩
    cases e with
    | normal => rw [act_eta ha]; exact gvx_sound hty b _ fr' wb Q hq w'' hx
    | _ => exact ⟨fr', wb, ha, hx, hq⟩
  | .cond c a b, ds, fr, w, Q, h, w', hw => by
    have h : evK fr c fun v => match v with
      | .bool true => gvx ro P tys a ds fr w Q
      | .bool false => gvx ro P tys b ds fr w Q
      | _ => Stuck 30 := h
    rw [evK_eq] at h
    split at h
    · rename_i e; exact wpIn_cond_true (by rw [ev_eq, e]) (gvx_sound hty a ds fr w Q h w' hw)
    · rename_i e; exact wpIn_cond_false (by rw [ev_eq, e]) (gvx_sound hty b ds fr w Q h w' hw)
    · simp [Stuck] at h
  | .block id b, ds, fr, w, Q, h, w', hw => by
    refine wpIn_block (wpIn_mono (gvx_sound hty b ds fr w _ h w' hw) ?_)
    rintro e a' w'' ⟨fr', wb, ha, hx, hq⟩
    cases e with
    | exit id' =>
      simp only [Exit.inBlock]
      simp only [blockX] at hq
      split
      · rename_i e; subst e
        rw [Nat.beq_refl] at hq
        exact ⟨fr', wb, ha, hx, hq⟩
      · rename_i e
        have : Nat.beq id' id = false := by
          cases h2 : Nat.beq id' id with
          | false => rfl
          | true => exact absurd (Nat.eq_of_beq_eq_true h2) e
        rw [this] at hq
        exact ⟨fr', wb, ha, hx, hq⟩
    | _ => exact ⟨fr', wb, ha, hx, hq⟩
  | .loop b, ds, fr, w, Q, h, w', hw => by have h : Lpx ro P b ds fr w Q := h; simp only [Lpx] at h; exact h w' hw
  | .exit id, ds, fr, w, Q, h, w', hw => wpIn_exit (liftX_mk hw h)
  | .ret, ds, fr, w, Q, h, w', hw => wpIn_ret (liftX_mk hw h)
  | .rangeFunc .., ds, fr, w, Q, h, w', hw => by unfold gvx at h; simp only [Rwx] at h; exact h w' hw
  | .scope .., ds, fr, w, Q, h, w', hw => by unfold gvx at h; simp only [Rwx] at h; exact h w' hw
  | .goto .., ds, fr, w, Q, h, w', hw => by unfold gvx at h; simp only [Rwx] at h; exact h w' hw
  | .refuse .., ds, fr, w, Q, h, w', hw => by unfold gvx at h; simp only [Rwx] at h; exact h w' hw

/-! ### loops -/
theorem wpIn_loop_rel {c : Code} {F : Fence} {n : Nat} {Q : Exit → Act → World → Prop} (J : Nat → Act → World → Prop) {a : Act} {w : World} {m0 : Nat} (h0 : J m0 a w)
    (round : ∀ m a w, J m a w → c.wpIn F n P (Exit.then (fun a' w' => ∃ m', m' < m ∧ J m' a' w') Q) a w) : (Code.loop c).wpIn F n P Q a w := by
  refine wpIn_loop (fun a w => ∃ m, J m a w) (fun a w => Classical.epsilon fun m => J m a w ∧ ∀ k, k < m → ¬ J k a w) ⟨m0, h0⟩ ?_
  intro a w hJ
  have hs := Classical.epsilon_spec (p := fun m => J m a w ∧ ∀ k, k < m → ¬ J k a w) (least_nat hJ)
  refine wpIn_mono (round _ a w hs.1) ?_
  intro e a' w' hq
  cases e with
  | normal =>
    obtain ⟨m', hlt, hJ'⟩ := hq
    refine ⟨⟨m', hJ'⟩, ?_⟩
    have hs' := Classical.epsilon_spec (p := fun m => J m a' w' ∧ ∀ k, k < m → ¬ J k a' w') (least_nat ⟨m', hJ'⟩)
    refine Nat.lt_of_le_of_lt (Nat.le_of_not_lt fun h => hs'.2 _ h hJ') hlt
  | _ => exact hq

def loopX (ds : List Bool) (D : Ds) (fr : Fr) (R : Nat → Fr → World → Prop) (m : Nat) (Q : Exit → Ds → Fr → World → Prop) : Exit → Ds → Fr → World → Prop :=
  thenX (fun D' fr' w' => D' = D ∧ ∃ m', m' < m ∧ blank ds fr' = blank ds fr ∧ R m' fr' w') Q

theorem Lpx.mk (hty : TyOk P tys) {b : Code} {D : Ds} {fr : Fr} {w : World} {Q : Exit → Ds → Fr → World → Prop} (ds : List Bool) (R : Nat → Fr → World → Prop) (m0 : Nat) (h0 : R m0 fr w)
    (hr : ∀ m w', hv ds fr fun fr' => R m fr' w' → gvx ro P tys b D fr' w' (loopX ds D fr R m Q)) : Lpx ro P b D fr w Q := by
  simp only [Lpx]
  intro w' hw
  refine wpIn_loop_rel (fun m a w' => ∃ fr' wb, a = Act.mk fr'.toArray D ∧ Ext wb w' ∧ blank ds fr' = blank ds fr ∧ R m fr' wb) (m0 := m0) ⟨fr, w, rfl, hw, rfl, h0⟩ ?_
  rintro m a w1 ⟨fr', wb, rfl, hx, he, hR⟩
  refine wpIn_mono (gvx_sound hty b D fr' wb _ (hv_spec (hr m wb) fr' he hR) w1 hx) ?_
  rintro e a' w2 ⟨fr2, wb2, ha, hx2, hq⟩
  cases e with
  | normal =>
    obtain ⟨hD, m', hlt, hb, hR'⟩ := hq
    exact ⟨m', hlt, fr2, wb2, by rw [act_eta ha, hD], hx2, hb, hR'⟩
  | _ => exact ⟨fr2, wb2, ha, hx2, hq⟩

/-- The end: no mark, or one whose block is still as it was laid. -/
def finX (tys : List Ty) (e : Exit) (rs : List ResultVar) (ds : Ds) (fr : Fr) (w : World) (K : Value → World → Prop) : Prop :=
  match e with
  | .normal | .ret => match ds with
    | [] => resK tys rs fr w (one1 fun v => K v w)
    | [⟨.collected D, _⟩] => w.heap[D]? = some (.deferred (some [])) ∧ ∀ w', Gr (fun k => k = D) w w' → resK tys rs fr w' (one1 fun v => K v w')
    | _ => False
  | _ => False

theorem gr_putObj (w : World) (D : Nat) (o : Obj) : Gr (fun k => k = D) w (w.putObj D o) := ⟨rfl, rfl, rfl, by simp, fun k _ hk => World.putObj_heap_other hk⟩

theorem calls_of_gvx (hty : TyOk P tys) {f : FuncId} {fn : Func} {c : Code} {args : List Value} {w : World} {K : Value → World → Prop} (hf : P.funcs[f]? = some fn) (hb : fn.body = some c)
    (h : mkFr args fn.ntmps fun fr => gvx none P tys c [] fr w fun e ds fr' wb => finX tys e fn.results.toList ds fr' wb K) :
    Calls P f args.toArray w fun e w'' => ∃ v, e = .returned v ∧ ∃ wb, Ext wb w'' ∧ K v wb := by
  rw [mkFr_eq] at h
  refine (callsIn_wide (n := 0)).1 (callsIn_of_wp_marks (F := Fence.wide) hf hb trivial ?_ rfl)
  have e : args.toArray ++ Array.replicate (fn.ntmps - args.toArray.size) undef = (args ++ List.replicate (fn.ntmps - args.length) undef).toArray := by
    apply Array.toList_inj.1; simp
  rw [e]
  have hg := gvx_sound (ro := none) hty c [] _ w _ h w (Ext.refl w)
  refine wpIn_mono hg ?_
  rintro e a w' ⟨fr, wb, ha, hx, hq⟩
  have go : finX tys .ret fn.results.toList a.defers fr wb K → LeavesInM Fence.wide 0 P fn a.tmps (fun e w'' => ∃ v, e = .returned v ∧ ∃ wb, Ext wb w'' ∧ K v wb) a.defers .returning w' := fun hr => by
    rw [ha]
    generalize a.defers = ds at hr ⊢
    match ds, hr with
    | [], hr =>
      obtain ⟨v, hk, hrun⟩ := results_run (P := P) (fn := fn) (K := fun v => K v wb) hty hx hr
      exact ⟨v, hrun, v, rfl, wb, hx, hk⟩
    | [⟨.collected D, _⟩], hr =>
      obtain ⟨hD, hr⟩ := hr
      have hlt : D < wb.heap.size := (Array.getElem?_eq_some_iff.1 hD).1
      have hD' : w'.heap[D]? = some (.deferred (some [])) := by rw [hx.block D hlt (fun hf => hf)]; exact hD
      refine ⟨by simp, .inl ⟨D, _, rfl, run_takeDeferred hD', ?_⟩⟩
      have hg2 : Gr (fun k => k = D) wb (w'.putObj D (.deferred none)) := (Gr.ofExt hx).trans (gr_putObj w' D _)
      obtain ⟨v, hk, hrun⟩ := results_run (P := P) (fn := fn) (K := fun v => K v (w'.putObj D (.deferred none))) hty (Ext.refl _) (hr _ hg2)
      exact ⟨v, hrun, v, rfl, _, Ext.refl _, hk⟩
  cases e with
  | normal => exact go hq
  | ret => exact go hq
  | _ => exact hq.elim

theorem RCX.mk (hty : TyOk P tys) {f : FuncId} {fn : Func} {c : Code} {args : List Value} {w : World} {S : Nat → Prop} {R : Value → World → Prop} (hf : P.funcs[f]? = some fn) (hb : fn.body = some c) (hn : (fn.name == "runtime.NumGoroutine") = false)
    (h : ∀ w', Ext w w' → mkFr args fn.ntmps fun fr => gvx none P tys c [] fr w' fun e ds fr' wb => finX tys e fn.results.toList ds fr' wb fun u wb => Gr S w' wb ∧ R u wb) : RC P f args w S R := by
  simp only [RC]
  refine ⟨⟨fn, hf, hn, by rw [hb]; rfl⟩, fun w' hw => ?_⟩
  refine (calls_of_gvx hty (K := fun u wb => Gr S w' wb ∧ R u wb) hf hb (h w' hw)).mono ?_
  rintro e w'' ⟨u, rfl, wb, hx, hg, hr⟩
  exact ⟨u, rfl, wb, hx, hg, hr⟩
end
end Go.Eng
set_option linter.unusedVariables false
set_option linter.unusedSimpArgs false
namespace Go.Eng
open Go.RowKit

/-- The iterator yields the lists xs, in this order; C: the old blocks that it leans on. -/
def ItOk (P : Program) (gf : FuncId) (lb : List Value) (C : Nat → Prop) (w : World) (xs : List (List Int)) : Prop :=
  IsFn P gf ∧ ∀ (l : Nat) (M : Nat → Prop) (J Jx : Nat → List (List Int) → World → Prop) (W : World), Ext w W → (∀ k, M k → ¬ C k ∧ k < W.heap.size) →
    (∀ n1 pre A B, J n1 pre A → Gr (fun k => W.heap.size ≤ k ∧ k < n1) A B → J n1 pre B) → (∀ n1 pre A B, Jx n1 pre A → Gr (fun k => W.heap.size ≤ k ∧ k < n1) A B → Jx n1 pre B) →
    (∀ n1 pre x v A, W.heap.size ≤ n1 → n1 ≤ A.heap.size → pre ++ [x] <+: xs → J n1 pre A → Ints A v x → YieldAt Fence.wide 0 P l #[v] A fun e B =>
      (e = .returned (.bool true) ∧ J n1 (pre ++ [x]) B ∧ Gr (fun k => M k ∨ n1 ≤ k) A B) ∨ (e = .returned (.bool false) ∧ Jx n1 (pre ++ [x]) B ∧ Gr (fun k => M k ∨ n1 ≤ k) A B)) →
    (∀ n1, W.heap.size ≤ n1 → J n1 [] W) → Calls P gf (.func (.yield l) #[] #[] :: lb).toArray W fun e B => ∃ v, e = .returned v ∧ ∃ n1, W.heap.size ≤ n1 ∧ (J n1 xs B ∨ ∃ pre, pre <+: xs ∧ Jx n1 pre B)

theorem at_noloop {w : World} {p : Addr} {xs : List Value} {l : Nat} {r : Loop} (h : At w p xs) (hl : w.heap[l]? = some (.loop r)) (hx : xs ≠ []) : p.block ≠ l := by
  intro e
  cases xs with
  | nil => exact hx rfl
  | cons x xs =>
    have := h 0 x (by simp)
    rw [show p.add 0 = p from rfl] at this
    unfold World.cell? at this
    rw [e, hl] at this
    simp at this
theorem ints_noloop {w w' : World} {v : Value} {x : List Int} {l : Nat} {r : Loop} (h : Ints w v x) (hl : w.heap[l]? = some (.loop r)) (hg : Gr (fun k => k = l) w w') : Ints w' v x := by
  obtain ⟨a, cap, rfl, h1, h2, h3, h4⟩ := h
  refine ⟨a, cap, rfl, h1, h2, h3, ?_⟩
  rcases h4 with h4 | ⟨p, rfl, h4⟩
  · exact .inl h4
  · by_cases hx : x.length = 0
    · exact .inl hx
    · refine .inr ⟨p, rfl, h4.gr hg (at_noloop h4 hl (fun e => hx ?_))⟩
      have := congrArg List.length e; simpa using this

def mkRec (fn : FuncId) (tmps : Array Value) (p : Tmp) (assign body : Code) (D : Nat) (st : LoopState) (pe : Option Code) : Loop := { state := st, pending := pe, fn, tmps, params := #[p], assign, body, defers := D }

section
variable {P : Program} {tys : List Ty}

/-- What the body of a round owes. -/
def roundX (M : Nat → Prop) (I : World → Prop) (Ix : Code → World → Prop) (W : World) : Exit → Ds → Fr → World → Prop
  | .normal, _, _, W' => I W' ∧ Gr M W W'
  | .ret, _, _, W' => Ix .ret W' ∧ Gr M W W'
  | .exit id, _, _, W' => Ix (.exit id) W' ∧ Gr M W W'
  | _, _, _, _ => False

theorem Rwx.range (hty : TyOk P tys) {g : Operand} {p : Tmp} {assign body : Code} {ds : Ds} {fr : Fr} {w : World} {Q : Exit → Ds → Fr → World → Prop} {gf : FuncId} {lb : List Value} {C : Nat → Prop} {xs : List (List Int)}
    (hg : evK fr g fun v => v = .func (.func gf) #[] lb.toArray) (hit : ItOk P gf lb C w xs) (hC : ∀ k, C k → k < w.heap.size) (M : Nat → Prop) (hM : ∀ k, M k → ¬ C k ∧ k < w.heap.size)
    (I : Nat → List (List Int) → World → Prop) (Ix : Nat → Code → List (List Int) → World → Prop) (hI : ∀ n1 pre A B, I n1 pre A → Gr (fun k => w.heap.size ≤ k ∧ k < n1) A B → I n1 pre B) (hIx : ∀ n1 c pre A B, Ix n1 c pre A → Gr (fun k => w.heap.size ≤ k ∧ k < n1) A B → Ix n1 c pre B)
    (h0 : ∀ n1, w.heap.size ≤ n1 → I n1 [] w) 
    (hround : ∀ l v W, setK fr p v fun fr0 => gvx (some l) P tys assign [] fr0 W fun e ds' fr' W' => e = .normal ∧ ds' = [] ∧ W' = W ∧
      ∀ n1 pre x W2, w.heap.size ≤ n1 → n1 ≤ W2.heap.size → pre ++ [x] <+: xs → I n1 pre W2 → Gr M w W2 → Ints W2 v x → gvx (some l) P tys body [] fr' W2 (roundX (fun k => M k ∨ n1 ≤ k) (I n1 (pre ++ [x])) (fun c => Ix n1 c (pre ++ [x])) W2))
    (hdone : ∀ D n1 W, w.heap.size ≤ D → D < n1 → I n1 xs W → Gr M w W → W.heap[D]? = some (.deferred (some [])) → Q .normal (⟨.collected D, #[]⟩ :: ds) fr W)
    (hstop : ∀ D n1 c pre W, w.heap.size ≤ D → D < n1 → pre <+: xs → Ix n1 c pre W → Gr M w W → W.heap[D]? = some (.deferred (some [])) → gvx none P tys c (⟨.collected D, #[]⟩ :: ds) fr W Q) :
    Rwx none P (.rangeFunc g #[p] assign body) ds fr w Q := by
  simp only [Rwx]
  intro w0 hw0
  rw [evK_eq] at hg
  refine wpIn_rangeFunc (F := WF none) ?_
  intro fn hfn
  obtain ⟨W1, hW1⟩ : ∃ W1, (w0.alloc (.deferred (some []))).alloc (.loop (mkRec fn fr.toArray p assign body w0.heap.size .ready none)) = W1 := ⟨_, rfl⟩
  have hsz : W1.heap.size = w0.heap.size + 2 := by rw [← hW1]; simp
  have hL1 : W1.heap[w0.heap.size + 1]? = some (.loop (mkRec fn fr.toArray p assign body w0.heap.size .ready none)) := by
    rw [← hW1]; have := World.alloc_heap_new (w0.alloc (.deferred (some []))) (.loop (mkRec fn fr.toArray p assign body w0.heap.size .ready none)); rwa [World.size_alloc] at this
  have hK1 : W1.heap[w0.heap.size]? = some (.deferred (some [])) := by
    rw [← hW1]; exact (Below.heap_alloc _ _ _ (by simp)).trans (World.alloc_heap_new w0 _)
  have hx1 : Ext w W1 := by rw [← hW1]; exact (hw0.alloc _).alloc _
  have hwle := hw0.size
  refine ⟨w0.heap.size + 1, [{ target := .collected w0.heap.size, args := #[] }], W1, { target := .fn (.func gf) lb.toArray, args := #[.func (.yield (w0.heap.size + 1)) #[] #[]] }, W1, gf,
    (.func (.yield (w0.heap.size + 1)) #[] #[] :: lb).toArray, W1, ?_, ?_, fun _ _ => trivial, ?_, fun h => (by cases h), ?_⟩
  · rw [← hW1]; exact run_enterLoop_outer _ _ _ _ _
  · simp only [resolve, ev_eq, hg]
    simp [go_sem]
    rfl
  · obtain ⟨fn', h1, h2, h3⟩ := hit.1
    have ea : #[Value.func (.yield (w0.heap.size + 1)) #[] #[]] ++ lb.toArray = (.func (.yield (w0.heap.size + 1)) #[] #[] :: lb).toArray := by apply Array.toList_inj.1; simp
    simp only [invoke, ea, callFunc, Sem.run_bind, run_program, Result.andThen_ok, h1, h2, h3, Bool.false_eq_true, if_false, Sem.run_pure]
  · -- the iterator's contract
    have hMl : ∀ k, M k → k ≠ w0.heap.size + 1 ∧ k ≠ w0.heap.size := fun k hk => by have := (hM k hk).2; omega
    have hcall := hit.2 (w0.heap.size + 1) (fun k => M k ∨ k = w0.heap.size + 1)
      (fun n1 pre W => I n1 pre W ∧ W.heap[w0.heap.size + 1]? = some (.loop (mkRec fn fr.toArray p assign body w0.heap.size .ready none)) ∧ W.heap[w0.heap.size]? = some (.deferred (some [])) ∧ Gr M w W)
      (fun n1 pre W => ∃ c, Ix n1 c pre W ∧ W.heap[w0.heap.size + 1]? = some (.loop (mkRec fn fr.toArray p assign body w0.heap.size .done (some c))) ∧ W.heap[w0.heap.size]? = some (.deferred (some [])) ∧ Gr M w W)
      W1 hx1
      (fun k hk => hk.elim (fun h => ⟨(hM k h).1, by have := (hM k h).2; omega⟩) (fun h => ⟨fun hc => by have := hC k hc; omega, by omega⟩))
      (fun n1 pre A B h hg => ⟨hI _ _ _ _ h.1 (hg.mono fun k _ hk => by omega), by rw [hg.block _ (Array.getElem?_eq_some_iff.1 h.2.1).1 (by omega)]; exact h.2.1,
        by rw [hg.block _ (Array.getElem?_eq_some_iff.1 h.2.2.1).1 (by omega)]; exact h.2.2.1, h.2.2.2.new hg fun k hk hk2 => by omega⟩)
      (fun n1 pre A B h hg => by
        obtain ⟨c, h1, h2, h3, h4⟩ := h
        exact ⟨c, hIx _ _ _ _ _ h1 (hg.mono fun k _ hk => by omega), by rw [hg.block _ (Array.getElem?_eq_some_iff.1 h2).1 (by omega)]; exact h2,
          by rw [hg.block _ (Array.getElem?_eq_some_iff.1 h3).1 (by omega)]; exact h3, h4.new hg fun k hk hk2 => by omega⟩)
      ?_ (fun n1 hn1 => ⟨hI _ _ _ _ (h0 n1 (by omega)) (Gr.ofExt hx1), hL1, hK1, (Gr.ofExt hx1 : Gr M w W1)⟩)
    · refine ((callsIn_wide (n := 0)).2 hcall : CallsIn (WF none) 0 P _ _ _ _).mono ?_
      rintro e W2 ⟨v, rfl, n1, hn1, (⟨hi, hl, hk, hgm⟩ | ⟨pre, hpre, c, hi, hl, hk, hgm⟩)⟩
      · have hg2 : Gr (fun k => k = w0.heap.size + 1) W2 (W2.putObj (w0.heap.size + 1) (.loop (mkRec fn fr.toArray p assign body w0.heap.size .exhausted none))) := gr_putObj _ _ _
        refine ⟨none, _, run_endLoop (P := P) hl (by simp [mkRec]), ?_⟩
        refine ⟨fr, _, rfl, Ext.refl _, hdone w0.heap.size n1 _ hwle (by omega) (hI _ _ _ _ hi (hg2.mono fun k _ hk => by omega)) (hgm.new hg2 fun k hk hk2 => by omega) ((World.putObj_heap_other (by omega)).trans hk)⟩
      · have hg2 : Gr (fun k => k = w0.heap.size + 1) W2 (W2.putObj (w0.heap.size + 1) (.loop (mkRec fn fr.toArray p assign body w0.heap.size .exhausted (some c)))) := gr_putObj _ _ _
        refine ⟨some c, _, run_endLoop (P := P) hl (by simp [mkRec]), ?_⟩
        exact gvx_sound (ro := none) hty c _ fr _ Q (hstop w0.heap.size n1 c pre _ hwle (by omega) hpre (hIx _ _ _ _ _ hi (hg2.mono fun k _ hk => by omega)) (hgm.new hg2 fun k hk hk2 => by omega) ((World.putObj_heap_other (by omega)).trans hk)) _ (Ext.refl _)
    · -- one round
      rintro n1 pre x v A hn1 hn2 hpre ⟨hi, hl, hk, hgm⟩ hv
      have hlt : w0.heap.size + 1 < A.heap.size := (Array.getElem?_eq_some_iff.1 hl).1
      have hy := run_yield (P := P) (args := #[v]) hl rfl
      refine ⟨fn, _, assign, body, hy, roundIn_of_wpIn (F := Fence.wide) trivial ?_⟩
      clear hy
      have ha := hround (w0.heap.size + 1) v A
      rw [setK_eq] at ha
      have ef : (#[p].zip #[v]).foldl (fun (t : Array Value) (x : Tmp × Value) => t.setIfInBounds x.1 x.2) fr.toArray = (fr.set p v).toArray := by simp
      have ha2 := gvx_sound (ro := some (w0.heap.size + 1)) hty assign [] _ A _ ha A (Ext.refl A)
      rw [← ef] at ha2
      refine wpIn_mono ha2 ?_
      rintro e a A' ⟨fr', wb, hat, hxa, rfl, hds, rfl, hbody⟩
      refine ⟨_, run_beginRound (by rw [hxa.block _ hlt (fun hf => hf)]; exact hl) rfl, ?_⟩
      rw [act_eta hat, hds]
      have hl' : A'.heap[w0.heap.size + 1]? = some (.loop (mkRec fn fr.toArray p assign body w0.heap.size .ready none)) := by rw [hxa.block _ hlt (fun hf => hf)]; exact hl
      have hlt' := (Array.getElem?_eq_some_iff.1 hl').1
      have hg2 : Gr (fun k => k = w0.heap.size + 1) A' (A'.putObj (w0.heap.size + 1) (.loop (mkRec fn fr.toArray p assign body w0.heap.size .busy none))) := gr_putObj _ _ _
      have hl2 : (A'.putObj (w0.heap.size + 1) (.loop (mkRec fn fr.toArray p assign body w0.heap.size .busy none))).heap[w0.heap.size + 1]? = some (.loop (mkRec fn fr.toArray p assign body w0.heap.size .busy none)) := World.putObj_heap_same hlt'
      have hk2 : (A'.putObj (w0.heap.size + 1) (.loop (mkRec fn fr.toArray p assign body w0.heap.size .busy none))).heap[w0.heap.size]? = some (.deferred (some [])) :=
        (World.putObj_heap_other (by omega)).trans (by rw [hxa.block _ (by omega) (fun hf => hf)]; exact hk)
      have hgA : Gr (fun k => k = w0.heap.size + 1) wb (A'.putObj (w0.heap.size + 1) (.loop (mkRec fn fr.toArray p assign body w0.heap.size .busy none))) := (Gr.ofExt hxa).trans hg2
      have hb := hbody n1 pre x _ (by omega) (by have := hxa.size; simp; omega) hpre (hI _ _ _ _ hi (hgA.mono fun k _ hk => by omega)) (hgm.new hgA fun k hk hk2 => by omega) (ints_noloop (hv.ext hxa) hl' hg2)
      have hb2 := gvx_sound (ro := some (w0.heap.size + 1)) hty body [] _ _ _ hb _ (Ext.refl _)
      refine wpIn_mono hb2 ?_
      have fin : ∀ (jump : Option Code) (Wb W3 : World), Gr (fun k => M k ∨ n1 ≤ k) (A'.putObj (w0.heap.size + 1) (.loop (mkRec fn fr.toArray p assign body w0.heap.size .busy none))) Wb → Ext Wb W3 →
          (Instr.endRound (w0.heap.size + 1) jump).run P W3 = .ok (.bool jump.isNone) (W3.putObj (w0.heap.size + 1) (.loop (mkRec fn fr.toArray p assign body w0.heap.size (if jump.isNone then .ready else .done) jump))) ∧
          (W3.putObj (w0.heap.size + 1) (.loop (mkRec fn fr.toArray p assign body w0.heap.size (if jump.isNone then .ready else .done) jump))).heap[w0.heap.size + 1]? = some (.loop (mkRec fn fr.toArray p assign body w0.heap.size (if jump.isNone then .ready else .done) jump)) ∧
          (W3.putObj (w0.heap.size + 1) (.loop (mkRec fn fr.toArray p assign body w0.heap.size (if jump.isNone then .ready else .done) jump))).heap[w0.heap.size]? = some (.deferred (some [])) ∧
          Gr (fun k => (M k ∨ k = w0.heap.size + 1) ∨ n1 ≤ k) wb (W3.putObj (w0.heap.size + 1) (.loop (mkRec fn fr.toArray p assign body w0.heap.size (if jump.isNone then .ready else .done) jump))) ∧
          Gr M w (W3.putObj (w0.heap.size + 1) (.loop (mkRec fn fr.toArray p assign body w0.heap.size (if jump.isNone then .ready else .done) jump))) ∧
          Gr (fun k => w.heap.size ≤ k ∧ k < n1) Wb (W3.putObj (w0.heap.size + 1) (.loop (mkRec fn fr.toArray p assign body w0.heap.size (if jump.isNone then .ready else .done) jump))) := fun jump Wb W3 hm hx => by
        have h3 : Gr (fun k => M k ∨ n1 ≤ k) (A'.putObj (w0.heap.size + 1) (.loop (mkRec fn fr.toArray p assign body w0.heap.size .busy none))) W3 := hm.trans (Gr.ofExt hx)
        have hl3 : W3.heap[w0.heap.size + 1]? = some (.loop (mkRec fn fr.toArray p assign body w0.heap.size .busy none)) := by
          rw [h3.block _ (by simp; omega) (fun hf => hf.elim (fun hf => (hMl _ hf).1 rfl) (fun h => by omega))]; exact hl2
        have hk3 : W3.heap[w0.heap.size]? = some (.deferred (some [])) := by
          rw [h3.block _ (by simp; omega) (fun hf => hf.elim (fun hf => (hMl _ hf).2 rfl) (fun h => by omega))]; exact hk2
        have hr := run_endRound (P := P) jump hl3
        have g1 : Gr (fun k => k = w0.heap.size + 1) W3 (W3.putObj (w0.heap.size + 1) (.loop (mkRec fn fr.toArray p assign body w0.heap.size (if jump.isNone then .ready else .done) jump))) := gr_putObj _ _ _
        have g2 : Gr (fun k => (M k ∨ k = w0.heap.size + 1) ∨ n1 ≤ k) wb W3 := (hgA.mono fun k _ h => .inl (.inr h)).trans (h3.mono fun k _ h => h.elim (fun h => .inl (.inl h)) .inr)
        have g3 := g2.trans (g1.mono fun k _ h => .inl (.inr h))
        exact ⟨hr, World.putObj_heap_same (Array.getElem?_eq_some_iff.1 hl3).1, (World.putObj_heap_other (by omega)).trans hk3, g3,
          hgm.new g3 fun k hk h => h.elim (fun h => h.elim (fun h => h) (fun h => by omega)) (fun h => by omega), (Gr.ofExt hx).trans (g1.mono fun k _ h => by omega)⟩
      rintro e3 a3 W3 ⟨fr3, Wb, hat3, hx3, hq⟩
      cases e3 with
      | normal =>
        obtain ⟨hi3, hm3⟩ := hq
        obtain ⟨hr, h1, h2, h3, h4, h5⟩ := fin none Wb W3 hm3 hx3
        exact ⟨_, _, hr, .inl ⟨rfl, ⟨hI _ _ _ _ hi3 h5, h1, h2, h4⟩, h3⟩⟩
      | ret =>
        obtain ⟨hi3, hm3⟩ := hq
        obtain ⟨hr, h1, h2, h3, h4, h5⟩ := fin (some .ret) Wb W3 hm3 hx3
        exact ⟨_, _, hr, .inr ⟨rfl, ⟨.ret, hIx _ _ _ _ _ hi3 h5, h1, h2, h4⟩, h3⟩⟩
      | exit id =>
        obtain ⟨hi3, hm3⟩ := hq
        obtain ⟨hr, h1, h2, h3, h4, h5⟩ := fin (some (.exit id)) Wb W3 hm3 hx3
        exact ⟨_, _, hr, .inr ⟨rfl, ⟨.exit id, hIx _ _ _ _ _ hi3 h5, h1, h2, h4⟩, h3⟩⟩
      | _ => exact hq.elim

/-- What a caller's fact carries through an iterator's own steps. -/
structure Carry (n0 n1 : Nat) (J : World → Prop) (w : World) : Prop where
  st : ∀ A B, J A → Gr (fun k => n0 ≤ k ∧ k < n1) A B → J B
  at' : J w
theorem Carry.ext {n0 n1 : Nat} {J : World → Prop} {w w' : World} (h : Carry n0 n1 J w) (hg : Ext w w') : Carry n0 n1 J w' := ⟨h.st, h.st _ _ h.at' (Gr.ofExt hg)⟩
theorem Carry.gr {S : Nat → Prop} {n0 n1 : Nat} {J : World → Prop} {w w' : World} (h : Carry n0 n1 J w) (hg : Gr S w w') (hs : ∀ k, S k → n0 ≤ k ∧ k < n1) : Carry n0 n1 J w' := ⟨h.st, h.st _ _ h.at' (hg.mono fun k _ hk => hs k hk)⟩

theorem ItOk.mk (hty : TyOk P tys) {f : FuncId} {fn : Func} {c : Code} {lb : List Value} {C : Nat → Prop} {w : World} {xs : List (List Int)} (hf : P.funcs[f]? = some fn) (hb : fn.body = some c) (hn : (fn.name == "runtime.NumGoroutine") = false)
    (h : ∀ (l : Nat) (M : Nat → Prop) (J Jx : Nat → List (List Int) → World → Prop) (W : World), Ext w W → (∀ k, M k → ¬ C k ∧ k < W.heap.size) →
      (∀ n1 pre x v A, W.heap.size ≤ n1 → n1 ≤ A.heap.size → pre ++ [x] <+: xs → Carry W.heap.size n1 (J n1 pre) A → Ints A v x → ∀ K : Value → World → Prop,
        (∀ B, Carry W.heap.size n1 (J n1 (pre ++ [x])) B → Gr (fun k => M k ∨ n1 ≤ k) A B → K (.bool true) B) → (∀ B, Carry W.heap.size n1 (Jx n1 (pre ++ [x])) B → Gr (fun k => M k ∨ n1 ≤ k) A B → K (.bool false) B) → VY P l [v] A K) →
      (∀ n1, W.heap.size ≤ n1 → Carry W.heap.size n1 (J n1 []) W) → mkFr (.func (.yield l) #[] #[] :: lb) fn.ntmps fun fr => gvx none P tys c [] fr W fun e ds fr' wb => finX tys e fn.results.toList ds fr' wb fun _ wb =>
        ∃ n1, W.heap.size ≤ n1 ∧ (Carry W.heap.size n1 (J n1 xs) wb ∨ ∃ pre, pre <+: xs ∧ Carry W.heap.size n1 (Jx n1 pre) wb)) : ItOk P f lb C w xs := by
  refine ⟨⟨fn, hf, hn, by rw [hb]; rfl⟩, fun l M J Jx W hW hM hJ hJx hY h0 => ?_⟩
  refine (calls_of_gvx hty (K := fun _ wb => ∃ n1, W.heap.size ≤ n1 ∧ (Carry W.heap.size n1 (J n1 xs) wb ∨ ∃ pre, pre <+: xs ∧ Carry W.heap.size n1 (Jx n1 pre) wb)) hf hb
    (h l M J Jx W hW hM (fun n1 pre x v A hn1 hn2 hp hj hv K h1 h2 => ?_) (fun n1 hn1 => ⟨hJ n1 [], h0 n1 hn1⟩))).mono ?_
  · simp only [VY]
    intro w' hw'
    obtain ⟨fn', tmps, assign, body, hy, hR⟩ := hY n1 pre x v w' hn1 (Nat.le_trans hn2 hw'.size) hp (hj.ext hw').at' (hv.ext hw')
    refine ⟨fn', tmps, assign, body, hy, hR.mono ?_⟩
    rintro e B (⟨rfl, hJB, hg⟩ | ⟨rfl, hJB, hg⟩)
    · exact ⟨_, rfl, B, Ext.refl _, h1 B ⟨hJ n1 _, hJB⟩ ((Gr.ofExt hw').trans hg)⟩
    · exact ⟨_, rfl, B, Ext.refl _, h2 B ⟨hJx n1 _, hJB⟩ ((Gr.ofExt hw').trans hg)⟩
  · rintro e w'' ⟨v, rfl, wb, hx, n1, hn1, (hj | ⟨pre, hp, hj⟩)⟩
    · exact ⟨v, rfl, n1, hn1, .inl (hj.ext hx).at'⟩
    · exact ⟨v, rfl, n1, hn1, .inr ⟨pre, hp, (hj.ext hx).at'⟩⟩
end
end Go.Eng
set_option linter.unusedVariables false
set_option linter.unusedSimpArgs false
namespace Go.Proofs.Ytkgogljfngplnaa
open Go.Eng
set_option maxRecDepth 100000
set_option maxHeartbeats 4000000

/-- rows' blocks from n on -/
def Hi (n : Nat) (us : List Value) : Prop := ∀ i, i < us.length → ∀ q, (us.getD i undef).ownBlock = some q → n ≤ q
structure FR (B n : Nat) (w : World) (v : Value) (us : List Value) (rr : List (List Int)) : Prop where
  om : OM B w v us rr
  hi : Hi n us
theorem OM.ulen {n : Nat} {w : World} {v : Value} {us : List Value} {rr : List (List Int)} (h : OM n w v us rr) : us.length = rr.length := by have := Own.len h.top; omega
theorem FR.gr {S : Nat → Prop} {B n : Nat} {w w' : World} {v : Value} {us : List Value} {rr : List (List Int)} (h : FR B n w v us rr) (hg : Gr S w w') (hv : ∀ k, v.ownBlock = some k → ¬ S k) (hs : ∀ k, n ≤ k → k < w.heap.size → ¬ S k) : FR B n w' v us rr :=
  ⟨⟨Own.gr h.om.top hg hv, fun i hi => Own.gr (h.om.row i hi) hg (fun q hq => hs q (h.hi i (by have := h.om.ulen; omega) q hq) (Own.lt (h.om.row i hi) q hq).2)⟩, h.hi⟩
theorem FR.ext {B n : Nat} {w w' : World} {v : Value} {us : List Value} {rr : List (List Int)} (h : FR B n w v us rr) (hg : Ext w w') : FR B n w' v us rr := ⟨h.om.ext hg, h.hi⟩
theorem FR.nil {B n : Nat} {w : World} : FR B n w (.slice none 0 0) [] [] := ⟨OM.nil, fun _ hi => absurd hi (Nat.not_lt_zero _)⟩
theorem FR.push {B B' n : Nat} {w w' : World} {v v' x : Value} {us : List Value} {rr : List (List Int)} {l : List Int} (h : FR B n w v us rr) (hr : OB n w x l) (hg : Gr (fun k => v.ownBlock = some k) w w') (ho : Go.Eng.Own B' 27 1 w' v' (rr.length + 1) (us ++ [x])) : FR B' n w' v' (us ++ [x]) (rr ++ [l]) := by
  have hl := h.om.ulen
  refine ⟨h.om.push (Own.base hr (Nat.zero_le _)) hg ho, fun i hi q hq => ?_⟩
  by_cases hlt : i < us.length
  · rw [List.getD_eq_getElem?_getD, List.getElem?_append_left hlt, ← List.getD_eq_getElem?_getD] at hq
    exact h.hi i hlt q hq
  · have e : i = us.length := by simp at hi; omega
    subst e
    have e2 : (us ++ [x]).getD us.length undef = x := by simp [List.getD]
    rw [e2] at hq
    exact (Own.lt hr q hq).1
end Go.Proofs.Ytkgogljfngplnaa
set_option linter.unusedVariables false
set_option linter.unusedSimpArgs false
namespace Go.Proofs.Ytkgogljfngplnaa
open Go.Eng
set_option maxRecDepth 100000
set_option maxHeartbeats 4000000

/-- the ends of partitions: r goods to go, bundles numbered by their first goods -/
def partsF (n : Nat) : Nat → Nat → List (List Int)
  | 0, _ => [[]]
  | r + 1, used => (List.range (min (used + 1) n)).flatMap fun k => (partsF n r (max used (k + 1))).map fun s => (k : Int) :: s
/-- of the first c bundles -/
def partsC (n r used c : Nat) : List (List Int) := (List.range c).flatMap fun k => (partsF n r (max used (k + 1))).map fun s => (k : Int) :: s
theorem partsC_succ (n r used c : Nat) : partsC n r used (c + 1) = partsC n r used c ++ (partsF n r (max used (c + 1))).map fun s => (c : Int) :: s := by
  unfold partsC; rw [List.range_succ, List.flatMap_append]; simp
theorem partsC_all (n r used : Nat) : partsC n r used (min (used + 1) n) = partsF n (r + 1) used := rfl
theorem partsC_pre {n r used c d : Nat} (h : c ≤ d) : partsC n r used c <+: partsC n r used d := by
  induction d with
  | zero => have : c = 0 := by omega
            subst this; exact List.prefix_refl _
  | succ d ih =>
    by_cases e : c = d + 1
    · subst e; exact List.prefix_refl _
    · rw [partsC_succ]; exact (ih (by omega)).trans (List.prefix_append _ _)

theorem pfrom_rc {mg n : Nat} {M : Nat → Prop} {J Jx : Nat → List (List Int) → World → Prop} {W0 n1 g l0 mb yb nb fb : Nat} {xs : List (List Int)} (hm : mg ≤ 100) (hn : n ≤ 100) (hW : W0 ≤ n1)
    (hY : ∀ (n1 : Nat) (pre : List (List Int)) (x : List Int) (v : Value) (A : World), W0 ≤ n1 → n1 ≤ A.heap.size → pre ++ [x] <+: xs → Carry W0 n1 (J n1 pre) A → Ints A v x → ∀ K : Value → World → Prop,
        (∀ B, Carry W0 n1 (J n1 (pre ++ [x])) B → Gr (fun k => M k ∨ n1 ≤ k) A B → K (.bool true) B) → (∀ B, Carry W0 n1 (Jx n1 (pre ++ [x])) B → Gr (fun k => M k ∨ n1 ≤ k) A B → K (.bool false) B) → VY Try.prog l0 [v] A K)
    (hg1 : W0 ≤ g ∧ g < n1) (hgM : ¬ M g) (hSm : ¬ (M mb ∨ n1 ≤ mb ∨ mb = g)) (hSy : ¬ (M yb ∨ n1 ≤ yb ∨ yb = g)) (hSn : ¬ (M nb ∨ n1 ≤ nb ∨ nb = g)) (hSf : ¬ (M fb ∨ n1 ≤ fb ∨ fb = g)) :
    ∀ (r : Nat) (l : List Int) (used : Nat) (pre : List (List Int)) (w : World), l.length + r = mg → used ≤ mg - r → n1 ≤ w.heap.size → Buf 3 w g mg l.length (l.map i64v) →
      At w ⟨mb, 0, none⟩ [.int .i64 (mg : Int)] → At w ⟨yb, 0, none⟩ [.func (.yield l0) #[] #[]] → At w ⟨nb, 0, none⟩ [.int .i64 (n : Int)] →
      At w ⟨fb, 0, none⟩ [.func (.func 87) #[] #[.pointer (some ⟨mb, 0, none⟩), .pointer (some ⟨yb, 0, none⟩), .pointer (some ⟨nb, 0, none⟩), .pointer (some ⟨fb, 0, none⟩)]] →
      Carry W0 n1 (J n1 pre) w → pre ++ (partsF n r used).map (fun s => l ++ s) <+: xs →
      RC Try.prog 87 [bufV g mg l.length, .int .i64 (used : Int), .pointer (some ⟨mb, 0, none⟩), .pointer (some ⟨yb, 0, none⟩), .pointer (some ⟨nb, 0, none⟩), .pointer (some ⟨fb, 0, none⟩)] w (fun k => M k ∨ n1 ≤ k ∨ k = g)
        (fun u w' => (u = .bool true ∧ Buf 3 w' g mg l.length (l.map i64v) ∧ Carry W0 n1 (J n1 (pre ++ (partsF n r used).map (fun s => l ++ s))) w') ∨ (u = .bool false ∧ ∃ pre2, pre2 <+: xs ∧ Carry W0 n1 (Jx n1 pre2) w')) := by
  intro r
  induction r with
  | zero =>
    intro l used pre w hl hu hsz HB Hm HYb Hn Hf HJ hpre
    refine RCX.mk tyOk Try.func87 rfl (by kernel_rfl) fun w1 E1 => ?_
    replace HB := HB.ext E1
    replace Hm := Hm.ext E1
    replace HYb := HYb.ext E1
    replace Hn := Hn.ext E1
    replace Hf := Hf.ext E1
    replace HJ := HJ.ext E1
    have EE := Ext.refl w1
    have hs1 : n1 ≤ w1.heap.size := Nat.le_trans hsz E1.size
    have HI : Ints w1 (bufV g mg l.length) l := Own.sl (HB.own (B := 0) (Nat.zero_le _))
    have e1 : (partsF n 0 used).map (fun s => l ++ s) = [l] := by simp [partsF]
    rw [e1] at hpre ⊢
    repeat' ((conv => whnf); first | (refine Ints.ln HI ?_) | (refine At.ld (i := 0) Hm rfl ?_) | (refine At.ld (i := 0) HYb rfl ?_) | (refine Rng.mk (by omega) ?_) | (refine Split.pos (by omega) ?_) | (refine Split.neg (by omega) ?_) | (refine Split.mk (fun h => ?_) (fun h => ?_)) | (refine Need.mk (by omega) ?_) | (refine Ints.ln (by assumption) ?_) | (refine Mat.ln (by assumption) ?_) | (refine Ints.ln (Mat.row (by assumption) _ (by omega)) ?_) | (refine Ints.ix (by assumption) (by omega) ?_) | (refine Mat.ix (by assumption) (by omega) ?_) | (refine Ints.ix (Mat.row (by assumption) _ (by omega)) (by omega) ?_) | (refine Ints.ix (c := 0) (by assumption) (by omega) ?_) | (refine Mat.ix (c := 0) (by assumption) (by omega) ?_) | (refine Ints.ix (c := 0) (Mat.row (by assumption) _ (by omega)) (by omega) ?_) | (refine Ints.ixI (by assumption) (by omega) ?_) | (refine Mat.ixI (by assumption) (by omega) ?_) | (refine Ints.ixI (Mat.row (by assumption) _ (by omega)) (by omega) ?_) | (refine Ints.ld (by assumption) (by omega) ?_) | (refine Mat.ld (by assumption) (by omega) ?_) | (refine Ints.ld (Mat.row (by assumption) _ (by omega)) (by omega) ?_) | (refine At.ld (by assumption) rfl ?_) | (refine At.ldN (by assumption) rfl ?_) | (refine Prs.ln (by assumption) ?_) | (refine Trs.ln (by assumption) ?_) | (refine Prs.ix (by assumption) (by omega) ?_) | (refine Trs.ix (by assumption) (by omega) ?_) | (refine Prs.ldN (by assumption) (by omega) ?_) | (refine Trs.ldN (by assumption) (by omega) ?_) | (refine At.ldN (Blk.at (by assumption)) rfl ?_) | (refine At.ld (Blk.at (by assumption)) rfl ?_) | (refine IxA.mk (by omega) ?_) | (refine Sl.ln (Own.sl (by assumption)) ?_) | (refine Ints.ix (Own.sl (by assumption)) (by omega) ?_) | (refine Ints.ixI (Own.sl (by assumption)) (by omega) ?_) | (refine Ints.ld (Own.sl (by assumption)) (by omega) ?_))
    refine hY n1 pre l _ _ hW hs1 hpre HJ HI _ (fun wb HJ2 G2 => ?_) (fun wb HJ2 G2 => ?_)
    · skip
      repeat' ((conv => whnf); first | (refine Rng.mk (by omega) ?_) | (refine Split.pos (by omega) ?_) | (refine Split.neg (by omega) ?_) | (refine Split.mk (fun h => ?_) (fun h => ?_)) | (refine Need.mk (by omega) ?_) | (refine Ints.ln (by assumption) ?_) | (refine Mat.ln (by assumption) ?_) | (refine Ints.ln (Mat.row (by assumption) _ (by omega)) ?_) | (refine Ints.ix (by assumption) (by omega) ?_) | (refine Mat.ix (by assumption) (by omega) ?_) | (refine Ints.ix (Mat.row (by assumption) _ (by omega)) (by omega) ?_) | (refine Ints.ix (c := 0) (by assumption) (by omega) ?_) | (refine Mat.ix (c := 0) (by assumption) (by omega) ?_) | (refine Ints.ix (c := 0) (Mat.row (by assumption) _ (by omega)) (by omega) ?_) | (refine Ints.ixI (by assumption) (by omega) ?_) | (refine Mat.ixI (by assumption) (by omega) ?_) | (refine Ints.ixI (Mat.row (by assumption) _ (by omega)) (by omega) ?_) | (refine Ints.ld (by assumption) (by omega) ?_) | (refine Mat.ld (by assumption) (by omega) ?_) | (refine Ints.ld (Mat.row (by assumption) _ (by omega)) (by omega) ?_) | (refine At.ld (by assumption) rfl ?_) | (refine At.ldN (by assumption) rfl ?_) | (refine Prs.ln (by assumption) ?_) | (refine Trs.ln (by assumption) ?_) | (refine Prs.ix (by assumption) (by omega) ?_) | (refine Trs.ix (by assumption) (by omega) ?_) | (refine Prs.ldN (by assumption) (by omega) ?_) | (refine Trs.ldN (by assumption) (by omega) ?_) | (refine At.ldN (Blk.at (by assumption)) rfl ?_) | (refine At.ld (Blk.at (by assumption)) rfl ?_) | (refine IxA.mk (by omega) ?_) | (refine Sl.ln (Own.sl (by assumption)) ?_) | (refine Ints.ix (Own.sl (by assumption)) (by omega) ?_) | (refine Ints.ixI (Own.sl (by assumption)) (by omega) ?_) | (refine Ints.ld (Own.sl (by assumption)) (by omega) ?_))
      exact ⟨G2.mono fun k _ h => h.elim .inl fun h => .inr (.inl h), .inl ⟨rfl, HB.gr G2 (by rintro (h | h); exact hgM h; omega), HJ2⟩⟩
    · skip
      repeat' ((conv => whnf); first | (refine Rng.mk (by omega) ?_) | (refine Split.pos (by omega) ?_) | (refine Split.neg (by omega) ?_) | (refine Split.mk (fun h => ?_) (fun h => ?_)) | (refine Need.mk (by omega) ?_) | (refine Ints.ln (by assumption) ?_) | (refine Mat.ln (by assumption) ?_) | (refine Ints.ln (Mat.row (by assumption) _ (by omega)) ?_) | (refine Ints.ix (by assumption) (by omega) ?_) | (refine Mat.ix (by assumption) (by omega) ?_) | (refine Ints.ix (Mat.row (by assumption) _ (by omega)) (by omega) ?_) | (refine Ints.ix (c := 0) (by assumption) (by omega) ?_) | (refine Mat.ix (c := 0) (by assumption) (by omega) ?_) | (refine Ints.ix (c := 0) (Mat.row (by assumption) _ (by omega)) (by omega) ?_) | (refine Ints.ixI (by assumption) (by omega) ?_) | (refine Mat.ixI (by assumption) (by omega) ?_) | (refine Ints.ixI (Mat.row (by assumption) _ (by omega)) (by omega) ?_) | (refine Ints.ld (by assumption) (by omega) ?_) | (refine Mat.ld (by assumption) (by omega) ?_) | (refine Ints.ld (Mat.row (by assumption) _ (by omega)) (by omega) ?_) | (refine At.ld (by assumption) rfl ?_) | (refine At.ldN (by assumption) rfl ?_) | (refine Prs.ln (by assumption) ?_) | (refine Trs.ln (by assumption) ?_) | (refine Prs.ix (by assumption) (by omega) ?_) | (refine Trs.ix (by assumption) (by omega) ?_) | (refine Prs.ldN (by assumption) (by omega) ?_) | (refine Trs.ldN (by assumption) (by omega) ?_) | (refine At.ldN (Blk.at (by assumption)) rfl ?_) | (refine At.ld (Blk.at (by assumption)) rfl ?_) | (refine IxA.mk (by omega) ?_) | (refine Sl.ln (Own.sl (by assumption)) ?_) | (refine Ints.ix (Own.sl (by assumption)) (by omega) ?_) | (refine Ints.ixI (Own.sl (by assumption)) (by omega) ?_) | (refine Ints.ld (Own.sl (by assumption)) (by omega) ?_))
      exact ⟨G2.mono fun k _ h => h.elim .inl fun h => .inr (.inl h), .inr ⟨rfl, _, hpre, HJ2⟩⟩
  | succ r ih =>
    intro l used pre w hl hu hsz HB Hm HYb Hn Hf HJ hpre
    refine RCX.mk tyOk Try.func87 rfl (by kernel_rfl) fun w1 E1 => ?_
    replace HB := HB.ext E1
    replace Hm := Hm.ext E1
    replace HYb := HYb.ext E1
    replace Hn := Hn.ext E1
    replace Hf := Hf.ext E1
    replace HJ := HJ.ext E1
    have EE := Ext.refl w1
    have hs1 : n1 ≤ w1.heap.size := Nat.le_trans hsz E1.size
    have HI : Ints w1 (bufV g mg l.length) l := Own.sl (HB.own (B := 0) (Nat.zero_le _))
    by_cases hn2 : n < used + 1
    · have hmin : min (used + 1) n = n := by omega
      repeat' ((conv => whnf); first | (refine Ints.ln HI ?_) | (refine At.ld (i := 0) Hm rfl ?_) | (refine At.ld (i := 0) Hn rfl ?_) | (refine Rng.mk (by omega) ?_) | (refine Split.pos (by omega) ?_) | (refine Split.neg (by omega) ?_) | (refine Split.mk (fun h => ?_) (fun h => ?_)) | (refine Need.mk (by omega) ?_) | (refine Ints.ln (by assumption) ?_) | (refine Mat.ln (by assumption) ?_) | (refine Ints.ln (Mat.row (by assumption) _ (by omega)) ?_) | (refine Ints.ix (by assumption) (by omega) ?_) | (refine Mat.ix (by assumption) (by omega) ?_) | (refine Ints.ix (Mat.row (by assumption) _ (by omega)) (by omega) ?_) | (refine Ints.ix (c := 0) (by assumption) (by omega) ?_) | (refine Mat.ix (c := 0) (by assumption) (by omega) ?_) | (refine Ints.ix (c := 0) (Mat.row (by assumption) _ (by omega)) (by omega) ?_) | (refine Ints.ixI (by assumption) (by omega) ?_) | (refine Mat.ixI (by assumption) (by omega) ?_) | (refine Ints.ixI (Mat.row (by assumption) _ (by omega)) (by omega) ?_) | (refine Ints.ld (by assumption) (by omega) ?_) | (refine Mat.ld (by assumption) (by omega) ?_) | (refine Ints.ld (Mat.row (by assumption) _ (by omega)) (by omega) ?_) | (refine At.ld (by assumption) rfl ?_) | (refine At.ldN (by assumption) rfl ?_) | (refine Prs.ln (by assumption) ?_) | (refine Trs.ln (by assumption) ?_) | (refine Prs.ix (by assumption) (by omega) ?_) | (refine Trs.ix (by assumption) (by omega) ?_) | (refine Prs.ldN (by assumption) (by omega) ?_) | (refine Trs.ldN (by assumption) (by omega) ?_) | (refine At.ldN (Blk.at (by assumption)) rfl ?_) | (refine At.ld (Blk.at (by assumption)) rfl ?_) | (refine IxA.mk (by omega) ?_) | (refine Sl.ln (Own.sl (by assumption)) ?_) | (refine Ints.ix (Own.sl (by assumption)) (by omega) ?_) | (refine Ints.ixI (Own.sl (by assumption)) (by omega) ?_) | (refine Ints.ld (Own.sl (by assumption)) (by omega) ?_))
      have hall : partsC n r used (n) = partsF n (r + 1) used := by have h := partsC_all n r used; rw [hmin] at h; exact h
      have HG0 : Gr (fun k => M k ∨ n1 ≤ k ∨ k = g) w1 w1 := Gr.refl _ _
      have HJ0 : Carry W0 n1 (J n1 (pre ++ (partsC n r used 0).map (fun s => l ++ s))) w1 := by simpa [partsC] using HJ
      have HB0 := HB
      have Hm0 := Hm
      have HY0 := HYb
      have Hn0 := Hn
      have Hf0 := Hf
      refine Lpx.mk tyOk [false, false, false, false, false, false, false, false, true, true, false, false, false, false, false, false, false, false, false, false, false, true, true, true, true, true, true, true, true, true, true, true, true, true, true, true] (fun m fr wr => getK fr 21 fun k => ∃ c : Nat, c ≤ (n) ∧ m = (n) - c ∧ k = .int .i64 (c : Int) ∧ (Buf 3 wr g mg l.length (l.map i64v)) ∧ (Carry W0 n1 (J n1 (pre ++ (partsC n r used c).map (fun s => l ++ s))) wr) ∧ (At wr ⟨mb, 0, none⟩ [.int .i64 (mg : Int)]) ∧ (At wr ⟨yb, 0, none⟩ [.func (.yield l0) #[] #[]]) ∧ (At wr ⟨nb, 0, none⟩ [.int .i64 (n : Int)]) ∧ (At wr ⟨fb, 0, none⟩ [.func (.func 87) #[] #[.pointer (some ⟨mb, 0, none⟩), .pointer (some ⟨yb, 0, none⟩), .pointer (some ⟨nb, 0, none⟩), .pointer (some ⟨fb, 0, none⟩)]]) ∧ (Gr (fun k => M k ∨ n1 ≤ k ∨ k = g) w1 wr) ∧ (n1 ≤ wr.heap.size)) ((n)) ?_ ?_
      · exact ⟨0, Nat.zero_le _, rfl, rfl, HB0, HJ0, Hm0, HY0, Hn0, Hf0, HG0, hs1⟩
      · intro m w2 u8 u9 u21 u22 u23 u24 u25 u26 u27 u28 u29 u30 u31 u32 u33 u34 u35 hR
        obtain ⟨c, hc, rfl, rfl, HB, HJ, Hm, HYb, Hn, Hf, HG, hs⟩ := hR
        by_cases hcl : c < n
        · have hpreC : pre ++ (partsC n r used (c + 1)).map (fun s => l ++ s) <+: xs := by
            refine List.IsPrefix.trans ?_ hpre
            rw [← hall, List.prefix_append_right_inj]
            exact (partsC_pre (by omega)).map _
          have hcat : pre ++ (partsC n r used c).map (fun s => l ++ s) ++ (partsF n r (max used (c + 1))).map (fun s => (l ++ [(c : Int)]) ++ s) = pre ++ (partsC n r used (c + 1)).map (fun s => l ++ s) := by
            rw [partsC_succ, List.map_append, List.map_map, List.append_assoc]
            congr 2
            refine List.map_congr_left fun s _ => ?_
            simp
          by_cases hmx : used < c + 1
          · have hmax : max used (c + 1) = c + 1 := by omega
            repeat' ((conv => whnf); first | (refine Drx.plan 24 [4, 8, 9] (.q 1 (.q 2 (.q 5 (.q 6 (.e 0 (.e 3 (.e 4 (.e 7 (.e 8 (.e 9 (.q 10 .nil) .nil) .nil) .nil) (.e 7 (.e 4 (.e 8 (.e 9 (.q 10 .nil) .nil) .nil) (.e 8 (.e 4 (.e 9 (.q 10 .nil) .nil) .nil) .nil)) .nil)) (.e 7 (.e 3 (.e 4 (.e 8 (.e 9 (.q 10 .nil) .nil) .nil) (.e 8 (.e 4 (.e 9 (.q 10 .nil) .nil) .nil) .nil)) (.e 8 (.e 3 (.e 4 (.e 9 (.q 10 .nil) .nil) .nil) .nil) .nil)) .nil)) (.e 3 (.e 0 (.e 4 (.e 7 (.e 8 (.e 9 (.q 10 .nil) .nil) .nil) .nil) (.e 7 (.e 4 (.e 8 (.e 9 (.q 10 .nil) .nil) .nil) (.e 8 (.e 4 (.e 9 (.q 10 .nil) .nil) .nil) .nil)) .nil)) (.e 4 (.e 0 (.e 7 (.e 8 (.e 9 (.q 10 .nil) .nil) .nil) .nil) (.e 7 (.e 0 (.e 8 (.e 9 (.q 10 .nil) .nil) .nil) (.e 8 (.e 0 (.e 9 (.q 10 .nil) .nil) .nil) .nil)) .nil)) (.e 7 (.e 0 (.e 4 (.e 8 (.e 9 (.q 10 .nil) .nil) .nil) (.e 8 (.e 4 (.e 9 (.q 10 .nil) .nil) .nil) .nil)) (.e 4 (.e 0 (.e 8 (.e 9 (.q 10 .nil) .nil) .nil) (.e 8 (.e 0 (.e 9 (.q 10 .nil) .nil) .nil) .nil)) (.e 8 (.e 0 (.e 4 (.e 9 (.q 10 .nil) .nil) .nil) (.e 4 (.e 0 (.e 9 (.q 10 .nil) .nil) .nil) .nil)) .nil))) .nil))) (.e 7 (.e 0 (.e 3 (.e 4 (.e 8 (.e 9 (.q 10 .nil) .nil) .nil) (.e 8 (.e 4 (.e 9 (.q 10 .nil) .nil) .nil) .nil)) (.e 8 (.e 3 (.e 4 (.e 9 (.q 10 .nil) .nil) .nil) .nil) .nil)) (.e 3 (.e 0 (.e 4 (.e 8 (.e 9 (.q 10 .nil) .nil) .nil) (.e 8 (.e 4 (.e 9 (.q 10 .nil) .nil) .nil) .nil)) (.e 4 (.e 0 (.e 8 (.e 9 (.q 10 .nil) .nil) .nil) (.e 8 (.e 0 (.e 9 (.q 10 .nil) .nil) .nil) .nil)) (.e 8 (.e 0 (.e 4 (.e 9 (.q 10 .nil) .nil) .nil) (.e 4 (.e 0 (.e 9 (.q 10 .nil) .nil) .nil) .nil)) .nil))) (.e 8 (.e 0 (.e 3 (.e 4 (.e 9 (.q 10 .nil) .nil) .nil) .nil) (.e 3 (.e 0 (.e 4 (.e 9 (.q 10 .nil) .nil) .nil) (.e 4 (.e 0 (.e 9 (.q 10 .nil) .nil) .nil) .nil)) .nil)) .nil))) .nil))))))) tyOk rfl (by kernel_rfl) ?_) | (refine Rng.mk (by omega) ?_) | (refine Split.pos (by omega) ?_) | (refine Split.neg (by omega) ?_) | (refine Split.mk (fun h => ?_) (fun h => ?_)) | (refine Need.mk (by omega) ?_) | (refine Ints.ln (by assumption) ?_) | (refine Mat.ln (by assumption) ?_) | (refine Ints.ln (Mat.row (by assumption) _ (by omega)) ?_) | (refine Ints.ix (by assumption) (by omega) ?_) | (refine Mat.ix (by assumption) (by omega) ?_) | (refine Ints.ix (Mat.row (by assumption) _ (by omega)) (by omega) ?_) | (refine Ints.ix (c := 0) (by assumption) (by omega) ?_) | (refine Mat.ix (c := 0) (by assumption) (by omega) ?_) | (refine Ints.ix (c := 0) (Mat.row (by assumption) _ (by omega)) (by omega) ?_) | (refine Ints.ixI (by assumption) (by omega) ?_) | (refine Mat.ixI (by assumption) (by omega) ?_) | (refine Ints.ixI (Mat.row (by assumption) _ (by omega)) (by omega) ?_) | (refine Ints.ld (by assumption) (by omega) ?_) | (refine Mat.ld (by assumption) (by omega) ?_) | (refine Ints.ld (Mat.row (by assumption) _ (by omega)) (by omega) ?_) | (refine At.ld (by assumption) rfl ?_) | (refine At.ldN (by assumption) rfl ?_) | (refine Prs.ln (by assumption) ?_) | (refine Trs.ln (by assumption) ?_) | (refine Prs.ix (by assumption) (by omega) ?_) | (refine Trs.ix (by assumption) (by omega) ?_) | (refine Prs.ldN (by assumption) (by omega) ?_) | (refine Trs.ldN (by assumption) (by omega) ?_) | (refine At.ldN (Blk.at (by assumption)) rfl ?_) | (refine At.ld (Blk.at (by assumption)) rfl ?_) | (refine IxA.mk (by omega) ?_) | (refine Sl.ln (Own.sl (by assumption)) ?_) | (refine Ints.ix (Own.sl (by assumption)) (by omega) ?_) | (refine Ints.ixI (Own.sl (by assumption)) (by omega) ?_) | (refine Ints.ld (Own.sl (by assumption)) (by omega) ?_))
            have key : ∀ (wz : World) (lv : Value), Gr (fun k => k = g) w2 wz → Buf 3 wz g mg (l.length + 1) (l.map i64v ++ [.int .i64 (c : Int)]) → (?PAx : World → Value → Prop) wz lv := ?keyAx
            conv => whnf
            refine ⟨?_, ?_, ?_⟩
            · conv => whnf
              refine At.ld (i := 0) Hf rfl ?_
              conv => whnf
              refine ⟨?_, ?_⟩
              · conv => whnf
                refine VX.lit1 Try.underlying27 eInt rfl fun lv w41 E41 Hl => ?_
                conv => whnf
                refine ⟨?_, ?_⟩
                · conv => whnf
                  refine VE.appIn Try.underlying27 eInt (HB.ext E41) (by omega) Hl rfl fun w42 G42 HB42 => ?_
                  conv => whnf
                  refine Rng.mk (by omega) ?_
                  conv => whnf
                  first | (refine Split.pos (by omega) ?_) | (refine Split.neg (by omega) ?_)
                  conv => whnf
                  exact key w42 lv ((Gr.ofExt E41 : Gr _ _ _).trans G42) HB42
                · conv => whnf
                  refine Rng.mk (by omega) ?_
                  conv => whnf
                  refine ⟨?_, ?_⟩
                  · conv => whnf
                    refine VE.appIn Try.underlying27 eInt (HB.ext E41) (by omega) Hl rfl fun w42 G42 HB42 => ?_
                    conv => whnf
                    first | (refine Split.pos (by omega) ?_) | (refine Split.neg (by omega) ?_)
                    conv => whnf
                    exact key w42 lv ((Gr.ofExt E41 : Gr _ _ _).trans G42) HB42
                  · conv => whnf
                    first | (refine Split.pos (by omega) ?_) | (refine Split.neg (by omega) ?_)
                    conv => whnf
                    refine VE.appIn Try.underlying27 eInt (HB.ext E41) (by omega) Hl rfl fun w42 G42 HB42 => ?_
                    conv => whnf
                    exact key w42 lv ((Gr.ofExt E41 : Gr _ _ _).trans G42) HB42
              · conv => whnf
                refine Rng.mk (by omega) ?_
                conv => whnf
                refine ⟨?_, ?_⟩
                · conv => whnf
                  refine VX.lit1 Try.underlying27 eInt rfl fun lv w41 E41 Hl => ?_
                  conv => whnf
                  refine ⟨?_, ?_⟩
                  · conv => whnf
                    refine VE.appIn Try.underlying27 eInt (HB.ext E41) (by omega) Hl rfl fun w42 G42 HB42 => ?_
                    conv => whnf
                    first | (refine Split.pos (by omega) ?_) | (refine Split.neg (by omega) ?_)
                    conv => whnf
                    exact key w42 lv ((Gr.ofExt E41 : Gr _ _ _).trans G42) HB42
                  · conv => whnf
                    first | (refine Split.pos (by omega) ?_) | (refine Split.neg (by omega) ?_)
                    conv => whnf
                    refine VE.appIn Try.underlying27 eInt (HB.ext E41) (by omega) Hl rfl fun w42 G42 HB42 => ?_
                    conv => whnf
                    exact key w42 lv ((Gr.ofExt E41 : Gr _ _ _).trans G42) HB42
                · conv => whnf
                  first | (refine Split.pos (by omega) ?_) | (refine Split.neg (by omega) ?_)
                  conv => whnf
                  refine VX.lit1 Try.underlying27 eInt rfl fun lv w41 E41 Hl => ?_
                  conv => whnf
                  refine VE.appIn Try.underlying27 eInt (HB.ext E41) (by omega) Hl rfl fun w42 G42 HB42 => ?_
                  conv => whnf
                  exact key w42 lv ((Gr.ofExt E41 : Gr _ _ _).trans G42) HB42
            · conv => whnf
              refine VX.lit1 Try.underlying27 eInt rfl fun lv w41 E41 Hl => ?_
              conv => whnf
              refine ⟨?_, ?_, ?_⟩
              · conv => whnf
                refine At.ld (i := 0) (Hf.ext E41) rfl ?_
                conv => whnf
                refine ⟨?_, ?_⟩
                · conv => whnf
                  refine VE.appIn Try.underlying27 eInt (HB.ext E41) (by omega) Hl rfl fun w42 G42 HB42 => ?_
                  conv => whnf
                  refine Rng.mk (by omega) ?_
                  conv => whnf
                  first | (refine Split.pos (by omega) ?_) | (refine Split.neg (by omega) ?_)
                  conv => whnf
                  exact key w42 lv ((Gr.ofExt E41 : Gr _ _ _).trans G42) HB42
                · conv => whnf
                  refine Rng.mk (by omega) ?_
                  conv => whnf
                  refine ⟨?_, ?_⟩
                  · conv => whnf
                    refine VE.appIn Try.underlying27 eInt (HB.ext E41) (by omega) Hl rfl fun w42 G42 HB42 => ?_
                    conv => whnf
                    first | (refine Split.pos (by omega) ?_) | (refine Split.neg (by omega) ?_)
                    conv => whnf
                    exact key w42 lv ((Gr.ofExt E41 : Gr _ _ _).trans G42) HB42
                  · conv => whnf
                    first | (refine Split.pos (by omega) ?_) | (refine Split.neg (by omega) ?_)
                    conv => whnf
                    refine VE.appIn Try.underlying27 eInt (HB.ext E41) (by omega) Hl rfl fun w42 G42 HB42 => ?_
                    conv => whnf
                    exact key w42 lv ((Gr.ofExt E41 : Gr _ _ _).trans G42) HB42
              · conv => whnf
                refine VE.appIn Try.underlying27 eInt (HB.ext E41) (by omega) Hl rfl fun w42 G42 HB42 => ?_
                conv => whnf
                refine ⟨?_, ?_⟩
                · conv => whnf
                  refine At.ld (i := 0) ((Hf.ext E41).gr G42 (fun h => hSf (.inr (.inr h)))) rfl ?_
                  conv => whnf
                  refine Rng.mk (by omega) ?_
                  conv => whnf
                  first | (refine Split.pos (by omega) ?_) | (refine Split.neg (by omega) ?_)
                  conv => whnf
                  exact key w42 lv ((Gr.ofExt E41 : Gr _ _ _).trans G42) HB42
                · conv => whnf
                  refine Rng.mk (by omega) ?_
                  conv => whnf
                  refine ⟨?_, ?_⟩
                  · conv => whnf
                    refine At.ld (i := 0) ((Hf.ext E41).gr G42 (fun h => hSf (.inr (.inr h)))) rfl ?_
                    conv => whnf
                    first | (refine Split.pos (by omega) ?_) | (refine Split.neg (by omega) ?_)
                    conv => whnf
                    exact key w42 lv ((Gr.ofExt E41 : Gr _ _ _).trans G42) HB42
                  · conv => whnf
                    first | (refine Split.pos (by omega) ?_) | (refine Split.neg (by omega) ?_)
                    conv => whnf
                    refine At.ld (i := 0) ((Hf.ext E41).gr G42 (fun h => hSf (.inr (.inr h)))) rfl ?_
                    conv => whnf
                    exact key w42 lv ((Gr.ofExt E41 : Gr _ _ _).trans G42) HB42
              · conv => whnf
                refine Rng.mk (by omega) ?_
                conv => whnf
                refine ⟨?_, ?_, ?_⟩
                · conv => whnf
                  refine At.ld (i := 0) (Hf.ext E41) rfl ?_
                  conv => whnf
                  refine ⟨?_, ?_⟩
                  · conv => whnf
                    refine VE.appIn Try.underlying27 eInt (HB.ext E41) (by omega) Hl rfl fun w42 G42 HB42 => ?_
                    conv => whnf
                    first | (refine Split.pos (by omega) ?_) | (refine Split.neg (by omega) ?_)
                    conv => whnf
                    exact key w42 lv ((Gr.ofExt E41 : Gr _ _ _).trans G42) HB42
                  · conv => whnf
                    first | (refine Split.pos (by omega) ?_) | (refine Split.neg (by omega) ?_)
                    conv => whnf
                    refine VE.appIn Try.underlying27 eInt (HB.ext E41) (by omega) Hl rfl fun w42 G42 HB42 => ?_
                    conv => whnf
                    exact key w42 lv ((Gr.ofExt E41 : Gr _ _ _).trans G42) HB42
                · conv => whnf
                  refine VE.appIn Try.underlying27 eInt (HB.ext E41) (by omega) Hl rfl fun w42 G42 HB42 => ?_
                  conv => whnf
                  refine ⟨?_, ?_⟩
                  · conv => whnf
                    refine At.ld (i := 0) ((Hf.ext E41).gr G42 (fun h => hSf (.inr (.inr h)))) rfl ?_
                    conv => whnf
                    first | (refine Split.pos (by omega) ?_) | (refine Split.neg (by omega) ?_)
                    conv => whnf
                    exact key w42 lv ((Gr.ofExt E41 : Gr _ _ _).trans G42) HB42
                  · conv => whnf
                    first | (refine Split.pos (by omega) ?_) | (refine Split.neg (by omega) ?_)
                    conv => whnf
                    refine At.ld (i := 0) ((Hf.ext E41).gr G42 (fun h => hSf (.inr (.inr h)))) rfl ?_
                    conv => whnf
                    exact key w42 lv ((Gr.ofExt E41 : Gr _ _ _).trans G42) HB42
                · conv => whnf
                  first | (refine Split.pos (by omega) ?_) | (refine Split.neg (by omega) ?_)
                  conv => whnf
                  refine ⟨?_, ?_⟩
                  · conv => whnf
                    refine At.ld (i := 0) (Hf.ext E41) rfl ?_
                    conv => whnf
                    refine VE.appIn Try.underlying27 eInt (HB.ext E41) (by omega) Hl rfl fun w42 G42 HB42 => ?_
                    conv => whnf
                    exact key w42 lv ((Gr.ofExt E41 : Gr _ _ _).trans G42) HB42
                  · conv => whnf
                    refine VE.appIn Try.underlying27 eInt (HB.ext E41) (by omega) Hl rfl fun w42 G42 HB42 => ?_
                    conv => whnf
                    refine At.ld (i := 0) ((Hf.ext E41).gr G42 (fun h => hSf (.inr (.inr h)))) rfl ?_
                    conv => whnf
                    exact key w42 lv ((Gr.ofExt E41 : Gr _ _ _).trans G42) HB42
            · conv => whnf
              refine Rng.mk (by omega) ?_
              conv => whnf
              refine ⟨?_, ?_, ?_⟩
              · conv => whnf
                refine At.ld (i := 0) Hf rfl ?_
                conv => whnf
                refine ⟨?_, ?_⟩
                · conv => whnf
                  refine VX.lit1 Try.underlying27 eInt rfl fun lv w41 E41 Hl => ?_
                  conv => whnf
                  refine ⟨?_, ?_⟩
                  · conv => whnf
                    refine VE.appIn Try.underlying27 eInt (HB.ext E41) (by omega) Hl rfl fun w42 G42 HB42 => ?_
                    conv => whnf
                    first | (refine Split.pos (by omega) ?_) | (refine Split.neg (by omega) ?_)
                    conv => whnf
                    exact key w42 lv ((Gr.ofExt E41 : Gr _ _ _).trans G42) HB42
                  · conv => whnf
                    first | (refine Split.pos (by omega) ?_) | (refine Split.neg (by omega) ?_)
                    conv => whnf
                    refine VE.appIn Try.underlying27 eInt (HB.ext E41) (by omega) Hl rfl fun w42 G42 HB42 => ?_
                    conv => whnf
                    exact key w42 lv ((Gr.ofExt E41 : Gr _ _ _).trans G42) HB42
                · conv => whnf
                  first | (refine Split.pos (by omega) ?_) | (refine Split.neg (by omega) ?_)
                  conv => whnf
                  refine VX.lit1 Try.underlying27 eInt rfl fun lv w41 E41 Hl => ?_
                  conv => whnf
                  refine VE.appIn Try.underlying27 eInt (HB.ext E41) (by omega) Hl rfl fun w42 G42 HB42 => ?_
                  conv => whnf
                  exact key w42 lv ((Gr.ofExt E41 : Gr _ _ _).trans G42) HB42
              · conv => whnf
                refine VX.lit1 Try.underlying27 eInt rfl fun lv w41 E41 Hl => ?_
                conv => whnf
                refine ⟨?_, ?_, ?_⟩
                · conv => whnf
                  refine At.ld (i := 0) (Hf.ext E41) rfl ?_
                  conv => whnf
                  refine ⟨?_, ?_⟩
                  · conv => whnf
                    refine VE.appIn Try.underlying27 eInt (HB.ext E41) (by omega) Hl rfl fun w42 G42 HB42 => ?_
                    conv => whnf
                    first | (refine Split.pos (by omega) ?_) | (refine Split.neg (by omega) ?_)
                    conv => whnf
                    exact key w42 lv ((Gr.ofExt E41 : Gr _ _ _).trans G42) HB42
                  · conv => whnf
                    first | (refine Split.pos (by omega) ?_) | (refine Split.neg (by omega) ?_)
                    conv => whnf
                    refine VE.appIn Try.underlying27 eInt (HB.ext E41) (by omega) Hl rfl fun w42 G42 HB42 => ?_
                    conv => whnf
                    exact key w42 lv ((Gr.ofExt E41 : Gr _ _ _).trans G42) HB42
                · conv => whnf
                  refine VE.appIn Try.underlying27 eInt (HB.ext E41) (by omega) Hl rfl fun w42 G42 HB42 => ?_
                  conv => whnf
                  refine ⟨?_, ?_⟩
                  · conv => whnf
                    refine At.ld (i := 0) ((Hf.ext E41).gr G42 (fun h => hSf (.inr (.inr h)))) rfl ?_
                    conv => whnf
                    first | (refine Split.pos (by omega) ?_) | (refine Split.neg (by omega) ?_)
                    conv => whnf
                    exact key w42 lv ((Gr.ofExt E41 : Gr _ _ _).trans G42) HB42
                  · conv => whnf
                    first | (refine Split.pos (by omega) ?_) | (refine Split.neg (by omega) ?_)
                    conv => whnf
                    refine At.ld (i := 0) ((Hf.ext E41).gr G42 (fun h => hSf (.inr (.inr h)))) rfl ?_
                    conv => whnf
                    exact key w42 lv ((Gr.ofExt E41 : Gr _ _ _).trans G42) HB42
                · conv => whnf
                  first | (refine Split.pos (by omega) ?_) | (refine Split.neg (by omega) ?_)
                  conv => whnf
                  refine ⟨?_, ?_⟩
                  · conv => whnf
                    refine At.ld (i := 0) (Hf.ext E41) rfl ?_
                    conv => whnf
                    refine VE.appIn Try.underlying27 eInt (HB.ext E41) (by omega) Hl rfl fun w42 G42 HB42 => ?_
                    conv => whnf
                    exact key w42 lv ((Gr.ofExt E41 : Gr _ _ _).trans G42) HB42
                  · conv => whnf
                    refine VE.appIn Try.underlying27 eInt (HB.ext E41) (by omega) Hl rfl fun w42 G42 HB42 => ?_
                    conv => whnf
                    refine At.ld (i := 0) ((Hf.ext E41).gr G42 (fun h => hSf (.inr (.inr h)))) rfl ?_
                    conv => whnf
                    exact key w42 lv ((Gr.ofExt E41 : Gr _ _ _).trans G42) HB42
              · conv => whnf
                first | (refine Split.pos (by omega) ?_) | (refine Split.neg (by omega) ?_)
                conv => whnf
                refine ⟨?_, ?_⟩
                · conv => whnf
                  refine At.ld (i := 0) Hf rfl ?_
                  conv => whnf
                  refine VX.lit1 Try.underlying27 eInt rfl fun lv w41 E41 Hl => ?_
                  conv => whnf
                  refine VE.appIn Try.underlying27 eInt (HB.ext E41) (by omega) Hl rfl fun w42 G42 HB42 => ?_
                  conv => whnf
                  exact key w42 lv ((Gr.ofExt E41 : Gr _ _ _).trans G42) HB42
                · conv => whnf
                  refine VX.lit1 Try.underlying27 eInt rfl fun lv w41 E41 Hl => ?_
                  conv => whnf
                  refine ⟨?_, ?_⟩
                  · conv => whnf
                    refine At.ld (i := 0) (Hf.ext E41) rfl ?_
                    conv => whnf
                    refine VE.appIn Try.underlying27 eInt (HB.ext E41) (by omega) Hl rfl fun w42 G42 HB42 => ?_
                    conv => whnf
                    exact key w42 lv ((Gr.ofExt E41 : Gr _ _ _).trans G42) HB42
                  · conv => whnf
                    refine VE.appIn Try.underlying27 eInt (HB.ext E41) (by omega) Hl rfl fun w42 G42 HB42 => ?_
                    conv => whnf
                    refine At.ld (i := 0) ((Hf.ext E41).gr G42 (fun h => hSf (.inr (.inr h)))) rfl ?_
                    conv => whnf
                    exact key w42 lv ((Gr.ofExt E41 : Gr _ _ _).trans G42) HB42
            intro wz lv Gz HBz
            have HBz' : Buf 3 wz g mg (l ++ [(c : Int)]).length ((l ++ [(c : Int)]).map i64v) := by rw [List.length_append, List.map_append]; exact HBz
            have Gz' : Gr (fun k => M k ∨ n1 ≤ k ∨ k = g) w2 wz := Gz.mono fun k _ h => .inr (.inr h)
            have ih' := ih (l ++ [(c : Int)]) (c + 1) (pre ++ (partsC n r used c).map (fun s => l ++ s)) wz (by simp; omega) (by omega) (Nat.le_trans hs Gz.size) HBz' (Hm.gr Gz (fun h => hSm (.inr (.inr h)))) (HYb.gr Gz (fun h => hSy (.inr (.inr h)))) (Hn.gr Gz (fun h => hSn (.inr (.inr h)))) (Hf.gr Gz (fun h => hSf (.inr (.inr h)))) (HJ.gr Gz (fun k hk => by have hk : k = g := hk; omega)) (by rw [hmax] at hcat; rw [hcat]; exact hpreC)
            rw [List.length_append, List.length_singleton] at ih'
            conv => whnf
            refine VC.rc ih' ?_
            rintro u wq G' (⟨rfl, HB2, HJ2⟩ | ⟨rfl, pre2, hp1, hp2⟩)
            · have Gq := Gz'.trans G'
              have HB3 := HB2.cut (m := l.length) (by omega)
              rw [← List.map_take, List.take_left' rfl] at HB3
              rw [hmax] at hcat
              rw [hcat] at HJ2
              repeat' ((conv => whnf); first | (refine Rng.mk (by omega) ?_) | (refine Split.pos (by omega) ?_) | (refine Split.neg (by omega) ?_) | (refine Split.mk (fun h => ?_) (fun h => ?_)) | (refine Need.mk (by omega) ?_) | (refine Ints.ln (by assumption) ?_) | (refine Mat.ln (by assumption) ?_) | (refine Ints.ln (Mat.row (by assumption) _ (by omega)) ?_) | (refine Ints.ix (by assumption) (by omega) ?_) | (refine Mat.ix (by assumption) (by omega) ?_) | (refine Ints.ix (Mat.row (by assumption) _ (by omega)) (by omega) ?_) | (refine Ints.ix (c := 0) (by assumption) (by omega) ?_) | (refine Mat.ix (c := 0) (by assumption) (by omega) ?_) | (refine Ints.ix (c := 0) (Mat.row (by assumption) _ (by omega)) (by omega) ?_) | (refine Ints.ixI (by assumption) (by omega) ?_) | (refine Mat.ixI (by assumption) (by omega) ?_) | (refine Ints.ixI (Mat.row (by assumption) _ (by omega)) (by omega) ?_) | (refine Ints.ld (by assumption) (by omega) ?_) | (refine Mat.ld (by assumption) (by omega) ?_) | (refine Ints.ld (Mat.row (by assumption) _ (by omega)) (by omega) ?_) | (refine At.ld (by assumption) rfl ?_) | (refine At.ldN (by assumption) rfl ?_) | (refine Prs.ln (by assumption) ?_) | (refine Trs.ln (by assumption) ?_) | (refine Prs.ix (by assumption) (by omega) ?_) | (refine Trs.ix (by assumption) (by omega) ?_) | (refine Prs.ldN (by assumption) (by omega) ?_) | (refine Trs.ldN (by assumption) (by omega) ?_) | (refine At.ldN (Blk.at (by assumption)) rfl ?_) | (refine At.ld (Blk.at (by assumption)) rfl ?_) | (refine IxA.mk (by omega) ?_) | (refine Sl.ln (Own.sl (by assumption)) ?_) | (refine Ints.ix (Own.sl (by assumption)) (by omega) ?_) | (refine Ints.ixI (Own.sl (by assumption)) (by omega) ?_) | (refine Ints.ld (Own.sl (by assumption)) (by omega) ?_))
              refine ⟨rfl, _, (by omega : (n) - (c + 1) < (n) - c), rfl, c + 1, by omega, rfl, rfl, HB3, HJ2, Hm.gr Gq hSm, HYb.gr Gq hSy, Hn.gr Gq hSn, Hf.gr Gq hSf, HG.trans Gq, Nat.le_trans hs Gq.size⟩
            · skip
              repeat' ((conv => whnf); first | (refine Rng.mk (by omega) ?_) | (refine Split.pos (by omega) ?_) | (refine Split.neg (by omega) ?_) | (refine Split.mk (fun h => ?_) (fun h => ?_)) | (refine Need.mk (by omega) ?_) | (refine Ints.ln (by assumption) ?_) | (refine Mat.ln (by assumption) ?_) | (refine Ints.ln (Mat.row (by assumption) _ (by omega)) ?_) | (refine Ints.ix (by assumption) (by omega) ?_) | (refine Mat.ix (by assumption) (by omega) ?_) | (refine Ints.ix (Mat.row (by assumption) _ (by omega)) (by omega) ?_) | (refine Ints.ix (c := 0) (by assumption) (by omega) ?_) | (refine Mat.ix (c := 0) (by assumption) (by omega) ?_) | (refine Ints.ix (c := 0) (Mat.row (by assumption) _ (by omega)) (by omega) ?_) | (refine Ints.ixI (by assumption) (by omega) ?_) | (refine Mat.ixI (by assumption) (by omega) ?_) | (refine Ints.ixI (Mat.row (by assumption) _ (by omega)) (by omega) ?_) | (refine Ints.ld (by assumption) (by omega) ?_) | (refine Mat.ld (by assumption) (by omega) ?_) | (refine Ints.ld (Mat.row (by assumption) _ (by omega)) (by omega) ?_) | (refine At.ld (by assumption) rfl ?_) | (refine At.ldN (by assumption) rfl ?_) | (refine Prs.ln (by assumption) ?_) | (refine Trs.ln (by assumption) ?_) | (refine Prs.ix (by assumption) (by omega) ?_) | (refine Trs.ix (by assumption) (by omega) ?_) | (refine Prs.ldN (by assumption) (by omega) ?_) | (refine Trs.ldN (by assumption) (by omega) ?_) | (refine At.ldN (Blk.at (by assumption)) rfl ?_) | (refine At.ld (Blk.at (by assumption)) rfl ?_) | (refine IxA.mk (by omega) ?_) | (refine Sl.ln (Own.sl (by assumption)) ?_) | (refine Ints.ix (Own.sl (by assumption)) (by omega) ?_) | (refine Ints.ixI (Own.sl (by assumption)) (by omega) ?_) | (refine Ints.ld (Own.sl (by assumption)) (by omega) ?_))
              exact ⟨(HG.trans Gz').trans G', .inr ⟨rfl, pre2, hp1, hp2⟩⟩
          · have hmax : max used (c + 1) = used := by omega
            repeat' ((conv => whnf); first | (refine Drx.plan 24 [4, 8, 9] (.q 1 (.q 2 (.q 5 (.q 6 (.e 0 (.e 3 (.e 4 (.e 7 (.e 8 (.e 9 (.q 10 .nil) .nil) .nil) .nil) (.e 7 (.e 4 (.e 8 (.e 9 (.q 10 .nil) .nil) .nil) (.e 8 (.e 4 (.e 9 (.q 10 .nil) .nil) .nil) .nil)) .nil)) (.e 7 (.e 3 (.e 4 (.e 8 (.e 9 (.q 10 .nil) .nil) .nil) (.e 8 (.e 4 (.e 9 (.q 10 .nil) .nil) .nil) .nil)) (.e 8 (.e 3 (.e 4 (.e 9 (.q 10 .nil) .nil) .nil) .nil) .nil)) .nil)) (.e 3 (.e 0 (.e 4 (.e 7 (.e 8 (.e 9 (.q 10 .nil) .nil) .nil) .nil) (.e 7 (.e 4 (.e 8 (.e 9 (.q 10 .nil) .nil) .nil) (.e 8 (.e 4 (.e 9 (.q 10 .nil) .nil) .nil) .nil)) .nil)) (.e 4 (.e 0 (.e 7 (.e 8 (.e 9 (.q 10 .nil) .nil) .nil) .nil) (.e 7 (.e 0 (.e 8 (.e 9 (.q 10 .nil) .nil) .nil) (.e 8 (.e 0 (.e 9 (.q 10 .nil) .nil) .nil) .nil)) .nil)) (.e 7 (.e 0 (.e 4 (.e 8 (.e 9 (.q 10 .nil) .nil) .nil) (.e 8 (.e 4 (.e 9 (.q 10 .nil) .nil) .nil) .nil)) (.e 4 (.e 0 (.e 8 (.e 9 (.q 10 .nil) .nil) .nil) (.e 8 (.e 0 (.e 9 (.q 10 .nil) .nil) .nil) .nil)) (.e 8 (.e 0 (.e 4 (.e 9 (.q 10 .nil) .nil) .nil) (.e 4 (.e 0 (.e 9 (.q 10 .nil) .nil) .nil) .nil)) .nil))) .nil))) (.e 7 (.e 0 (.e 3 (.e 4 (.e 8 (.e 9 (.q 10 .nil) .nil) .nil) (.e 8 (.e 4 (.e 9 (.q 10 .nil) .nil) .nil) .nil)) (.e 8 (.e 3 (.e 4 (.e 9 (.q 10 .nil) .nil) .nil) .nil) .nil)) (.e 3 (.e 0 (.e 4 (.e 8 (.e 9 (.q 10 .nil) .nil) .nil) (.e 8 (.e 4 (.e 9 (.q 10 .nil) .nil) .nil) .nil)) (.e 4 (.e 0 (.e 8 (.e 9 (.q 10 .nil) .nil) .nil) (.e 8 (.e 0 (.e 9 (.q 10 .nil) .nil) .nil) .nil)) (.e 8 (.e 0 (.e 4 (.e 9 (.q 10 .nil) .nil) .nil) (.e 4 (.e 0 (.e 9 (.q 10 .nil) .nil) .nil) .nil)) .nil))) (.e 8 (.e 0 (.e 3 (.e 4 (.e 9 (.q 10 .nil) .nil) .nil) .nil) (.e 3 (.e 0 (.e 4 (.e 9 (.q 10 .nil) .nil) .nil) (.e 4 (.e 0 (.e 9 (.q 10 .nil) .nil) .nil) .nil)) .nil)) .nil))) .nil))))))) tyOk rfl (by kernel_rfl) ?_) | (refine Rng.mk (by omega) ?_) | (refine Split.pos (by omega) ?_) | (refine Split.neg (by omega) ?_) | (refine Split.mk (fun h => ?_) (fun h => ?_)) | (refine Need.mk (by omega) ?_) | (refine Ints.ln (by assumption) ?_) | (refine Mat.ln (by assumption) ?_) | (refine Ints.ln (Mat.row (by assumption) _ (by omega)) ?_) | (refine Ints.ix (by assumption) (by omega) ?_) | (refine Mat.ix (by assumption) (by omega) ?_) | (refine Ints.ix (Mat.row (by assumption) _ (by omega)) (by omega) ?_) | (refine Ints.ix (c := 0) (by assumption) (by omega) ?_) | (refine Mat.ix (c := 0) (by assumption) (by omega) ?_) | (refine Ints.ix (c := 0) (Mat.row (by assumption) _ (by omega)) (by omega) ?_) | (refine Ints.ixI (by assumption) (by omega) ?_) | (refine Mat.ixI (by assumption) (by omega) ?_) | (refine Ints.ixI (Mat.row (by assumption) _ (by omega)) (by omega) ?_) | (refine Ints.ld (by assumption) (by omega) ?_) | (refine Mat.ld (by assumption) (by omega) ?_) | (refine Ints.ld (Mat.row (by assumption) _ (by omega)) (by omega) ?_) | (refine At.ld (by assumption) rfl ?_) | (refine At.ldN (by assumption) rfl ?_) | (refine Prs.ln (by assumption) ?_) | (refine Trs.ln (by assumption) ?_) | (refine Prs.ix (by assumption) (by omega) ?_) | (refine Trs.ix (by assumption) (by omega) ?_) | (refine Prs.ldN (by assumption) (by omega) ?_) | (refine Trs.ldN (by assumption) (by omega) ?_) | (refine At.ldN (Blk.at (by assumption)) rfl ?_) | (refine At.ld (Blk.at (by assumption)) rfl ?_) | (refine IxA.mk (by omega) ?_) | (refine Sl.ln (Own.sl (by assumption)) ?_) | (refine Ints.ix (Own.sl (by assumption)) (by omega) ?_) | (refine Ints.ixI (Own.sl (by assumption)) (by omega) ?_) | (refine Ints.ld (Own.sl (by assumption)) (by omega) ?_))
            have key : ∀ (wz : World) (lv : Value), Gr (fun k => k = g) w2 wz → Buf 3 wz g mg (l.length + 1) (l.map i64v ++ [.int .i64 (c : Int)]) → (?PBx : World → Value → Prop) wz lv := ?keyBx
            conv => whnf
            refine ⟨?_, ?_, ?_⟩
            · conv => whnf
              refine At.ld (i := 0) Hf rfl ?_
              conv => whnf
              refine ⟨?_, ?_⟩
              · conv => whnf
                refine VX.lit1 Try.underlying27 eInt rfl fun lv w41 E41 Hl => ?_
                conv => whnf
                refine ⟨?_, ?_⟩
                · conv => whnf
                  refine VE.appIn Try.underlying27 eInt (HB.ext E41) (by omega) Hl rfl fun w42 G42 HB42 => ?_
                  conv => whnf
                  refine Rng.mk (by omega) ?_
                  conv => whnf
                  first | (refine Split.pos (by omega) ?_) | (refine Split.neg (by omega) ?_)
                  conv => whnf
                  exact key w42 lv ((Gr.ofExt E41 : Gr _ _ _).trans G42) HB42
                · conv => whnf
                  refine Rng.mk (by omega) ?_
                  conv => whnf
                  refine ⟨?_, ?_⟩
                  · conv => whnf
                    refine VE.appIn Try.underlying27 eInt (HB.ext E41) (by omega) Hl rfl fun w42 G42 HB42 => ?_
                    conv => whnf
                    first | (refine Split.pos (by omega) ?_) | (refine Split.neg (by omega) ?_)
                    conv => whnf
                    exact key w42 lv ((Gr.ofExt E41 : Gr _ _ _).trans G42) HB42
                  · conv => whnf
                    first | (refine Split.pos (by omega) ?_) | (refine Split.neg (by omega) ?_)
                    conv => whnf
                    refine VE.appIn Try.underlying27 eInt (HB.ext E41) (by omega) Hl rfl fun w42 G42 HB42 => ?_
                    conv => whnf
                    exact key w42 lv ((Gr.ofExt E41 : Gr _ _ _).trans G42) HB42
              · conv => whnf
                refine Rng.mk (by omega) ?_
                conv => whnf
                refine ⟨?_, ?_⟩
                · conv => whnf
                  refine VX.lit1 Try.underlying27 eInt rfl fun lv w41 E41 Hl => ?_
                  conv => whnf
                  refine ⟨?_, ?_⟩
                  · conv => whnf
                    refine VE.appIn Try.underlying27 eInt (HB.ext E41) (by omega) Hl rfl fun w42 G42 HB42 => ?_
                    conv => whnf
                    first | (refine Split.pos (by omega) ?_) | (refine Split.neg (by omega) ?_)
                    conv => whnf
                    exact key w42 lv ((Gr.ofExt E41 : Gr _ _ _).trans G42) HB42
                  · conv => whnf
                    first | (refine Split.pos (by omega) ?_) | (refine Split.neg (by omega) ?_)
                    conv => whnf
                    refine VE.appIn Try.underlying27 eInt (HB.ext E41) (by omega) Hl rfl fun w42 G42 HB42 => ?_
                    conv => whnf
                    exact key w42 lv ((Gr.ofExt E41 : Gr _ _ _).trans G42) HB42
                · conv => whnf
                  first | (refine Split.pos (by omega) ?_) | (refine Split.neg (by omega) ?_)
                  conv => whnf
                  refine VX.lit1 Try.underlying27 eInt rfl fun lv w41 E41 Hl => ?_
                  conv => whnf
                  refine VE.appIn Try.underlying27 eInt (HB.ext E41) (by omega) Hl rfl fun w42 G42 HB42 => ?_
                  conv => whnf
                  exact key w42 lv ((Gr.ofExt E41 : Gr _ _ _).trans G42) HB42
            · conv => whnf
              refine VX.lit1 Try.underlying27 eInt rfl fun lv w41 E41 Hl => ?_
              conv => whnf
              refine ⟨?_, ?_, ?_⟩
              · conv => whnf
                refine At.ld (i := 0) (Hf.ext E41) rfl ?_
                conv => whnf
                refine ⟨?_, ?_⟩
                · conv => whnf
                  refine VE.appIn Try.underlying27 eInt (HB.ext E41) (by omega) Hl rfl fun w42 G42 HB42 => ?_
                  conv => whnf
                  refine Rng.mk (by omega) ?_
                  conv => whnf
                  first | (refine Split.pos (by omega) ?_) | (refine Split.neg (by omega) ?_)
                  conv => whnf
                  exact key w42 lv ((Gr.ofExt E41 : Gr _ _ _).trans G42) HB42
                · conv => whnf
                  refine Rng.mk (by omega) ?_
                  conv => whnf
                  refine ⟨?_, ?_⟩
                  · conv => whnf
                    refine VE.appIn Try.underlying27 eInt (HB.ext E41) (by omega) Hl rfl fun w42 G42 HB42 => ?_
                    conv => whnf
                    first | (refine Split.pos (by omega) ?_) | (refine Split.neg (by omega) ?_)
                    conv => whnf
                    exact key w42 lv ((Gr.ofExt E41 : Gr _ _ _).trans G42) HB42
                  · conv => whnf
                    first | (refine Split.pos (by omega) ?_) | (refine Split.neg (by omega) ?_)
                    conv => whnf
                    refine VE.appIn Try.underlying27 eInt (HB.ext E41) (by omega) Hl rfl fun w42 G42 HB42 => ?_
                    conv => whnf
                    exact key w42 lv ((Gr.ofExt E41 : Gr _ _ _).trans G42) HB42
              · conv => whnf
                refine VE.appIn Try.underlying27 eInt (HB.ext E41) (by omega) Hl rfl fun w42 G42 HB42 => ?_
                conv => whnf
                refine ⟨?_, ?_⟩
                · conv => whnf
                  refine At.ld (i := 0) ((Hf.ext E41).gr G42 (fun h => hSf (.inr (.inr h)))) rfl ?_
                  conv => whnf
                  refine Rng.mk (by omega) ?_
                  conv => whnf
                  first | (refine Split.pos (by omega) ?_) | (refine Split.neg (by omega) ?_)
                  conv => whnf
                  exact key w42 lv ((Gr.ofExt E41 : Gr _ _ _).trans G42) HB42
                · conv => whnf
                  refine Rng.mk (by omega) ?_
                  conv => whnf
                  refine ⟨?_, ?_⟩
                  · conv => whnf
                    refine At.ld (i := 0) ((Hf.ext E41).gr G42 (fun h => hSf (.inr (.inr h)))) rfl ?_
                    conv => whnf
                    first | (refine Split.pos (by omega) ?_) | (refine Split.neg (by omega) ?_)
                    conv => whnf
                    exact key w42 lv ((Gr.ofExt E41 : Gr _ _ _).trans G42) HB42
                  · conv => whnf
                    first | (refine Split.pos (by omega) ?_) | (refine Split.neg (by omega) ?_)
                    conv => whnf
                    refine At.ld (i := 0) ((Hf.ext E41).gr G42 (fun h => hSf (.inr (.inr h)))) rfl ?_
                    conv => whnf
                    exact key w42 lv ((Gr.ofExt E41 : Gr _ _ _).trans G42) HB42
              · conv => whnf
                refine Rng.mk (by omega) ?_
                conv => whnf
                refine ⟨?_, ?_, ?_⟩
                · conv => whnf
                  refine At.ld (i := 0) (Hf.ext E41) rfl ?_
                  conv => whnf
                  refine ⟨?_, ?_⟩
                  · conv => whnf
                    refine VE.appIn Try.underlying27 eInt (HB.ext E41) (by omega) Hl rfl fun w42 G42 HB42 => ?_
                    conv => whnf
                    first | (refine Split.pos (by omega) ?_) | (refine Split.neg (by omega) ?_)
                    conv => whnf
                    exact key w42 lv ((Gr.ofExt E41 : Gr _ _ _).trans G42) HB42
                  · conv => whnf
                    first | (refine Split.pos (by omega) ?_) | (refine Split.neg (by omega) ?_)
                    conv => whnf
                    refine VE.appIn Try.underlying27 eInt (HB.ext E41) (by omega) Hl rfl fun w42 G42 HB42 => ?_
                    conv => whnf
                    exact key w42 lv ((Gr.ofExt E41 : Gr _ _ _).trans G42) HB42
                · conv => whnf
                  refine VE.appIn Try.underlying27 eInt (HB.ext E41) (by omega) Hl rfl fun w42 G42 HB42 => ?_
                  conv => whnf
                  refine ⟨?_, ?_⟩
                  · conv => whnf
                    refine At.ld (i := 0) ((Hf.ext E41).gr G42 (fun h => hSf (.inr (.inr h)))) rfl ?_
                    conv => whnf
                    first | (refine Split.pos (by omega) ?_) | (refine Split.neg (by omega) ?_)
                    conv => whnf
                    exact key w42 lv ((Gr.ofExt E41 : Gr _ _ _).trans G42) HB42
                  · conv => whnf
                    first | (refine Split.pos (by omega) ?_) | (refine Split.neg (by omega) ?_)
                    conv => whnf
                    refine At.ld (i := 0) ((Hf.ext E41).gr G42 (fun h => hSf (.inr (.inr h)))) rfl ?_
                    conv => whnf
                    exact key w42 lv ((Gr.ofExt E41 : Gr _ _ _).trans G42) HB42
                · conv => whnf
                  first | (refine Split.pos (by omega) ?_) | (refine Split.neg (by omega) ?_)
                  conv => whnf
                  refine ⟨?_, ?_⟩
                  · conv => whnf
                    refine At.ld (i := 0) (Hf.ext E41) rfl ?_
                    conv => whnf
                    refine VE.appIn Try.underlying27 eInt (HB.ext E41) (by omega) Hl rfl fun w42 G42 HB42 => ?_
                    conv => whnf
                    exact key w42 lv ((Gr.ofExt E41 : Gr _ _ _).trans G42) HB42
                  · conv => whnf
                    refine VE.appIn Try.underlying27 eInt (HB.ext E41) (by omega) Hl rfl fun w42 G42 HB42 => ?_
                    conv => whnf
                    refine At.ld (i := 0) ((Hf.ext E41).gr G42 (fun h => hSf (.inr (.inr h)))) rfl ?_
                    conv => whnf
                    exact key w42 lv ((Gr.ofExt E41 : Gr _ _ _).trans G42) HB42
            · conv => whnf
              refine Rng.mk (by omega) ?_
              conv => whnf
              refine ⟨?_, ?_, ?_⟩
              · conv => whnf
                refine At.ld (i := 0) Hf rfl ?_
                conv => whnf
                refine ⟨?_, ?_⟩
                · conv => whnf
                  refine VX.lit1 Try.underlying27 eInt rfl fun lv w41 E41 Hl => ?_
                  conv => whnf
                  refine ⟨?_, ?_⟩
                  · conv => whnf
                    refine VE.appIn Try.underlying27 eInt (HB.ext E41) (by omega) Hl rfl fun w42 G42 HB42 => ?_
                    conv => whnf
                    first | (refine Split.pos (by omega) ?_) | (refine Split.neg (by omega) ?_)
                    conv => whnf
                    exact key w42 lv ((Gr.ofExt E41 : Gr _ _ _).trans G42) HB42
                  · conv => whnf
                    first | (refine Split.pos (by omega) ?_) | (refine Split.neg (by omega) ?_)
                    conv => whnf
                    refine VE.appIn Try.underlying27 eInt (HB.ext E41) (by omega) Hl rfl fun w42 G42 HB42 => ?_
                    conv => whnf
                    exact key w42 lv ((Gr.ofExt E41 : Gr _ _ _).trans G42) HB42
                · conv => whnf
                  first | (refine Split.pos (by omega) ?_) | (refine Split.neg (by omega) ?_)
                  conv => whnf
                  refine VX.lit1 Try.underlying27 eInt rfl fun lv w41 E41 Hl => ?_
                  conv => whnf
                  refine VE.appIn Try.underlying27 eInt (HB.ext E41) (by omega) Hl rfl fun w42 G42 HB42 => ?_
                  conv => whnf
                  exact key w42 lv ((Gr.ofExt E41 : Gr _ _ _).trans G42) HB42
              · conv => whnf
                refine VX.lit1 Try.underlying27 eInt rfl fun lv w41 E41 Hl => ?_
                conv => whnf
                refine ⟨?_, ?_, ?_⟩
                · conv => whnf
                  refine At.ld (i := 0) (Hf.ext E41) rfl ?_
                  conv => whnf
                  refine ⟨?_, ?_⟩
                  · conv => whnf
                    refine VE.appIn Try.underlying27 eInt (HB.ext E41) (by omega) Hl rfl fun w42 G42 HB42 => ?_
                    conv => whnf
                    first | (refine Split.pos (by omega) ?_) | (refine Split.neg (by omega) ?_)
                    conv => whnf
                    exact key w42 lv ((Gr.ofExt E41 : Gr _ _ _).trans G42) HB42
                  · conv => whnf
                    first | (refine Split.pos (by omega) ?_) | (refine Split.neg (by omega) ?_)
                    conv => whnf
                    refine VE.appIn Try.underlying27 eInt (HB.ext E41) (by omega) Hl rfl fun w42 G42 HB42 => ?_
                    conv => whnf
                    exact key w42 lv ((Gr.ofExt E41 : Gr _ _ _).trans G42) HB42
                · conv => whnf
                  refine VE.appIn Try.underlying27 eInt (HB.ext E41) (by omega) Hl rfl fun w42 G42 HB42 => ?_
                  conv => whnf
                  refine ⟨?_, ?_⟩
                  · conv => whnf
                    refine At.ld (i := 0) ((Hf.ext E41).gr G42 (fun h => hSf (.inr (.inr h)))) rfl ?_
                    conv => whnf
                    first | (refine Split.pos (by omega) ?_) | (refine Split.neg (by omega) ?_)
                    conv => whnf
                    exact key w42 lv ((Gr.ofExt E41 : Gr _ _ _).trans G42) HB42
                  · conv => whnf
                    first | (refine Split.pos (by omega) ?_) | (refine Split.neg (by omega) ?_)
                    conv => whnf
                    refine At.ld (i := 0) ((Hf.ext E41).gr G42 (fun h => hSf (.inr (.inr h)))) rfl ?_
                    conv => whnf
                    exact key w42 lv ((Gr.ofExt E41 : Gr _ _ _).trans G42) HB42
                · conv => whnf
                  first | (refine Split.pos (by omega) ?_) | (refine Split.neg (by omega) ?_)
                  conv => whnf
                  refine ⟨?_, ?_⟩
                  · conv => whnf
                    refine At.ld (i := 0) (Hf.ext E41) rfl ?_
                    conv => whnf
                    refine VE.appIn Try.underlying27 eInt (HB.ext E41) (by omega) Hl rfl fun w42 G42 HB42 => ?_
                    conv => whnf
                    exact key w42 lv ((Gr.ofExt E41 : Gr _ _ _).trans G42) HB42
                  · conv => whnf
                    refine VE.appIn Try.underlying27 eInt (HB.ext E41) (by omega) Hl rfl fun w42 G42 HB42 => ?_
                    conv => whnf
                    refine At.ld (i := 0) ((Hf.ext E41).gr G42 (fun h => hSf (.inr (.inr h)))) rfl ?_
                    conv => whnf
                    exact key w42 lv ((Gr.ofExt E41 : Gr _ _ _).trans G42) HB42
              · conv => whnf
                first | (refine Split.pos (by omega) ?_) | (refine Split.neg (by omega) ?_)
                conv => whnf
                refine ⟨?_, ?_⟩
                · conv => whnf
                  refine At.ld (i := 0) Hf rfl ?_
                  conv => whnf
                  refine VX.lit1 Try.underlying27 eInt rfl fun lv w41 E41 Hl => ?_
                  conv => whnf
                  refine VE.appIn Try.underlying27 eInt (HB.ext E41) (by omega) Hl rfl fun w42 G42 HB42 => ?_
                  conv => whnf
                  exact key w42 lv ((Gr.ofExt E41 : Gr _ _ _).trans G42) HB42
                · conv => whnf
                  refine VX.lit1 Try.underlying27 eInt rfl fun lv w41 E41 Hl => ?_
                  conv => whnf
                  refine ⟨?_, ?_⟩
                  · conv => whnf
                    refine At.ld (i := 0) (Hf.ext E41) rfl ?_
                    conv => whnf
                    refine VE.appIn Try.underlying27 eInt (HB.ext E41) (by omega) Hl rfl fun w42 G42 HB42 => ?_
                    conv => whnf
                    exact key w42 lv ((Gr.ofExt E41 : Gr _ _ _).trans G42) HB42
                  · conv => whnf
                    refine VE.appIn Try.underlying27 eInt (HB.ext E41) (by omega) Hl rfl fun w42 G42 HB42 => ?_
                    conv => whnf
                    refine At.ld (i := 0) ((Hf.ext E41).gr G42 (fun h => hSf (.inr (.inr h)))) rfl ?_
                    conv => whnf
                    exact key w42 lv ((Gr.ofExt E41 : Gr _ _ _).trans G42) HB42
            intro wz lv Gz HBz
            have HBz' : Buf 3 wz g mg (l ++ [(c : Int)]).length ((l ++ [(c : Int)]).map i64v) := by rw [List.length_append, List.map_append]; exact HBz
            have Gz' : Gr (fun k => M k ∨ n1 ≤ k ∨ k = g) w2 wz := Gz.mono fun k _ h => .inr (.inr h)
            have ih' := ih (l ++ [(c : Int)]) (used) (pre ++ (partsC n r used c).map (fun s => l ++ s)) wz (by simp; omega) (by omega) (Nat.le_trans hs Gz.size) HBz' (Hm.gr Gz (fun h => hSm (.inr (.inr h)))) (HYb.gr Gz (fun h => hSy (.inr (.inr h)))) (Hn.gr Gz (fun h => hSn (.inr (.inr h)))) (Hf.gr Gz (fun h => hSf (.inr (.inr h)))) (HJ.gr Gz (fun k hk => by have hk : k = g := hk; omega)) (by rw [hmax] at hcat; rw [hcat]; exact hpreC)
            rw [List.length_append, List.length_singleton] at ih'
            conv => whnf
            refine VC.rc ih' ?_
            rintro u wq G' (⟨rfl, HB2, HJ2⟩ | ⟨rfl, pre2, hp1, hp2⟩)
            · have Gq := Gz'.trans G'
              have HB3 := HB2.cut (m := l.length) (by omega)
              rw [← List.map_take, List.take_left' rfl] at HB3
              rw [hmax] at hcat
              rw [hcat] at HJ2
              repeat' ((conv => whnf); first | (refine Rng.mk (by omega) ?_) | (refine Split.pos (by omega) ?_) | (refine Split.neg (by omega) ?_) | (refine Split.mk (fun h => ?_) (fun h => ?_)) | (refine Need.mk (by omega) ?_) | (refine Ints.ln (by assumption) ?_) | (refine Mat.ln (by assumption) ?_) | (refine Ints.ln (Mat.row (by assumption) _ (by omega)) ?_) | (refine Ints.ix (by assumption) (by omega) ?_) | (refine Mat.ix (by assumption) (by omega) ?_) | (refine Ints.ix (Mat.row (by assumption) _ (by omega)) (by omega) ?_) | (refine Ints.ix (c := 0) (by assumption) (by omega) ?_) | (refine Mat.ix (c := 0) (by assumption) (by omega) ?_) | (refine Ints.ix (c := 0) (Mat.row (by assumption) _ (by omega)) (by omega) ?_) | (refine Ints.ixI (by assumption) (by omega) ?_) | (refine Mat.ixI (by assumption) (by omega) ?_) | (refine Ints.ixI (Mat.row (by assumption) _ (by omega)) (by omega) ?_) | (refine Ints.ld (by assumption) (by omega) ?_) | (refine Mat.ld (by assumption) (by omega) ?_) | (refine Ints.ld (Mat.row (by assumption) _ (by omega)) (by omega) ?_) | (refine At.ld (by assumption) rfl ?_) | (refine At.ldN (by assumption) rfl ?_) | (refine Prs.ln (by assumption) ?_) | (refine Trs.ln (by assumption) ?_) | (refine Prs.ix (by assumption) (by omega) ?_) | (refine Trs.ix (by assumption) (by omega) ?_) | (refine Prs.ldN (by assumption) (by omega) ?_) | (refine Trs.ldN (by assumption) (by omega) ?_) | (refine At.ldN (Blk.at (by assumption)) rfl ?_) | (refine At.ld (Blk.at (by assumption)) rfl ?_) | (refine IxA.mk (by omega) ?_) | (refine Sl.ln (Own.sl (by assumption)) ?_) | (refine Ints.ix (Own.sl (by assumption)) (by omega) ?_) | (refine Ints.ixI (Own.sl (by assumption)) (by omega) ?_) | (refine Ints.ld (Own.sl (by assumption)) (by omega) ?_))
              refine ⟨rfl, _, (by omega : (n) - (c + 1) < (n) - c), rfl, c + 1, by omega, rfl, rfl, HB3, HJ2, Hm.gr Gq hSm, HYb.gr Gq hSy, Hn.gr Gq hSn, Hf.gr Gq hSf, HG.trans Gq, Nat.le_trans hs Gq.size⟩
            · skip
              repeat' ((conv => whnf); first | (refine Rng.mk (by omega) ?_) | (refine Split.pos (by omega) ?_) | (refine Split.neg (by omega) ?_) | (refine Split.mk (fun h => ?_) (fun h => ?_)) | (refine Need.mk (by omega) ?_) | (refine Ints.ln (by assumption) ?_) | (refine Mat.ln (by assumption) ?_) | (refine Ints.ln (Mat.row (by assumption) _ (by omega)) ?_) | (refine Ints.ix (by assumption) (by omega) ?_) | (refine Mat.ix (by assumption) (by omega) ?_) | (refine Ints.ix (Mat.row (by assumption) _ (by omega)) (by omega) ?_) | (refine Ints.ix (c := 0) (by assumption) (by omega) ?_) | (refine Mat.ix (c := 0) (by assumption) (by omega) ?_) | (refine Ints.ix (c := 0) (Mat.row (by assumption) _ (by omega)) (by omega) ?_) | (refine Ints.ixI (by assumption) (by omega) ?_) | (refine Mat.ixI (by assumption) (by omega) ?_) | (refine Ints.ixI (Mat.row (by assumption) _ (by omega)) (by omega) ?_) | (refine Ints.ld (by assumption) (by omega) ?_) | (refine Mat.ld (by assumption) (by omega) ?_) | (refine Ints.ld (Mat.row (by assumption) _ (by omega)) (by omega) ?_) | (refine At.ld (by assumption) rfl ?_) | (refine At.ldN (by assumption) rfl ?_) | (refine Prs.ln (by assumption) ?_) | (refine Trs.ln (by assumption) ?_) | (refine Prs.ix (by assumption) (by omega) ?_) | (refine Trs.ix (by assumption) (by omega) ?_) | (refine Prs.ldN (by assumption) (by omega) ?_) | (refine Trs.ldN (by assumption) (by omega) ?_) | (refine At.ldN (Blk.at (by assumption)) rfl ?_) | (refine At.ld (Blk.at (by assumption)) rfl ?_) | (refine IxA.mk (by omega) ?_) | (refine Sl.ln (Own.sl (by assumption)) ?_) | (refine Ints.ix (Own.sl (by assumption)) (by omega) ?_) | (refine Ints.ixI (Own.sl (by assumption)) (by omega) ?_) | (refine Ints.ld (Own.sl (by assumption)) (by omega) ?_))
              exact ⟨(HG.trans Gz').trans G', .inr ⟨rfl, pre2, hp1, hp2⟩⟩
        · have e : c = n := by omega
          rw [e, hall] at HJ
          repeat' ((conv => whnf); first | (refine Rng.mk (by omega) ?_) | (refine Split.pos (by omega) ?_) | (refine Split.neg (by omega) ?_) | (refine Split.mk (fun h => ?_) (fun h => ?_)) | (refine Need.mk (by omega) ?_) | (refine Ints.ln (by assumption) ?_) | (refine Mat.ln (by assumption) ?_) | (refine Ints.ln (Mat.row (by assumption) _ (by omega)) ?_) | (refine Ints.ix (by assumption) (by omega) ?_) | (refine Mat.ix (by assumption) (by omega) ?_) | (refine Ints.ix (Mat.row (by assumption) _ (by omega)) (by omega) ?_) | (refine Ints.ix (c := 0) (by assumption) (by omega) ?_) | (refine Mat.ix (c := 0) (by assumption) (by omega) ?_) | (refine Ints.ix (c := 0) (Mat.row (by assumption) _ (by omega)) (by omega) ?_) | (refine Ints.ixI (by assumption) (by omega) ?_) | (refine Mat.ixI (by assumption) (by omega) ?_) | (refine Ints.ixI (Mat.row (by assumption) _ (by omega)) (by omega) ?_) | (refine Ints.ld (by assumption) (by omega) ?_) | (refine Mat.ld (by assumption) (by omega) ?_) | (refine Ints.ld (Mat.row (by assumption) _ (by omega)) (by omega) ?_) | (refine At.ld (by assumption) rfl ?_) | (refine At.ldN (by assumption) rfl ?_) | (refine Prs.ln (by assumption) ?_) | (refine Trs.ln (by assumption) ?_) | (refine Prs.ix (by assumption) (by omega) ?_) | (refine Trs.ix (by assumption) (by omega) ?_) | (refine Prs.ldN (by assumption) (by omega) ?_) | (refine Trs.ldN (by assumption) (by omega) ?_) | (refine At.ldN (Blk.at (by assumption)) rfl ?_) | (refine At.ld (Blk.at (by assumption)) rfl ?_) | (refine IxA.mk (by omega) ?_) | (refine Sl.ln (Own.sl (by assumption)) ?_) | (refine Ints.ix (Own.sl (by assumption)) (by omega) ?_) | (refine Ints.ixI (Own.sl (by assumption)) (by omega) ?_) | (refine Ints.ld (Own.sl (by assumption)) (by omega) ?_))
          exact ⟨HG, .inl ⟨rfl, HB, HJ⟩⟩
    · have hmin : min (used + 1) n = used + 1 := by omega
      repeat' ((conv => whnf); first | (refine Ints.ln HI ?_) | (refine At.ld (i := 0) Hm rfl ?_) | (refine At.ld (i := 0) Hn rfl ?_) | (refine Rng.mk (by omega) ?_) | (refine Split.pos (by omega) ?_) | (refine Split.neg (by omega) ?_) | (refine Split.mk (fun h => ?_) (fun h => ?_)) | (refine Need.mk (by omega) ?_) | (refine Ints.ln (by assumption) ?_) | (refine Mat.ln (by assumption) ?_) | (refine Ints.ln (Mat.row (by assumption) _ (by omega)) ?_) | (refine Ints.ix (by assumption) (by omega) ?_) | (refine Mat.ix (by assumption) (by omega) ?_) | (refine Ints.ix (Mat.row (by assumption) _ (by omega)) (by omega) ?_) | (refine Ints.ix (c := 0) (by assumption) (by omega) ?_) | (refine Mat.ix (c := 0) (by assumption) (by omega) ?_) | (refine Ints.ix (c := 0) (Mat.row (by assumption) _ (by omega)) (by omega) ?_) | (refine Ints.ixI (by assumption) (by omega) ?_) | (refine Mat.ixI (by assumption) (by omega) ?_) | (refine Ints.ixI (Mat.row (by assumption) _ (by omega)) (by omega) ?_) | (refine Ints.ld (by assumption) (by omega) ?_) | (refine Mat.ld (by assumption) (by omega) ?_) | (refine Ints.ld (Mat.row (by assumption) _ (by omega)) (by omega) ?_) | (refine At.ld (by assumption) rfl ?_) | (refine At.ldN (by assumption) rfl ?_) | (refine Prs.ln (by assumption) ?_) | (refine Trs.ln (by assumption) ?_) | (refine Prs.ix (by assumption) (by omega) ?_) | (refine Trs.ix (by assumption) (by omega) ?_) | (refine Prs.ldN (by assumption) (by omega) ?_) | (refine Trs.ldN (by assumption) (by omega) ?_) | (refine At.ldN (Blk.at (by assumption)) rfl ?_) | (refine At.ld (Blk.at (by assumption)) rfl ?_) | (refine IxA.mk (by omega) ?_) | (refine Sl.ln (Own.sl (by assumption)) ?_) | (refine Ints.ix (Own.sl (by assumption)) (by omega) ?_) | (refine Ints.ixI (Own.sl (by assumption)) (by omega) ?_) | (refine Ints.ld (Own.sl (by assumption)) (by omega) ?_))
      have hall : partsC n r used (used+1) = partsF n (r + 1) used := by have h := partsC_all n r used; rw [hmin] at h; exact h
      have HG0 : Gr (fun k => M k ∨ n1 ≤ k ∨ k = g) w1 w1 := Gr.refl _ _
      have HJ0 : Carry W0 n1 (J n1 (pre ++ (partsC n r used 0).map (fun s => l ++ s))) w1 := by simpa [partsC] using HJ
      have HB0 := HB
      have Hm0 := Hm
      have HY0 := HYb
      have Hn0 := Hn
      have Hf0 := Hf
      refine Lpx.mk tyOk [false, false, false, false, false, false, false, false, true, true, false, false, false, false, false, false, false, false, false, false, false, true, true, true, true, true, true, true, true, true, true, true, true, true, true, true] (fun m fr wr => getK fr 21 fun k => ∃ c : Nat, c ≤ (used+1) ∧ m = (used+1) - c ∧ k = .int .i64 (c : Int) ∧ (Buf 3 wr g mg l.length (l.map i64v)) ∧ (Carry W0 n1 (J n1 (pre ++ (partsC n r used c).map (fun s => l ++ s))) wr) ∧ (At wr ⟨mb, 0, none⟩ [.int .i64 (mg : Int)]) ∧ (At wr ⟨yb, 0, none⟩ [.func (.yield l0) #[] #[]]) ∧ (At wr ⟨nb, 0, none⟩ [.int .i64 (n : Int)]) ∧ (At wr ⟨fb, 0, none⟩ [.func (.func 87) #[] #[.pointer (some ⟨mb, 0, none⟩), .pointer (some ⟨yb, 0, none⟩), .pointer (some ⟨nb, 0, none⟩), .pointer (some ⟨fb, 0, none⟩)]]) ∧ (Gr (fun k => M k ∨ n1 ≤ k ∨ k = g) w1 wr) ∧ (n1 ≤ wr.heap.size)) ((used+1)) ?_ ?_
      · exact ⟨0, Nat.zero_le _, rfl, rfl, HB0, HJ0, Hm0, HY0, Hn0, Hf0, HG0, hs1⟩
      · intro m w61 u8 u9 u21 u22 u23 u24 u25 u26 u27 u28 u29 u30 u31 u32 u33 u34 u35 hR
        obtain ⟨c, hc, rfl, rfl, HB, HJ, Hm, HYb, Hn, Hf, HG, hs⟩ := hR
        by_cases hcl : c < used+1
        · have hpreC : pre ++ (partsC n r used (c + 1)).map (fun s => l ++ s) <+: xs := by
            refine List.IsPrefix.trans ?_ hpre
            rw [← hall, List.prefix_append_right_inj]
            exact (partsC_pre (by omega)).map _
          have hcat : pre ++ (partsC n r used c).map (fun s => l ++ s) ++ (partsF n r (max used (c + 1))).map (fun s => (l ++ [(c : Int)]) ++ s) = pre ++ (partsC n r used (c + 1)).map (fun s => l ++ s) := by
            rw [partsC_succ, List.map_append, List.map_map, List.append_assoc]
            congr 2
            refine List.map_congr_left fun s _ => ?_
            simp
          by_cases hmx : used < c + 1
          · have hmax : max used (c + 1) = c + 1 := by omega
            repeat' ((conv => whnf); first | (refine Drx.plan 24 [4, 8, 9] (.q 1 (.q 2 (.q 5 (.q 6 (.e 0 (.e 3 (.e 4 (.e 7 (.e 8 (.e 9 (.q 10 .nil) .nil) .nil) .nil) (.e 7 (.e 4 (.e 8 (.e 9 (.q 10 .nil) .nil) .nil) (.e 8 (.e 4 (.e 9 (.q 10 .nil) .nil) .nil) .nil)) .nil)) (.e 7 (.e 3 (.e 4 (.e 8 (.e 9 (.q 10 .nil) .nil) .nil) (.e 8 (.e 4 (.e 9 (.q 10 .nil) .nil) .nil) .nil)) (.e 8 (.e 3 (.e 4 (.e 9 (.q 10 .nil) .nil) .nil) .nil) .nil)) .nil)) (.e 3 (.e 0 (.e 4 (.e 7 (.e 8 (.e 9 (.q 10 .nil) .nil) .nil) .nil) (.e 7 (.e 4 (.e 8 (.e 9 (.q 10 .nil) .nil) .nil) (.e 8 (.e 4 (.e 9 (.q 10 .nil) .nil) .nil) .nil)) .nil)) (.e 4 (.e 0 (.e 7 (.e 8 (.e 9 (.q 10 .nil) .nil) .nil) .nil) (.e 7 (.e 0 (.e 8 (.e 9 (.q 10 .nil) .nil) .nil) (.e 8 (.e 0 (.e 9 (.q 10 .nil) .nil) .nil) .nil)) .nil)) (.e 7 (.e 0 (.e 4 (.e 8 (.e 9 (.q 10 .nil) .nil) .nil) (.e 8 (.e 4 (.e 9 (.q 10 .nil) .nil) .nil) .nil)) (.e 4 (.e 0 (.e 8 (.e 9 (.q 10 .nil) .nil) .nil) (.e 8 (.e 0 (.e 9 (.q 10 .nil) .nil) .nil) .nil)) (.e 8 (.e 0 (.e 4 (.e 9 (.q 10 .nil) .nil) .nil) (.e 4 (.e 0 (.e 9 (.q 10 .nil) .nil) .nil) .nil)) .nil))) .nil))) (.e 7 (.e 0 (.e 3 (.e 4 (.e 8 (.e 9 (.q 10 .nil) .nil) .nil) (.e 8 (.e 4 (.e 9 (.q 10 .nil) .nil) .nil) .nil)) (.e 8 (.e 3 (.e 4 (.e 9 (.q 10 .nil) .nil) .nil) .nil) .nil)) (.e 3 (.e 0 (.e 4 (.e 8 (.e 9 (.q 10 .nil) .nil) .nil) (.e 8 (.e 4 (.e 9 (.q 10 .nil) .nil) .nil) .nil)) (.e 4 (.e 0 (.e 8 (.e 9 (.q 10 .nil) .nil) .nil) (.e 8 (.e 0 (.e 9 (.q 10 .nil) .nil) .nil) .nil)) (.e 8 (.e 0 (.e 4 (.e 9 (.q 10 .nil) .nil) .nil) (.e 4 (.e 0 (.e 9 (.q 10 .nil) .nil) .nil) .nil)) .nil))) (.e 8 (.e 0 (.e 3 (.e 4 (.e 9 (.q 10 .nil) .nil) .nil) .nil) (.e 3 (.e 0 (.e 4 (.e 9 (.q 10 .nil) .nil) .nil) (.e 4 (.e 0 (.e 9 (.q 10 .nil) .nil) .nil) .nil)) .nil)) .nil))) .nil))))))) tyOk rfl (by kernel_rfl) ?_) | (refine Rng.mk (by omega) ?_) | (refine Split.pos (by omega) ?_) | (refine Split.neg (by omega) ?_) | (refine Split.mk (fun h => ?_) (fun h => ?_)) | (refine Need.mk (by omega) ?_) | (refine Ints.ln (by assumption) ?_) | (refine Mat.ln (by assumption) ?_) | (refine Ints.ln (Mat.row (by assumption) _ (by omega)) ?_) | (refine Ints.ix (by assumption) (by omega) ?_) | (refine Mat.ix (by assumption) (by omega) ?_) | (refine Ints.ix (Mat.row (by assumption) _ (by omega)) (by omega) ?_) | (refine Ints.ix (c := 0) (by assumption) (by omega) ?_) | (refine Mat.ix (c := 0) (by assumption) (by omega) ?_) | (refine Ints.ix (c := 0) (Mat.row (by assumption) _ (by omega)) (by omega) ?_) | (refine Ints.ixI (by assumption) (by omega) ?_) | (refine Mat.ixI (by assumption) (by omega) ?_) | (refine Ints.ixI (Mat.row (by assumption) _ (by omega)) (by omega) ?_) | (refine Ints.ld (by assumption) (by omega) ?_) | (refine Mat.ld (by assumption) (by omega) ?_) | (refine Ints.ld (Mat.row (by assumption) _ (by omega)) (by omega) ?_) | (refine At.ld (by assumption) rfl ?_) | (refine At.ldN (by assumption) rfl ?_) | (refine Prs.ln (by assumption) ?_) | (refine Trs.ln (by assumption) ?_) | (refine Prs.ix (by assumption) (by omega) ?_) | (refine Trs.ix (by assumption) (by omega) ?_) | (refine Prs.ldN (by assumption) (by omega) ?_) | (refine Trs.ldN (by assumption) (by omega) ?_) | (refine At.ldN (Blk.at (by assumption)) rfl ?_) | (refine At.ld (Blk.at (by assumption)) rfl ?_) | (refine IxA.mk (by omega) ?_) | (refine Sl.ln (Own.sl (by assumption)) ?_) | (refine Ints.ix (Own.sl (by assumption)) (by omega) ?_) | (refine Ints.ixI (Own.sl (by assumption)) (by omega) ?_) | (refine Ints.ld (Own.sl (by assumption)) (by omega) ?_))
            have key : ∀ (wz : World) (lv : Value), Gr (fun k => k = g) w61 wz → Buf 3 wz g mg (l.length + 1) (l.map i64v ++ [.int .i64 (c : Int)]) → (?PAy : World → Value → Prop) wz lv := ?keyAy
            conv => whnf
            refine ⟨?_, ?_, ?_⟩
            · conv => whnf
              refine At.ld (i := 0) Hf rfl ?_
              conv => whnf
              refine ⟨?_, ?_⟩
              · conv => whnf
                refine VX.lit1 Try.underlying27 eInt rfl fun lv w41 E41 Hl => ?_
                conv => whnf
                refine ⟨?_, ?_⟩
                · conv => whnf
                  refine VE.appIn Try.underlying27 eInt (HB.ext E41) (by omega) Hl rfl fun w42 G42 HB42 => ?_
                  conv => whnf
                  refine Rng.mk (by omega) ?_
                  conv => whnf
                  first | (refine Split.pos (by omega) ?_) | (refine Split.neg (by omega) ?_)
                  conv => whnf
                  exact key w42 lv ((Gr.ofExt E41 : Gr _ _ _).trans G42) HB42
                · conv => whnf
                  refine Rng.mk (by omega) ?_
                  conv => whnf
                  refine ⟨?_, ?_⟩
                  · conv => whnf
                    refine VE.appIn Try.underlying27 eInt (HB.ext E41) (by omega) Hl rfl fun w42 G42 HB42 => ?_
                    conv => whnf
                    first | (refine Split.pos (by omega) ?_) | (refine Split.neg (by omega) ?_)
                    conv => whnf
                    exact key w42 lv ((Gr.ofExt E41 : Gr _ _ _).trans G42) HB42
                  · conv => whnf
                    first | (refine Split.pos (by omega) ?_) | (refine Split.neg (by omega) ?_)
                    conv => whnf
                    refine VE.appIn Try.underlying27 eInt (HB.ext E41) (by omega) Hl rfl fun w42 G42 HB42 => ?_
                    conv => whnf
                    exact key w42 lv ((Gr.ofExt E41 : Gr _ _ _).trans G42) HB42
              · conv => whnf
                refine Rng.mk (by omega) ?_
                conv => whnf
                refine ⟨?_, ?_⟩
                · conv => whnf
                  refine VX.lit1 Try.underlying27 eInt rfl fun lv w41 E41 Hl => ?_
                  conv => whnf
                  refine ⟨?_, ?_⟩
                  · conv => whnf
                    refine VE.appIn Try.underlying27 eInt (HB.ext E41) (by omega) Hl rfl fun w42 G42 HB42 => ?_
                    conv => whnf
                    first | (refine Split.pos (by omega) ?_) | (refine Split.neg (by omega) ?_)
                    conv => whnf
                    exact key w42 lv ((Gr.ofExt E41 : Gr _ _ _).trans G42) HB42
                  · conv => whnf
                    first | (refine Split.pos (by omega) ?_) | (refine Split.neg (by omega) ?_)
                    conv => whnf
                    refine VE.appIn Try.underlying27 eInt (HB.ext E41) (by omega) Hl rfl fun w42 G42 HB42 => ?_
                    conv => whnf
                    exact key w42 lv ((Gr.ofExt E41 : Gr _ _ _).trans G42) HB42
                · conv => whnf
                  first | (refine Split.pos (by omega) ?_) | (refine Split.neg (by omega) ?_)
                  conv => whnf
                  refine VX.lit1 Try.underlying27 eInt rfl fun lv w41 E41 Hl => ?_
                  conv => whnf
                  refine VE.appIn Try.underlying27 eInt (HB.ext E41) (by omega) Hl rfl fun w42 G42 HB42 => ?_
                  conv => whnf
                  exact key w42 lv ((Gr.ofExt E41 : Gr _ _ _).trans G42) HB42
            · conv => whnf
              refine VX.lit1 Try.underlying27 eInt rfl fun lv w41 E41 Hl => ?_
              conv => whnf
              refine ⟨?_, ?_, ?_⟩
              · conv => whnf
                refine At.ld (i := 0) (Hf.ext E41) rfl ?_
                conv => whnf
                refine ⟨?_, ?_⟩
                · conv => whnf
                  refine VE.appIn Try.underlying27 eInt (HB.ext E41) (by omega) Hl rfl fun w42 G42 HB42 => ?_
                  conv => whnf
                  refine Rng.mk (by omega) ?_
                  conv => whnf
                  first | (refine Split.pos (by omega) ?_) | (refine Split.neg (by omega) ?_)
                  conv => whnf
                  exact key w42 lv ((Gr.ofExt E41 : Gr _ _ _).trans G42) HB42
                · conv => whnf
                  refine Rng.mk (by omega) ?_
                  conv => whnf
                  refine ⟨?_, ?_⟩
                  · conv => whnf
                    refine VE.appIn Try.underlying27 eInt (HB.ext E41) (by omega) Hl rfl fun w42 G42 HB42 => ?_
                    conv => whnf
                    first | (refine Split.pos (by omega) ?_) | (refine Split.neg (by omega) ?_)
                    conv => whnf
                    exact key w42 lv ((Gr.ofExt E41 : Gr _ _ _).trans G42) HB42
                  · conv => whnf
                    first | (refine Split.pos (by omega) ?_) | (refine Split.neg (by omega) ?_)
                    conv => whnf
                    refine VE.appIn Try.underlying27 eInt (HB.ext E41) (by omega) Hl rfl fun w42 G42 HB42 => ?_
                    conv => whnf
                    exact key w42 lv ((Gr.ofExt E41 : Gr _ _ _).trans G42) HB42
              · conv => whnf
                refine VE.appIn Try.underlying27 eInt (HB.ext E41) (by omega) Hl rfl fun w42 G42 HB42 => ?_
                conv => whnf
                refine ⟨?_, ?_⟩
                · conv => whnf
                  refine At.ld (i := 0) ((Hf.ext E41).gr G42 (fun h => hSf (.inr (.inr h)))) rfl ?_
                  conv => whnf
                  refine Rng.mk (by omega) ?_
                  conv => whnf
                  first | (refine Split.pos (by omega) ?_) | (refine Split.neg (by omega) ?_)
                  conv => whnf
                  exact key w42 lv ((Gr.ofExt E41 : Gr _ _ _).trans G42) HB42
                · conv => whnf
                  refine Rng.mk (by omega) ?_
                  conv => whnf
                  refine ⟨?_, ?_⟩
                  · conv => whnf
                    refine At.ld (i := 0) ((Hf.ext E41).gr G42 (fun h => hSf (.inr (.inr h)))) rfl ?_
                    conv => whnf
                    first | (refine Split.pos (by omega) ?_) | (refine Split.neg (by omega) ?_)
                    conv => whnf
                    exact key w42 lv ((Gr.ofExt E41 : Gr _ _ _).trans G42) HB42
                  · conv => whnf
                    first | (refine Split.pos (by omega) ?_) | (refine Split.neg (by omega) ?_)
                    conv => whnf
                    refine At.ld (i := 0) ((Hf.ext E41).gr G42 (fun h => hSf (.inr (.inr h)))) rfl ?_
                    conv => whnf
                    exact key w42 lv ((Gr.ofExt E41 : Gr _ _ _).trans G42) HB42
              · conv => whnf
                refine Rng.mk (by omega) ?_
                conv => whnf
                refine ⟨?_, ?_, ?_⟩
                · conv => whnf
                  refine At.ld (i := 0) (Hf.ext E41) rfl ?_
                  conv => whnf
                  refine ⟨?_, ?_⟩
                  · conv => whnf
                    refine VE.appIn Try.underlying27 eInt (HB.ext E41) (by omega) Hl rfl fun w42 G42 HB42 => ?_
                    conv => whnf
                    first | (refine Split.pos (by omega) ?_) | (refine Split.neg (by omega) ?_)
                    conv => whnf
                    exact key w42 lv ((Gr.ofExt E41 : Gr _ _ _).trans G42) HB42
                  · conv => whnf
                    first | (refine Split.pos (by omega) ?_) | (refine Split.neg (by omega) ?_)
                    conv => whnf
                    refine VE.appIn Try.underlying27 eInt (HB.ext E41) (by omega) Hl rfl fun w42 G42 HB42 => ?_
                    conv => whnf
                    exact key w42 lv ((Gr.ofExt E41 : Gr _ _ _).trans G42) HB42
                · conv => whnf
                  refine VE.appIn Try.underlying27 eInt (HB.ext E41) (by omega) Hl rfl fun w42 G42 HB42 => ?_
                  conv => whnf
                  refine ⟨?_, ?_⟩
                  · conv => whnf
                    refine At.ld (i := 0) ((Hf.ext E41).gr G42 (fun h => hSf (.inr (.inr h)))) rfl ?_
                    conv => whnf
                    first | (refine Split.pos (by omega) ?_) | (refine Split.neg (by omega) ?_)
                    conv => whnf
                    exact key w42 lv ((Gr.ofExt E41 : Gr _ _ _).trans G42) HB42
                  · conv => whnf
                    first | (refine Split.pos (by omega) ?_) | (refine Split.neg (by omega) ?_)
                    conv => whnf
                    refine At.ld (i := 0) ((Hf.ext E41).gr G42 (fun h => hSf (.inr (.inr h)))) rfl ?_
                    conv => whnf
                    exact key w42 lv ((Gr.ofExt E41 : Gr _ _ _).trans G42) HB42
                · conv => whnf
                  first | (refine Split.pos (by omega) ?_) | (refine Split.neg (by omega) ?_)
                  conv => whnf
                  refine ⟨?_, ?_⟩
                  · conv => whnf
                    refine At.ld (i := 0) (Hf.ext E41) rfl ?_
                    conv => whnf
                    refine VE.appIn Try.underlying27 eInt (HB.ext E41) (by omega) Hl rfl fun w42 G42 HB42 => ?_
                    conv => whnf
                    exact key w42 lv ((Gr.ofExt E41 : Gr _ _ _).trans G42) HB42
                  · conv => whnf
                    refine VE.appIn Try.underlying27 eInt (HB.ext E41) (by omega) Hl rfl fun w42 G42 HB42 => ?_
                    conv => whnf
                    refine At.ld (i := 0) ((Hf.ext E41).gr G42 (fun h => hSf (.inr (.inr h)))) rfl ?_
                    conv => whnf
                    exact key w42 lv ((Gr.ofExt E41 : Gr _ _ _).trans G42) HB42
            · conv => whnf
              refine Rng.mk (by omega) ?_
              conv => whnf
              refine ⟨?_, ?_, ?_⟩
              · conv => whnf
                refine At.ld (i := 0) Hf rfl ?_
                conv => whnf
                refine ⟨?_, ?_⟩
                · conv => whnf
                  refine VX.lit1 Try.underlying27 eInt rfl fun lv w41 E41 Hl => ?_
                  conv => whnf
                  refine ⟨?_, ?_⟩
                  · conv => whnf
                    refine VE.appIn Try.underlying27 eInt (HB.ext E41) (by omega) Hl rfl fun w42 G42 HB42 => ?_
                    conv => whnf
                    first | (refine Split.pos (by omega) ?_) | (refine Split.neg (by omega) ?_)
                    conv => whnf
                    exact key w42 lv ((Gr.ofExt E41 : Gr _ _ _).trans G42) HB42
                  · conv => whnf
                    first | (refine Split.pos (by omega) ?_) | (refine Split.neg (by omega) ?_)
                    conv => whnf
                    refine VE.appIn Try.underlying27 eInt (HB.ext E41) (by omega) Hl rfl fun w42 G42 HB42 => ?_
                    conv => whnf
                    exact key w42 lv ((Gr.ofExt E41 : Gr _ _ _).trans G42) HB42
                · conv => whnf
                  first | (refine Split.pos (by omega) ?_) | (refine Split.neg (by omega) ?_)
                  conv => whnf
                  refine VX.lit1 Try.underlying27 eInt rfl fun lv w41 E41 Hl => ?_
                  conv => whnf
                  refine VE.appIn Try.underlying27 eInt (HB.ext E41) (by omega) Hl rfl fun w42 G42 HB42 => ?_
                  conv => whnf
                  exact key w42 lv ((Gr.ofExt E41 : Gr _ _ _).trans G42) HB42
              · conv => whnf
                refine VX.lit1 Try.underlying27 eInt rfl fun lv w41 E41 Hl => ?_
                conv => whnf
                refine ⟨?_, ?_, ?_⟩
                · conv => whnf
                  refine At.ld (i := 0) (Hf.ext E41) rfl ?_
                  conv => whnf
                  refine ⟨?_, ?_⟩
                  · conv => whnf
                    refine VE.appIn Try.underlying27 eInt (HB.ext E41) (by omega) Hl rfl fun w42 G42 HB42 => ?_
                    conv => whnf
                    first | (refine Split.pos (by omega) ?_) | (refine Split.neg (by omega) ?_)
                    conv => whnf
                    exact key w42 lv ((Gr.ofExt E41 : Gr _ _ _).trans G42) HB42
                  · conv => whnf
                    first | (refine Split.pos (by omega) ?_) | (refine Split.neg (by omega) ?_)
                    conv => whnf
                    refine VE.appIn Try.underlying27 eInt (HB.ext E41) (by omega) Hl rfl fun w42 G42 HB42 => ?_
                    conv => whnf
                    exact key w42 lv ((Gr.ofExt E41 : Gr _ _ _).trans G42) HB42
                · conv => whnf
                  refine VE.appIn Try.underlying27 eInt (HB.ext E41) (by omega) Hl rfl fun w42 G42 HB42 => ?_
                  conv => whnf
                  refine ⟨?_, ?_⟩
                  · conv => whnf
                    refine At.ld (i := 0) ((Hf.ext E41).gr G42 (fun h => hSf (.inr (.inr h)))) rfl ?_
                    conv => whnf
                    first | (refine Split.pos (by omega) ?_) | (refine Split.neg (by omega) ?_)
                    conv => whnf
                    exact key w42 lv ((Gr.ofExt E41 : Gr _ _ _).trans G42) HB42
                  · conv => whnf
                    first | (refine Split.pos (by omega) ?_) | (refine Split.neg (by omega) ?_)
                    conv => whnf
                    refine At.ld (i := 0) ((Hf.ext E41).gr G42 (fun h => hSf (.inr (.inr h)))) rfl ?_
                    conv => whnf
                    exact key w42 lv ((Gr.ofExt E41 : Gr _ _ _).trans G42) HB42
                · conv => whnf
                  first | (refine Split.pos (by omega) ?_) | (refine Split.neg (by omega) ?_)
                  conv => whnf
                  refine ⟨?_, ?_⟩
                  · conv => whnf
                    refine At.ld (i := 0) (Hf.ext E41) rfl ?_
                    conv => whnf
                    refine VE.appIn Try.underlying27 eInt (HB.ext E41) (by omega) Hl rfl fun w42 G42 HB42 => ?_
                    conv => whnf
                    exact key w42 lv ((Gr.ofExt E41 : Gr _ _ _).trans G42) HB42
                  · conv => whnf
                    refine VE.appIn Try.underlying27 eInt (HB.ext E41) (by omega) Hl rfl fun w42 G42 HB42 => ?_
                    conv => whnf
                    refine At.ld (i := 0) ((Hf.ext E41).gr G42 (fun h => hSf (.inr (.inr h)))) rfl ?_
                    conv => whnf
                    exact key w42 lv ((Gr.ofExt E41 : Gr _ _ _).trans G42) HB42
              · conv => whnf
                first | (refine Split.pos (by omega) ?_) | (refine Split.neg (by omega) ?_)
                conv => whnf
                refine ⟨?_, ?_⟩
                · conv => whnf
                  refine At.ld (i := 0) Hf rfl ?_
                  conv => whnf
                  refine VX.lit1 Try.underlying27 eInt rfl fun lv w41 E41 Hl => ?_
                  conv => whnf
                  refine VE.appIn Try.underlying27 eInt (HB.ext E41) (by omega) Hl rfl fun w42 G42 HB42 => ?_
                  conv => whnf
                  exact key w42 lv ((Gr.ofExt E41 : Gr _ _ _).trans G42) HB42
                · conv => whnf
                  refine VX.lit1 Try.underlying27 eInt rfl fun lv w41 E41 Hl => ?_
                  conv => whnf
                  refine ⟨?_, ?_⟩
                  · conv => whnf
                    refine At.ld (i := 0) (Hf.ext E41) rfl ?_
                    conv => whnf
                    refine VE.appIn Try.underlying27 eInt (HB.ext E41) (by omega) Hl rfl fun w42 G42 HB42 => ?_
                    conv => whnf
                    exact key w42 lv ((Gr.ofExt E41 : Gr _ _ _).trans G42) HB42
                  · conv => whnf
                    refine VE.appIn Try.underlying27 eInt (HB.ext E41) (by omega) Hl rfl fun w42 G42 HB42 => ?_
                    conv => whnf
                    refine At.ld (i := 0) ((Hf.ext E41).gr G42 (fun h => hSf (.inr (.inr h)))) rfl ?_
                    conv => whnf
                    exact key w42 lv ((Gr.ofExt E41 : Gr _ _ _).trans G42) HB42
            intro wz lv Gz HBz
            have HBz' : Buf 3 wz g mg (l ++ [(c : Int)]).length ((l ++ [(c : Int)]).map i64v) := by rw [List.length_append, List.map_append]; exact HBz
            have Gz' : Gr (fun k => M k ∨ n1 ≤ k ∨ k = g) w61 wz := Gz.mono fun k _ h => .inr (.inr h)
            have ih' := ih (l ++ [(c : Int)]) (c + 1) (pre ++ (partsC n r used c).map (fun s => l ++ s)) wz (by simp; omega) (by omega) (Nat.le_trans hs Gz.size) HBz' (Hm.gr Gz (fun h => hSm (.inr (.inr h)))) (HYb.gr Gz (fun h => hSy (.inr (.inr h)))) (Hn.gr Gz (fun h => hSn (.inr (.inr h)))) (Hf.gr Gz (fun h => hSf (.inr (.inr h)))) (HJ.gr Gz (fun k hk => by have hk : k = g := hk; omega)) (by rw [hmax] at hcat; rw [hcat]; exact hpreC)
            rw [List.length_append, List.length_singleton] at ih'
            conv => whnf
            refine VC.rc ih' ?_
            rintro u wq G' (⟨rfl, HB2, HJ2⟩ | ⟨rfl, pre2, hp1, hp2⟩)
            · have Gq := Gz'.trans G'
              have HB3 := HB2.cut (m := l.length) (by omega)
              rw [← List.map_take, List.take_left' rfl] at HB3
              rw [hmax] at hcat
              rw [hcat] at HJ2
              repeat' ((conv => whnf); first | (refine Rng.mk (by omega) ?_) | (refine Split.pos (by omega) ?_) | (refine Split.neg (by omega) ?_) | (refine Split.mk (fun h => ?_) (fun h => ?_)) | (refine Need.mk (by omega) ?_) | (refine Ints.ln (by assumption) ?_) | (refine Mat.ln (by assumption) ?_) | (refine Ints.ln (Mat.row (by assumption) _ (by omega)) ?_) | (refine Ints.ix (by assumption) (by omega) ?_) | (refine Mat.ix (by assumption) (by omega) ?_) | (refine Ints.ix (Mat.row (by assumption) _ (by omega)) (by omega) ?_) | (refine Ints.ix (c := 0) (by assumption) (by omega) ?_) | (refine Mat.ix (c := 0) (by assumption) (by omega) ?_) | (refine Ints.ix (c := 0) (Mat.row (by assumption) _ (by omega)) (by omega) ?_) | (refine Ints.ixI (by assumption) (by omega) ?_) | (refine Mat.ixI (by assumption) (by omega) ?_) | (refine Ints.ixI (Mat.row (by assumption) _ (by omega)) (by omega) ?_) | (refine Ints.ld (by assumption) (by omega) ?_) | (refine Mat.ld (by assumption) (by omega) ?_) | (refine Ints.ld (Mat.row (by assumption) _ (by omega)) (by omega) ?_) | (refine At.ld (by assumption) rfl ?_) | (refine At.ldN (by assumption) rfl ?_) | (refine Prs.ln (by assumption) ?_) | (refine Trs.ln (by assumption) ?_) | (refine Prs.ix (by assumption) (by omega) ?_) | (refine Trs.ix (by assumption) (by omega) ?_) | (refine Prs.ldN (by assumption) (by omega) ?_) | (refine Trs.ldN (by assumption) (by omega) ?_) | (refine At.ldN (Blk.at (by assumption)) rfl ?_) | (refine At.ld (Blk.at (by assumption)) rfl ?_) | (refine IxA.mk (by omega) ?_) | (refine Sl.ln (Own.sl (by assumption)) ?_) | (refine Ints.ix (Own.sl (by assumption)) (by omega) ?_) | (refine Ints.ixI (Own.sl (by assumption)) (by omega) ?_) | (refine Ints.ld (Own.sl (by assumption)) (by omega) ?_))
              refine ⟨rfl, _, (by omega : (used+1) - (c + 1) < (used+1) - c), rfl, c + 1, by omega, rfl, rfl, HB3, HJ2, Hm.gr Gq hSm, HYb.gr Gq hSy, Hn.gr Gq hSn, Hf.gr Gq hSf, HG.trans Gq, Nat.le_trans hs Gq.size⟩
            · skip
              repeat' ((conv => whnf); first | (refine Rng.mk (by omega) ?_) | (refine Split.pos (by omega) ?_) | (refine Split.neg (by omega) ?_) | (refine Split.mk (fun h => ?_) (fun h => ?_)) | (refine Need.mk (by omega) ?_) | (refine Ints.ln (by assumption) ?_) | (refine Mat.ln (by assumption) ?_) | (refine Ints.ln (Mat.row (by assumption) _ (by omega)) ?_) | (refine Ints.ix (by assumption) (by omega) ?_) | (refine Mat.ix (by assumption) (by omega) ?_) | (refine Ints.ix (Mat.row (by assumption) _ (by omega)) (by omega) ?_) | (refine Ints.ix (c := 0) (by assumption) (by omega) ?_) | (refine Mat.ix (c := 0) (by assumption) (by omega) ?_) | (refine Ints.ix (c := 0) (Mat.row (by assumption) _ (by omega)) (by omega) ?_) | (refine Ints.ixI (by assumption) (by omega) ?_) | (refine Mat.ixI (by assumption) (by omega) ?_) | (refine Ints.ixI (Mat.row (by assumption) _ (by omega)) (by omega) ?_) | (refine Ints.ld (by assumption) (by omega) ?_) | (refine Mat.ld (by assumption) (by omega) ?_) | (refine Ints.ld (Mat.row (by assumption) _ (by omega)) (by omega) ?_) | (refine At.ld (by assumption) rfl ?_) | (refine At.ldN (by assumption) rfl ?_) | (refine Prs.ln (by assumption) ?_) | (refine Trs.ln (by assumption) ?_) | (refine Prs.ix (by assumption) (by omega) ?_) | (refine Trs.ix (by assumption) (by omega) ?_) | (refine Prs.ldN (by assumption) (by omega) ?_) | (refine Trs.ldN (by assumption) (by omega) ?_) | (refine At.ldN (Blk.at (by assumption)) rfl ?_) | (refine At.ld (Blk.at (by assumption)) rfl ?_) | (refine IxA.mk (by omega) ?_) | (refine Sl.ln (Own.sl (by assumption)) ?_) | (refine Ints.ix (Own.sl (by assumption)) (by omega) ?_) | (refine Ints.ixI (Own.sl (by assumption)) (by omega) ?_) | (refine Ints.ld (Own.sl (by assumption)) (by omega) ?_))
              exact ⟨(HG.trans Gz').trans G', .inr ⟨rfl, pre2, hp1, hp2⟩⟩
          · have hmax : max used (c + 1) = used := by omega
            repeat' ((conv => whnf); first | (refine Drx.plan 24 [4, 8, 9] (.q 1 (.q 2 (.q 5 (.q 6 (.e 0 (.e 3 (.e 4 (.e 7 (.e 8 (.e 9 (.q 10 .nil) .nil) .nil) .nil) (.e 7 (.e 4 (.e 8 (.e 9 (.q 10 .nil) .nil) .nil) (.e 8 (.e 4 (.e 9 (.q 10 .nil) .nil) .nil) .nil)) .nil)) (.e 7 (.e 3 (.e 4 (.e 8 (.e 9 (.q 10 .nil) .nil) .nil) (.e 8 (.e 4 (.e 9 (.q 10 .nil) .nil) .nil) .nil)) (.e 8 (.e 3 (.e 4 (.e 9 (.q 10 .nil) .nil) .nil) .nil) .nil)) .nil)) (.e 3 (.e 0 (.e 4 (.e 7 (.e 8 (.e 9 (.q 10 .nil) .nil) .nil) .nil) (.e 7 (.e 4 (.e 8 (.e 9 (.q 10 .nil) .nil) .nil) (.e 8 (.e 4 (.e 9 (.q 10 .nil) .nil) .nil) .nil)) .nil)) (.e 4 (.e 0 (.e 7 (.e 8 (.e 9 (.q 10 .nil) .nil) .nil) .nil) (.e 7 (.e 0 (.e 8 (.e 9 (.q 10 .nil) .nil) .nil) (.e 8 (.e 0 (.e 9 (.q 10 .nil) .nil) .nil) .nil)) .nil)) (.e 7 (.e 0 (.e 4 (.e 8 (.e 9 (.q 10 .nil) .nil) .nil) (.e 8 (.e 4 (.e 9 (.q 10 .nil) .nil) .nil) .nil)) (.e 4 (.e 0 (.e 8 (.e 9 (.q 10 .nil) .nil) .nil) (.e 8 (.e 0 (.e 9 (.q 10 .nil) .nil) .nil) .nil)) (.e 8 (.e 0 (.e 4 (.e 9 (.q 10 .nil) .nil) .nil) (.e 4 (.e 0 (.e 9 (.q 10 .nil) .nil) .nil) .nil)) .nil))) .nil))) (.e 7 (.e 0 (.e 3 (.e 4 (.e 8 (.e 9 (.q 10 .nil) .nil) .nil) (.e 8 (.e 4 (.e 9 (.q 10 .nil) .nil) .nil) .nil)) (.e 8 (.e 3 (.e 4 (.e 9 (.q 10 .nil) .nil) .nil) .nil) .nil)) (.e 3 (.e 0 (.e 4 (.e 8 (.e 9 (.q 10 .nil) .nil) .nil) (.e 8 (.e 4 (.e 9 (.q 10 .nil) .nil) .nil) .nil)) (.e 4 (.e 0 (.e 8 (.e 9 (.q 10 .nil) .nil) .nil) (.e 8 (.e 0 (.e 9 (.q 10 .nil) .nil) .nil) .nil)) (.e 8 (.e 0 (.e 4 (.e 9 (.q 10 .nil) .nil) .nil) (.e 4 (.e 0 (.e 9 (.q 10 .nil) .nil) .nil) .nil)) .nil))) (.e 8 (.e 0 (.e 3 (.e 4 (.e 9 (.q 10 .nil) .nil) .nil) .nil) (.e 3 (.e 0 (.e 4 (.e 9 (.q 10 .nil) .nil) .nil) (.e 4 (.e 0 (.e 9 (.q 10 .nil) .nil) .nil) .nil)) .nil)) .nil))) .nil))))))) tyOk rfl (by kernel_rfl) ?_) | (refine Rng.mk (by omega) ?_) | (refine Split.pos (by omega) ?_) | (refine Split.neg (by omega) ?_) | (refine Split.mk (fun h => ?_) (fun h => ?_)) | (refine Need.mk (by omega) ?_) | (refine Ints.ln (by assumption) ?_) | (refine Mat.ln (by assumption) ?_) | (refine Ints.ln (Mat.row (by assumption) _ (by omega)) ?_) | (refine Ints.ix (by assumption) (by omega) ?_) | (refine Mat.ix (by assumption) (by omega) ?_) | (refine Ints.ix (Mat.row (by assumption) _ (by omega)) (by omega) ?_) | (refine Ints.ix (c := 0) (by assumption) (by omega) ?_) | (refine Mat.ix (c := 0) (by assumption) (by omega) ?_) | (refine Ints.ix (c := 0) (Mat.row (by assumption) _ (by omega)) (by omega) ?_) | (refine Ints.ixI (by assumption) (by omega) ?_) | (refine Mat.ixI (by assumption) (by omega) ?_) | (refine Ints.ixI (Mat.row (by assumption) _ (by omega)) (by omega) ?_) | (refine Ints.ld (by assumption) (by omega) ?_) | (refine Mat.ld (by assumption) (by omega) ?_) | (refine Ints.ld (Mat.row (by assumption) _ (by omega)) (by omega) ?_) | (refine At.ld (by assumption) rfl ?_) | (refine At.ldN (by assumption) rfl ?_) | (refine Prs.ln (by assumption) ?_) | (refine Trs.ln (by assumption) ?_) | (refine Prs.ix (by assumption) (by omega) ?_) | (refine Trs.ix (by assumption) (by omega) ?_) | (refine Prs.ldN (by assumption) (by omega) ?_) | (refine Trs.ldN (by assumption) (by omega) ?_) | (refine At.ldN (Blk.at (by assumption)) rfl ?_) | (refine At.ld (Blk.at (by assumption)) rfl ?_) | (refine IxA.mk (by omega) ?_) | (refine Sl.ln (Own.sl (by assumption)) ?_) | (refine Ints.ix (Own.sl (by assumption)) (by omega) ?_) | (refine Ints.ixI (Own.sl (by assumption)) (by omega) ?_) | (refine Ints.ld (Own.sl (by assumption)) (by omega) ?_))
            have key : ∀ (wz : World) (lv : Value), Gr (fun k => k = g) w61 wz → Buf 3 wz g mg (l.length + 1) (l.map i64v ++ [.int .i64 (c : Int)]) → (?PBy : World → Value → Prop) wz lv := ?keyBy
            conv => whnf
            refine ⟨?_, ?_, ?_⟩
            · conv => whnf
              refine At.ld (i := 0) Hf rfl ?_
              conv => whnf
              refine ⟨?_, ?_⟩
              · conv => whnf
                refine VX.lit1 Try.underlying27 eInt rfl fun lv w41 E41 Hl => ?_
                conv => whnf
                refine ⟨?_, ?_⟩
                · conv => whnf
                  refine VE.appIn Try.underlying27 eInt (HB.ext E41) (by omega) Hl rfl fun w42 G42 HB42 => ?_
                  conv => whnf
                  refine Rng.mk (by omega) ?_
                  conv => whnf
                  first | (refine Split.pos (by omega) ?_) | (refine Split.neg (by omega) ?_)
                  conv => whnf
                  exact key w42 lv ((Gr.ofExt E41 : Gr _ _ _).trans G42) HB42
                · conv => whnf
                  refine Rng.mk (by omega) ?_
                  conv => whnf
                  refine ⟨?_, ?_⟩
                  · conv => whnf
                    refine VE.appIn Try.underlying27 eInt (HB.ext E41) (by omega) Hl rfl fun w42 G42 HB42 => ?_
                    conv => whnf
                    first | (refine Split.pos (by omega) ?_) | (refine Split.neg (by omega) ?_)
                    conv => whnf
                    exact key w42 lv ((Gr.ofExt E41 : Gr _ _ _).trans G42) HB42
                  · conv => whnf
                    first | (refine Split.pos (by omega) ?_) | (refine Split.neg (by omega) ?_)
                    conv => whnf
                    refine VE.appIn Try.underlying27 eInt (HB.ext E41) (by omega) Hl rfl fun w42 G42 HB42 => ?_
                    conv => whnf
                    exact key w42 lv ((Gr.ofExt E41 : Gr _ _ _).trans G42) HB42
              · conv => whnf
                refine Rng.mk (by omega) ?_
                conv => whnf
                refine ⟨?_, ?_⟩
                · conv => whnf
                  refine VX.lit1 Try.underlying27 eInt rfl fun lv w41 E41 Hl => ?_
                  conv => whnf
                  refine ⟨?_, ?_⟩
                  · conv => whnf
                    refine VE.appIn Try.underlying27 eInt (HB.ext E41) (by omega) Hl rfl fun w42 G42 HB42 => ?_
                    conv => whnf
                    first | (refine Split.pos (by omega) ?_) | (refine Split.neg (by omega) ?_)
                    conv => whnf
                    exact key w42 lv ((Gr.ofExt E41 : Gr _ _ _).trans G42) HB42
                  · conv => whnf
                    first | (refine Split.pos (by omega) ?_) | (refine Split.neg (by omega) ?_)
                    conv => whnf
                    refine VE.appIn Try.underlying27 eInt (HB.ext E41) (by omega) Hl rfl fun w42 G42 HB42 => ?_
                    conv => whnf
                    exact key w42 lv ((Gr.ofExt E41 : Gr _ _ _).trans G42) HB42
                · conv => whnf
                  first | (refine Split.pos (by omega) ?_) | (refine Split.neg (by omega) ?_)
                  conv => whnf
                  refine VX.lit1 Try.underlying27 eInt rfl fun lv w41 E41 Hl => ?_
                  conv => whnf
                  refine VE.appIn Try.underlying27 eInt (HB.ext E41) (by omega) Hl rfl fun w42 G42 HB42 => ?_
                  conv => whnf
                  exact key w42 lv ((Gr.ofExt E41 : Gr _ _ _).trans G42) HB42
            · conv => whnf
              refine VX.lit1 Try.underlying27 eInt rfl fun lv w41 E41 Hl => ?_
              conv => whnf
              refine ⟨?_, ?_, ?_⟩
              · conv => whnf
                refine At.ld (i := 0) (Hf.ext E41) rfl ?_
                conv => whnf
                refine ⟨?_, ?_⟩
                · conv => whnf
                  refine VE.appIn Try.underlying27 eInt (HB.ext E41) (by omega) Hl rfl fun w42 G42 HB42 => ?_
                  conv => whnf
                  refine Rng.mk (by omega) ?_
                  conv => whnf
                  first | (refine Split.pos (by omega) ?_) | (refine Split.neg (by omega) ?_)
                  conv => whnf
                  exact key w42 lv ((Gr.ofExt E41 : Gr _ _ _).trans G42) HB42
                · conv => whnf
                  refine Rng.mk (by omega) ?_
                  conv => whnf
                  refine ⟨?_, ?_⟩
                  · conv => whnf
                    refine VE.appIn Try.underlying27 eInt (HB.ext E41) (by omega) Hl rfl fun w42 G42 HB42 => ?_
                    conv => whnf
                    first | (refine Split.pos (by omega) ?_) | (refine Split.neg (by omega) ?_)
                    conv => whnf
                    exact key w42 lv ((Gr.ofExt E41 : Gr _ _ _).trans G42) HB42
                  · conv => whnf
                    first | (refine Split.pos (by omega) ?_) | (refine Split.neg (by omega) ?_)
                    conv => whnf
                    refine VE.appIn Try.underlying27 eInt (HB.ext E41) (by omega) Hl rfl fun w42 G42 HB42 => ?_
                    conv => whnf
                    exact key w42 lv ((Gr.ofExt E41 : Gr _ _ _).trans G42) HB42
              · conv => whnf
                refine VE.appIn Try.underlying27 eInt (HB.ext E41) (by omega) Hl rfl fun w42 G42 HB42 => ?_
                conv => whnf
                refine ⟨?_, ?_⟩
                · conv => whnf
                  refine At.ld (i := 0) ((Hf.ext E41).gr G42 (fun h => hSf (.inr (.inr h)))) rfl ?_
                  conv => whnf
                  refine Rng.mk (by omega) ?_
                  conv => whnf
                  first | (refine Split.pos (by omega) ?_) | (refine Split.neg (by omega) ?_)
                  conv => whnf
                  exact key w42 lv ((Gr.ofExt E41 : Gr _ _ _).trans G42) HB42
                · conv => whnf
                  refine Rng.mk (by omega) ?_
                  conv => whnf
                  refine ⟨?_, ?_⟩
                  · conv => whnf
                    refine At.ld (i := 0) ((Hf.ext E41).gr G42 (fun h => hSf (.inr (.inr h)))) rfl ?_
                    conv => whnf
                    first | (refine Split.pos (by omega) ?_) | (refine Split.neg (by omega) ?_)
                    conv => whnf
                    exact key w42 lv ((Gr.ofExt E41 : Gr _ _ _).trans G42) HB42
                  · conv => whnf
                    first | (refine Split.pos (by omega) ?_) | (refine Split.neg (by omega) ?_)
                    conv => whnf
                    refine At.ld (i := 0) ((Hf.ext E41).gr G42 (fun h => hSf (.inr (.inr h)))) rfl ?_
                    conv => whnf
                    exact key w42 lv ((Gr.ofExt E41 : Gr _ _ _).trans G42) HB42
              · conv => whnf
                refine Rng.mk (by omega) ?_
                conv => whnf
                refine ⟨?_, ?_, ?_⟩
                · conv => whnf
                  refine At.ld (i := 0) (Hf.ext E41) rfl ?_
                  conv => whnf
                  refine ⟨?_, ?_⟩
                  · conv => whnf
                    refine VE.appIn Try.underlying27 eInt (HB.ext E41) (by omega) Hl rfl fun w42 G42 HB42 => ?_
                    conv => whnf
                    first | (refine Split.pos (by omega) ?_) | (refine Split.neg (by omega) ?_)
                    conv => whnf
                    exact key w42 lv ((Gr.ofExt E41 : Gr _ _ _).trans G42) HB42
                  · conv => whnf
                    first | (refine Split.pos (by omega) ?_) | (refine Split.neg (by omega) ?_)
                    conv => whnf
                    refine VE.appIn Try.underlying27 eInt (HB.ext E41) (by omega) Hl rfl fun w42 G42 HB42 => ?_
                    conv => whnf
                    exact key w42 lv ((Gr.ofExt E41 : Gr _ _ _).trans G42) HB42
                · conv => whnf
                  refine VE.appIn Try.underlying27 eInt (HB.ext E41) (by omega) Hl rfl fun w42 G42 HB42 => ?_
                  conv => whnf
                  refine ⟨?_, ?_⟩
                  · conv => whnf
                    refine At.ld (i := 0) ((Hf.ext E41).gr G42 (fun h => hSf (.inr (.inr h)))) rfl ?_
                    conv => whnf
                    first | (refine Split.pos (by omega) ?_) | (refine Split.neg (by omega) ?_)
                    conv => whnf
                    exact key w42 lv ((Gr.ofExt E41 : Gr _ _ _).trans G42) HB42
                  · conv => whnf
                    first | (refine Split.pos (by omega) ?_) | (refine Split.neg (by omega) ?_)
                    conv => whnf
                    refine At.ld (i := 0) ((Hf.ext E41).gr G42 (fun h => hSf (.inr (.inr h)))) rfl ?_
                    conv => whnf
                    exact key w42 lv ((Gr.ofExt E41 : Gr _ _ _).trans G42) HB42
                · conv => whnf
                  first | (refine Split.pos (by omega) ?_) | (refine Split.neg (by omega) ?_)
                  conv => whnf
                  refine ⟨?_, ?_⟩
                  · conv => whnf
                    refine At.ld (i := 0) (Hf.ext E41) rfl ?_
                    conv => whnf
                    refine VE.appIn Try.underlying27 eInt (HB.ext E41) (by omega) Hl rfl fun w42 G42 HB42 => ?_
                    conv => whnf
                    exact key w42 lv ((Gr.ofExt E41 : Gr _ _ _).trans G42) HB42
                  · conv => whnf
                    refine VE.appIn Try.underlying27 eInt (HB.ext E41) (by omega) Hl rfl fun w42 G42 HB42 => ?_
                    conv => whnf
                    refine At.ld (i := 0) ((Hf.ext E41).gr G42 (fun h => hSf (.inr (.inr h)))) rfl ?_
                    conv => whnf
                    exact key w42 lv ((Gr.ofExt E41 : Gr _ _ _).trans G42) HB42
            · conv => whnf
              refine Rng.mk (by omega) ?_
              conv => whnf
              refine ⟨?_, ?_, ?_⟩
              · conv => whnf
                refine At.ld (i := 0) Hf rfl ?_
                conv => whnf
                refine ⟨?_, ?_⟩
                · conv => whnf
                  refine VX.lit1 Try.underlying27 eInt rfl fun lv w41 E41 Hl => ?_
                  conv => whnf
                  refine ⟨?_, ?_⟩
                  · conv => whnf
                    refine VE.appIn Try.underlying27 eInt (HB.ext E41) (by omega) Hl rfl fun w42 G42 HB42 => ?_
                    conv => whnf
                    first | (refine Split.pos (by omega) ?_) | (refine Split.neg (by omega) ?_)
                    conv => whnf
                    exact key w42 lv ((Gr.ofExt E41 : Gr _ _ _).trans G42) HB42
                  · conv => whnf
                    first | (refine Split.pos (by omega) ?_) | (refine Split.neg (by omega) ?_)
                    conv => whnf
                    refine VE.appIn Try.underlying27 eInt (HB.ext E41) (by omega) Hl rfl fun w42 G42 HB42 => ?_
                    conv => whnf
                    exact key w42 lv ((Gr.ofExt E41 : Gr _ _ _).trans G42) HB42
                · conv => whnf
                  first | (refine Split.pos (by omega) ?_) | (refine Split.neg (by omega) ?_)
                  conv => whnf
                  refine VX.lit1 Try.underlying27 eInt rfl fun lv w41 E41 Hl => ?_
                  conv => whnf
                  refine VE.appIn Try.underlying27 eInt (HB.ext E41) (by omega) Hl rfl fun w42 G42 HB42 => ?_
                  conv => whnf
                  exact key w42 lv ((Gr.ofExt E41 : Gr _ _ _).trans G42) HB42
              · conv => whnf
                refine VX.lit1 Try.underlying27 eInt rfl fun lv w41 E41 Hl => ?_
                conv => whnf
                refine ⟨?_, ?_, ?_⟩
                · conv => whnf
                  refine At.ld (i := 0) (Hf.ext E41) rfl ?_
                  conv => whnf
                  refine ⟨?_, ?_⟩
                  · conv => whnf
                    refine VE.appIn Try.underlying27 eInt (HB.ext E41) (by omega) Hl rfl fun w42 G42 HB42 => ?_
                    conv => whnf
                    first | (refine Split.pos (by omega) ?_) | (refine Split.neg (by omega) ?_)
                    conv => whnf
                    exact key w42 lv ((Gr.ofExt E41 : Gr _ _ _).trans G42) HB42
                  · conv => whnf
                    first | (refine Split.pos (by omega) ?_) | (refine Split.neg (by omega) ?_)
                    conv => whnf
                    refine VE.appIn Try.underlying27 eInt (HB.ext E41) (by omega) Hl rfl fun w42 G42 HB42 => ?_
                    conv => whnf
                    exact key w42 lv ((Gr.ofExt E41 : Gr _ _ _).trans G42) HB42
                · conv => whnf
                  refine VE.appIn Try.underlying27 eInt (HB.ext E41) (by omega) Hl rfl fun w42 G42 HB42 => ?_
                  conv => whnf
                  refine ⟨?_, ?_⟩
                  · conv => whnf
                    refine At.ld (i := 0) ((Hf.ext E41).gr G42 (fun h => hSf (.inr (.inr h)))) rfl ?_
                    conv => whnf
                    first | (refine Split.pos (by omega) ?_) | (refine Split.neg (by omega) ?_)
                    conv => whnf
                    exact key w42 lv ((Gr.ofExt E41 : Gr _ _ _).trans G42) HB42
                  · conv => whnf
                    first | (refine Split.pos (by omega) ?_) | (refine Split.neg (by omega) ?_)
                    conv => whnf
                    refine At.ld (i := 0) ((Hf.ext E41).gr G42 (fun h => hSf (.inr (.inr h)))) rfl ?_
                    conv => whnf
                    exact key w42 lv ((Gr.ofExt E41 : Gr _ _ _).trans G42) HB42
                · conv => whnf
                  first | (refine Split.pos (by omega) ?_) | (refine Split.neg (by omega) ?_)
                  conv => whnf
                  refine ⟨?_, ?_⟩
                  · conv => whnf
                    refine At.ld (i := 0) (Hf.ext E41) rfl ?_
                    conv => whnf
                    refine VE.appIn Try.underlying27 eInt (HB.ext E41) (by omega) Hl rfl fun w42 G42 HB42 => ?_
                    conv => whnf
                    exact key w42 lv ((Gr.ofExt E41 : Gr _ _ _).trans G42) HB42
                  · conv => whnf
                    refine VE.appIn Try.underlying27 eInt (HB.ext E41) (by omega) Hl rfl fun w42 G42 HB42 => ?_
                    conv => whnf
                    refine At.ld (i := 0) ((Hf.ext E41).gr G42 (fun h => hSf (.inr (.inr h)))) rfl ?_
                    conv => whnf
                    exact key w42 lv ((Gr.ofExt E41 : Gr _ _ _).trans G42) HB42
              · conv => whnf
                first | (refine Split.pos (by omega) ?_) | (refine Split.neg (by omega) ?_)
                conv => whnf
                refine ⟨?_, ?_⟩
                · conv => whnf
                  refine At.ld (i := 0) Hf rfl ?_
                  conv => whnf
                  refine VX.lit1 Try.underlying27 eInt rfl fun lv w41 E41 Hl => ?_
                  conv => whnf
                  refine VE.appIn Try.underlying27 eInt (HB.ext E41) (by omega) Hl rfl fun w42 G42 HB42 => ?_
                  conv => whnf
                  exact key w42 lv ((Gr.ofExt E41 : Gr _ _ _).trans G42) HB42
                · conv => whnf
                  refine VX.lit1 Try.underlying27 eInt rfl fun lv w41 E41 Hl => ?_
                  conv => whnf
                  refine ⟨?_, ?_⟩
                  · conv => whnf
                    refine At.ld (i := 0) (Hf.ext E41) rfl ?_
                    conv => whnf
                    refine VE.appIn Try.underlying27 eInt (HB.ext E41) (by omega) Hl rfl fun w42 G42 HB42 => ?_
                    conv => whnf
                    exact key w42 lv ((Gr.ofExt E41 : Gr _ _ _).trans G42) HB42
                  · conv => whnf
                    refine VE.appIn Try.underlying27 eInt (HB.ext E41) (by omega) Hl rfl fun w42 G42 HB42 => ?_
                    conv => whnf
                    refine At.ld (i := 0) ((Hf.ext E41).gr G42 (fun h => hSf (.inr (.inr h)))) rfl ?_
                    conv => whnf
                    exact key w42 lv ((Gr.ofExt E41 : Gr _ _ _).trans G42) HB42
            intro wz lv Gz HBz
            have HBz' : Buf 3 wz g mg (l ++ [(c : Int)]).length ((l ++ [(c : Int)]).map i64v) := by rw [List.length_append, List.map_append]; exact HBz
            have Gz' : Gr (fun k => M k ∨ n1 ≤ k ∨ k = g) w61 wz := Gz.mono fun k _ h => .inr (.inr h)
            have ih' := ih (l ++ [(c : Int)]) (used) (pre ++ (partsC n r used c).map (fun s => l ++ s)) wz (by simp; omega) (by omega) (Nat.le_trans hs Gz.size) HBz' (Hm.gr Gz (fun h => hSm (.inr (.inr h)))) (HYb.gr Gz (fun h => hSy (.inr (.inr h)))) (Hn.gr Gz (fun h => hSn (.inr (.inr h)))) (Hf.gr Gz (fun h => hSf (.inr (.inr h)))) (HJ.gr Gz (fun k hk => by have hk : k = g := hk; omega)) (by rw [hmax] at hcat; rw [hcat]; exact hpreC)
            rw [List.length_append, List.length_singleton] at ih'
            conv => whnf
            refine VC.rc ih' ?_
            rintro u wq G' (⟨rfl, HB2, HJ2⟩ | ⟨rfl, pre2, hp1, hp2⟩)
            · have Gq := Gz'.trans G'
              have HB3 := HB2.cut (m := l.length) (by omega)
              rw [← List.map_take, List.take_left' rfl] at HB3
              rw [hmax] at hcat
              rw [hcat] at HJ2
              repeat' ((conv => whnf); first | (refine Rng.mk (by omega) ?_) | (refine Split.pos (by omega) ?_) | (refine Split.neg (by omega) ?_) | (refine Split.mk (fun h => ?_) (fun h => ?_)) | (refine Need.mk (by omega) ?_) | (refine Ints.ln (by assumption) ?_) | (refine Mat.ln (by assumption) ?_) | (refine Ints.ln (Mat.row (by assumption) _ (by omega)) ?_) | (refine Ints.ix (by assumption) (by omega) ?_) | (refine Mat.ix (by assumption) (by omega) ?_) | (refine Ints.ix (Mat.row (by assumption) _ (by omega)) (by omega) ?_) | (refine Ints.ix (c := 0) (by assumption) (by omega) ?_) | (refine Mat.ix (c := 0) (by assumption) (by omega) ?_) | (refine Ints.ix (c := 0) (Mat.row (by assumption) _ (by omega)) (by omega) ?_) | (refine Ints.ixI (by assumption) (by omega) ?_) | (refine Mat.ixI (by assumption) (by omega) ?_) | (refine Ints.ixI (Mat.row (by assumption) _ (by omega)) (by omega) ?_) | (refine Ints.ld (by assumption) (by omega) ?_) | (refine Mat.ld (by assumption) (by omega) ?_) | (refine Ints.ld (Mat.row (by assumption) _ (by omega)) (by omega) ?_) | (refine At.ld (by assumption) rfl ?_) | (refine At.ldN (by assumption) rfl ?_) | (refine Prs.ln (by assumption) ?_) | (refine Trs.ln (by assumption) ?_) | (refine Prs.ix (by assumption) (by omega) ?_) | (refine Trs.ix (by assumption) (by omega) ?_) | (refine Prs.ldN (by assumption) (by omega) ?_) | (refine Trs.ldN (by assumption) (by omega) ?_) | (refine At.ldN (Blk.at (by assumption)) rfl ?_) | (refine At.ld (Blk.at (by assumption)) rfl ?_) | (refine IxA.mk (by omega) ?_) | (refine Sl.ln (Own.sl (by assumption)) ?_) | (refine Ints.ix (Own.sl (by assumption)) (by omega) ?_) | (refine Ints.ixI (Own.sl (by assumption)) (by omega) ?_) | (refine Ints.ld (Own.sl (by assumption)) (by omega) ?_))
              refine ⟨rfl, _, (by omega : (used+1) - (c + 1) < (used+1) - c), rfl, c + 1, by omega, rfl, rfl, HB3, HJ2, Hm.gr Gq hSm, HYb.gr Gq hSy, Hn.gr Gq hSn, Hf.gr Gq hSf, HG.trans Gq, Nat.le_trans hs Gq.size⟩
            · skip
              repeat' ((conv => whnf); first | (refine Rng.mk (by omega) ?_) | (refine Split.pos (by omega) ?_) | (refine Split.neg (by omega) ?_) | (refine Split.mk (fun h => ?_) (fun h => ?_)) | (refine Need.mk (by omega) ?_) | (refine Ints.ln (by assumption) ?_) | (refine Mat.ln (by assumption) ?_) | (refine Ints.ln (Mat.row (by assumption) _ (by omega)) ?_) | (refine Ints.ix (by assumption) (by omega) ?_) | (refine Mat.ix (by assumption) (by omega) ?_) | (refine Ints.ix (Mat.row (by assumption) _ (by omega)) (by omega) ?_) | (refine Ints.ix (c := 0) (by assumption) (by omega) ?_) | (refine Mat.ix (c := 0) (by assumption) (by omega) ?_) | (refine Ints.ix (c := 0) (Mat.row (by assumption) _ (by omega)) (by omega) ?_) | (refine Ints.ixI (by assumption) (by omega) ?_) | (refine Mat.ixI (by assumption) (by omega) ?_) | (refine Ints.ixI (Mat.row (by assumption) _ (by omega)) (by omega) ?_) | (refine Ints.ld (by assumption) (by omega) ?_) | (refine Mat.ld (by assumption) (by omega) ?_) | (refine Ints.ld (Mat.row (by assumption) _ (by omega)) (by omega) ?_) | (refine At.ld (by assumption) rfl ?_) | (refine At.ldN (by assumption) rfl ?_) | (refine Prs.ln (by assumption) ?_) | (refine Trs.ln (by assumption) ?_) | (refine Prs.ix (by assumption) (by omega) ?_) | (refine Trs.ix (by assumption) (by omega) ?_) | (refine Prs.ldN (by assumption) (by omega) ?_) | (refine Trs.ldN (by assumption) (by omega) ?_) | (refine At.ldN (Blk.at (by assumption)) rfl ?_) | (refine At.ld (Blk.at (by assumption)) rfl ?_) | (refine IxA.mk (by omega) ?_) | (refine Sl.ln (Own.sl (by assumption)) ?_) | (refine Ints.ix (Own.sl (by assumption)) (by omega) ?_) | (refine Ints.ixI (Own.sl (by assumption)) (by omega) ?_) | (refine Ints.ld (Own.sl (by assumption)) (by omega) ?_))
              exact ⟨(HG.trans Gz').trans G', .inr ⟨rfl, pre2, hp1, hp2⟩⟩
        · have e : c = used+1 := by omega
          rw [e, hall] at HJ
          repeat' ((conv => whnf); first | (refine Rng.mk (by omega) ?_) | (refine Split.pos (by omega) ?_) | (refine Split.neg (by omega) ?_) | (refine Split.mk (fun h => ?_) (fun h => ?_)) | (refine Need.mk (by omega) ?_) | (refine Ints.ln (by assumption) ?_) | (refine Mat.ln (by assumption) ?_) | (refine Ints.ln (Mat.row (by assumption) _ (by omega)) ?_) | (refine Ints.ix (by assumption) (by omega) ?_) | (refine Mat.ix (by assumption) (by omega) ?_) | (refine Ints.ix (Mat.row (by assumption) _ (by omega)) (by omega) ?_) | (refine Ints.ix (c := 0) (by assumption) (by omega) ?_) | (refine Mat.ix (c := 0) (by assumption) (by omega) ?_) | (refine Ints.ix (c := 0) (Mat.row (by assumption) _ (by omega)) (by omega) ?_) | (refine Ints.ixI (by assumption) (by omega) ?_) | (refine Mat.ixI (by assumption) (by omega) ?_) | (refine Ints.ixI (Mat.row (by assumption) _ (by omega)) (by omega) ?_) | (refine Ints.ld (by assumption) (by omega) ?_) | (refine Mat.ld (by assumption) (by omega) ?_) | (refine Ints.ld (Mat.row (by assumption) _ (by omega)) (by omega) ?_) | (refine At.ld (by assumption) rfl ?_) | (refine At.ldN (by assumption) rfl ?_) | (refine Prs.ln (by assumption) ?_) | (refine Trs.ln (by assumption) ?_) | (refine Prs.ix (by assumption) (by omega) ?_) | (refine Trs.ix (by assumption) (by omega) ?_) | (refine Prs.ldN (by assumption) (by omega) ?_) | (refine Trs.ldN (by assumption) (by omega) ?_) | (refine At.ldN (Blk.at (by assumption)) rfl ?_) | (refine At.ld (Blk.at (by assumption)) rfl ?_) | (refine IxA.mk (by omega) ?_) | (refine Sl.ln (Own.sl (by assumption)) ?_) | (refine Ints.ix (Own.sl (by assumption)) (by omega) ?_) | (refine Ints.ixI (Own.sl (by assumption)) (by omega) ?_) | (refine Ints.ld (Own.sl (by assumption)) (by omega) ?_))
          exact ⟨HG, .inl ⟨rfl, HB, HJ⟩⟩
end Go.Proofs.Ytkgogljfngplnaa
set_option linter.unusedVariables false
set_option linter.unusedSimpArgs false
namespace Go.Proofs.Ytkgogljfngplnaa
open Go.Eng
set_option maxRecDepth 100000
set_option maxHeartbeats 4000000

theorem eFrom : Elem Try.prog 89 .nilFunc 1 8 := by unfold Elem; kernel_rfl

theorem partitions_rc {w : World} {mg n : Nat} : RC Try.prog 76 [.int .i64 (mg : Int), .int .i64 (n : Int)] w NoB (fun u w' => ∃ bm bn, u = .func (.func 86) #[] #[.pointer (some ⟨bm, 0, none⟩), .pointer (some ⟨bn, 0, none⟩)] ∧ At w' ⟨bm, 0, none⟩ [.int .i64 (mg : Int)] ∧ At w' ⟨bn, 0, none⟩ [.int .i64 (n : Int)] ∧ w.heap.size ≤ bm ∧ bm < w'.heap.size ∧ w.heap.size ≤ bn ∧ bn < w'.heap.size) := by
  refine RC.mk tyOk Try.func76 rfl (by kernel_rfl) fun w1 E1 => ?_
  have EE := Ext.refl w1
  refine Bx.one rfl fun bm w2 E2 hbm Hm _ => ?_
  conv => whnf
  refine Bx.one rfl fun bn w3 E3 hbn Hn _ => ?_
  have hm2 : bm < w2.heap.size := by have := Hm 0 _ rfl; exact World.block_lt_of_cell? _ _ this
  have hn3 : bn < w3.heap.size := by have := Hn 0 _ rfl; exact World.block_lt_of_cell? _ _ this
  have h1 := E1.size
  have h2 := E2.size
  have h3 := E3.size
  repeat' ((conv => whnf); first | (refine Dr.quiet tyOk (by kernel_rfl) ?_) | (refine Rng.mk (by omega) ?_) | (refine Split.pos (by omega) ?_) | (refine Split.neg (by omega) ?_) | (refine Split.mk (fun h => ?_) (fun h => ?_)) | (refine Need.mk (by omega) ?_) | (refine Ints.ln (by assumption) ?_) | (refine Mat.ln (by assumption) ?_) | (refine Ints.ln (Mat.row (by assumption) _ (by omega)) ?_) | (refine Ints.ix (by assumption) (by omega) ?_) | (refine Mat.ix (by assumption) (by omega) ?_) | (refine Ints.ix (Mat.row (by assumption) _ (by omega)) (by omega) ?_) | (refine Ints.ix (c := 0) (by assumption) (by omega) ?_) | (refine Mat.ix (c := 0) (by assumption) (by omega) ?_) | (refine Ints.ix (c := 0) (Mat.row (by assumption) _ (by omega)) (by omega) ?_) | (refine Ints.ixI (by assumption) (by omega) ?_) | (refine Mat.ixI (by assumption) (by omega) ?_) | (refine Ints.ixI (Mat.row (by assumption) _ (by omega)) (by omega) ?_) | (refine Ints.ld (by assumption) (by omega) ?_) | (refine Mat.ld (by assumption) (by omega) ?_) | (refine Ints.ld (Mat.row (by assumption) _ (by omega)) (by omega) ?_) | (refine At.ld (by assumption) rfl ?_) | (refine At.ldN (by assumption) rfl ?_) | (refine Prs.ln (by assumption) ?_) | (refine Trs.ln (by assumption) ?_) | (refine Prs.ix (by assumption) (by omega) ?_) | (refine Trs.ix (by assumption) (by omega) ?_) | (refine Prs.ldN (by assumption) (by omega) ?_) | (refine Trs.ldN (by assumption) (by omega) ?_) | (refine At.ldN (Blk.at (by assumption)) rfl ?_) | (refine At.ld (Blk.at (by assumption)) rfl ?_) | (refine IxA.mk (by omega) ?_) | (refine Sl.ln (Own.sl (by assumption)) ?_) | (refine Ints.ix (Own.sl (by assumption)) (by omega) ?_) | (refine Ints.ixI (Own.sl (by assumption)) (by omega) ?_) | (refine Ints.ld (Own.sl (by assumption)) (by omega) ?_))
  exact ⟨(EE.ext E2).ext E3, bm, bn, rfl, Hm.ext E3, Hn, by omega, by omega, by omega, by omega⟩

theorem parts_it {w : World} {mg n bm bn : Nat} (Hm : At w ⟨bm, 0, none⟩ [.int .i64 (mg : Int)]) (Hn : At w ⟨bn, 0, none⟩ [.int .i64 (n : Int)]) (hbm : bm < w.heap.size) (hbn : bn < w.heap.size) (hm : mg ≤ 100) (hn : n ≤ 100) :
    ItOk Try.prog 86 [.pointer (some ⟨bm, 0, none⟩), .pointer (some ⟨bn, 0, none⟩)] (fun k => k = bm ∨ k = bn) w (partsF n mg 0) := by
  refine ItOk.mk tyOk Try.func86 rfl (by kernel_rfl) fun l M J Jx w1 E1 hM hY h0 => ?_
  replace Hm := Hm.ext E1
  replace Hn := Hn.ext E1
  have EE := Ext.refl w1
  have hs1 := E1.size
  refine Bx.one rfl fun yb w2 E2 hyb HYb _ => ?_
  have hy2 : yb < w2.heap.size := by have := HYb 0 _ rfl; exact World.block_lt_of_cell? _ _ this
  have hs2 := E2.size
  have Hm2 := Hm.ext E2
  have Hn2 := Hn.ext E2
  repeat' ((conv => whnf); first | (refine Rng.mk (by omega) ?_) | (refine Split.pos (by omega) ?_) | (refine Split.neg (by omega) ?_) | (refine Split.mk (fun h => ?_) (fun h => ?_)) | (refine Need.mk (by omega) ?_) | (refine Ints.ln (by assumption) ?_) | (refine Mat.ln (by assumption) ?_) | (refine Ints.ln (Mat.row (by assumption) _ (by omega)) ?_) | (refine Ints.ix (by assumption) (by omega) ?_) | (refine Mat.ix (by assumption) (by omega) ?_) | (refine Ints.ix (Mat.row (by assumption) _ (by omega)) (by omega) ?_) | (refine Ints.ix (c := 0) (by assumption) (by omega) ?_) | (refine Mat.ix (c := 0) (by assumption) (by omega) ?_) | (refine Ints.ix (c := 0) (Mat.row (by assumption) _ (by omega)) (by omega) ?_) | (refine Ints.ixI (by assumption) (by omega) ?_) | (refine Mat.ixI (by assumption) (by omega) ?_) | (refine Ints.ixI (Mat.row (by assumption) _ (by omega)) (by omega) ?_) | (refine Ints.ld (by assumption) (by omega) ?_) | (refine Mat.ld (by assumption) (by omega) ?_) | (refine Ints.ld (Mat.row (by assumption) _ (by omega)) (by omega) ?_) | (refine At.ld (by assumption) rfl ?_) | (refine At.ldN (by assumption) rfl ?_) | (refine Prs.ln (by assumption) ?_) | (refine Trs.ln (by assumption) ?_) | (refine Prs.ix (by assumption) (by omega) ?_) | (refine Trs.ix (by assumption) (by omega) ?_) | (refine Prs.ldN (by assumption) (by omega) ?_) | (refine Trs.ldN (by assumption) (by omega) ?_) | (refine At.ldN (Blk.at (by assumption)) rfl ?_) | (refine At.ld (Blk.at (by assumption)) rfl ?_) | (refine IxA.mk (by omega) ?_) | (refine Sl.ln (Own.sl (by assumption)) ?_) | (refine Ints.ix (Own.sl (by assumption)) (by omega) ?_) | (refine Ints.ixI (Own.sl (by assumption)) (by omega) ?_) | (refine Ints.ld (Own.sl (by assumption)) (by omega) ?_))
  refine VE.alloc eFrom fun fb w3 E3 hfb Hfb => ?_
  have hs3 := E3.size
  have hf3 := Blk.lt Hfb
  repeat' ((conv => whnf); first | (refine Rng.mk (by omega) ?_) | (refine Split.pos (by omega) ?_) | (refine Split.neg (by omega) ?_) | (refine Split.mk (fun h => ?_) (fun h => ?_)) | (refine Need.mk (by omega) ?_) | (refine Ints.ln (by assumption) ?_) | (refine Mat.ln (by assumption) ?_) | (refine Ints.ln (Mat.row (by assumption) _ (by omega)) ?_) | (refine Ints.ix (by assumption) (by omega) ?_) | (refine Mat.ix (by assumption) (by omega) ?_) | (refine Ints.ix (Mat.row (by assumption) _ (by omega)) (by omega) ?_) | (refine Ints.ix (c := 0) (by assumption) (by omega) ?_) | (refine Mat.ix (c := 0) (by assumption) (by omega) ?_) | (refine Ints.ix (c := 0) (Mat.row (by assumption) _ (by omega)) (by omega) ?_) | (refine Ints.ixI (by assumption) (by omega) ?_) | (refine Mat.ixI (by assumption) (by omega) ?_) | (refine Ints.ixI (Mat.row (by assumption) _ (by omega)) (by omega) ?_) | (refine Ints.ld (by assumption) (by omega) ?_) | (refine Mat.ld (by assumption) (by omega) ?_) | (refine Ints.ld (Mat.row (by assumption) _ (by omega)) (by omega) ?_) | (refine At.ld (by assumption) rfl ?_) | (refine At.ldN (by assumption) rfl ?_) | (refine Prs.ln (by assumption) ?_) | (refine Trs.ln (by assumption) ?_) | (refine Prs.ix (by assumption) (by omega) ?_) | (refine Trs.ix (by assumption) (by omega) ?_) | (refine Prs.ldN (by assumption) (by omega) ?_) | (refine Trs.ldN (by assumption) (by omega) ?_) | (refine At.ldN (Blk.at (by assumption)) rfl ?_) | (refine At.ld (Blk.at (by assumption)) rfl ?_) | (refine IxA.mk (by omega) ?_) | (refine Sl.ln (Own.sl (by assumption)) ?_) | (refine Ints.ix (Own.sl (by assumption)) (by omega) ?_) | (refine Ints.ixI (Own.sl (by assumption)) (by omega) ?_) | (refine Ints.ld (Own.sl (by assumption)) (by omega) ?_))
  refine Blk.set0 Hfb (by decide) rfl fun w4 G4 Hf4 => ?_
  have hs4 := G4.size
  have Hm4 := (Hm2.ext E3).gr G4 (fun h => by have h : bm = fb := h; omega)
  have Hn4 := (Hn2.ext E3).gr G4 (fun h => by have h : bn = fb := h; omega)
  have HY4 := (HYb.ext E3).gr G4 (fun h => by have h : yb = fb := h; omega)
  repeat' ((conv => whnf); first | (refine Drx.plan 6 [3] (.q 0 (.q 1 (.e 2 (.e 3 .nil .nil) .nil))) tyOk rfl (by kernel_rfl) ?_) | (refine At.ld (i := 0) Hm4 rfl ?_) | (refine At.ld (i := 0) (Blk.at Hf4) rfl ?_) | (refine Rng.mk (by omega) ?_) | (refine Split.pos (by omega) ?_) | (refine Split.neg (by omega) ?_) | (refine Split.mk (fun h => ?_) (fun h => ?_)) | (refine Need.mk (by omega) ?_) | (refine Ints.ln (by assumption) ?_) | (refine Mat.ln (by assumption) ?_) | (refine Ints.ln (Mat.row (by assumption) _ (by omega)) ?_) | (refine Ints.ix (by assumption) (by omega) ?_) | (refine Mat.ix (by assumption) (by omega) ?_) | (refine Ints.ix (Mat.row (by assumption) _ (by omega)) (by omega) ?_) | (refine Ints.ix (c := 0) (by assumption) (by omega) ?_) | (refine Mat.ix (c := 0) (by assumption) (by omega) ?_) | (refine Ints.ix (c := 0) (Mat.row (by assumption) _ (by omega)) (by omega) ?_) | (refine Ints.ixI (by assumption) (by omega) ?_) | (refine Mat.ixI (by assumption) (by omega) ?_) | (refine Ints.ixI (Mat.row (by assumption) _ (by omega)) (by omega) ?_) | (refine Ints.ld (by assumption) (by omega) ?_) | (refine Mat.ld (by assumption) (by omega) ?_) | (refine Ints.ld (Mat.row (by assumption) _ (by omega)) (by omega) ?_) | (refine At.ld (by assumption) rfl ?_) | (refine At.ldN (by assumption) rfl ?_) | (refine Prs.ln (by assumption) ?_) | (refine Trs.ln (by assumption) ?_) | (refine Prs.ix (by assumption) (by omega) ?_) | (refine Trs.ix (by assumption) (by omega) ?_) | (refine Prs.ldN (by assumption) (by omega) ?_) | (refine Trs.ldN (by assumption) (by omega) ?_) | (refine At.ldN (Blk.at (by assumption)) rfl ?_) | (refine At.ld (Blk.at (by assumption)) rfl ?_) | (refine IxA.mk (by omega) ?_) | (refine Sl.ln (Own.sl (by assumption)) ?_) | (refine Ints.ix (Own.sl (by assumption)) (by omega) ?_) | (refine Ints.ixI (Own.sl (by assumption)) (by omega) ?_) | (refine Ints.ld (Own.sl (by assumption)) (by omega) ?_))
  refine VX.madeB (cp := mg) Try.underlying27 eInt rfl (by omega) (by omega) fun g w5 E5 hg HB => ?_
  have hs5 := E5.size
  have hg5 := HB.lt
  obtain ⟨n1, hn1⟩ : ∃ n1, n1 = w5.heap.size := ⟨_, rfl⟩
  have hW : w1.heap.size ≤ n1 := by omega
  have HJ5 : Carry w1.heap.size n1 (J n1 []) w5 := ((((h0 n1 hW).ext E2).ext E3).gr G4 (fun k hk => by have hk : k = fb := hk; omega)).ext E5
  have hMm : ∀ k, M k → ¬ (k = bm ∨ k = bn) ∧ k < w1.heap.size := hM
  have cf := pfrom_rc (mg := mg) (n := n) (M := M) (J := J) (Jx := Jx) (W0 := w1.heap.size) (n1 := n1) (g := g) (l0 := l) (mb := bm) (yb := yb) (nb := bn) (fb := fb) (xs := partsF n mg 0) hm hn hW hY ⟨by omega, by omega⟩ (fun h => by have := (hMm g h).2; omega)
    (by rintro (h | h | h); exact (hMm _ h).1 (.inl rfl); omega; omega) (by rintro (h | h | h); (have := (hMm _ h).2; omega); omega; omega) (by rintro (h | h | h); exact (hMm _ h).1 (.inr rfl); omega; omega) (by rintro (h | h | h); (have := (hMm _ h).2; omega); omega; omega)
    mg [] 0 [] w5 (by simp) (by omega) (by omega) HB (Hm4.ext E5) (HY4.ext E5) (Hn4.ext E5) ((Blk.at Hf4).ext E5) HJ5 (by simp)
  conv => whnf
  refine VC.rc cf ?_
  rintro u wq Gq (⟨rfl, HB2, HJ2⟩ | ⟨rfl, pre2, hp1, hp2⟩)
  · skip
    repeat' ((conv => whnf); first | (refine Rng.mk (by omega) ?_) | (refine Split.pos (by omega) ?_) | (refine Split.neg (by omega) ?_) | (refine Split.mk (fun h => ?_) (fun h => ?_)) | (refine Need.mk (by omega) ?_) | (refine Ints.ln (by assumption) ?_) | (refine Mat.ln (by assumption) ?_) | (refine Ints.ln (Mat.row (by assumption) _ (by omega)) ?_) | (refine Ints.ix (by assumption) (by omega) ?_) | (refine Mat.ix (by assumption) (by omega) ?_) | (refine Ints.ix (Mat.row (by assumption) _ (by omega)) (by omega) ?_) | (refine Ints.ix (c := 0) (by assumption) (by omega) ?_) | (refine Mat.ix (c := 0) (by assumption) (by omega) ?_) | (refine Ints.ix (c := 0) (Mat.row (by assumption) _ (by omega)) (by omega) ?_) | (refine Ints.ixI (by assumption) (by omega) ?_) | (refine Mat.ixI (by assumption) (by omega) ?_) | (refine Ints.ixI (Mat.row (by assumption) _ (by omega)) (by omega) ?_) | (refine Ints.ld (by assumption) (by omega) ?_) | (refine Mat.ld (by assumption) (by omega) ?_) | (refine Ints.ld (Mat.row (by assumption) _ (by omega)) (by omega) ?_) | (refine At.ld (by assumption) rfl ?_) | (refine At.ldN (by assumption) rfl ?_) | (refine Prs.ln (by assumption) ?_) | (refine Trs.ln (by assumption) ?_) | (refine Prs.ix (by assumption) (by omega) ?_) | (refine Trs.ix (by assumption) (by omega) ?_) | (refine Prs.ldN (by assumption) (by omega) ?_) | (refine Trs.ldN (by assumption) (by omega) ?_) | (refine At.ldN (Blk.at (by assumption)) rfl ?_) | (refine At.ld (Blk.at (by assumption)) rfl ?_) | (refine IxA.mk (by omega) ?_) | (refine Sl.ln (Own.sl (by assumption)) ?_) | (refine Ints.ix (Own.sl (by assumption)) (by omega) ?_) | (refine Ints.ixI (Own.sl (by assumption)) (by omega) ?_) | (refine Ints.ld (Own.sl (by assumption)) (by omega) ?_))
    refine ⟨n1, hW, .inl ?_⟩
    simpa using HJ2
  · skip
    repeat' ((conv => whnf); first | (refine Rng.mk (by omega) ?_) | (refine Split.pos (by omega) ?_) | (refine Split.neg (by omega) ?_) | (refine Split.mk (fun h => ?_) (fun h => ?_)) | (refine Need.mk (by omega) ?_) | (refine Ints.ln (by assumption) ?_) | (refine Mat.ln (by assumption) ?_) | (refine Ints.ln (Mat.row (by assumption) _ (by omega)) ?_) | (refine Ints.ix (by assumption) (by omega) ?_) | (refine Mat.ix (by assumption) (by omega) ?_) | (refine Ints.ix (Mat.row (by assumption) _ (by omega)) (by omega) ?_) | (refine Ints.ix (c := 0) (by assumption) (by omega) ?_) | (refine Mat.ix (c := 0) (by assumption) (by omega) ?_) | (refine Ints.ix (c := 0) (Mat.row (by assumption) _ (by omega)) (by omega) ?_) | (refine Ints.ixI (by assumption) (by omega) ?_) | (refine Mat.ixI (by assumption) (by omega) ?_) | (refine Ints.ixI (Mat.row (by assumption) _ (by omega)) (by omega) ?_) | (refine Ints.ld (by assumption) (by omega) ?_) | (refine Mat.ld (by assumption) (by omega) ?_) | (refine Ints.ld (Mat.row (by assumption) _ (by omega)) (by omega) ?_) | (refine At.ld (by assumption) rfl ?_) | (refine At.ldN (by assumption) rfl ?_) | (refine Prs.ln (by assumption) ?_) | (refine Trs.ln (by assumption) ?_) | (refine Prs.ix (by assumption) (by omega) ?_) | (refine Trs.ix (by assumption) (by omega) ?_) | (refine Prs.ldN (by assumption) (by omega) ?_) | (refine Trs.ldN (by assumption) (by omega) ?_) | (refine At.ldN (Blk.at (by assumption)) rfl ?_) | (refine At.ld (Blk.at (by assumption)) rfl ?_) | (refine IxA.mk (by omega) ?_) | (refine Sl.ln (Own.sl (by assumption)) ?_) | (refine Ints.ix (Own.sl (by assumption)) (by omega) ?_) | (refine Ints.ixI (Own.sl (by assumption)) (by omega) ?_) | (refine Ints.ld (Own.sl (by assumption)) (by omega) ?_))
    exact ⟨n1, hW, .inr ⟨pre2, hp1, hp2⟩⟩
end Go.Proofs.Ytkgogljfngplnaa
set_option linter.unusedVariables false
set_option linter.unusedSimpArgs false
namespace Go.Eng
open Go.RowKit

section
variable {P : Program} {w : World} {K : Value → Prop}
theorem VS.cutArr {t e : TypeId} {N s h b : Nat} (ht : P.underlying t = some (.array N e)) (hs : P.cellsOf e = s) (hs0 : s ≠ 0) (hh : h ≤ N) (hk : K (.slice (some ⟨b, 0, none⟩) h N)) :
    VS P (Instr.sliceAt t (.pointer (some ⟨b, 0, none⟩)) none (some (.int .i64 (h : Int))) none) w K :=
  VS.mk (fun w1 _ => by
    have hz := sizeOf_run (P := P) (t := e) hs hs0 w1
    have hb : (Instr.sliceBounds false N N none (some (.int .i64 (h : Int))) none).run P w1 = .ok (0, h, N) w1 := by
      simp [Instr.sliceBounds, run_sliceBound, (by omega : (h : Int) ≤ N)]
    simp only [Instr.sliceAt, Sem.run_bind, run_underlying ht, Result.andThen_ok, Instr.sureAddr, Sem.run_pure, hb, hz, Nat.zero_mul, Nat.sub_zero]
    have e0 : (⟨b, 0, none⟩ : Addr).add 0 = ⟨b, 0, none⟩ := rfl
    rw [e0, ite_self]) hk
theorem Blk.sl {w : World} {b n N : Nat} {T : TypeId} {xs : List Value} (h : Blk w b T xs) (hl : xs.length = N) (hn : n ≤ N) (hN : N ≤ 1000) : Sl 1 w (.slice (some ⟨b, 0, none⟩) n N) n (xs.take n) := by
  refine ⟨some ⟨b, 0, none⟩, N, rfl, hn, by unfold maxLen; omega, by rw [List.length_take]; omega, .inr ⟨_, rfl, fun i x hx => ?_⟩⟩
  rw [List.getElem?_take] at hx
  split at hx
  · exact h.at i x hx
  · cases hx
end
end Go.Eng
set_option linter.unusedVariables false
set_option linter.unusedSimpArgs false
namespace Go.Proofs.Ytkgogljfngplnaa
open Go.Eng
set_option maxRecDepth 100000
set_option maxHeartbeats 4000000

def ownTo (rr : List (List Int)) (a : List Int) (c : Nat) : List Int := mk rr.length fun i => worth a (rr.getD i []) i c
theorem ownTo_len (rr : List (List Int)) (a : List Int) (c : Nat) : (ownTo rr a c).length = rr.length := mk_len _ _
theorem ownTo_get {rr : List (List Int)} {a : List Int} {c i : Nat} (h : i < rr.length) : (ownTo rr a c).getD i 0 = worth a (rr.getD i []) i c := mk_get 0 h
theorem ownTo_set {rr : List (List Int)} {a : List Int} {c i : Nat} (h : i < rr.length) (e : a.getD c 0 = i) : (ownTo rr a c).set i ((ownTo rr a c).getD i 0 + (rr.getD i []).getD c 0) = ownTo rr a (c + 1) := by
  refine ext_getD 0 (by rw [List.length_set, ownTo_len, ownTo_len]) fun k hk => ?_
  rw [List.length_set, ownTo_len] at hk
  rw [ownTo_get hk, ownTo_get h]
  by_cases ek : k = i
  · subst ek
    simp [List.getD, ownTo_len, h, worth] at e ⊢
    simp [e]
  · have : ((ownTo rr a c).set i (worth a (rr.getD i []) i c + (rr.getD i []).getD c 0)).getD k 0 = (ownTo rr a c).getD k 0 := by
      simp [List.getD, List.getElem?_set, Ne.symm ek]
    rw [this, ownTo_get hk]
    show _ = worth a (rr.getD k []) k c + if a.getD c 0 = k then _ else 0
    rw [if_neg (by omega), Int.add_zero]
end Go.Proofs.Ytkgogljfngplnaa
set_option linter.unusedVariables false
set_option linter.unusedSimpArgs false
namespace Go.Proofs.Ytkgogljfngplnaa
open Go.Eng
set_option maxRecDepth 100000
set_option maxHeartbeats 4000000

theorem eSix : Elem Try.prog 116 (.agg #[.int .i64 0, .int .i64 0, .int .i64 0, .int .i64 0, .int .i64 0, .int .i64 0]) 6 48 := by unfold Elem; kernel_rfl

/-- the least of the first c + 1 numbers -/
def mnTo (f : Nat → Int) : Nat → Int
  | 0 => f 0
  | c + 1 => min (mnTo f c) (f (c + 1))
theorem mnTo_bd {f : Nat → Int} {b : Int} : ∀ {c : Nat}, (∀ i, i ≤ c → 0 ≤ f i ∧ f i ≤ b) → 0 ≤ mnTo f c ∧ mnTo f c ≤ b
  | 0, h => h 0 (Nat.le_refl _)
  | c + 1, h => by
    have h1 := mnTo_bd (c := c) (fun i hi => h i (by omega))
    have h2 := h (c + 1) (Nat.le_refl _)
    simp only [mnTo]
    omega
theorem mnTo_congr {f g : Nat → Int} : ∀ {c : Nat}, (∀ i, i ≤ c → f i = g i) → mnTo f c = mnTo g c
  | 0, h => h 0 (Nat.le_refl _)
  | c + 1, h => by simp only [mnTo]; rw [mnTo_congr (fun i hi => h i (by omega)), h (c + 1) (Nat.le_refl _)]
theorem smin_pc {w : World} {sv : Value} {l : List Int} (Hl : Ints w sv l) (h0 : 0 < l.length) : PC Try.prog 85 [sv] w (.int .i64 (mnTo (fun i => l.getD i 0) (l.length - 1))) := by
  refine PC.mk tyOk Try.func85 rfl (by kernel_rfl) fun w1 E1 => ?_
  replace Hl := Hl.ext E1
  have EE := Ext.refl w1
  have hle := Hl.le
  repeat' ((conv => whnf); first | (refine Dr.quiet tyOk (by kernel_rfl) ?_) | (refine Ints.ix (c := 0) Hl (by omega) ?_) | (refine Rng.mk (by omega) ?_) | (refine Split.pos (by omega) ?_) | (refine Split.neg (by omega) ?_) | (refine Split.mk (fun h => ?_) (fun h => ?_)) | (refine Need.mk (by omega) ?_) | (refine Ints.ln (by assumption) ?_) | (refine Mat.ln (by assumption) ?_) | (refine Ints.ln (Mat.row (by assumption) _ (by omega)) ?_) | (refine Ints.ix (by assumption) (by omega) ?_) | (refine Mat.ix (by assumption) (by omega) ?_) | (refine Ints.ix (Mat.row (by assumption) _ (by omega)) (by omega) ?_) | (refine Ints.ix (c := 0) (by assumption) (by omega) ?_) | (refine Mat.ix (c := 0) (by assumption) (by omega) ?_) | (refine Ints.ix (c := 0) (Mat.row (by assumption) _ (by omega)) (by omega) ?_) | (refine Ints.ixI (by assumption) (by omega) ?_) | (refine Mat.ixI (by assumption) (by omega) ?_) | (refine Ints.ixI (Mat.row (by assumption) _ (by omega)) (by omega) ?_) | (refine Ints.ld (by assumption) (by omega) ?_) | (refine Mat.ld (by assumption) (by omega) ?_) | (refine Ints.ld (Mat.row (by assumption) _ (by omega)) (by omega) ?_) | (refine At.ld (by assumption) rfl ?_) | (refine At.ldN (by assumption) rfl ?_) | (refine Prs.ln (by assumption) ?_) | (refine Trs.ln (by assumption) ?_) | (refine Prs.ix (by assumption) (by omega) ?_) | (refine Trs.ix (by assumption) (by omega) ?_) | (refine Prs.ldN (by assumption) (by omega) ?_) | (refine Trs.ldN (by assumption) (by omega) ?_) | (refine At.ldN (Blk.at (by assumption)) rfl ?_) | (refine At.ld (Blk.at (by assumption)) rfl ?_) | (refine IxA.mk (by omega) ?_) | (refine Sl.ln (Own.sl (by assumption)) ?_) | (refine Ints.ix (Own.sl (by assumption)) (by omega) ?_) | (refine Ints.ixI (Own.sl (by assumption)) (by omega) ?_) | (refine Ints.ld (Own.sl (by assumption)) (by omega) ?_))
  refine Lp.mk tyOk [false, false, false, true, true, false, false, false, false, false, false, false, true, true, true, true, true, true, true, true, true, true, true, true] (fun m fr wr => getK fr 4 fun i => getK fr 3 fun mm => ∃ c : Nat, c ≤ (l.length - 1) ∧ m = (l.length - 1) - c ∧ i = .int .i64 ((c + 1 : Nat) : Int) ∧ mm = .int .i64 (mnTo (fun i => l.getD i 0) c) ∧ wr = w1) ((l.length - 1)) ?_ ?_
  · exact ⟨0, Nat.zero_le _, rfl, rfl, rfl, rfl⟩
  · intro m w2 u3 u4 u12 u13 u14 u15 u16 u17 u18 u19 u20 u21 u22 u23 hR
    obtain ⟨c, hc, rfl, rfl, rfl, rfl⟩ := hR
    have hs : mnTo (fun i => l.getD i 0) (c + 1) = min (mnTo (fun i => l.getD i 0) c) (l.getD (c + 1) 0) := rfl
    by_cases hcl : c + 1 < l.length
    · by_cases hlt : l.getD (c + 1) 0 < mnTo (fun i => l.getD i 0) c
      · rw [Int.min_eq_right (by omega)] at hs
        repeat' ((conv => whnf); first | (refine Dr.quiet tyOk (by kernel_rfl) ?_) | (refine Ints.ix (c := c + 1) Hl (by omega) ?_) | (refine Rng.mk (by omega) ?_) | (refine Split.pos (by omega) ?_) | (refine Split.neg (by omega) ?_) | (refine Split.mk (fun h => ?_) (fun h => ?_)) | (refine Need.mk (by omega) ?_) | (refine Ints.ln (by assumption) ?_) | (refine Mat.ln (by assumption) ?_) | (refine Ints.ln (Mat.row (by assumption) _ (by omega)) ?_) | (refine Ints.ix (by assumption) (by omega) ?_) | (refine Mat.ix (by assumption) (by omega) ?_) | (refine Ints.ix (Mat.row (by assumption) _ (by omega)) (by omega) ?_) | (refine Ints.ix (c := 0) (by assumption) (by omega) ?_) | (refine Mat.ix (c := 0) (by assumption) (by omega) ?_) | (refine Ints.ix (c := 0) (Mat.row (by assumption) _ (by omega)) (by omega) ?_) | (refine Ints.ixI (by assumption) (by omega) ?_) | (refine Mat.ixI (by assumption) (by omega) ?_) | (refine Ints.ixI (Mat.row (by assumption) _ (by omega)) (by omega) ?_) | (refine Ints.ld (by assumption) (by omega) ?_) | (refine Mat.ld (by assumption) (by omega) ?_) | (refine Ints.ld (Mat.row (by assumption) _ (by omega)) (by omega) ?_) | (refine At.ld (by assumption) rfl ?_) | (refine At.ldN (by assumption) rfl ?_) | (refine Prs.ln (by assumption) ?_) | (refine Trs.ln (by assumption) ?_) | (refine Prs.ix (by assumption) (by omega) ?_) | (refine Trs.ix (by assumption) (by omega) ?_) | (refine Prs.ldN (by assumption) (by omega) ?_) | (refine Trs.ldN (by assumption) (by omega) ?_) | (refine At.ldN (Blk.at (by assumption)) rfl ?_) | (refine At.ld (Blk.at (by assumption)) rfl ?_) | (refine IxA.mk (by omega) ?_) | (refine Sl.ln (Own.sl (by assumption)) ?_) | (refine Ints.ix (Own.sl (by assumption)) (by omega) ?_) | (refine Ints.ixI (Own.sl (by assumption)) (by omega) ?_) | (refine Ints.ld (Own.sl (by assumption)) (by omega) ?_))
        refine ⟨_, (by omega : (l.length - 1) - (c + 1) < (l.length - 1) - c), rfl, c + 1, by omega, rfl, (congrArg (Value.int .i64) (by omega)), (by rw [hs]), rfl⟩
      · rw [Int.min_eq_left (by omega)] at hs
        repeat' ((conv => whnf); first | (refine Dr.quiet tyOk (by kernel_rfl) ?_) | (refine Ints.ix (c := c + 1) Hl (by omega) ?_) | (refine Rng.mk (by omega) ?_) | (refine Split.pos (by omega) ?_) | (refine Split.neg (by omega) ?_) | (refine Split.mk (fun h => ?_) (fun h => ?_)) | (refine Need.mk (by omega) ?_) | (refine Ints.ln (by assumption) ?_) | (refine Mat.ln (by assumption) ?_) | (refine Ints.ln (Mat.row (by assumption) _ (by omega)) ?_) | (refine Ints.ix (by assumption) (by omega) ?_) | (refine Mat.ix (by assumption) (by omega) ?_) | (refine Ints.ix (Mat.row (by assumption) _ (by omega)) (by omega) ?_) | (refine Ints.ix (c := 0) (by assumption) (by omega) ?_) | (refine Mat.ix (c := 0) (by assumption) (by omega) ?_) | (refine Ints.ix (c := 0) (Mat.row (by assumption) _ (by omega)) (by omega) ?_) | (refine Ints.ixI (by assumption) (by omega) ?_) | (refine Mat.ixI (by assumption) (by omega) ?_) | (refine Ints.ixI (Mat.row (by assumption) _ (by omega)) (by omega) ?_) | (refine Ints.ld (by assumption) (by omega) ?_) | (refine Mat.ld (by assumption) (by omega) ?_) | (refine Ints.ld (Mat.row (by assumption) _ (by omega)) (by omega) ?_) | (refine At.ld (by assumption) rfl ?_) | (refine At.ldN (by assumption) rfl ?_) | (refine Prs.ln (by assumption) ?_) | (refine Trs.ln (by assumption) ?_) | (refine Prs.ix (by assumption) (by omega) ?_) | (refine Trs.ix (by assumption) (by omega) ?_) | (refine Prs.ldN (by assumption) (by omega) ?_) | (refine Trs.ldN (by assumption) (by omega) ?_) | (refine At.ldN (Blk.at (by assumption)) rfl ?_) | (refine At.ld (Blk.at (by assumption)) rfl ?_) | (refine IxA.mk (by omega) ?_) | (refine Sl.ln (Own.sl (by assumption)) ?_) | (refine Ints.ix (Own.sl (by assumption)) (by omega) ?_) | (refine Ints.ixI (Own.sl (by assumption)) (by omega) ?_) | (refine Ints.ld (Own.sl (by assumption)) (by omega) ?_))
        refine ⟨_, (by omega : (l.length - 1) - (c + 1) < (l.length - 1) - c), rfl, c + 1, by omega, rfl, (congrArg (Value.int .i64) (by omega)), (by rw [hs]), rfl⟩
    · have e : l.length - 1 = c := by omega
      rw [e]
      repeat' ((conv => whnf); first | (refine Dr.quiet tyOk (by kernel_rfl) ?_) | (refine Rng.mk (by omega) ?_) | (refine Split.pos (by omega) ?_) | (refine Split.neg (by omega) ?_) | (refine Split.mk (fun h => ?_) (fun h => ?_)) | (refine Need.mk (by omega) ?_) | (refine Ints.ln (by assumption) ?_) | (refine Mat.ln (by assumption) ?_) | (refine Ints.ln (Mat.row (by assumption) _ (by omega)) ?_) | (refine Ints.ix (by assumption) (by omega) ?_) | (refine Mat.ix (by assumption) (by omega) ?_) | (refine Ints.ix (Mat.row (by assumption) _ (by omega)) (by omega) ?_) | (refine Ints.ix (c := 0) (by assumption) (by omega) ?_) | (refine Mat.ix (c := 0) (by assumption) (by omega) ?_) | (refine Ints.ix (c := 0) (Mat.row (by assumption) _ (by omega)) (by omega) ?_) | (refine Ints.ixI (by assumption) (by omega) ?_) | (refine Mat.ixI (by assumption) (by omega) ?_) | (refine Ints.ixI (Mat.row (by assumption) _ (by omega)) (by omega) ?_) | (refine Ints.ld (by assumption) (by omega) ?_) | (refine Mat.ld (by assumption) (by omega) ?_) | (refine Ints.ld (Mat.row (by assumption) _ (by omega)) (by omega) ?_) | (refine At.ld (by assumption) rfl ?_) | (refine At.ldN (by assumption) rfl ?_) | (refine Prs.ln (by assumption) ?_) | (refine Trs.ln (by assumption) ?_) | (refine Prs.ix (by assumption) (by omega) ?_) | (refine Trs.ix (by assumption) (by omega) ?_) | (refine Prs.ldN (by assumption) (by omega) ?_) | (refine Trs.ldN (by assumption) (by omega) ?_) | (refine At.ldN (Blk.at (by assumption)) rfl ?_) | (refine At.ld (Blk.at (by assumption)) rfl ?_) | (refine IxA.mk (by omega) ?_) | (refine Sl.ln (Own.sl (by assumption)) ?_) | (refine Ints.ix (Own.sl (by assumption)) (by omega) ?_) | (refine Ints.ixI (Own.sl (by assumption)) (by omega) ?_) | (refine Ints.ld (Own.sl (by assumption)) (by omega) ?_))
      exact ⟨rfl, EE⟩

/-- the least value of a partition into n bundles -/
def leastP (r : List Int) (l : List Int) (n : Nat) : Int := mnTo (fun b : Nat => worth l r b l.length) (n - 1)
theorem leastP_bd {r l : List Int} {n : Nat} (hr : ∀ j, 0 ≤ r.getD j 0 ∧ r.getD j 0 ≤ 1000) (hl : l.length ≤ 10) : 0 ≤ leastP r l n ∧ leastP r l n ≤ 10000 := by
  refine mnTo_bd fun i _ => ?_
  have := worth_bd (a := l) (k := (i : Int)) hr l.length
  omega
def rng (l : List Int) (n : Nat) : Prop := ∀ k, k < l.length → 0 ≤ l.getD k 0 ∧ l.getD k 0 < n
theorem six_row {r : List Int} {i : Nat} (hi : i < 6) : (List.replicate 6 r).getD i [] = r := by simp only [List.getD]; rw [List.getElem?_replicate, if_pos hi]; rfl

theorem least_pc {w : World} {rv pv : Value} {r l : List Int} {n : Nat} (Hr : Ints w rv r) (Hl : Ints w pv l) (hr : ∀ j, 0 ≤ r.getD j 0 ∧ r.getD j 0 ≤ 1000) (h10 : l.length ≤ 10) (hle : l.length ≤ r.length) (hn : 1 ≤ n ∧ n ≤ 6) (hrg : rng l n) :
    PC Try.prog 75 [.agg #[rv, .int .i64 (n : Int)], pv] w (.int .i64 (leastP r l n)) := by
  refine PC.mk tyOk Try.func75 rfl (by kernel_rfl) fun w1 E1 => ?_
  replace Hr := Hr.ext E1
  replace Hl := Hl.ext E1
  have EE := Ext.refl w1
  refine Bx.agg fun b2 w2 E2 hb2 Hb _ => ?_
  replace Hr := Hr.ext E2
  replace Hl := Hl.ext E2
  replace EE := EE.ext E2
  have hrle := Hr.le
  repeat' ((conv => whnf); first | (refine Dr.quiet tyOk (by kernel_rfl) ?_) | (refine Rng.mk (by omega) ?_) | (refine Split.pos (by omega) ?_) | (refine Split.neg (by omega) ?_) | (refine Split.mk (fun h => ?_) (fun h => ?_)) | (refine Need.mk (by omega) ?_) | (refine Ints.ln (by assumption) ?_) | (refine Mat.ln (by assumption) ?_) | (refine Ints.ln (Mat.row (by assumption) _ (by omega)) ?_) | (refine Ints.ix (by assumption) (by omega) ?_) | (refine Mat.ix (by assumption) (by omega) ?_) | (refine Ints.ix (Mat.row (by assumption) _ (by omega)) (by omega) ?_) | (refine Ints.ix (c := 0) (by assumption) (by omega) ?_) | (refine Mat.ix (c := 0) (by assumption) (by omega) ?_) | (refine Ints.ix (c := 0) (Mat.row (by assumption) _ (by omega)) (by omega) ?_) | (refine Ints.ixI (by assumption) (by omega) ?_) | (refine Mat.ixI (by assumption) (by omega) ?_) | (refine Ints.ixI (Mat.row (by assumption) _ (by omega)) (by omega) ?_) | (refine Ints.ld (by assumption) (by omega) ?_) | (refine Mat.ld (by assumption) (by omega) ?_) | (refine Ints.ld (Mat.row (by assumption) _ (by omega)) (by omega) ?_) | (refine At.ld (by assumption) rfl ?_) | (refine At.ldN (by assumption) rfl ?_) | (refine Prs.ln (by assumption) ?_) | (refine Trs.ln (by assumption) ?_) | (refine Prs.ix (by assumption) (by omega) ?_) | (refine Trs.ix (by assumption) (by omega) ?_) | (refine Prs.ldN (by assumption) (by omega) ?_) | (refine Trs.ldN (by assumption) (by omega) ?_) | (refine At.ldN (Blk.at (by assumption)) rfl ?_) | (refine At.ld (Blk.at (by assumption)) rfl ?_) | (refine IxA.mk (by omega) ?_) | (refine Sl.ln (Own.sl (by assumption)) ?_) | (refine Ints.ix (Own.sl (by assumption)) (by omega) ?_) | (refine Ints.ixI (Own.sl (by assumption)) (by omega) ?_) | (refine Ints.ld (Own.sl (by assumption)) (by omega) ?_))
  have Hr__1 := Hr
  have Hl__1 := Hl
  have EE__1 := EE
  have Hb__1 := Hb
  conv => whnf
  refine VE.alloc eSix fun sb w3 E3 hb_sb Hk => ?_
  replace Hr := Hr.ext E3
  replace Hl := Hl.ext E3
  replace EE := EE.ext E3
  replace Hb := Hb.ext E3
  have EL1 := E3
  have Hk0 : Blk w3 sb 116 ((ownTo (List.replicate 6 r) l 0).map i64v) := Hk
  repeat' ((conv => whnf); first | (refine Dr.quiet tyOk (by kernel_rfl) ?_) | (refine Rng.mk (by omega) ?_) | (refine Split.pos (by omega) ?_) | (refine Split.neg (by omega) ?_) | (refine Split.mk (fun h => ?_) (fun h => ?_)) | (refine Need.mk (by omega) ?_) | (refine Ints.ln (by assumption) ?_) | (refine Mat.ln (by assumption) ?_) | (refine Ints.ln (Mat.row (by assumption) _ (by omega)) ?_) | (refine Ints.ix (by assumption) (by omega) ?_) | (refine Mat.ix (by assumption) (by omega) ?_) | (refine Ints.ix (Mat.row (by assumption) _ (by omega)) (by omega) ?_) | (refine Ints.ix (c := 0) (by assumption) (by omega) ?_) | (refine Mat.ix (c := 0) (by assumption) (by omega) ?_) | (refine Ints.ix (c := 0) (Mat.row (by assumption) _ (by omega)) (by omega) ?_) | (refine Ints.ixI (by assumption) (by omega) ?_) | (refine Mat.ixI (by assumption) (by omega) ?_) | (refine Ints.ixI (Mat.row (by assumption) _ (by omega)) (by omega) ?_) | (refine Ints.ld (by assumption) (by omega) ?_) | (refine Mat.ld (by assumption) (by omega) ?_) | (refine Ints.ld (Mat.row (by assumption) _ (by omega)) (by omega) ?_) | (refine At.ld (by assumption) rfl ?_) | (refine At.ldN (by assumption) rfl ?_) | (refine Prs.ln (by assumption) ?_) | (refine Trs.ln (by assumption) ?_) | (refine Prs.ix (by assumption) (by omega) ?_) | (refine Trs.ix (by assumption) (by omega) ?_) | (refine Prs.ldN (by assumption) (by omega) ?_) | (refine Trs.ldN (by assumption) (by omega) ?_) | (refine At.ldN (Blk.at (by assumption)) rfl ?_) | (refine At.ld (Blk.at (by assumption)) rfl ?_) | (refine IxA.mk (by omega) ?_) | (refine Sl.ln (Own.sl (by assumption)) ?_) | (refine Ints.ix (Own.sl (by assumption)) (by omega) ?_) | (refine Ints.ixI (Own.sl (by assumption)) (by omega) ?_) | (refine Ints.ld (Own.sl (by assumption)) (by omega) ?_))
  refine Lp.mk tyOk [false, false, false, false, false, false, true, true, false, false, true, true, true, true, true, true, true, true, true, true, true, true, true, true, true, true] (fun m fr wr => getK fr 10 fun j => ∃ c : Nat, c ≤ l.length ∧ m = l.length - c ∧ j = .int .i64 (c : Int) ∧ (Blk wr sb 116 ((ownTo (List.replicate 6 r) l c).map i64v)) ∧ Ext w2 wr) (l.length) ?_ ?_
  · exact ⟨0, Nat.zero_le _, rfl, rfl, Hk0, EL1⟩
  · intro m w4 u6 u7 u10 u11 u12 u13 u14 u15 u16 u17 u18 u19 u20 u21 u22 u23 u24 u25 hR
    obtain ⟨c, hc, rfl, rfl, HS, EL1⟩ := hR
    replace Hr := Hr__1.ext EL1
    replace Hl := Hl__1.ext EL1
    replace EE := EE__1.ext EL1
    replace Hb := Hb__1.ext EL1
    have hol : (ownTo (List.replicate 6 r) l c).length = 6 := by rw [ownTo_len]; simp
    by_cases hcl : c < l.length
    · have hck := hrg c hcl
      have hil : (l.getD c 0).toNat < (List.replicate 6 r).length := by rw [List.length_replicate]; omega
      have hi : l.getD c 0 = ((l.getD c 0).toNat : Int) := by omega
      have hob := ownTo_get (rr := List.replicate 6 r) (a := l) (c := c) hil
      have hrow : (List.replicate 6 r).getD (l.getD c 0).toNat [] = r := six_row (by omega)
      have hbd := worth_bd (a := l) (r := r) (k := ((l.getD c 0).toNat : Int)) hr c
      rw [hrow] at hob
      have hrc := hr c
      have hx : ((ownTo (List.replicate 6 r) l c).map i64v)[(l.getD c 0).toNat * 1]? = some (.int .i64 (worth l r ((l.getD c 0).toNat : Int) c)) := by
        have hgt : (l.getD c 0).toNat < (ownTo (List.replicate 6 r) l c).length := by rw [hol]; omega
        have h2 := hob
        rw [List.getD_eq_getElem?_getD, List.getElem?_eq_getElem hgt, Option.getD_some] at h2
        rw [Nat.mul_one, List.getElem?_map, List.getElem?_eq_getElem hgt, h2]; rfl
      repeat' ((conv => whnf); first | (refine Dr.plan 15 [10] (.q 0 (.q 1 (.q 2 (.q 3 (.q 4 (.q 5 (.q 6 (.q 7 (.q 8 (.q 9 (.e 10 .nil .nil))))))))))) tyOk rfl (by kernel_rfl) ?_) | (refine Dr.quiet tyOk (by kernel_rfl) ?_) | (refine Blk.ldA HS hx ?_) | (refine Rng.mk (by omega) ?_) | (refine Split.pos (by omega) ?_) | (refine Split.neg (by omega) ?_) | (refine Split.mk (fun h => ?_) (fun h => ?_)) | (refine Need.mk (by omega) ?_) | (refine Ints.ln (by assumption) ?_) | (refine Mat.ln (by assumption) ?_) | (refine Ints.ln (Mat.row (by assumption) _ (by omega)) ?_) | (refine Ints.ix (by assumption) (by omega) ?_) | (refine Mat.ix (by assumption) (by omega) ?_) | (refine Ints.ix (Mat.row (by assumption) _ (by omega)) (by omega) ?_) | (refine Ints.ix (c := 0) (by assumption) (by omega) ?_) | (refine Mat.ix (c := 0) (by assumption) (by omega) ?_) | (refine Ints.ix (c := 0) (Mat.row (by assumption) _ (by omega)) (by omega) ?_) | (refine Ints.ixI (by assumption) (by omega) ?_) | (refine Mat.ixI (by assumption) (by omega) ?_) | (refine Ints.ixI (Mat.row (by assumption) _ (by omega)) (by omega) ?_) | (refine Ints.ld (by assumption) (by omega) ?_) | (refine Mat.ld (by assumption) (by omega) ?_) | (refine Ints.ld (Mat.row (by assumption) _ (by omega)) (by omega) ?_) | (refine At.ld (by assumption) rfl ?_) | (refine At.ldN (by assumption) rfl ?_) | (refine Prs.ln (by assumption) ?_) | (refine Trs.ln (by assumption) ?_) | (refine Prs.ix (by assumption) (by omega) ?_) | (refine Trs.ix (by assumption) (by omega) ?_) | (refine Prs.ldN (by assumption) (by omega) ?_) | (refine Trs.ldN (by assumption) (by omega) ?_) | (refine At.ldN (Blk.at (by assumption)) rfl ?_) | (refine At.ld (Blk.at (by assumption)) rfl ?_) | (refine IxA.mk (by omega) ?_) | (refine Sl.ln (Own.sl (by assumption)) ?_) | (refine Ints.ix (Own.sl (by assumption)) (by omega) ?_) | (refine Ints.ixI (Own.sl (by assumption)) (by omega) ?_) | (refine Ints.ld (Own.sl (by assumption)) (by omega) ?_))
      refine Blk.setA HS (by rw [List.length_map]; omega) rfl fun w5 G5 HS' => ?_
      have E5 : Ext w2 w5 := EL1.new G5 fun i hi hk => by omega
      replace HS := HS'
      replace Hr := Hr__1.ext E5
      replace Hl := Hl__1.ext E5
      replace EE := EE__1.ext E5
      replace Hb := Hb__1.ext E5
      replace EL1 := E5
      have hset := ownTo_set (rr := List.replicate 6 r) (a := l) (c := c) hil hi
      rw [hrow, hob] at hset
      rw [Nat.mul_one, show ((ownTo (List.replicate 6 r) l c).map i64v).set (l.getD c 0).toNat (.int .i64 (worth l r ((l.getD c 0).toNat : Int) c + r.getD c 0)) = ((ownTo (List.replicate 6 r) l c).set (l.getD c 0).toNat (worth l r ((l.getD c 0).toNat : Int) c + r.getD c 0)).map i64v by rw [List.map_set]; rfl, hset] at HS
      repeat' ((conv => whnf); first | (refine Dr.quiet tyOk (by kernel_rfl) ?_) | (refine Rng.mk (by omega) ?_) | (refine Split.pos (by omega) ?_) | (refine Split.neg (by omega) ?_) | (refine Split.mk (fun h => ?_) (fun h => ?_)) | (refine Need.mk (by omega) ?_) | (refine Ints.ln (by assumption) ?_) | (refine Mat.ln (by assumption) ?_) | (refine Ints.ln (Mat.row (by assumption) _ (by omega)) ?_) | (refine Ints.ix (by assumption) (by omega) ?_) | (refine Mat.ix (by assumption) (by omega) ?_) | (refine Ints.ix (Mat.row (by assumption) _ (by omega)) (by omega) ?_) | (refine Ints.ix (c := 0) (by assumption) (by omega) ?_) | (refine Mat.ix (c := 0) (by assumption) (by omega) ?_) | (refine Ints.ix (c := 0) (Mat.row (by assumption) _ (by omega)) (by omega) ?_) | (refine Ints.ixI (by assumption) (by omega) ?_) | (refine Mat.ixI (by assumption) (by omega) ?_) | (refine Ints.ixI (Mat.row (by assumption) _ (by omega)) (by omega) ?_) | (refine Ints.ld (by assumption) (by omega) ?_) | (refine Mat.ld (by assumption) (by omega) ?_) | (refine Ints.ld (Mat.row (by assumption) _ (by omega)) (by omega) ?_) | (refine At.ld (by assumption) rfl ?_) | (refine At.ldN (by assumption) rfl ?_) | (refine Prs.ln (by assumption) ?_) | (refine Trs.ln (by assumption) ?_) | (refine Prs.ix (by assumption) (by omega) ?_) | (refine Trs.ix (by assumption) (by omega) ?_) | (refine Prs.ldN (by assumption) (by omega) ?_) | (refine Trs.ldN (by assumption) (by omega) ?_) | (refine At.ldN (Blk.at (by assumption)) rfl ?_) | (refine At.ld (Blk.at (by assumption)) rfl ?_) | (refine IxA.mk (by omega) ?_) | (refine Sl.ln (Own.sl (by assumption)) ?_) | (refine Ints.ix (Own.sl (by assumption)) (by omega) ?_) | (refine Ints.ixI (Own.sl (by assumption)) (by omega) ?_) | (refine Ints.ld (Own.sl (by assumption)) (by omega) ?_))
      refine ⟨_, (by omega : l.length - (c + 1) < l.length - c), rfl, c + 1, by omega, rfl, rfl, HS, EL1⟩
    · obtain rfl : c = l.length := by omega
      have HV := Blk.sl HS (N := 6) (n := n) (by rw [List.length_map]; exact hol) (by omega) (by omega)
      rw [← List.map_take] at HV
      have htl : ((ownTo (List.replicate 6 r) l l.length).take n).length = n := by rw [List.length_take, hol]; omega
      have HI : Ints w4 (.slice (some ⟨sb, 0, none⟩) n 6) ((ownTo (List.replicate 6 r) l l.length).take n) := by unfold Ints; rw [htl]; exact HV
      have cm := smin_pc HI (by omega)
      have e : mnTo (fun i => ((ownTo (List.replicate 6 r) l l.length).take n).getD i 0) (((ownTo (List.replicate 6 r) l l.length).take n).length - 1) = leastP r l n := by
        rw [htl]
        refine mnTo_congr fun i hi => ?_
        have h1 := ownTo_get (rr := List.replicate 6 r) (a := l) (c := l.length) (i := i) (by simp; omega)
        rw [six_row (by omega)] at h1
        rw [← h1]
        simp only [List.getD]
        rw [List.getElem?_take, if_pos (by omega)]
      rw [e] at cm
      repeat' ((conv => whnf); first | (refine Dr.quiet tyOk (by kernel_rfl) ?_) | (refine VS.cutArr (s := 1) Try.underlying116 (by kernel_rfl) (by decide) (by omega) ?_) | (refine VC.pure cm ?_) | (refine Rng.mk (by omega) ?_) | (refine Split.pos (by omega) ?_) | (refine Split.neg (by omega) ?_) | (refine Split.mk (fun h => ?_) (fun h => ?_)) | (refine Need.mk (by omega) ?_) | (refine Ints.ln (by assumption) ?_) | (refine Mat.ln (by assumption) ?_) | (refine Ints.ln (Mat.row (by assumption) _ (by omega)) ?_) | (refine Ints.ix (by assumption) (by omega) ?_) | (refine Mat.ix (by assumption) (by omega) ?_) | (refine Ints.ix (Mat.row (by assumption) _ (by omega)) (by omega) ?_) | (refine Ints.ix (c := 0) (by assumption) (by omega) ?_) | (refine Mat.ix (c := 0) (by assumption) (by omega) ?_) | (refine Ints.ix (c := 0) (Mat.row (by assumption) _ (by omega)) (by omega) ?_) | (refine Ints.ixI (by assumption) (by omega) ?_) | (refine Mat.ixI (by assumption) (by omega) ?_) | (refine Ints.ixI (Mat.row (by assumption) _ (by omega)) (by omega) ?_) | (refine Ints.ld (by assumption) (by omega) ?_) | (refine Mat.ld (by assumption) (by omega) ?_) | (refine Ints.ld (Mat.row (by assumption) _ (by omega)) (by omega) ?_) | (refine At.ld (by assumption) rfl ?_) | (refine At.ldN (by assumption) rfl ?_) | (refine Prs.ln (by assumption) ?_) | (refine Trs.ln (by assumption) ?_) | (refine Prs.ix (by assumption) (by omega) ?_) | (refine Trs.ix (by assumption) (by omega) ?_) | (refine Prs.ldN (by assumption) (by omega) ?_) | (refine Trs.ldN (by assumption) (by omega) ?_) | (refine At.ldN (Blk.at (by assumption)) rfl ?_) | (refine At.ld (Blk.at (by assumption)) rfl ?_) | (refine IxA.mk (by omega) ?_) | (refine Sl.ln (Own.sl (by assumption)) ?_) | (refine Ints.ix (Own.sl (by assumption)) (by omega) ?_) | (refine Ints.ixI (Own.sl (by assumption)) (by omega) ?_) | (refine Ints.ld (Own.sl (by assumption)) (by omega) ?_))
      exact ⟨rfl, EE⟩

end Go.Proofs.Ytkgogljfngplnaa
