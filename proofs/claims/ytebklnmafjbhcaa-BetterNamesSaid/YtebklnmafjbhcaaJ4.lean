/- The engine, part X: own rows cut short; clear. -/
import Derived.Test.YtebklnmafjbhcaaJ3
import Derived.RangeFuncNested
import Derived.OrdersIn
import Derived.Deep.Strs
import Derived.WalkSpells
import Derived.Lib.SliceRun
set_option linter.unusedVariables false
set_option linter.unusedSimpArgs false
namespace Go.Eng
open Go.RowKit

abbrev Ds := List Deferred
abbrev WF (ro : Option Nat) : Fence := { Fence.wide with round := ro }
def LiftX (Q : Exit → Ds → Fr → World → Prop) : Exit → Act → World → Prop := fun e a w' => ∃ fr wb, a.tmps = fr.toArray ∧ Ext wb w' ∧ Q e a.defers fr wb

/-- A call of yield. -/
@[irreducible] def VY (P : Program) (l : Nat) (args : List Value) (w : World) (K : Value → World → Prop) : Prop :=
  ∀ w', Ext w w' → YieldAt Fence.wide 0 P l args.toArray w' fun e w'' => ∃ v, e = .returned v ∧ ∃ wb, Ext wb w'' ∧ K v wb
@[irreducible] def Lpx (ro : Option Nat) (P : Program) (b : Code) (ds : Ds) (fr : Fr) (w : World) (Q : Exit → Ds → Fr → World → Prop) : Prop :=
  ∀ w', Ext w w' → (Code.loop b).wpIn (WF ro) 0 P (LiftX Q) (Act.mk fr.toArray ds) w'
@[irreducible] def Rwx (ro : Option Nat) (P : Program) (c : Code) (ds : Ds) (fr : Fr) (w : World) (Q : Exit → Ds → Fr → World → Prop) : Prop :=
  ∀ w', Ext w w' → c.wpIn (WF ro) 0 P (LiftX Q) (Act.mk fr.toArray ds) w'
@[irreducible] def Drx (ro : Option Nat) (P : Program) (ops : List Oper) (ds : Ds) (fr : Fr) (w : World) (K : Fr → World → Prop) : Prop :=
  ∀ (id : Nat) (Q : Exit → Act → World → Prop), (∀ fr' wb w'', Ext wb w'' → K fr' wb → Q .normal (Act.mk fr'.toArray ds) w'') → ∀ w', Ext w w' → (Code.region id ops.toArray true).wpIn (WF ro) 0 P Q (Act.mk fr.toArray ds) w'

def op1x (P : Program) (tys : List Ty) (o : Op) (T : TypeId) (fr : Fr) (w : World) (K : Value → World → Prop) : Prop :=
  match o with
  | .call c => match c.callee with
    | .value f => evK fr f fun fv => match fv with
      | .func (.func g) first captured => argsK fr c.args.toList fun vs => appK first.toList vs fun us => appK us captured.toList fun ts => VC P g ts w K
      | .func (.yield l) first _ => argsK fr c.args.toList fun vs => appK first.toList vs fun us => VY P l us w K
      | _ => Stuck 22
    | _ => op1 P tys o T fr w K
  | _ => op1 P tys o T fr w K

section
variable {P : Program} {tys : List Ty} {ro : Option Nat}

theorem ok1_nodefer {o : Oper} {ρ : Operand → Value} {w : World} {K : Value → World → Prop} (h : ok1 P o ρ w K) : ∀ c, o.op ≠ .defer c := by
  intro c e
  obtain ⟨dst, op, T, pos, after, guard⟩ := o
  simp only at e
  subst e
  unfold ok1 at h
  simp only [execOp, Sem.run_bind] at h
  generalize (resolve ρ c T).run P w = r at h
  cases r with
  | ok d w' => simp [Result.andThen_ok] at h
  | halt x w' => simp [Result.andThen] at h

theorem wpIn_of_ok1 {o : Oper} {a : Act} {w : World} {next : Act → World → Prop} {Q : Exit → Act → World → Prop} (h : ok1 P o a.eval w fun v w' => next (a.put o.dst v) w') : o.wpIn (WF ro) 0 P a w next Q := by
  unfold Oper.wpIn
  refine ⟨fun _ _ => trivial, ?_⟩
  rw [Oper.semAt_eq _ _ _ (ok1_nodefer h)]
  unfold ok1 at h
  split at h
  · rename_i e; rw [e]; exact h
  · rename_i e; rw [e]; exact h
  · rename_i e
    rw [e, Oper.uponIn_enter]
    refine ⟨fun h => (by cases h), ?_⟩
    have h2 : CallsIn (WF ro) 0 P _ _ _ _ := (callsIn_wide (n := 0)).2 h
    refine h2.mono ?_
    rintro e w'' ⟨v, rfl, hv⟩
    exact hv
  · rename_i e
    rw [e, Oper.uponIn_row]
    refine ⟨fun h => (by cases h), fun c cs _ => ?_⟩
    obtain ⟨v, w', hr, hs⟩ := h c cs
    exact ⟨v, w', hr, stepsIn_wide.2 hs⟩
  · exact h.elim

theorem mkAct_put {fr : Fr} {d : Option Tmp} {v v' : Value} (h : (Act.mk fr.toArray []).put d v = (Act.mk fr.toArray []).put d v') : putF fr d v = putF fr d v' := by
  rw [act_put, act_put] at h
  have := congrArg Act.tmps h
  simpa using this

theorem op1_ok1x (hty : TyOk P tys) (o : Oper) {fr : Fr} {w w' : World} {K : Value → World → Prop} (hw : Ext w w') (h : op1 P tys o.op o.type fr w K) :
    ok1 P o (ev fr) w' fun v w'' => ∃ u wb, putF fr o.dst v = putF fr o.dst u ∧ Ext wb w'' ∧ K u wb := by
  have h1 := op1_sound (P := P) hty o (Q := fun _ _ _ => False) (next := fun a' w'' => a'.defers = [] ∧ ∃ u wb, a' = (Act.mk fr.toArray []).put o.dst u ∧ Ext wb w'' ∧ K u wb) hw h
    (fun v wb w'' hx hk => ⟨by rw [act_put], v, wb, rfl, hx, hk⟩)
  have h2 := ok1_of_wp (fun a' w' h => h.1) h1
  rw [ev_eq] at h2
  refine ok1_mono h2 ?_
  rintro v w'' ⟨_, u, wb, e, hx, hk⟩
  exact ⟨u, wb, mkAct_put e, hx, hk⟩

theorem op1x_sound (hty : TyOk P tys) (o : Oper) {ds : Ds} {fr : Fr} {w w' : World} {K : Value → World → Prop} (hw : Ext w w') (h : op1x P tys o.op o.type fr w K)
    {next : Act → World → Prop} {Q : Exit → Act → World → Prop} (hk : ∀ v wb w'', Ext wb w'' → K v wb → next ((Act.mk fr.toArray ds).put o.dst v) w'') : o.wpIn (WF ro) 0 P (Act.mk fr.toArray ds) w' next Q := by
  have plain : op1 P tys o.op o.type fr w K → o.wpIn (WF ro) 0 P (Act.mk fr.toArray ds) w' next Q := fun hp => by
    refine wpIn_of_ok1 ?_
    rw [ev_eq]
    refine ok1_mono (op1_ok1x hty o hw hp) ?_
    rintro v w'' ⟨u, wb, e, hx, hK⟩
    have := hk u wb w'' hx hK
    rw [act_put] at this
    rw [act_put, e]; exact this
  obtain ⟨dst, op, T, pos, after, guard⟩ := o
  dsimp only at h plain hk ⊢
  unfold op1x at h
  split at h
  · rename_i c
    split at h
    · rename_i f hcal
      rw [evK_eq] at h
      split at h
      · rename_i g first captured hf
        refine plain ?_
        unfold op1
        simp only [hcal, evK_eq, hf]
        exact h
      · rename_i l first captured hf
        simp only [argsK_eq, appK_eq, VY] at h
        obtain ⟨fn, tmps, assign, body, hy, hR⟩ := h w' hw
        have ea : first ++ c.args.map (ev fr) = (first.toList ++ c.args.toList.map (ev fr)).toArray := by
          apply Array.toList_inj.1; simp
        have e : execOp (ev fr) ⟨dst, .call c, T, pos, after, guard⟩ = Instr.yield l (first ++ c.args.map (ev fr)) := by
          simp only [execOp, resolve, hcal, hf, Deferred.ofValue, pure_bind, invoke]
        unfold Oper.wpIn
        refine ⟨fun _ _ => trivial, ?_⟩
        rw [Oper.semAt_eq _ _ _ (fun c => by simp), ev_eq, e, ea, hy, Oper.uponIn_round]
        refine ⟨fun h => (by cases h), ?_⟩
        have hR2 : RoundIn (WF ro) 0 P l fn tmps assign body w' _ := hR
        refine hR2.mono ?_
        rintro e w'' ⟨v, rfl, wb, hx, hK⟩
        exact hk v wb w'' hx hK
      · simp [Stuck] at h
    · exact plain h
  · exact plain h

def rgnx (P : Program) (tys : List Ty) (all l : List Oper) : Fr → World → (Fr → World → Prop) → Prop :=
  @List.rec Oper (fun _ => Fr → World → (Fr → World → Prop) → Prop) (fun fr w K => K fr w)
    (fun o _ ih fr w K => grd all fr o.guard (op1x P tys o.op o.type fr w fun v w' => putK fr o.dst v fun fr' => ih fr' w' K) (putK fr o.dst undef fun fr' => ih fr' w K)) l

theorem rgnx_sound (hty : TyOk P tys) {ds : Ds} {all : List Oper} {Q : Exit → Act → World → Prop} : ∀ (l : List Oper) (fr : Fr) (w : World) (K : Fr → World → Prop), rgnx P tys all l fr w K →
    (∀ fr' wb w'', Ext wb w'' → K fr' wb → Q .normal (Act.mk fr'.toArray ds) w'') → ∀ w', Ext w w' → wpListIn (WF ro) 0 P all.toArray Q l (Act.mk fr.toArray ds) w'
  | [], fr, w, K, h, hq, w', hw => hq fr w w' hw h
  | o :: rest, fr, w, K, h, hq, w', hw => by
    unfold wpListIn
    have h : grd all fr o.guard (op1x P tys o.op o.type fr w fun v w' => putK fr o.dst v fun fr' => rgnx P tys all rest fr' w' K) (putK fr o.dst undef fun fr' => rgnx P tys all rest fr' w K) := h
    rcases grd_spec h with ⟨hwt, h⟩ | ⟨hwt, h⟩
    · rw [if_pos hwt]
      refine op1x_sound hty o hw h fun v wb w'' hx hK => ?_
      rw [putK_eq] at hK
      rw [act_put]
      exact rgnx_sound hty rest _ wb K hK hq w'' hx
    · rw [if_neg (by rw [hwt]; simp)]
      rw [putK_eq] at h
      rw [act_put]
      exact ⟨fun _ _ => trivial, rgnx_sound hty rest _ w K h hq w' hw⟩

/-! ### drawn regions -/
theorem anyIn_of_anyS {ds : Ds} {md : Region.Mode} {ops : Array Oper} {wr : List Nat} {Qf : Act → World → Prop} {Q : Exit → Act → World → Prop} (hQ : ∀ t w, Qf (Act.mk t []) w → Q .normal (Act.mk t ds) w) :
    ∀ (n : Nat) (listed : Array Bool) (t : Array Value) (w : World), anyS P md ops wr Qf n listed (Act.mk t []) w → wpAnyIn (WF ro) 0 P md ops Q n listed (Act.mk t ds) w
  | 0, _, _, _, h => ⟨h.1, hQ _ _ h.2⟩
  | n + 1, listed, t, w, h => by
    refine ⟨fun hr => hQ _ _ (h.1 hr), fun i hi => ?_⟩
    have := h.2 i hi
    unfold stepS at this
    unfold wpOpIn
    have pe : ∀ d v, (Act.mk t []).put d v = Act.mk ((Act.mk t []).put d v).tmps [] := fun d v => by cases d <;> rfl
    have pe2 : ∀ d v, (Act.mk t ds).put d v = Act.mk ((Act.mk t []).put d v).tmps ds := fun d v => by cases d <;> rfl
    split
    · rename_i ho; rw [ho] at this; exact anyIn_of_anyS hQ n _ t w this
    · rename_i o ho
      rw [ho] at this
      simp only at this
      split
      · rename_i hw
        rw [if_pos hw] at this
        refine wpIn_of_ok1 ?_
        refine ok1_mono (ok1_congr (P := P) (o := o) (w := w) ?_ |>.mp this) fun v w' hv => ?_
        · have e : (Act.mk t []).eval = (Act.mk t ds).eval := by funext x; cases x <;> rfl
          rw [e]
        · rw [pe2]
          have := hv.2
          rw [pe] at this
          exact anyIn_of_anyS hQ n _ _ w' this
      · rename_i hw
        rw [if_neg hw] at this
        rw [pe2]
        rw [pe] at this
        exact ⟨fun _ _ => trivial, anyIn_of_anyS hQ n _ _ w this⟩

theorem Drx.plan {ds : Ds} {all : List Oper} (d : Nat) (wr : List Nat) (p : Plan) (hty : TyOk P tys) {fr : Fr} {w : World} {K : Fr → World → Prop} (_hd : firstDst all = some d) (hB : planB .any all wr p = true) (h : pw P tys all wr p false fr w K) : Drx ro P all ds fr w K := by
  simp only [Drx]
  intro id Q hk w' hw
  simp only [planB, Bool.and_eq_true, decide_eq_true_eq, List.all_eq_true] at hB
  obtain ⟨⟨hpl, hd⟩, hc⟩ := hB
  refine wpIn_region_any hty.mixed ?_
  have hcl : Closed .any all.toArray (Array.replicate all.length false) := fun j k hj _ => by rw [getD_replicate_false all.length j] at hj; cases hj
  have := (pw_sound hty (fun j o ho => hpl o (List.mem_of_getElem? (by simpa using ho))) K p _ fr w hcl).1 h hc all.length hd _ (hw.drawn (w'.drawn + 1))
  refine anyIn_of_anyS (Qf := Qp K) ?_ _ _ _ _ (by simpa using this)
  rintro t w2 ⟨fr', wb, e, hx, hK⟩
  have : t = fr'.toArray := congrArg Act.tmps e
  subst this
  exact hk fr' wb w2 hx hK

/-! ### code -/
def thenX (K : Ds → Fr → World → Prop) (Q : Exit → Ds → Fr → World → Prop) : Exit → Ds → Fr → World → Prop
  | .normal, ds, fr, w => K ds fr w
  | e, ds, fr, w => Q e ds fr w
def blockX (id : Nat) (Q : Exit → Ds → Fr → World → Prop) : Exit → Ds → Fr → World → Prop
  | .exit id', ds, fr, w => match Nat.beq id' id with
    | true => Q .normal ds fr w
    | false => Q (.exit id') ds fr w
  | e, ds, fr, w => Q e ds fr w

def gvx (ro : Option Nat) (P : Program) (tys : List Ty) (c : Code) : Ds → Fr → World → (Exit → Ds → Fr → World → Prop) → Prop :=
  @Code.rec (fun _ => Ds → Fr → World → (Exit → Ds → Fr → World → Prop) → Prop)
    (fun ds fr w Q => Q .normal ds fr w)
    (fun _ ops draw ds fr w Q => match draw with
      | true => Drx ro P ops.toList ds fr w fun fr' w' => Q .normal ds fr' w'
      | false => rgnx P tys ops.toList ops.toList fr w fun fr' w' => Q .normal ds fr' w')
    (fun _ _ iha ihb ds fr w Q => iha ds fr w (thenX (fun ds' fr' w' => ihb ds' fr' w' Q) Q))
    (fun c _ _ iha ihb ds fr w Q => evK fr c fun v => match v with
      | .bool true => iha ds fr w Q
      | .bool false => ihb ds fr w Q
      | _ => Stuck 30)
    (fun id _ ih ds fr w Q => ih ds fr w (blockX id Q))
    (fun b _ ds fr w Q => Lpx ro P b ds fr w Q)
    (fun f ps a b _ _ ds fr w Q => Rwx ro P (.rangeFunc f ps a b) ds fr w Q)
    (fun id ds fr w Q => Q (.exit id) ds fr w)
    (fun c _ ds fr w Q => Rwx ro P (.scope c) ds fr w Q)
    (fun _ ds fr w Q => Q .normal ds fr w)
    (fun l ds fr w Q => Rwx ro P (.goto l) ds fr w Q)
    (fun ds fr w Q => Q .ret ds fr w)
    (fun s ds fr w Q => Rwx ro P (.refuse s) ds fr w Q) c

theorem liftX_mk {Q : Exit → Ds → Fr → World → Prop} {e : Exit} {ds : Ds} {fr : Fr} {wb w : World} (hx : Ext wb w) (h : Q e ds fr wb) : LiftX Q e (Act.mk fr.toArray ds) w := ⟨fr, wb, rfl, hx, h⟩
theorem act_eta {a : Act} {fr : Fr} (h : a.tmps = fr.toArray) : a = Act.mk fr.toArray a.defers := by cases a; simp at h; subst h; rfl

theorem gvx_sound (hty : TyOk P tys) : ∀ (c : Code) (ds : Ds) (fr : Fr) (w : World) (Q : Exit → Ds → Fr → World → Prop), gvx ro P tys c ds fr w Q → ∀ w', Ext w w' → c.wpIn (WF ro) 0 P (LiftX Q) (Act.mk fr.toArray ds) w'
  | .skip, ds, fr, w, Q, h, w', hw => wpIn_skip (liftX_mk hw h)
  | .label _, ds, fr, w, Q, h, w', hw => wpIn_label (liftX_mk hw h)
  | .region id ops draw, ds, fr, w, Q, h, w', hw => by
    cases draw with
    | true =>
      have h : Drx ro P ops.toList ds fr w fun fr' w' => Q .normal ds fr' w' := h
      simp only [Drx] at h
      have := h id (LiftX Q) (fun fr' wb w'' hx hk => liftX_mk hx hk) w' hw
      simpa using this
    | false =>
      refine wpIn_region_list ?_
      have := rgnx_sound (ro := ro) (ds := ds) (Q := LiftX Q) hty ops.toList fr w _ h (fun fr' wb w'' hx hk => liftX_mk hx hk) w' hw
      simpa using this
  | .seq a b, ds, fr, w, Q, h, w', hw => by
    refine wpIn_seq (wpIn_mono (gvx_sound hty a ds fr w _ h w' hw) ?_)
    rintro e a' w'' ⟨fr', wb, ha, hx, hq⟩
    cases e with
    | normal => rw [act_eta ha]; exact gvx_sound hty b _ fr' wb Q hq w'' hx
    | _ => exact ⟨fr', wb, ha, hx, hq⟩
  | .cond c a b, ds, fr, w, Q, h, w', hw => by
    have h : evK fr c fun v => match v with
      | .bool true => gvx ro P tys a ds fr w Q
      | .bool false => gvx ro P tys b ds fr w Q
      | _ => Stuck 30 := h
    rw [evK_eq] at h
    split at h
    · rename_i e; exact wpIn_cond_true (by rw [ev_eq, e]) (gvx_sound hty a ds fr w Q h w' hw)
    · rename_i e; exact wpIn_cond_false (by rw [ev_eq, e]) (gvx_sound hty b ds fr w Q h w' hw)
    · simp [Stuck] at h
  | .block id b, ds, fr, w, Q, h, w', hw => by
    refine wpIn_block (wpIn_mono (gvx_sound hty b ds fr w _ h w' hw) ?_)
    rintro e a' w'' ⟨fr', wb, ha, hx, hq⟩
    cases e with
    | exit id' =>
      simp only [Exit.inBlock]
      simp only [blockX] at hq
      split
      · rename_i e; subst e
        rw [Nat.beq_refl] at hq
        exact ⟨fr', wb, ha, hx, hq⟩
      · rename_i e
        have : Nat.beq id' id = false := by
          cases h2 : Nat.beq id' id with
          | false => rfl
          | true => exact absurd (Nat.eq_of_beq_eq_true h2) e
        rw [this] at hq
        exact ⟨fr', wb, ha, hx, hq⟩
    | _ => exact ⟨fr', wb, ha, hx, hq⟩
  | .loop b, ds, fr, w, Q, h, w', hw => by have h : Lpx ro P b ds fr w Q := h; simp only [Lpx] at h; exact h w' hw
  | .exit id, ds, fr, w, Q, h, w', hw => wpIn_exit (liftX_mk hw h)
  | .ret, ds, fr, w, Q, h, w', hw => wpIn_ret (liftX_mk hw h)
  | .rangeFunc .., ds, fr, w, Q, h, w', hw => by unfold gvx at h; simp only [Rwx] at h; exact h w' hw
  | .scope .., ds, fr, w, Q, h, w', hw => by unfold gvx at h; simp only [Rwx] at h; exact h w' hw
  | .goto .., ds, fr, w, Q, h, w', hw => by unfold gvx at h; simp only [Rwx] at h; exact h w' hw
  | .refuse .., ds, fr, w, Q, h, w', hw => by unfold gvx at h; simp only [Rwx] at h; exact h w' hw

/-! ### loops -/
theorem wpIn_loop_rel {c : Code} {F : Fence} {n : Nat} {Q : Exit → Act → World → Prop} (J : Nat → Act → World → Prop) {a : Act} {w : World} {m0 : Nat} (h0 : J m0 a w)
    (round : ∀ m a w, J m a w → c.wpIn F n P (Exit.then (fun a' w' => ∃ m', m' < m ∧ J m' a' w') Q) a w) : (Code.loop c).wpIn F n P Q a w := by
  refine wpIn_loop (fun a w => ∃ m, J m a w) (fun a w => Classical.epsilon fun m => J m a w ∧ ∀ k, k < m → ¬ J k a w) ⟨m0, h0⟩ ?_
  intro a w hJ
  have hs := Classical.epsilon_spec (p := fun m => J m a w ∧ ∀ k, k < m → ¬ J k a w) (least_nat hJ)
  refine wpIn_mono (round _ a w hs.1) ?_
  intro e a' w' hq
  cases e with
  | normal =>
    obtain ⟨m', hlt, hJ'⟩ := hq
    refine ⟨⟨m', hJ'⟩, ?_⟩
    have hs' := Classical.epsilon_spec (p := fun m => J m a' w' ∧ ∀ k, k < m → ¬ J k a' w') (least_nat ⟨m', hJ'⟩)
    refine Nat.lt_of_le_of_lt (Nat.le_of_not_lt fun h => hs'.2 _ h hJ') hlt
  | _ => exact hq

def loopX (ds : List Bool) (D : Ds) (fr : Fr) (R : Nat → Fr → World → Prop) (m : Nat) (Q : Exit → Ds → Fr → World → Prop) : Exit → Ds → Fr → World → Prop :=
  thenX (fun D' fr' w' => D' = D ∧ ∃ m', m' < m ∧ blank ds fr' = blank ds fr ∧ R m' fr' w') Q

theorem Lpx.mk (hty : TyOk P tys) {b : Code} {D : Ds} {fr : Fr} {w : World} {Q : Exit → Ds → Fr → World → Prop} (ds : List Bool) (R : Nat → Fr → World → Prop) (m0 : Nat) (h0 : R m0 fr w)
    (hr : ∀ m w', hv ds fr fun fr' => R m fr' w' → gvx ro P tys b D fr' w' (loopX ds D fr R m Q)) : Lpx ro P b D fr w Q := by
  simp only [Lpx]
  intro w' hw
  refine wpIn_loop_rel (fun m a w' => ∃ fr' wb, a = Act.mk fr'.toArray D ∧ Ext wb w' ∧ blank ds fr' = blank ds fr ∧ R m fr' wb) (m0 := m0) ⟨fr, w, rfl, hw, rfl, h0⟩ ?_
  rintro m a w1 ⟨fr', wb, rfl, hx, he, hR⟩
  refine wpIn_mono (gvx_sound hty b D fr' wb _ (hv_spec (hr m wb) fr' he hR) w1 hx) ?_
  rintro e a' w2 ⟨fr2, wb2, ha, hx2, hq⟩
  cases e with
  | normal =>
    obtain ⟨hD, m', hlt, hb, hR'⟩ := hq
    exact ⟨m', hlt, fr2, wb2, by rw [act_eta ha, hD], hx2, hb, hR'⟩
  | _ => exact ⟨fr2, wb2, ha, hx2, hq⟩

/-! ### results, contracts -/
/-- The end: no mark, or one whose block is still as it was laid. -/
def finX (tys : List Ty) (e : Exit) (rs : List ResultVar) (ds : Ds) (fr : Fr) (w : World) (K : Value → World → Prop) : Prop :=
  match e with
  | .normal | .ret => match ds with
    | [] => resK tys rs fr w (one1 fun v => K v w)
    | [⟨.collected D, _⟩] => w.heap[D]? = some (.deferred (some [])) ∧ ∀ w', Gr (fun k => k = D) w w' → resK tys rs fr w' (one1 fun v => K v w')
    | _ => False
  | _ => False

theorem gr_putObj (w : World) (D : Nat) (o : Obj) : Gr (fun k => k = D) w (w.putObj D o) := ⟨rfl, rfl, rfl, by simp, fun k _ hk => World.putObj_heap_other hk⟩

theorem calls_of_gvx (hty : TyOk P tys) {f : FuncId} {fn : Func} {c : Code} {args : List Value} {w : World} {K : Value → World → Prop} (hf : P.funcs[f]? = some fn) (hb : fn.body = some c)
    (h : mkFr args fn.ntmps fun fr => gvx none P tys c [] fr w fun e ds fr' wb => finX tys e fn.results.toList ds fr' wb K) :
    Calls P f args.toArray w fun e w'' => ∃ v, e = .returned v ∧ ∃ wb, Ext wb w'' ∧ K v wb := by
  rw [mkFr_eq] at h
  refine (callsIn_wide (n := 0)).1 (callsIn_of_wp_marks (F := Fence.wide) hf hb trivial ?_ rfl)
  have e : args.toArray ++ Array.replicate (fn.ntmps - args.toArray.size) undef = (args ++ List.replicate (fn.ntmps - args.length) undef).toArray := by
    apply Array.toList_inj.1; simp
  rw [e]
  have hg := gvx_sound (ro := none) hty c [] _ w _ h w (Ext.refl w)
  refine wpIn_mono hg ?_
  rintro e a w' ⟨fr, wb, ha, hx, hq⟩
  have go : finX tys .ret fn.results.toList a.defers fr wb K → LeavesInM Fence.wide 0 P fn a.tmps (fun e w'' => ∃ v, e = .returned v ∧ ∃ wb, Ext wb w'' ∧ K v wb) a.defers .returning w' := fun hr => by
    rw [ha]
    generalize a.defers = ds at hr ⊢
    match ds, hr with
    | [], hr =>
      obtain ⟨v, hk, hrun⟩ := results_run (P := P) (fn := fn) (K := fun v => K v wb) hty hx hr
      exact ⟨v, hrun, v, rfl, wb, hx, hk⟩
    | [⟨.collected D, _⟩], hr =>
      obtain ⟨hD, hr⟩ := hr
      have hlt : D < wb.heap.size := (Array.getElem?_eq_some_iff.1 hD).1
      have hD' : w'.heap[D]? = some (.deferred (some [])) := by rw [hx.block D hlt (fun hf => hf)]; exact hD
      refine ⟨by simp, .inl ⟨D, _, rfl, run_takeDeferred hD', ?_⟩⟩
      have hg2 : Gr (fun k => k = D) wb (w'.putObj D (.deferred none)) := (Gr.ofExt hx).trans (gr_putObj w' D _)
      obtain ⟨v, hk, hrun⟩ := results_run (P := P) (fn := fn) (K := fun v => K v (w'.putObj D (.deferred none))) hty (Ext.refl _) (hr _ hg2)
      exact ⟨v, hrun, v, rfl, _, Ext.refl _, hk⟩
  cases e with
  | normal => exact go hq
  | ret => exact go hq
  | _ => exact hq.elim

theorem RCX.mk (hty : TyOk P tys) {f : FuncId} {fn : Func} {c : Code} {args : List Value} {w : World} {S : Nat → Prop} {R : Value → World → Prop} (hf : P.funcs[f]? = some fn) (hb : fn.body = some c) (hn : (fn.name == "runtime.NumGoroutine") = false)
    (h : ∀ w', Ext w w' → mkFr args fn.ntmps fun fr => gvx none P tys c [] fr w' fun e ds fr' wb => finX tys e fn.results.toList ds fr' wb fun u wb => Gr S w' wb ∧ R u wb) : RC P f args w S R := by
  simp only [RC]
  refine ⟨⟨fn, hf, hn, by rw [hb]; rfl⟩, fun w' hw => ?_⟩
  refine (calls_of_gvx hty (K := fun u wb => Gr S w' wb ∧ R u wb) hf hb (h w' hw)).mono ?_
  rintro e w'' ⟨u, rfl, wb, hx, hg, hr⟩
  exact ⟨u, rfl, wb, hx, hg, hr⟩
end
end Go.Eng
set_option linter.unusedVariables false
set_option linter.unusedSimpArgs false
namespace Go.Eng
open Go.RowKit

/-- The iterator yields the lists xs, in this order; C: the old blocks that it leans on. -/
def ItOk (P : Program) (gf : FuncId) (lb : List Value) (C : Nat → Prop) (w : World) (xs : List (List Int)) : Prop :=
  IsFn P gf ∧ ∀ (l : Nat) (M : Nat → Prop) (J Jx : Nat → List (List Int) → World → Prop) (W : World), Ext w W → (∀ k, M k → ¬ C k ∧ k < W.heap.size) →
    (∀ n1 pre A B, J n1 pre A → Gr (fun k => W.heap.size ≤ k ∧ k < n1) A B → J n1 pre B) → (∀ n1 pre A B, Jx n1 pre A → Gr (fun k => W.heap.size ≤ k ∧ k < n1) A B → Jx n1 pre B) →
    (∀ n1 pre x v A, W.heap.size ≤ n1 → n1 ≤ A.heap.size → pre ++ [x] <+: xs → J n1 pre A → Ints A v x → YieldAt Fence.wide 0 P l #[v] A fun e B =>
      (e = .returned (.bool true) ∧ J n1 (pre ++ [x]) B ∧ Gr (fun k => M k ∨ n1 ≤ k) A B) ∨ (e = .returned (.bool false) ∧ Jx n1 (pre ++ [x]) B ∧ Gr (fun k => M k ∨ n1 ≤ k) A B)) →
    (∀ n1, W.heap.size ≤ n1 → J n1 [] W) → Calls P gf (.func (.yield l) #[] #[] :: lb).toArray W fun e B => ∃ v, e = .returned v ∧ ∃ n1, W.heap.size ≤ n1 ∧ (J n1 xs B ∨ ∃ pre, pre <+: xs ∧ Jx n1 pre B)

theorem at_noloop {w : World} {p : Addr} {xs : List Value} {l : Nat} {r : Loop} (h : At w p xs) (hl : w.heap[l]? = some (.loop r)) (hx : xs ≠ []) : p.block ≠ l := by
  intro e
  cases xs with
  | nil => exact hx rfl
  | cons x xs =>
    have := h 0 x (by simp)
    rw [show p.add 0 = p from rfl] at this
    unfold World.cell? at this
    rw [e, hl] at this
    simp at this
theorem ints_noloop {w w' : World} {v : Value} {x : List Int} {l : Nat} {r : Loop} (h : Ints w v x) (hl : w.heap[l]? = some (.loop r)) (hg : Gr (fun k => k = l) w w') : Ints w' v x := by
  obtain ⟨a, cap, rfl, h1, h2, h3, h4⟩ := h
  refine ⟨a, cap, rfl, h1, h2, h3, ?_⟩
  rcases h4 with h4 | ⟨p, rfl, h4⟩
  · exact .inl h4
  · by_cases hx : x.length = 0
    · exact .inl hx
    · refine .inr ⟨p, rfl, h4.gr hg (at_noloop h4 hl (fun e => hx ?_))⟩
      have := congrArg List.length e; simpa using this

def mkRec (fn : FuncId) (tmps : Array Value) (p : Tmp) (assign body : Code) (D : Nat) (st : LoopState) (pe : Option Code) : Loop := { state := st, pending := pe, fn, tmps, params := #[p], assign, body, defers := D }

section
variable {P : Program} {tys : List Ty}

/-- What the body of a round owes. -/
def roundX (M : Nat → Prop) (I : World → Prop) (Ix : Code → World → Prop) (W : World) : Exit → Ds → Fr → World → Prop
  | .normal, _, _, W' => I W' ∧ Gr M W W'
  | .ret, _, _, W' => Ix .ret W' ∧ Gr M W W'
  | .exit id, _, _, W' => Ix (.exit id) W' ∧ Gr M W W'
  | _, _, _, _ => False

theorem Rwx.range (hty : TyOk P tys) {g : Operand} {p : Tmp} {assign body : Code} {ds : Ds} {fr : Fr} {w : World} {Q : Exit → Ds → Fr → World → Prop} {gf : FuncId} {lb : List Value} {C : Nat → Prop} {xs : List (List Int)}
    (hg : evK fr g fun v => v = .func (.func gf) #[] lb.toArray) (hit : ItOk P gf lb C w xs) (hC : ∀ k, C k → k < w.heap.size) (M : Nat → Prop) (hM : ∀ k, M k → ¬ C k ∧ k < w.heap.size)
    (I : Nat → List (List Int) → World → Prop) (Ix : Nat → Code → List (List Int) → World → Prop) (hI : ∀ n1 pre A B, I n1 pre A → Gr (fun k => w.heap.size ≤ k ∧ k < n1) A B → I n1 pre B) (hIx : ∀ n1 c pre A B, Ix n1 c pre A → Gr (fun k => w.heap.size ≤ k ∧ k < n1) A B → Ix n1 c pre B)
    (h0 : ∀ n1, w.heap.size ≤ n1 → I n1 [] w) 
    (hround : ∀ l v W, setK fr p v fun fr0 => gvx (some l) P tys assign [] fr0 W fun e ds' fr' W' => e = .normal ∧ ds' = [] ∧ W' = W ∧
      ∀ n1 pre x W2, w.heap.size ≤ n1 → n1 ≤ W2.heap.size → pre ++ [x] <+: xs → I n1 pre W2 → Gr M w W2 → Ints W2 v x → gvx (some l) P tys body [] fr' W2 (roundX (fun k => M k ∨ n1 ≤ k) (I n1 (pre ++ [x])) (fun c => Ix n1 c (pre ++ [x])) W2))
    (hdone : ∀ D n1 W, w.heap.size ≤ D → D < n1 → I n1 xs W → Gr M w W → W.heap[D]? = some (.deferred (some [])) → Q .normal (⟨.collected D, #[]⟩ :: ds) fr W)
    (hstop : ∀ D n1 c pre W, w.heap.size ≤ D → D < n1 → pre <+: xs → Ix n1 c pre W → Gr M w W → W.heap[D]? = some (.deferred (some [])) → gvx none P tys c (⟨.collected D, #[]⟩ :: ds) fr W Q) :
    Rwx none P (.rangeFunc g #[p] assign body) ds fr w Q := by
  simp only [Rwx]
  intro w0 hw0
  rw [evK_eq] at hg
  refine wpIn_rangeFunc (F := WF none) ?_
  intro fn hfn
  obtain ⟨W1, hW1⟩ : ∃ W1, (w0.alloc (.deferred (some []))).alloc (.loop (mkRec fn fr.toArray p assign body w0.heap.size .ready none)) = W1 := ⟨_, rfl⟩
  have hsz : W1.heap.size = w0.heap.size + 2 := by rw [← hW1]; simp
  have hL1 : W1.heap[w0.heap.size + 1]? = some (.loop (mkRec fn fr.toArray p assign body w0.heap.size .ready none)) := by
    rw [← hW1]; have := World.alloc_heap_new (w0.alloc (.deferred (some []))) (.loop (mkRec fn fr.toArray p assign body w0.heap.size .ready none)); rwa [World.size_alloc] at this
  have hK1 : W1.heap[w0.heap.size]? = some (.deferred (some [])) := by
    rw [← hW1]; exact (Below.heap_alloc _ _ _ (by simp)).trans (World.alloc_heap_new w0 _)
  have hx1 : Ext w W1 := by rw [← hW1]; exact (hw0.alloc _).alloc _
  have hwle := hw0.size
  refine ⟨w0.heap.size + 1, [{ target := .collected w0.heap.size, args := #[] }], W1, { target := .fn (.func gf) lb.toArray, args := #[.func (.yield (w0.heap.size + 1)) #[] #[]] }, W1, gf,
    (.func (.yield (w0.heap.size + 1)) #[] #[] :: lb).toArray, W1, ?_, ?_, fun _ _ => trivial, ?_, fun h => (by cases h), ?_⟩
  · rw [← hW1]; exact run_enterLoop_outer _ _ _ _ _
  · simp only [resolve, ev_eq, hg]
    simp [go_sem]
    rfl
  · obtain ⟨fn', h1, h2, h3⟩ := hit.1
    have ea : #[Value.func (.yield (w0.heap.size + 1)) #[] #[]] ++ lb.toArray = (.func (.yield (w0.heap.size + 1)) #[] #[] :: lb).toArray := by apply Array.toList_inj.1; simp
    simp only [invoke, ea, callFunc, Sem.run_bind, run_program, Result.andThen_ok, h1, h2, h3, Bool.false_eq_true, if_false, Sem.run_pure]
  · -- the iterator's contract
    have hMl : ∀ k, M k → k ≠ w0.heap.size + 1 ∧ k ≠ w0.heap.size := fun k hk => by have := (hM k hk).2; omega
    have hcall := hit.2 (w0.heap.size + 1) (fun k => M k ∨ k = w0.heap.size + 1)
      (fun n1 pre W => I n1 pre W ∧ W.heap[w0.heap.size + 1]? = some (.loop (mkRec fn fr.toArray p assign body w0.heap.size .ready none)) ∧ W.heap[w0.heap.size]? = some (.deferred (some [])) ∧ Gr M w W)
      (fun n1 pre W => ∃ c, Ix n1 c pre W ∧ W.heap[w0.heap.size + 1]? = some (.loop (mkRec fn fr.toArray p assign body w0.heap.size .done (some c))) ∧ W.heap[w0.heap.size]? = some (.deferred (some [])) ∧ Gr M w W)
      W1 hx1
      (fun k hk => hk.elim (fun h => ⟨(hM k h).1, by have := (hM k h).2; omega⟩) (fun h => ⟨fun hc => by have := hC k hc; omega, by omega⟩))
      (fun n1 pre A B h hg => ⟨hI _ _ _ _ h.1 (hg.mono fun k _ hk => by omega), by rw [hg.block _ (Array.getElem?_eq_some_iff.1 h.2.1).1 (by omega)]; exact h.2.1,
        by rw [hg.block _ (Array.getElem?_eq_some_iff.1 h.2.2.1).1 (by omega)]; exact h.2.2.1, h.2.2.2.new hg fun k hk hk2 => by omega⟩)
      (fun n1 pre A B h hg => by
        obtain ⟨c, h1, h2, h3, h4⟩ := h
        exact ⟨c, hIx _ _ _ _ _ h1 (hg.mono fun k _ hk => by omega), by rw [hg.block _ (Array.getElem?_eq_some_iff.1 h2).1 (by omega)]; exact h2,
          by rw [hg.block _ (Array.getElem?_eq_some_iff.1 h3).1 (by omega)]; exact h3, h4.new hg fun k hk hk2 => by omega⟩)
      ?_ (fun n1 hn1 => ⟨hI _ _ _ _ (h0 n1 (by omega)) (Gr.ofExt hx1), hL1, hK1, (Gr.ofExt hx1 : Gr M w W1)⟩)
    · refine ((callsIn_wide (n := 0)).2 hcall : CallsIn (WF none) 0 P _ _ _ _).mono ?_
      rintro e W2 ⟨v, rfl, n1, hn1, (⟨hi, hl, hk, hgm⟩ | ⟨pre, hpre, c, hi, hl, hk, hgm⟩)⟩
      · have hg2 : Gr (fun k => k = w0.heap.size + 1) W2 (W2.putObj (w0.heap.size + 1) (.loop (mkRec fn fr.toArray p assign body w0.heap.size .exhausted none))) := gr_putObj _ _ _
        refine ⟨none, _, run_endLoop (P := P) hl (by simp [mkRec]), ?_⟩
        refine ⟨fr, _, rfl, Ext.refl _, hdone w0.heap.size n1 _ hwle (by omega) (hI _ _ _ _ hi (hg2.mono fun k _ hk => by omega)) (hgm.new hg2 fun k hk hk2 => by omega) ((World.putObj_heap_other (by omega)).trans hk)⟩
      · have hg2 : Gr (fun k => k = w0.heap.size + 1) W2 (W2.putObj (w0.heap.size + 1) (.loop (mkRec fn fr.toArray p assign body w0.heap.size .exhausted (some c)))) := gr_putObj _ _ _
        refine ⟨some c, _, run_endLoop (P := P) hl (by simp [mkRec]), ?_⟩
        exact gvx_sound (ro := none) hty c _ fr _ Q (hstop w0.heap.size n1 c pre _ hwle (by omega) hpre (hIx _ _ _ _ _ hi (hg2.mono fun k _ hk => by omega)) (hgm.new hg2 fun k hk hk2 => by omega) ((World.putObj_heap_other (by omega)).trans hk)) _ (Ext.refl _)
    · -- one round
      rintro n1 pre x v A hn1 hn2 hpre ⟨hi, hl, hk, hgm⟩ hv
      have hlt : w0.heap.size + 1 < A.heap.size := (Array.getElem?_eq_some_iff.1 hl).1
      have hy := run_yield (P := P) (args := #[v]) hl rfl
      refine ⟨fn, _, assign, body, hy, roundIn_of_wpIn (F := Fence.wide) trivial ?_⟩
      clear hy
      have ha := hround (w0.heap.size + 1) v A
      rw [setK_eq] at ha
      have ef : (#[p].zip #[v]).foldl (fun (t : Array Value) (x : Tmp × Value) => t.setIfInBounds x.1 x.2) fr.toArray = (fr.set p v).toArray := by simp
      have ha2 := gvx_sound (ro := some (w0.heap.size + 1)) hty assign [] _ A _ ha A (Ext.refl A)
      rw [← ef] at ha2
      refine wpIn_mono ha2 ?_
      rintro e a A' ⟨fr', wb, hat, hxa, rfl, hds, rfl, hbody⟩
      refine ⟨_, run_beginRound (by rw [hxa.block _ hlt (fun hf => hf)]; exact hl) rfl, ?_⟩
      rw [act_eta hat, hds]
      have hl' : A'.heap[w0.heap.size + 1]? = some (.loop (mkRec fn fr.toArray p assign body w0.heap.size .ready none)) := by rw [hxa.block _ hlt (fun hf => hf)]; exact hl
      have hlt' := (Array.getElem?_eq_some_iff.1 hl').1
      have hg2 : Gr (fun k => k = w0.heap.size + 1) A' (A'.putObj (w0.heap.size + 1) (.loop (mkRec fn fr.toArray p assign body w0.heap.size .busy none))) := gr_putObj _ _ _
      have hl2 : (A'.putObj (w0.heap.size + 1) (.loop (mkRec fn fr.toArray p assign body w0.heap.size .busy none))).heap[w0.heap.size + 1]? = some (.loop (mkRec fn fr.toArray p assign body w0.heap.size .busy none)) := World.putObj_heap_same hlt'
      have hk2 : (A'.putObj (w0.heap.size + 1) (.loop (mkRec fn fr.toArray p assign body w0.heap.size .busy none))).heap[w0.heap.size]? = some (.deferred (some [])) :=
        (World.putObj_heap_other (by omega)).trans (by rw [hxa.block _ (by omega) (fun hf => hf)]; exact hk)
      have hgA : Gr (fun k => k = w0.heap.size + 1) wb (A'.putObj (w0.heap.size + 1) (.loop (mkRec fn fr.toArray p assign body w0.heap.size .busy none))) := (Gr.ofExt hxa).trans hg2
      have hb := hbody n1 pre x _ (by omega) (by have := hxa.size; simp; omega) hpre (hI _ _ _ _ hi (hgA.mono fun k _ hk => by omega)) (hgm.new hgA fun k hk hk2 => by omega) (ints_noloop (hv.ext hxa) hl' hg2)
      have hb2 := gvx_sound (ro := some (w0.heap.size + 1)) hty body [] _ _ _ hb _ (Ext.refl _)
      refine wpIn_mono hb2 ?_
      have fin : ∀ (jump : Option Code) (Wb W3 : World), Gr (fun k => M k ∨ n1 ≤ k) (A'.putObj (w0.heap.size + 1) (.loop (mkRec fn fr.toArray p assign body w0.heap.size .busy none))) Wb → Ext Wb W3 →
          (Instr.endRound (w0.heap.size + 1) jump).run P W3 = .ok (.bool jump.isNone) (W3.putObj (w0.heap.size + 1) (.loop (mkRec fn fr.toArray p assign body w0.heap.size (if jump.isNone then .ready else .done) jump))) ∧
          (W3.putObj (w0.heap.size + 1) (.loop (mkRec fn fr.toArray p assign body w0.heap.size (if jump.isNone then .ready else .done) jump))).heap[w0.heap.size + 1]? = some (.loop (mkRec fn fr.toArray p assign body w0.heap.size (if jump.isNone then .ready else .done) jump)) ∧
          (W3.putObj (w0.heap.size + 1) (.loop (mkRec fn fr.toArray p assign body w0.heap.size (if jump.isNone then .ready else .done) jump))).heap[w0.heap.size]? = some (.deferred (some [])) ∧
          Gr (fun k => (M k ∨ k = w0.heap.size + 1) ∨ n1 ≤ k) wb (W3.putObj (w0.heap.size + 1) (.loop (mkRec fn fr.toArray p assign body w0.heap.size (if jump.isNone then .ready else .done) jump))) ∧
          Gr M w (W3.putObj (w0.heap.size + 1) (.loop (mkRec fn fr.toArray p assign body w0.heap.size (if jump.isNone then .ready else .done) jump))) ∧
          Gr (fun k => w.heap.size ≤ k ∧ k < n1) Wb (W3.putObj (w0.heap.size + 1) (.loop (mkRec fn fr.toArray p assign body w0.heap.size (if jump.isNone then .ready else .done) jump))) := fun jump Wb W3 hm hx => by
        have h3 : Gr (fun k => M k ∨ n1 ≤ k) (A'.putObj (w0.heap.size + 1) (.loop (mkRec fn fr.toArray p assign body w0.heap.size .busy none))) W3 := hm.trans (Gr.ofExt hx)
        have hl3 : W3.heap[w0.heap.size + 1]? = some (.loop (mkRec fn fr.toArray p assign body w0.heap.size .busy none)) := by
          rw [h3.block _ (by simp; omega) (fun hf => hf.elim (fun hf => (hMl _ hf).1 rfl) (fun h => by omega))]; exact hl2
        have hk3 : W3.heap[w0.heap.size]? = some (.deferred (some [])) := by
          rw [h3.block _ (by simp; omega) (fun hf => hf.elim (fun hf => (hMl _ hf).2 rfl) (fun h => by omega))]; exact hk2
        have hr := run_endRound (P := P) jump hl3
        have g1 : Gr (fun k => k = w0.heap.size + 1) W3 (W3.putObj (w0.heap.size + 1) (.loop (mkRec fn fr.toArray p assign body w0.heap.size (if jump.isNone then .ready else .done) jump))) := gr_putObj _ _ _
        have g2 : Gr (fun k => (M k ∨ k = w0.heap.size + 1) ∨ n1 ≤ k) wb W3 := (hgA.mono fun k _ h => .inl (.inr h)).trans (h3.mono fun k _ h => h.elim (fun h => .inl (.inl h)) .inr)
        have g3 := g2.trans (g1.mono fun k _ h => .inl (.inr h))
        exact ⟨hr, World.putObj_heap_same (Array.getElem?_eq_some_iff.1 hl3).1, (World.putObj_heap_other (by omega)).trans hk3, g3,
          hgm.new g3 fun k hk h => h.elim (fun h => h.elim (fun h => h) (fun h => by omega)) (fun h => by omega), (Gr.ofExt hx).trans (g1.mono fun k _ h => by omega)⟩
      rintro e3 a3 W3 ⟨fr3, Wb, hat3, hx3, hq⟩
      cases e3 with
      | normal =>
        obtain ⟨hi3, hm3⟩ := hq
        obtain ⟨hr, h1, h2, h3, h4, h5⟩ := fin none Wb W3 hm3 hx3
        exact ⟨_, _, hr, .inl ⟨rfl, ⟨hI _ _ _ _ hi3 h5, h1, h2, h4⟩, h3⟩⟩
      | ret =>
        obtain ⟨hi3, hm3⟩ := hq
        obtain ⟨hr, h1, h2, h3, h4, h5⟩ := fin (some .ret) Wb W3 hm3 hx3
        exact ⟨_, _, hr, .inr ⟨rfl, ⟨.ret, hIx _ _ _ _ _ hi3 h5, h1, h2, h4⟩, h3⟩⟩
      | exit id =>
        obtain ⟨hi3, hm3⟩ := hq
        obtain ⟨hr, h1, h2, h3, h4, h5⟩ := fin (some (.exit id)) Wb W3 hm3 hx3
        exact ⟨_, _, hr, .inr ⟨rfl, ⟨.exit id, hIx _ _ _ _ _ hi3 h5, h1, h2, h4⟩, h3⟩⟩
      | _ => exact hq.elim

/-- What a caller's fact carries through an iterator's own steps. -/
structure Carry (n0 n1 : Nat) (J : World → Prop) (w : World) : Prop where
  st : ∀ A B, J A → Gr (fun k => n0 ≤ k ∧ k < n1) A B → J B
  at' : J w
theorem Carry.ext {n0 n1 : Nat} {J : World → Prop} {w w' : World} (h : Carry n0 n1 J w) (hg : Ext w w') : Carry n0 n1 J w' := ⟨h.st, h.st _ _ h.at' (Gr.ofExt hg)⟩
theorem Carry.gr {S : Nat → Prop} {n0 n1 : Nat} {J : World → Prop} {w w' : World} (h : Carry n0 n1 J w) (hg : Gr S w w') (hs : ∀ k, S k → n0 ≤ k ∧ k < n1) : Carry n0 n1 J w' := ⟨h.st, h.st _ _ h.at' (hg.mono fun k _ hk => hs k hk)⟩

theorem ItOk.mk (hty : TyOk P tys) {f : FuncId} {fn : Func} {c : Code} {lb : List Value} {C : Nat → Prop} {w : World} {xs : List (List Int)} (hf : P.funcs[f]? = some fn) (hb : fn.body = some c) (hn : (fn.name == "runtime.NumGoroutine") = false)
    (h : ∀ (l : Nat) (M : Nat → Prop) (J Jx : Nat → List (List Int) → World → Prop) (W : World), Ext w W → (∀ k, M k → ¬ C k ∧ k < W.heap.size) →
      (∀ n1 pre x v A, W.heap.size ≤ n1 → n1 ≤ A.heap.size → pre ++ [x] <+: xs → Carry W.heap.size n1 (J n1 pre) A → Ints A v x → ∀ K : Value → World → Prop,
        (∀ B, Carry W.heap.size n1 (J n1 (pre ++ [x])) B → Gr (fun k => M k ∨ n1 ≤ k) A B → K (.bool true) B) → (∀ B, Carry W.heap.size n1 (Jx n1 (pre ++ [x])) B → Gr (fun k => M k ∨ n1 ≤ k) A B → K (.bool false) B) → VY P l [v] A K) →
      (∀ n1, W.heap.size ≤ n1 → Carry W.heap.size n1 (J n1 []) W) → mkFr (.func (.yield l) #[] #[] :: lb) fn.ntmps fun fr => gvx none P tys c [] fr W fun e ds fr' wb => finX tys e fn.results.toList ds fr' wb fun _ wb =>
        ∃ n1, W.heap.size ≤ n1 ∧ (Carry W.heap.size n1 (J n1 xs) wb ∨ ∃ pre, pre <+: xs ∧ Carry W.heap.size n1 (Jx n1 pre) wb)) : ItOk P f lb C w xs := by
  refine ⟨⟨fn, hf, hn, by rw [hb]; rfl⟩, fun l M J Jx W hW hM hJ hJx hY h0 => ?_⟩
  refine (calls_of_gvx hty (K := fun _ wb => ∃ n1, W.heap.size ≤ n1 ∧ (Carry W.heap.size n1 (J n1 xs) wb ∨ ∃ pre, pre <+: xs ∧ Carry W.heap.size n1 (Jx n1 pre) wb)) hf hb
    (h l M J Jx W hW hM (fun n1 pre x v A hn1 hn2 hp hj hv K h1 h2 => ?_) (fun n1 hn1 => ⟨hJ n1 [], h0 n1 hn1⟩))).mono ?_
  · simp only [VY]
    intro w' hw'
    obtain ⟨fn', tmps, assign, body, hy, hR⟩ := hY n1 pre x v w' hn1 (Nat.le_trans hn2 hw'.size) hp (hj.ext hw').at' (hv.ext hw')
    refine ⟨fn', tmps, assign, body, hy, hR.mono ?_⟩
    rintro e B (⟨rfl, hJB, hg⟩ | ⟨rfl, hJB, hg⟩)
    · exact ⟨_, rfl, B, Ext.refl _, h1 B ⟨hJ n1 _, hJB⟩ ((Gr.ofExt hw').trans hg)⟩
    · exact ⟨_, rfl, B, Ext.refl _, h2 B ⟨hJx n1 _, hJB⟩ ((Gr.ofExt hw').trans hg)⟩
  · rintro e w'' ⟨v, rfl, wb, hx, n1, hn1, (hj | ⟨pre, hp, hj⟩)⟩
    · exact ⟨v, rfl, n1, hn1, .inl (hj.ext hx).at'⟩
    · exact ⟨v, rfl, n1, hn1, .inr ⟨pre, hp, (hj.ext hx).at'⟩⟩
end
end Go.Eng
set_option linter.unusedVariables false
set_option linter.unusedSimpArgs false
namespace Go.Proofs.Ytebklnmafjbhcaa
open Go.Eng
set_option maxRecDepth 100000
set_option maxHeartbeats 4000000

/-- the complete allocations, in the order of lists -/
def lists (rr : List (List Int)) : List (List Int) := mk (tot rr) fun k => digs rr.length (mOf rr) k
theorem lists_len (rr : List (List Int)) : (lists rr).length = tot rr := mk_len _ _
theorem lists_get {rr : List (List Int)} {k : Nat} (h : k < tot rr) : (lists rr).getD k [] = digs rr.length (mOf rr) k := mk_get [] h
theorem lists_snoc {rr : List (List Int)} {k : Nat} (h : k < tot rr) : (lists rr).take (k + 1) = (lists rr).take k ++ [digs rr.length (mOf rr) k] := by
  rw [take_snoc [] _ k (by rw [lists_len]; exact h), lists_get h]

theorem all_rc {w : World} {gv : Value} : RC Try.prog 78 [.agg #[gv]] w NoB (fun u w' => ∃ bg, u = .func (.func 102) #[] #[.pointer (some ⟨bg, 0, none⟩)] ∧ At w' ⟨bg, 0, none⟩ [gv] ∧ w.heap.size ≤ bg ∧ bg < w'.heap.size) := by
  refine RC.mk tyOk Try.func78 rfl (by kernel_rfl) fun w1 E1 => ?_
  have EE := Ext.refl w1
  refine Bx.agg fun bg w2 E2 hb Hb _ => ?_
  repeat' (conv => whnf
           first
           | (refine Dr.quiet tyOk (by kernel_rfl) ?_)
           | (refine Rng.mk (by omega) ?_)
           | (refine Split.pos (by omega) ?_)
           | (refine Split.neg (by omega) ?_)
           | (refine Split.mk (fun h => ?_) (fun h => ?_))
           | (refine Need.mk (by omega) ?_)
           | (refine Ints.ln (by assumption) ?_)
           | (refine Mat.ln (by assumption) ?_)
           | (refine Ints.ln (Mat.row (by assumption) _ (by omega)) ?_)
           | (refine Ints.ix (by assumption) (by omega) ?_)
           | (refine Mat.ix (by assumption) (by omega) ?_)
           | (refine Ints.ix (Mat.row (by assumption) _ (by omega)) (by omega) ?_)
           | (refine Ints.ix (c := 0) (by assumption) (by omega) ?_)
           | (refine Mat.ix (c := 0) (by assumption) (by omega) ?_)
           | (refine Ints.ix (c := 0) (Mat.row (by assumption) _ (by omega)) (by omega) ?_)
           | (refine Ints.ixI (by assumption) (by omega) ?_)
           | (refine Mat.ixI (by assumption) (by omega) ?_)
           | (refine Ints.ixI (Mat.row (by assumption) _ (by omega)) (by omega) ?_)
           | (refine Ints.ld (by assumption) (by omega) ?_)
           | (refine Mat.ld (by assumption) (by omega) ?_)
           | (refine Ints.ld (Mat.row (by assumption) _ (by omega)) (by omega) ?_)
           | (refine At.ld (by assumption) rfl ?_)
           | (refine At.ldN (by assumption) rfl ?_)
           | (refine Prs.ln (by assumption) ?_)
           | (refine Trs.ln (by assumption) ?_)
           | (refine Prs.ix (by assumption) (by omega) ?_)
           | (refine Trs.ix (by assumption) (by omega) ?_)
           | (refine Prs.ldN (by assumption) (by omega) ?_)
           | (refine Trs.ldN (by assumption) (by omega) ?_)
           | (refine At.ldN (Blk.at (by assumption)) rfl ?_)
           | (refine At.ld (Blk.at (by assumption)) rfl ?_)
           | (refine IxA.mk (by omega) ?_)
           | (refine Sl.ln (Own.sl (by assumption)) ?_)
           | (refine Ints.ix (Own.sl (by assumption)) (by omega) ?_)
           | (refine Ints.ixI (Own.sl (by assumption)) (by omega) ?_)
           | (refine Ints.ld (Own.sl (by assumption)) (by omega) ?_))
  exact ⟨E2, bg, rfl, Hb, Nat.le_trans E1.size hb, by have := Hb 0 gv rfl; exact World.block_lt_of_cell? _ _ this⟩

theorem all_it {w0 w : World} {bg : Nat} {gv : Value} {vs : List Value} {rr : List (List Int)} (Hg0 : Mat w0 gv vs rr) (hx : Ext w0 w) (Hb : At w ⟨bg, 0, none⟩ [gv]) (hbg : bg < w.heap.size) (hck : chk rr = 0) :
    ItOk Try.prog 102 [.pointer (some ⟨bg, 0, none⟩)] (fun k => k = bg ∨ k < w0.heap.size) w (lists rr) := by
  refine ItOk.mk tyOk Try.func102 rfl (by kernel_rfl) fun l M J Jx w1 E1 hM hY h0 => ?_
  replace Hb := Hb.ext E1
  have EE := Ext.refl w1
  have HX : Ext w0 w1 := hx.trans E1
  have Hg := Hg0.ext HX
  have hgd := gd_of_chk hck
  have hn1 := hgd.n1
  have hn6 := hgd.n6
  have hm := hgd.m10
  have hmO : mOf rr = (rr.getD 0 []).length := rfl
  have hs1 := E1.size
  have hs0 := hx.size
  have htp := tot_pos hn1
  repeat' (conv => whnf
           first
           | (refine Rng.mk (by omega) ?_)
           | (refine Split.pos (by omega) ?_)
           | (refine Split.neg (by omega) ?_)
           | (refine Split.mk (fun h => ?_) (fun h => ?_))
           | (refine Need.mk (by omega) ?_)
           | (refine Ints.ln (by assumption) ?_)
           | (refine Mat.ln (by assumption) ?_)
           | (refine Ints.ln (Mat.row (by assumption) _ (by omega)) ?_)
           | (refine Ints.ix (by assumption) (by omega) ?_)
           | (refine Mat.ix (by assumption) (by omega) ?_)
           | (refine Ints.ix (Mat.row (by assumption) _ (by omega)) (by omega) ?_)
           | (refine Ints.ix (c := 0) (by assumption) (by omega) ?_)
           | (refine Mat.ix (c := 0) (by assumption) (by omega) ?_)
           | (refine Ints.ix (c := 0) (Mat.row (by assumption) _ (by omega)) (by omega) ?_)
           | (refine Ints.ixI (by assumption) (by omega) ?_)
           | (refine Mat.ixI (by assumption) (by omega) ?_)
           | (refine Ints.ixI (Mat.row (by assumption) _ (by omega)) (by omega) ?_)
           | (refine Ints.ld (by assumption) (by omega) ?_)
           | (refine Mat.ld (by assumption) (by omega) ?_)
           | (refine Ints.ld (Mat.row (by assumption) _ (by omega)) (by omega) ?_)
           | (refine At.ld (by assumption) rfl ?_)
           | (refine At.ldN (by assumption) rfl ?_)
           | (refine Prs.ln (by assumption) ?_)
           | (refine Trs.ln (by assumption) ?_)
           | (refine Prs.ix (by assumption) (by omega) ?_)
           | (refine Trs.ix (by assumption) (by omega) ?_)
           | (refine Prs.ldN (by assumption) (by omega) ?_)
           | (refine Trs.ldN (by assumption) (by omega) ?_)
           | (refine At.ldN (Blk.at (by assumption)) rfl ?_)
           | (refine At.ld (Blk.at (by assumption)) rfl ?_)
           | (refine IxA.mk (by omega) ?_)
           | (refine Sl.ln (Own.sl (by assumption)) ?_)
           | (refine Ints.ix (Own.sl (by assumption)) (by omega) ?_)
           | (refine Ints.ixI (Own.sl (by assumption)) (by omega) ?_)
           | (refine Ints.ld (Own.sl (by assumption)) (by omega) ?_))
  have Hb__1 := Hb
  have EE__1 := EE
  conv => whnf
  refine VE.made (n := (rr.getD 0 []).length) Try.underlying25 eInt rfl (by omega) (by omega) fun rv w2 E2 Ho hb_rv => ?_
  replace Hb := Hb.ext E2
  replace EE := EE.ext E2
  replace Ho := OB.made (Ho _ (Nat.le_refl _))
  have EL1 := E2
  rw [← hmO] at Ho
  rw [← digs_zero rr.length (mOf rr)] at Ho
  obtain ⟨n1, hn1e⟩ : ∃ n1, n1 = w2.heap.size := ⟨_, rfl⟩
  have hwn : w1.heap.size ≤ n1 := by rw [hn1e]; exact E2.size
  have hrv : ∀ q, rv.ownBlock = some q → w1.heap.size ≤ q ∧ q < n1 := fun q hq => by rw [hn1e]; exact Own.lt Ho q hq
  have HJ0 : Carry w1.heap.size n1 (J n1 ((lists rr).take 0)) w2 := (h0 n1 hwn).ext E2
  have HX0 := HX.trans E2
  have HB0 := Hb
  repeat' (conv => whnf
           first
           | (refine Rng.mk (by omega) ?_)
           | (refine Split.pos (by omega) ?_)
           | (refine Split.neg (by omega) ?_)
           | (refine Split.mk (fun h => ?_) (fun h => ?_))
           | (refine Need.mk (by omega) ?_)
           | (refine Ints.ln (by assumption) ?_)
           | (refine Mat.ln (by assumption) ?_)
           | (refine Ints.ln (Mat.row (by assumption) _ (by omega)) ?_)
           | (refine Ints.ix (by assumption) (by omega) ?_)
           | (refine Mat.ix (by assumption) (by omega) ?_)
           | (refine Ints.ix (Mat.row (by assumption) _ (by omega)) (by omega) ?_)
           | (refine Ints.ix (c := 0) (by assumption) (by omega) ?_)
           | (refine Mat.ix (c := 0) (by assumption) (by omega) ?_)
           | (refine Ints.ix (c := 0) (Mat.row (by assumption) _ (by omega)) (by omega) ?_)
           | (refine Ints.ixI (by assumption) (by omega) ?_)
           | (refine Mat.ixI (by assumption) (by omega) ?_)
           | (refine Ints.ixI (Mat.row (by assumption) _ (by omega)) (by omega) ?_)
           | (refine Ints.ld (by assumption) (by omega) ?_)
           | (refine Mat.ld (by assumption) (by omega) ?_)
           | (refine Ints.ld (Mat.row (by assumption) _ (by omega)) (by omega) ?_)
           | (refine At.ld (by assumption) rfl ?_)
           | (refine At.ldN (by assumption) rfl ?_)
           | (refine Prs.ln (by assumption) ?_)
           | (refine Trs.ln (by assumption) ?_)
           | (refine Prs.ix (by assumption) (by omega) ?_)
           | (refine Trs.ix (by assumption) (by omega) ?_)
           | (refine Prs.ldN (by assumption) (by omega) ?_)
           | (refine Trs.ldN (by assumption) (by omega) ?_)
           | (refine At.ldN (Blk.at (by assumption)) rfl ?_)
           | (refine At.ld (Blk.at (by assumption)) rfl ?_)
           | (refine IxA.mk (by omega) ?_)
           | (refine Sl.ln (Own.sl (by assumption)) ?_)
           | (refine Ints.ix (Own.sl (by assumption)) (by omega) ?_)
           | (refine Ints.ixI (Own.sl (by assumption)) (by omega) ?_)
           | (refine Ints.ld (Own.sl (by assumption)) (by omega) ?_))
  refine Lpx.mk tyOk [false, false, false, false, true, false, false, false, false, false, false, true, true, true, true, true, true, true, true, true, true, true, true, true, true, true, true, true, true, true, true, true, true, true, true, true, true, true, true, true, true, true, true, true] (fun m fr wr => ∃ k : Nat, k ≤ (tot rr) ∧ m = (tot rr) - k ∧ (OB w1.heap.size wr rv (digs rr.length (mOf rr) k)) ∧ (Carry w1.heap.size n1 (J n1 ((lists rr).take k)) wr) ∧ (Ext w0 wr) ∧ (At wr ⟨bg, 0, none⟩ [gv]) ∧ (n1 ≤ wr.heap.size) ∧ (k < tot rr)) ((tot rr)) ?_ ?_
  · exact ⟨0, Nat.zero_le _, rfl, Ho, HJ0, HX0, HB0, (by omega), htp⟩
  · intro m w3 u4 u11 u12 u13 u14 u15 u16 u17 u18 u19 u20 u21 u22 u23 u24 u25 u26 u27 u28 u29 u30 u31 u32 u33 u34 u35 u36 u37 u38 u39 u40 u41 u42 u43 hR
    obtain ⟨k, hk, rfl, HO, HJ, HX, HB, hs, hkt⟩ := hR
    have Hg := Hg0.ext HX
    repeat' (conv => whnf
             first
             | (refine Rng.mk (by omega) ?_)
             | (refine Split.pos (by omega) ?_)
             | (refine Split.neg (by omega) ?_)
             | (refine Split.mk (fun h => ?_) (fun h => ?_))
             | (refine Need.mk (by omega) ?_)
             | (refine Ints.ln (by assumption) ?_)
             | (refine Mat.ln (by assumption) ?_)
             | (refine Ints.ln (Mat.row (by assumption) _ (by omega)) ?_)
             | (refine Ints.ix (by assumption) (by omega) ?_)
             | (refine Mat.ix (by assumption) (by omega) ?_)
             | (refine Ints.ix (Mat.row (by assumption) _ (by omega)) (by omega) ?_)
             | (refine Ints.ix (c := 0) (by assumption) (by omega) ?_)
             | (refine Mat.ix (c := 0) (by assumption) (by omega) ?_)
             | (refine Ints.ix (c := 0) (Mat.row (by assumption) _ (by omega)) (by omega) ?_)
             | (refine Ints.ixI (by assumption) (by omega) ?_)
             | (refine Mat.ixI (by assumption) (by omega) ?_)
             | (refine Ints.ixI (Mat.row (by assumption) _ (by omega)) (by omega) ?_)
             | (refine Ints.ld (by assumption) (by omega) ?_)
             | (refine Mat.ld (by assumption) (by omega) ?_)
             | (refine Ints.ld (Mat.row (by assumption) _ (by omega)) (by omega) ?_)
             | (refine At.ld (by assumption) rfl ?_)
             | (refine At.ldN (by assumption) rfl ?_)
             | (refine Prs.ln (by assumption) ?_)
             | (refine Trs.ln (by assumption) ?_)
             | (refine Prs.ix (by assumption) (by omega) ?_)
             | (refine Trs.ix (by assumption) (by omega) ?_)
             | (refine Prs.ldN (by assumption) (by omega) ?_)
             | (refine Trs.ldN (by assumption) (by omega) ?_)
             | (refine At.ldN (Blk.at (by assumption)) rfl ?_)
             | (refine At.ld (Blk.at (by assumption)) rfl ?_)
             | (refine IxA.mk (by omega) ?_)
             | (refine Sl.ln (Own.sl (by assumption)) ?_)
             | (refine Ints.ix (Own.sl (by assumption)) (by omega) ?_)
             | (refine Ints.ixI (Own.sl (by assumption)) (by omega) ?_)
             | (refine Ints.ld (Own.sl (by assumption)) (by omega) ?_))
    refine hY n1 _ (digs rr.length (mOf rr) k) rv _ hwn hs (by rw [← lists_snoc hkt]; exact List.take_prefix _ _) HJ (Own.sl HO) _ (fun wb HJ2 G2 => ?_) (fun wb HJ2 G2 => ?_)
    · rw [← lists_snoc hkt] at HJ2
      have HO2 := Own.gr HO G2 (fun q hq hS => by
        have h1 := hrv q hq
        rcases hS with h | h
        · have := (hM q h).2; omega
        · omega)
      have HX2 : Ext w0 wb := HX.new G2 (fun i hi hS => by
        rcases hS with h | h
        · exact (hM i h).1 (.inr hi)
        · omega)
      have HB2 : At wb ⟨bg, 0, none⟩ [gv] := HB.gr G2 (fun hS => by
        rcases hS with h | h
        · exact (hM _ h).1 (.inl rfl)
        · have h : n1 ≤ bg := h
          omega)
      have hs2 : n1 ≤ wb.heap.size := Nat.le_trans hs G2.size
      have hb := digs_rng hn1 (j := mOf rr) hkt
      have hnd := nxt_digs hn1 hkt
      rw [show rr.length ^ mOf rr = tot rr from rfl] at hnd
      obtain ⟨l, hl⟩ : ∃ l, l = digs rr.length (mOf rr) k := ⟨_, rfl⟩
      rw [← hl] at HO2 hb hnd
      have hll : l.length = mOf rr := by rw [hl]; exact digs_len _ _ _
      have hlI : Ints wb rv l := Own.sl HO2
      have Hg2 := Hg0.ext HX2
      repeat' (conv => whnf
               first
               | (refine Rng.mk (by omega) ?_)
               | (refine Split.pos (by omega) ?_)
               | (refine Split.neg (by omega) ?_)
               | (refine Split.mk (fun h => ?_) (fun h => ?_))
               | (refine Need.mk (by omega) ?_)
               | (refine Ints.ln (by assumption) ?_)
               | (refine Mat.ln (by assumption) ?_)
               | (refine Ints.ln (Mat.row (by assumption) _ (by omega)) ?_)
               | (refine Ints.ix (by assumption) (by omega) ?_)
               | (refine Mat.ix (by assumption) (by omega) ?_)
               | (refine Ints.ix (Mat.row (by assumption) _ (by omega)) (by omega) ?_)
               | (refine Ints.ix (c := 0) (by assumption) (by omega) ?_)
               | (refine Mat.ix (c := 0) (by assumption) (by omega) ?_)
               | (refine Ints.ix (c := 0) (Mat.row (by assumption) _ (by omega)) (by omega) ?_)
               | (refine Ints.ixI (by assumption) (by omega) ?_)
               | (refine Mat.ixI (by assumption) (by omega) ?_)
               | (refine Ints.ixI (Mat.row (by assumption) _ (by omega)) (by omega) ?_)
               | (refine Ints.ld (by assumption) (by omega) ?_)
               | (refine Mat.ld (by assumption) (by omega) ?_)
               | (refine Ints.ld (Mat.row (by assumption) _ (by omega)) (by omega) ?_)
               | (refine At.ld (by assumption) rfl ?_)
               | (refine At.ldN (by assumption) rfl ?_)
               | (refine Prs.ln (by assumption) ?_)
               | (refine Trs.ln (by assumption) ?_)
               | (refine Prs.ix (by assumption) (by omega) ?_)
               | (refine Trs.ix (by assumption) (by omega) ?_)
               | (refine Prs.ldN (by assumption) (by omega) ?_)
               | (refine Trs.ldN (by assumption) (by omega) ?_)
               | (refine At.ldN (Blk.at (by assumption)) rfl ?_)
               | (refine At.ld (Blk.at (by assumption)) rfl ?_)
               | (refine IxA.mk (by omega) ?_)
               | (refine Sl.ln (Own.sl (by assumption)) ?_)
               | (refine Ints.ix (Own.sl (by assumption)) (by omega) ?_)
               | (refine Ints.ixI (Own.sl (by assumption)) (by omega) ?_)
               | (refine Ints.ld (Own.sl (by assumption)) (by omega) ?_))
      refine Lpx.mk tyOk [false, false, false, false, true, false, false, false, false, false, false, false, false, false, false, false, false, false, true, true, true, true, true, true, true, true, true, true, true, true, true, true, true, true, true, true] (fun m fr wr => getK fr 4 fun i => ∃ c : Nat, c ≤ l.length ∧ m = l.length - c ∧ i = .int .i64 ((l.length : Int) - 1 - c) ∧ ((nxt rr.length (l.drop (l.length - c))).1 = false) ∧ (Go.Eng.Own w1.heap.size 3 1 wr rv l.length ((l.take (l.length - c) ++ (nxt rr.length (l.drop (l.length - c))).2).map i64v)) ∧ (Carry w1.heap.size n1 (J n1 ((lists rr).take (k + 1))) wr) ∧ (Ext w0 wr) ∧ (At wr ⟨bg, 0, none⟩ [gv]) ∧ (n1 ≤ wr.heap.size)) (l.length) ?_ ?_
      · exact ⟨0, Nat.zero_le _, rfl, by simp, by simp [nxt], by simpa [nxt] using HO2, HJ2, HX2, HB2, hs2⟩
      · intro m w21 u4 u18 u19 u20 u21 u22 u23 u24 u25 u26 u27 u28 u29 u30 u31 u32 u33 u34 u35 hR
        obtain ⟨c, hc, rfl, rfl, hf, HC, HJ3, HX3, HB3, hs3⟩ := hR
        have Hg3 := Hg0.ext HX3
        by_cases hcl : c < l.length
        · have hq : l.length - c = l.length - c - 1 + 1 := by omega
          generalize l.length - c - 1 = q at hq
          have ei : ((l.length : Int) - 1 - (c : Int)) = (q : Int) := by omega
          have hql : q < l.length := by omega
          rw [hq] at hf HC
          have hlen : (l.take (q + 1) ++ (nxt rr.length (l.drop (q + 1))).2).length = l.length := by rw [List.length_append, nxt_len, List.length_take, List.length_drop]; omega
          have hsp : l.take (q + 1) ++ (nxt rr.length (l.drop (q + 1))).2 = l.take q ++ l.getD q 0 :: (nxt rr.length (l.drop (q + 1))).2 := by
            rw [take_snoc 0 l q hql, List.append_assoc]; rfl
          have htk : (l.take q).length = q := by rw [List.length_take]; omega
          have hdr : l.drop q = l.getD q 0 :: l.drop (q + 1) := by
            have e : l.getD q 0 = l[q] := by simp [List.getD, hql]
            rw [e, List.getElem_cons_drop]
          rw [hsp] at HC hlen
          have HCI : Ints w21 rv (l.take q ++ l.getD q 0 :: (nxt rr.length (l.drop (q + 1))).2) := by unfold Ints; rw [hlen]; exact Own.sl HC
          have hgd : (l.take q ++ l.getD q 0 :: (nxt rr.length (l.drop (q + 1))).2).getD q 0 = l.getD q 0 := getD_mid htk
          have hbq := hb q (by omega)
          have hnx : nxt rr.length (l.drop q) = if l.getD q 0 + 1 < rr.length then (true, (l.getD q 0 + 1) :: (nxt rr.length (l.drop (q + 1))).2) else (false, 0 :: (nxt rr.length (l.drop (q + 1))).2) := by
            rw [hdr]
            have e2 : nxt rr.length (l.drop (q + 1)) = (false, (nxt rr.length (l.drop (q + 1))).2) := Prod.ext hf rfl
            simp only [nxt]
            rw [e2]
          rw [ei]
          by_cases hmax : l.getD q 0 = rr.length - 1
          · rw [if_neg (by omega)] at hnx
            repeat' (conv => whnf
                     first
                     | (refine Drx.plan 18 [] (.q 0 (.q 1 (.q 2 (.q 3 (.q 4 (.q 5 (.q 6 (.q 7 (.q 8 (.q 9 (.q 10 (.q 11 (.q 12 .nil))))))))))))) tyOk rfl (by kernel_rfl) ?_)
                     | (refine Rng.mk (by omega) ?_)
                     | (refine Split.pos (by omega) ?_)
                     | (refine Split.neg (by omega) ?_)
                     | (refine Split.mk (fun h => ?_) (fun h => ?_))
                     | (refine Need.mk (by omega) ?_)
                     | (refine Ints.ln (by assumption) ?_)
                     | (refine Mat.ln (by assumption) ?_)
                     | (refine Ints.ln (Mat.row (by assumption) _ (by omega)) ?_)
                     | (refine Ints.ix (by assumption) (by omega) ?_)
                     | (refine Mat.ix (by assumption) (by omega) ?_)
                     | (refine Ints.ix (Mat.row (by assumption) _ (by omega)) (by omega) ?_)
                     | (refine Ints.ix (c := 0) (by assumption) (by omega) ?_)
                     | (refine Mat.ix (c := 0) (by assumption) (by omega) ?_)
                     | (refine Ints.ix (c := 0) (Mat.row (by assumption) _ (by omega)) (by omega) ?_)
                     | (refine Ints.ixI (by assumption) (by omega) ?_)
                     | (refine Mat.ixI (by assumption) (by omega) ?_)
                     | (refine Ints.ixI (Mat.row (by assumption) _ (by omega)) (by omega) ?_)
                     | (refine Ints.ld (by assumption) (by omega) ?_)
                     | (refine Mat.ld (by assumption) (by omega) ?_)
                     | (refine Ints.ld (Mat.row (by assumption) _ (by omega)) (by omega) ?_)
                     | (refine At.ld (by assumption) rfl ?_)
                     | (refine At.ldN (by assumption) rfl ?_)
                     | (refine Prs.ln (by assumption) ?_)
                     | (refine Trs.ln (by assumption) ?_)
                     | (refine Prs.ix (by assumption) (by omega) ?_)
                     | (refine Trs.ix (by assumption) (by omega) ?_)
                     | (refine Prs.ldN (by assumption) (by omega) ?_)
                     | (refine Trs.ldN (by assumption) (by omega) ?_)
                     | (refine At.ldN (Blk.at (by assumption)) rfl ?_)
                     | (refine At.ld (Blk.at (by assumption)) rfl ?_)
                     | (refine IxA.mk (by omega) ?_)
                     | (refine Sl.ln (Own.sl (by assumption)) ?_)
                     | (refine Ints.ix (Own.sl (by assumption)) (by omega) ?_)
                     | (refine Ints.ixI (Own.sl (by assumption)) (by omega) ?_)
                     | (refine Ints.ld (Own.sl (by assumption)) (by omega) ?_))
            refine Own.set HC (by rw [List.length_map, hlen]; omega) rfl fun w6 G6 H6 => ?_
            rw [set_map, set_mid htk] at H6
            have eq : l.length - (c + 1) = q := by omega
            repeat' (conv => whnf
                     first
                     | (refine Rng.mk (by omega) ?_)
                     | (refine Split.pos (by omega) ?_)
                     | (refine Split.neg (by omega) ?_)
                     | (refine Split.mk (fun h => ?_) (fun h => ?_))
                     | (refine Need.mk (by omega) ?_)
                     | (refine Ints.ln (by assumption) ?_)
                     | (refine Mat.ln (by assumption) ?_)
                     | (refine Ints.ln (Mat.row (by assumption) _ (by omega)) ?_)
                     | (refine Ints.ix (by assumption) (by omega) ?_)
                     | (refine Mat.ix (by assumption) (by omega) ?_)
                     | (refine Ints.ix (Mat.row (by assumption) _ (by omega)) (by omega) ?_)
                     | (refine Ints.ix (c := 0) (by assumption) (by omega) ?_)
                     | (refine Mat.ix (c := 0) (by assumption) (by omega) ?_)
                     | (refine Ints.ix (c := 0) (Mat.row (by assumption) _ (by omega)) (by omega) ?_)
                     | (refine Ints.ixI (by assumption) (by omega) ?_)
                     | (refine Mat.ixI (by assumption) (by omega) ?_)
                     | (refine Ints.ixI (Mat.row (by assumption) _ (by omega)) (by omega) ?_)
                     | (refine Ints.ld (by assumption) (by omega) ?_)
                     | (refine Mat.ld (by assumption) (by omega) ?_)
                     | (refine Ints.ld (Mat.row (by assumption) _ (by omega)) (by omega) ?_)
                     | (refine At.ld (by assumption) rfl ?_)
                     | (refine At.ldN (by assumption) rfl ?_)
                     | (refine Prs.ln (by assumption) ?_)
                     | (refine Trs.ln (by assumption) ?_)
                     | (refine Prs.ix (by assumption) (by omega) ?_)
                     | (refine Trs.ix (by assumption) (by omega) ?_)
                     | (refine Prs.ldN (by assumption) (by omega) ?_)
                     | (refine Trs.ldN (by assumption) (by omega) ?_)
                     | (refine At.ldN (Blk.at (by assumption)) rfl ?_)
                     | (refine At.ld (Blk.at (by assumption)) rfl ?_)
                     | (refine IxA.mk (by omega) ?_)
                     | (refine Sl.ln (Own.sl (by assumption)) ?_)
                     | (refine Ints.ix (Own.sl (by assumption)) (by omega) ?_)
                     | (refine Ints.ixI (Own.sl (by assumption)) (by omega) ?_)
                     | (refine Ints.ld (Own.sl (by assumption)) (by omega) ?_))
            refine ⟨rfl, _, (by omega : l.length - (c + 1) < l.length - c), rfl, c + 1, by omega, rfl, (by rw [show ((l.length : Int) - 1 - ((c + 1 : Nat) : Int)) = (q : Int) - 1 by omega]), (by rw [eq, hnx]), (by rw [eq, hnx]; exact H6), HJ3.gr G6 (fun j hj => hrv j hj), HX3.new G6 (fun j hj hq2 => by have := hrv j hq2; omega), HB3.gr G6 (fun hq2 => by have := hrv bg hq2; omega), (Nat.le_trans hs3 G6.size)⟩
          · rw [if_pos (by omega)] at hnx
            have e3 := nxt_app hnx (l.take q)
            rw [List.take_append_drop] at e3
            rw [hnd] at e3
            have hk1 : k + 1 < tot rr := by
              refine Classical.byContradiction fun hn => ?_
              rw [if_neg hn] at e3
              cases e3
            rw [if_pos hk1] at e3
            have e4 : digs rr.length (mOf rr) (k + 1) = l.take q ++ (l.getD q 0 + 1) :: (nxt rr.length (l.drop (q + 1))).2 := congrArg Prod.snd e3
            repeat' (conv => whnf
                     first
                     | (refine Drx.plan 18 [] (.q 0 (.q 1 (.q 2 (.q 3 (.q 4 (.q 5 (.q 6 (.q 7 (.q 8 (.q 9 (.q 10 (.q 11 (.q 12 .nil))))))))))))) tyOk rfl (by kernel_rfl) ?_)
                     | (refine Rng.mk (by omega) ?_)
                     | (refine Split.pos (by omega) ?_)
                     | (refine Split.neg (by omega) ?_)
                     | (refine Split.mk (fun h => ?_) (fun h => ?_))
                     | (refine Need.mk (by omega) ?_)
                     | (refine Ints.ln (by assumption) ?_)
                     | (refine Mat.ln (by assumption) ?_)
                     | (refine Ints.ln (Mat.row (by assumption) _ (by omega)) ?_)
                     | (refine Ints.ix (by assumption) (by omega) ?_)
                     | (refine Mat.ix (by assumption) (by omega) ?_)
                     | (refine Ints.ix (Mat.row (by assumption) _ (by omega)) (by omega) ?_)
                     | (refine Ints.ix (c := 0) (by assumption) (by omega) ?_)
                     | (refine Mat.ix (c := 0) (by assumption) (by omega) ?_)
                     | (refine Ints.ix (c := 0) (Mat.row (by assumption) _ (by omega)) (by omega) ?_)
                     | (refine Ints.ixI (by assumption) (by omega) ?_)
                     | (refine Mat.ixI (by assumption) (by omega) ?_)
                     | (refine Ints.ixI (Mat.row (by assumption) _ (by omega)) (by omega) ?_)
                     | (refine Ints.ld (by assumption) (by omega) ?_)
                     | (refine Mat.ld (by assumption) (by omega) ?_)
                     | (refine Ints.ld (Mat.row (by assumption) _ (by omega)) (by omega) ?_)
                     | (refine At.ld (by assumption) rfl ?_)
                     | (refine At.ldN (by assumption) rfl ?_)
                     | (refine Prs.ln (by assumption) ?_)
                     | (refine Trs.ln (by assumption) ?_)
                     | (refine Prs.ix (by assumption) (by omega) ?_)
                     | (refine Trs.ix (by assumption) (by omega) ?_)
                     | (refine Prs.ldN (by assumption) (by omega) ?_)
                     | (refine Trs.ldN (by assumption) (by omega) ?_)
                     | (refine At.ldN (Blk.at (by assumption)) rfl ?_)
                     | (refine At.ld (Blk.at (by assumption)) rfl ?_)
                     | (refine IxA.mk (by omega) ?_)
                     | (refine Sl.ln (Own.sl (by assumption)) ?_)
                     | (refine Ints.ix (Own.sl (by assumption)) (by omega) ?_)
                     | (refine Ints.ixI (Own.sl (by assumption)) (by omega) ?_)
                     | (refine Ints.ld (Own.sl (by assumption)) (by omega) ?_))
            refine Own.set HC (by rw [List.length_map, hlen]; omega) rfl fun w6 G6 H6 => ?_
            rw [hgd, set_map, set_mid htk, ← e4] at H6
            repeat' (conv => whnf
                     first
                     | (refine Rng.mk (by omega) ?_)
                     | (refine Split.pos (by omega) ?_)
                     | (refine Split.neg (by omega) ?_)
                     | (refine Split.mk (fun h => ?_) (fun h => ?_))
                     | (refine Need.mk (by omega) ?_)
                     | (refine Ints.ln (by assumption) ?_)
                     | (refine Mat.ln (by assumption) ?_)
                     | (refine Ints.ln (Mat.row (by assumption) _ (by omega)) ?_)
                     | (refine Ints.ix (by assumption) (by omega) ?_)
                     | (refine Mat.ix (by assumption) (by omega) ?_)
                     | (refine Ints.ix (Mat.row (by assumption) _ (by omega)) (by omega) ?_)
                     | (refine Ints.ix (c := 0) (by assumption) (by omega) ?_)
                     | (refine Mat.ix (c := 0) (by assumption) (by omega) ?_)
                     | (refine Ints.ix (c := 0) (Mat.row (by assumption) _ (by omega)) (by omega) ?_)
                     | (refine Ints.ixI (by assumption) (by omega) ?_)
                     | (refine Mat.ixI (by assumption) (by omega) ?_)
                     | (refine Ints.ixI (Mat.row (by assumption) _ (by omega)) (by omega) ?_)
                     | (refine Ints.ld (by assumption) (by omega) ?_)
                     | (refine Mat.ld (by assumption) (by omega) ?_)
                     | (refine Ints.ld (Mat.row (by assumption) _ (by omega)) (by omega) ?_)
                     | (refine At.ld (by assumption) rfl ?_)
                     | (refine At.ldN (by assumption) rfl ?_)
                     | (refine Prs.ln (by assumption) ?_)
                     | (refine Trs.ln (by assumption) ?_)
                     | (refine Prs.ix (by assumption) (by omega) ?_)
                     | (refine Trs.ix (by assumption) (by omega) ?_)
                     | (refine Prs.ldN (by assumption) (by omega) ?_)
                     | (refine Trs.ldN (by assumption) (by omega) ?_)
                     | (refine At.ldN (Blk.at (by assumption)) rfl ?_)
                     | (refine At.ld (Blk.at (by assumption)) rfl ?_)
                     | (refine IxA.mk (by omega) ?_)
                     | (refine Sl.ln (Own.sl (by assumption)) ?_)
                     | (refine Ints.ix (Own.sl (by assumption)) (by omega) ?_)
                     | (refine Ints.ixI (Own.sl (by assumption)) (by omega) ?_)
                     | (refine Ints.ld (Own.sl (by assumption)) (by omega) ?_))
            refine ⟨rfl, _, (by omega : (tot rr) - (k + 1) < (tot rr) - k), rfl, k + 1, by omega, rfl, (by show Go.Eng.Own _ _ _ _ _ (digs rr.length (mOf rr) (k + 1)).length _; rw [show (digs rr.length (mOf rr) (k + 1)).length = l.length by rw [digs_len, hll]]; exact H6), HJ3.gr G6 (fun j hj => hrv j hj), HX3.new G6 (fun j hj hq2 => by have := hrv j hq2; omega), HB3.gr G6 (fun hq2 => by have := hrv bg hq2; omega), (Nat.le_trans hs3 G6.size), hk1⟩
        · obtain rfl : c = l.length := by omega
          rw [Nat.sub_self] at hf
          repeat' (conv => whnf
                   first
                   | (refine Drx.plan 18 [] (.q 0 (.q 1 (.q 2 (.q 3 (.q 4 (.q 5 (.q 6 (.q 7 (.q 8 (.q 9 (.q 10 (.q 11 (.q 12 .nil))))))))))))) tyOk rfl (by kernel_rfl) ?_)
                   | (refine Rng.mk (by omega) ?_)
                   | (refine Split.pos (by omega) ?_)
                   | (refine Split.neg (by omega) ?_)
                   | (refine Split.mk (fun h => ?_) (fun h => ?_))
                   | (refine Need.mk (by omega) ?_)
                   | (refine Ints.ln (by assumption) ?_)
                   | (refine Mat.ln (by assumption) ?_)
                   | (refine Ints.ln (Mat.row (by assumption) _ (by omega)) ?_)
                   | (refine Ints.ix (by assumption) (by omega) ?_)
                   | (refine Mat.ix (by assumption) (by omega) ?_)
                   | (refine Ints.ix (Mat.row (by assumption) _ (by omega)) (by omega) ?_)
                   | (refine Ints.ix (c := 0) (by assumption) (by omega) ?_)
                   | (refine Mat.ix (c := 0) (by assumption) (by omega) ?_)
                   | (refine Ints.ix (c := 0) (Mat.row (by assumption) _ (by omega)) (by omega) ?_)
                   | (refine Ints.ixI (by assumption) (by omega) ?_)
                   | (refine Mat.ixI (by assumption) (by omega) ?_)
                   | (refine Ints.ixI (Mat.row (by assumption) _ (by omega)) (by omega) ?_)
                   | (refine Ints.ld (by assumption) (by omega) ?_)
                   | (refine Mat.ld (by assumption) (by omega) ?_)
                   | (refine Ints.ld (Mat.row (by assumption) _ (by omega)) (by omega) ?_)
                   | (refine At.ld (by assumption) rfl ?_)
                   | (refine At.ldN (by assumption) rfl ?_)
                   | (refine Prs.ln (by assumption) ?_)
                   | (refine Trs.ln (by assumption) ?_)
                   | (refine Prs.ix (by assumption) (by omega) ?_)
                   | (refine Trs.ix (by assumption) (by omega) ?_)
                   | (refine Prs.ldN (by assumption) (by omega) ?_)
                   | (refine Trs.ldN (by assumption) (by omega) ?_)
                   | (refine At.ldN (Blk.at (by assumption)) rfl ?_)
                   | (refine At.ld (Blk.at (by assumption)) rfl ?_)
                   | (refine IxA.mk (by omega) ?_)
                   | (refine Sl.ln (Own.sl (by assumption)) ?_)
                   | (refine Ints.ix (Own.sl (by assumption)) (by omega) ?_)
                   | (refine Ints.ixI (Own.sl (by assumption)) (by omega) ?_)
                   | (refine Ints.ld (Own.sl (by assumption)) (by omega) ?_))
          have hk1 : ¬ k + 1 < tot rr := fun hh => by
            have hnd2 := hnd
            rw [if_pos hh] at hnd2
            have : (nxt rr.length l).1 = false := hf
            rw [hnd2] at this
            cases this
          refine ⟨n1, hwn, .inl ?_⟩
          rw [show (lists rr).take (k + 1) = lists rr from List.take_of_length_le (by rw [lists_len]; omega)] at HJ3
          exact HJ3
    · skip
      repeat' (conv => whnf
               first
               | (refine Rng.mk (by omega) ?_)
               | (refine Split.pos (by omega) ?_)
               | (refine Split.neg (by omega) ?_)
               | (refine Split.mk (fun h => ?_) (fun h => ?_))
               | (refine Need.mk (by omega) ?_)
               | (refine Ints.ln (by assumption) ?_)
               | (refine Mat.ln (by assumption) ?_)
               | (refine Ints.ln (Mat.row (by assumption) _ (by omega)) ?_)
               | (refine Ints.ix (by assumption) (by omega) ?_)
               | (refine Mat.ix (by assumption) (by omega) ?_)
               | (refine Ints.ix (Mat.row (by assumption) _ (by omega)) (by omega) ?_)
               | (refine Ints.ix (c := 0) (by assumption) (by omega) ?_)
               | (refine Mat.ix (c := 0) (by assumption) (by omega) ?_)
               | (refine Ints.ix (c := 0) (Mat.row (by assumption) _ (by omega)) (by omega) ?_)
               | (refine Ints.ixI (by assumption) (by omega) ?_)
               | (refine Mat.ixI (by assumption) (by omega) ?_)
               | (refine Ints.ixI (Mat.row (by assumption) _ (by omega)) (by omega) ?_)
               | (refine Ints.ld (by assumption) (by omega) ?_)
               | (refine Mat.ld (by assumption) (by omega) ?_)
               | (refine Ints.ld (Mat.row (by assumption) _ (by omega)) (by omega) ?_)
               | (refine At.ld (by assumption) rfl ?_)
               | (refine At.ldN (by assumption) rfl ?_)
               | (refine Prs.ln (by assumption) ?_)
               | (refine Trs.ln (by assumption) ?_)
               | (refine Prs.ix (by assumption) (by omega) ?_)
               | (refine Trs.ix (by assumption) (by omega) ?_)
               | (refine Prs.ldN (by assumption) (by omega) ?_)
               | (refine Trs.ldN (by assumption) (by omega) ?_)
               | (refine At.ldN (Blk.at (by assumption)) rfl ?_)
               | (refine At.ld (Blk.at (by assumption)) rfl ?_)
               | (refine IxA.mk (by omega) ?_)
               | (refine Sl.ln (Own.sl (by assumption)) ?_)
               | (refine Ints.ix (Own.sl (by assumption)) (by omega) ?_)
               | (refine Ints.ixI (Own.sl (by assumption)) (by omega) ?_)
               | (refine Ints.ld (Own.sl (by assumption)) (by omega) ?_))
      exact ⟨n1, hwn, .inr ⟨_, by rw [← lists_snoc hkt]; exact List.take_prefix _ _, HJ2⟩⟩
end Go.Proofs.Ytebklnmafjbhcaa
set_option linter.unusedVariables false
set_option linter.unusedSimpArgs false
namespace Go.Proofs.Ytebklnmafjbhcaa
open Go.Eng
set_option maxRecDepth 100000
set_option maxHeartbeats 4000000

open Classical in noncomputable def imp (rr : List (List Int)) (a : List Int) : Option (List Int) := (lists rr).find? fun b => decide (abv rr a b)
theorem imp_some {rr : List (List Int)} {a x : List Int} {pre : List (List Int)} (hp : pre ++ [x] <+: lists rr) (h1 : ∀ y ∈ pre, ¬ abv rr a y) (h2 : abv rr a x) : imp rr a = some x := by
  obtain ⟨t, ht⟩ := hp
  unfold imp
  rw [List.find?_eq_some_iff_append]
  refine ⟨by simpa using h2, pre, t, by rw [← ht]; simp, fun y hy => by simpa using h1 y hy⟩
theorem imp_none {rr : List (List Int)} {a : List Int} (h : ∀ y ∈ lists rr, ¬ abv rr a y) : imp rr a = none := by
  unfold imp
  rw [List.find?_eq_none]
  intro y hy; simpa using h y hy
theorem abv_nil {rr : List (List Int)} {a : List Int} (h : vld rr a = 0) (hm : mOf rr = 0) (b : List Int) (hb : b.length = 0) : ¬ abv rr a b := by
  rintro ⟨_, i, hi, h2⟩
  have hl : a.length = 0 := by have := (al_of_vld h).len; unfold mOf at hm; omega
  unfold ownB wth at h2
  rw [hb, hl] at h2
  exact absurd h2 (Int.lt_irrefl _)
theorem imp_ne {rr : List (List Int)} {a b : List Int} (h : vld rr a = 0) (hi : imp rr a = some b) : b.length = mOf rr ∧ b.length ≠ 0 := by
  have h1 := List.find?_some hi
  have h2 := List.mem_of_find?_eq_some hi
  have hb : b.length = mOf rr := by
    obtain ⟨k, hk, e⟩ := List.getElem_of_mem h2
    rw [lists_len] at hk
    have := lists_get hk
    rw [List.getD_eq_getElem?_getD, List.getElem?_eq_getElem (by rw [lists_len]; exact hk), Option.getD_some, e] at this
    rw [this, digs_len]
  refine ⟨hb, fun h0 => ?_⟩
  exact abv_nil h (by omega) b h0 (by simpa using h1)

def ImpV (w : World) (v : Value) : Option (List Int) → Prop
  | some b => OI w v b ∧ b.length ≠ 0
  | none => v = .slice none 0 0

theorem eFn : Elem Try.prog 65 .nilFunc 1 8 := by unfold Elem; kernel_rfl

theorem dfd_gr {S : Nat → Prop} {w w' : World} {D : Nat} (h : w.heap[D]? = some (.deferred (some []))) (hg : Gr S w w') (hs : ¬ S D) : w'.heap[D]? = some (.deferred (some [])) := by
  rw [hg.block D (Array.getElem?_eq_some_iff.1 h).1 hs]; exact h

theorem lists_mem {rr : List (List Int)} {x : List Int} (hc : chk rr = 0) (h : x ∈ lists rr) : vld rr x = 0 ∧ compl x ∧ x.length = mOf rr := by
  obtain ⟨k, hk, e⟩ := List.getElem_of_mem h
  rw [lists_len] at hk
  have := lists_get hk
  rw [List.getD_eq_getElem?_getD, List.getElem?_eq_getElem (by rw [lists_len]; exact hk), Option.getD_some, e] at this
  rw [this]
  exact ⟨(digs_ok hc hk).1, (digs_ok hc hk).2, digs_len _ _ _⟩
theorem mem_of_pre {α : Type} {pre l : List α} {x : α} (h : pre ++ [x] <+: l) : x ∈ l := by
  obtain ⟨t, ht⟩ := h
  rw [← ht]; simp
theorem abvV_own1 {rr : List (List Int)} {a x : List Int} : abvV rr.length (fun i => (ownV rr a).getD i 0) (ownB rr x) = abv rr a x := by
  have e : ∀ i, i < rr.length → (ownV rr a).getD i 0 = ownB rr a i := fun i hi => ownV_get hi
  refine propext ⟨fun h => ⟨fun i hi => ?_, ?_⟩, fun h => ⟨fun i hi => ?_, ?_⟩⟩
  · have := h.1 i hi; dsimp only at this; rw [e i hi] at this; exact this
  · obtain ⟨i, hi, h2⟩ := h.2; dsimp only at h2; rw [e i hi] at h2; exact ⟨i, hi, h2⟩
  · dsimp only; rw [e i hi]; exact h.1 i hi
  · obtain ⟨i, hi, h2⟩ := h.2; refine ⟨i, hi, ?_⟩; dsimp only; rw [e i hi]; exact h2

theorem improve_rc {w : World} {gv av : Value} {vs : List Value} {rr : List (List Int)} {a : List Int} (Hg : Mat w gv vs rr) (Ha : Ints w av a) (hv : vld rr a = 0) :
    RC Try.prog 75 [.agg #[gv], av] w NoB (fun u w' => ImpV w' u (imp rr a)) := by
  refine RCX.mk tyOk Try.func75 rfl (by kernel_rfl) fun w1 E1 => ?_
  replace Hg := Hg.ext E1
  replace Ha := Ha.ext E1
  have EE := Ext.refl w1
  have hgE := Hg
  have hck := chk_of_vld hv
  refine Bx.agg fun b2 w2 E2 hb2 Hb _ => ?_
  replace Hg := Hg.ext E2
  replace Ha := Ha.ext E2
  replace EE := EE.ext E2
  have hb2l : b2 < w2.heap.size := by have := Hb 0 gv rfl; exact World.block_lt_of_cell? _ _ this
  have Hg__1 := Hg
  have Ha__1 := Ha
  have EE__1 := EE
  have Hb__1 := Hb
  conv => whnf
  refine VE.alloc eRow fun rb w3 E3 hb_rb Hr => ?_
  replace Hg := Hg.ext E3
  replace Ha := Ha.ext E3
  replace EE := EE.ext E3
  replace Hb := Hb.ext E3
  have EL1 := E3
  have hrb3 := Blk.lt Hr
  repeat' (conv => whnf
           first
           | (refine Rng.mk (by omega) ?_)
           | (refine Split.pos (by omega) ?_)
           | (refine Split.neg (by omega) ?_)
           | (refine Split.mk (fun h => ?_) (fun h => ?_))
           | (refine Need.mk (by omega) ?_)
           | (refine Ints.ln (by assumption) ?_)
           | (refine Mat.ln (by assumption) ?_)
           | (refine Ints.ln (Mat.row (by assumption) _ (by omega)) ?_)
           | (refine Ints.ix (by assumption) (by omega) ?_)
           | (refine Mat.ix (by assumption) (by omega) ?_)
           | (refine Ints.ix (Mat.row (by assumption) _ (by omega)) (by omega) ?_)
           | (refine Ints.ix (c := 0) (by assumption) (by omega) ?_)
           | (refine Mat.ix (c := 0) (by assumption) (by omega) ?_)
           | (refine Ints.ix (c := 0) (Mat.row (by assumption) _ (by omega)) (by omega) ?_)
           | (refine Ints.ixI (by assumption) (by omega) ?_)
           | (refine Mat.ixI (by assumption) (by omega) ?_)
           | (refine Ints.ixI (Mat.row (by assumption) _ (by omega)) (by omega) ?_)
           | (refine Ints.ld (by assumption) (by omega) ?_)
           | (refine Mat.ld (by assumption) (by omega) ?_)
           | (refine Ints.ld (Mat.row (by assumption) _ (by omega)) (by omega) ?_)
           | (refine At.ld (by assumption) rfl ?_)
           | (refine At.ldN (by assumption) rfl ?_)
           | (refine Prs.ln (by assumption) ?_)
           | (refine Trs.ln (by assumption) ?_)
           | (refine Prs.ix (by assumption) (by omega) ?_)
           | (refine Trs.ix (by assumption) (by omega) ?_)
           | (refine Prs.ldN (by assumption) (by omega) ?_)
           | (refine Trs.ldN (by assumption) (by omega) ?_)
           | (refine At.ldN (Blk.at (by assumption)) rfl ?_)
           | (refine At.ld (Blk.at (by assumption)) rfl ?_)
           | (refine IxA.mk (by omega) ?_)
           | (refine Sl.ln (Own.sl (by assumption)) ?_)
           | (refine Ints.ix (Own.sl (by assumption)) (by omega) ?_)
           | (refine Ints.ixI (Own.sl (by assumption)) (by omega) ?_)
           | (refine Ints.ld (Own.sl (by assumption)) (by omega) ?_))
  conv => whnf
  refine VC.rc (owns_rc Hg Ha hv) ?_
  rintro nv w4 E4 HN
  replace Hg := Hg.ext E4
  replace Ha := Ha.ext E4
  replace EE := EE.ext E4
  replace Hb := Hb.ext E4
  replace EL1 := EL1.ext E4
  replace Hr := Hr.ext E4
  repeat' (conv => whnf
           first
           | (refine Rng.mk (by omega) ?_)
           | (refine Split.pos (by omega) ?_)
           | (refine Split.neg (by omega) ?_)
           | (refine Split.mk (fun h => ?_) (fun h => ?_))
           | (refine Need.mk (by omega) ?_)
           | (refine Ints.ln (by assumption) ?_)
           | (refine Mat.ln (by assumption) ?_)
           | (refine Ints.ln (Mat.row (by assumption) _ (by omega)) ?_)
           | (refine Ints.ix (by assumption) (by omega) ?_)
           | (refine Mat.ix (by assumption) (by omega) ?_)
           | (refine Ints.ix (Mat.row (by assumption) _ (by omega)) (by omega) ?_)
           | (refine Ints.ix (c := 0) (by assumption) (by omega) ?_)
           | (refine Mat.ix (c := 0) (by assumption) (by omega) ?_)
           | (refine Ints.ix (c := 0) (Mat.row (by assumption) _ (by omega)) (by omega) ?_)
           | (refine Ints.ixI (by assumption) (by omega) ?_)
           | (refine Mat.ixI (by assumption) (by omega) ?_)
           | (refine Ints.ixI (Mat.row (by assumption) _ (by omega)) (by omega) ?_)
           | (refine Ints.ld (by assumption) (by omega) ?_)
           | (refine Mat.ld (by assumption) (by omega) ?_)
           | (refine Ints.ld (Mat.row (by assumption) _ (by omega)) (by omega) ?_)
           | (refine At.ld (by assumption) rfl ?_)
           | (refine At.ldN (by assumption) rfl ?_)
           | (refine Prs.ln (by assumption) ?_)
           | (refine Trs.ln (by assumption) ?_)
           | (refine Prs.ix (by assumption) (by omega) ?_)
           | (refine Trs.ix (by assumption) (by omega) ?_)
           | (refine Prs.ldN (by assumption) (by omega) ?_)
           | (refine Trs.ldN (by assumption) (by omega) ?_)
           | (refine At.ldN (Blk.at (by assumption)) rfl ?_)
           | (refine At.ld (Blk.at (by assumption)) rfl ?_)
           | (refine IxA.mk (by omega) ?_)
           | (refine Sl.ln (Own.sl (by assumption)) ?_)
           | (refine Ints.ix (Own.sl (by assumption)) (by omega) ?_)
           | (refine Ints.ixI (Own.sl (by assumption)) (by omega) ?_)
           | (refine Ints.ld (Own.sl (by assumption)) (by omega) ?_))
  have Hg__2 := Hg
  have Ha__2 := Ha
  have EE__2 := EE
  have Hb__2 := Hb
  have EL1__2 := EL1
  have Hr__2 := Hr
  have HN__2 := HN
  conv => whnf
  refine VE.alloc eRow fun nb w5 E5 hb_nb Hn => ?_
  replace Hg := Hg.ext E5
  replace Ha := Ha.ext E5
  replace EE := EE.ext E5
  replace Hb := Hb.ext E5
  replace EL1 := EL1.ext E5
  replace Hr := Hr.ext E5
  replace HN := HN.ext E5
  have EL2 := E5
  repeat' (conv => whnf
           first
           | (refine Rng.mk (by omega) ?_)
           | (refine Split.pos (by omega) ?_)
           | (refine Split.neg (by omega) ?_)
           | (refine Split.mk (fun h => ?_) (fun h => ?_))
           | (refine Need.mk (by omega) ?_)
           | (refine Ints.ln (by assumption) ?_)
           | (refine Mat.ln (by assumption) ?_)
           | (refine Ints.ln (Mat.row (by assumption) _ (by omega)) ?_)
           | (refine Ints.ix (by assumption) (by omega) ?_)
           | (refine Mat.ix (by assumption) (by omega) ?_)
           | (refine Ints.ix (Mat.row (by assumption) _ (by omega)) (by omega) ?_)
           | (refine Ints.ix (c := 0) (by assumption) (by omega) ?_)
           | (refine Mat.ix (c := 0) (by assumption) (by omega) ?_)
           | (refine Ints.ix (c := 0) (Mat.row (by assumption) _ (by omega)) (by omega) ?_)
           | (refine Ints.ixI (by assumption) (by omega) ?_)
           | (refine Mat.ixI (by assumption) (by omega) ?_)
           | (refine Ints.ixI (Mat.row (by assumption) _ (by omega)) (by omega) ?_)
           | (refine Ints.ld (by assumption) (by omega) ?_)
           | (refine Mat.ld (by assumption) (by omega) ?_)
           | (refine Ints.ld (Mat.row (by assumption) _ (by omega)) (by omega) ?_)
           | (refine At.ld (by assumption) rfl ?_)
           | (refine At.ldN (by assumption) rfl ?_)
           | (refine Prs.ln (by assumption) ?_)
           | (refine Trs.ln (by assumption) ?_)
           | (refine Prs.ix (by assumption) (by omega) ?_)
           | (refine Trs.ix (by assumption) (by omega) ?_)
           | (refine Prs.ldN (by assumption) (by omega) ?_)
           | (refine Trs.ldN (by assumption) (by omega) ?_)
           | (refine At.ldN (Blk.at (by assumption)) rfl ?_)
           | (refine At.ld (Blk.at (by assumption)) rfl ?_)
           | (refine IxA.mk (by omega) ?_)
           | (refine Sl.ln (Own.sl (by assumption)) ?_)
           | (refine Ints.ix (Own.sl (by assumption)) (by omega) ?_)
           | (refine Ints.ixI (Own.sl (by assumption)) (by omega) ?_)
           | (refine Ints.ld (Own.sl (by assumption)) (by omega) ?_))
  refine Blk.set0 Hn (by decide) (Sl.cells (Own.sl HN)).2 fun w6 G6 Hn' => ?_
  have E6 : Ext w4 w6 := EL2.new G6 fun i hi hk => by omega
  replace Hn := Hn'
  replace Hg := Hg__2.ext E6
  replace Ha := Ha__2.ext E6
  replace EE := EE__2.ext E6
  replace Hb := Hb__2.ext E6
  replace EL1 := EL1__2.ext E6
  replace Hr := Hr__2.ext E6
  replace HN := HN__2.ext E6
  replace EL2 := E6
  repeat' (conv => whnf
           first
           | (refine Rng.mk (by omega) ?_)
           | (refine Split.pos (by omega) ?_)
           | (refine Split.neg (by omega) ?_)
           | (refine Split.mk (fun h => ?_) (fun h => ?_))
           | (refine Need.mk (by omega) ?_)
           | (refine Ints.ln (by assumption) ?_)
           | (refine Mat.ln (by assumption) ?_)
           | (refine Ints.ln (Mat.row (by assumption) _ (by omega)) ?_)
           | (refine Ints.ix (by assumption) (by omega) ?_)
           | (refine Mat.ix (by assumption) (by omega) ?_)
           | (refine Ints.ix (Mat.row (by assumption) _ (by omega)) (by omega) ?_)
           | (refine Ints.ix (c := 0) (by assumption) (by omega) ?_)
           | (refine Mat.ix (c := 0) (by assumption) (by omega) ?_)
           | (refine Ints.ix (c := 0) (Mat.row (by assumption) _ (by omega)) (by omega) ?_)
           | (refine Ints.ixI (by assumption) (by omega) ?_)
           | (refine Mat.ixI (by assumption) (by omega) ?_)
           | (refine Ints.ixI (Mat.row (by assumption) _ (by omega)) (by omega) ?_)
           | (refine Ints.ld (by assumption) (by omega) ?_)
           | (refine Mat.ld (by assumption) (by omega) ?_)
           | (refine Ints.ld (Mat.row (by assumption) _ (by omega)) (by omega) ?_)
           | (refine At.ld (by assumption) rfl ?_)
           | (refine At.ldN (by assumption) rfl ?_)
           | (refine Prs.ln (by assumption) ?_)
           | (refine Trs.ln (by assumption) ?_)
           | (refine Prs.ix (by assumption) (by omega) ?_)
           | (refine Trs.ix (by assumption) (by omega) ?_)
           | (refine Prs.ldN (by assumption) (by omega) ?_)
           | (refine Trs.ldN (by assumption) (by omega) ?_)
           | (refine At.ldN (Blk.at (by assumption)) rfl ?_)
           | (refine At.ld (Blk.at (by assumption)) rfl ?_)
           | (refine IxA.mk (by omega) ?_)
           | (refine Sl.ln (Own.sl (by assumption)) ?_)
           | (refine Ints.ix (Own.sl (by assumption)) (by omega) ?_)
           | (refine Ints.ixI (Own.sl (by assumption)) (by omega) ?_)
           | (refine Ints.ld (Own.sl (by assumption)) (by omega) ?_))
  have Hg__3 := Hg
  have Ha__3 := Ha
  have EE__3 := EE
  have Hb__3 := Hb
  have EL1__3 := EL1
  have Hr__3 := Hr
  have HN__3 := HN
  have EL2__3 := EL2
  have Hn__3 := Hn
  conv => whnf
  refine VE.alloc eFn fun fb w7 E7 hb_fb Hf => ?_
  replace Hg := Hg.ext E7
  replace Ha := Ha.ext E7
  replace EE := EE.ext E7
  replace Hb := Hb.ext E7
  replace EL1 := EL1.ext E7
  replace Hr := Hr.ext E7
  replace HN := HN.ext E7
  replace EL2 := EL2.ext E7
  replace Hn := Hn.ext E7
  have EL3 := E7
  repeat' (conv => whnf
           first
           | (refine Rng.mk (by omega) ?_)
           | (refine Split.pos (by omega) ?_)
           | (refine Split.neg (by omega) ?_)
           | (refine Split.mk (fun h => ?_) (fun h => ?_))
           | (refine Need.mk (by omega) ?_)
           | (refine Ints.ln (by assumption) ?_)
           | (refine Mat.ln (by assumption) ?_)
           | (refine Ints.ln (Mat.row (by assumption) _ (by omega)) ?_)
           | (refine Ints.ix (by assumption) (by omega) ?_)
           | (refine Mat.ix (by assumption) (by omega) ?_)
           | (refine Ints.ix (Mat.row (by assumption) _ (by omega)) (by omega) ?_)
           | (refine Ints.ix (c := 0) (by assumption) (by omega) ?_)
           | (refine Mat.ix (c := 0) (by assumption) (by omega) ?_)
           | (refine Ints.ix (c := 0) (Mat.row (by assumption) _ (by omega)) (by omega) ?_)
           | (refine Ints.ixI (by assumption) (by omega) ?_)
           | (refine Mat.ixI (by assumption) (by omega) ?_)
           | (refine Ints.ixI (Mat.row (by assumption) _ (by omega)) (by omega) ?_)
           | (refine Ints.ld (by assumption) (by omega) ?_)
           | (refine Mat.ld (by assumption) (by omega) ?_)
           | (refine Ints.ld (Mat.row (by assumption) _ (by omega)) (by omega) ?_)
           | (refine At.ld (by assumption) rfl ?_)
           | (refine At.ldN (by assumption) rfl ?_)
           | (refine Prs.ln (by assumption) ?_)
           | (refine Trs.ln (by assumption) ?_)
           | (refine Prs.ix (by assumption) (by omega) ?_)
           | (refine Trs.ix (by assumption) (by omega) ?_)
           | (refine Prs.ldN (by assumption) (by omega) ?_)
           | (refine Trs.ldN (by assumption) (by omega) ?_)
           | (refine At.ldN (Blk.at (by assumption)) rfl ?_)
           | (refine At.ld (Blk.at (by assumption)) rfl ?_)
           | (refine IxA.mk (by omega) ?_)
           | (refine Sl.ln (Own.sl (by assumption)) ?_)
           | (refine Ints.ix (Own.sl (by assumption)) (by omega) ?_)
           | (refine Ints.ixI (Own.sl (by assumption)) (by omega) ?_)
           | (refine Ints.ld (Own.sl (by assumption)) (by omega) ?_))
  refine Blk.set0 Hf (by decide) rfl fun w8 G8 Hf' => ?_
  have E8 : Ext w6 w8 := EL3.new G8 fun i hi hk => by omega
  replace Hf := Hf'
  replace Hg := Hg__3.ext E8
  replace Ha := Ha__3.ext E8
  replace EE := EE__3.ext E8
  replace Hb := Hb__3.ext E8
  replace EL1 := EL1__3.ext E8
  replace Hr := Hr__3.ext E8
  replace HN := HN__3.ext E8
  replace EL2 := EL2__3.ext E8
  replace Hn := Hn__3.ext E8
  replace EL3 := E8
  have hrbW := Blk.lt Hr
  repeat' (conv => whnf
           first
           | (refine Rng.mk (by omega) ?_)
           | (refine Split.pos (by omega) ?_)
           | (refine Split.neg (by omega) ?_)
           | (refine Split.mk (fun h => ?_) (fun h => ?_))
           | (refine Need.mk (by omega) ?_)
           | (refine Ints.ln (by assumption) ?_)
           | (refine Mat.ln (by assumption) ?_)
           | (refine Ints.ln (Mat.row (by assumption) _ (by omega)) ?_)
           | (refine Ints.ix (by assumption) (by omega) ?_)
           | (refine Mat.ix (by assumption) (by omega) ?_)
           | (refine Ints.ix (Mat.row (by assumption) _ (by omega)) (by omega) ?_)
           | (refine Ints.ix (c := 0) (by assumption) (by omega) ?_)
           | (refine Mat.ix (c := 0) (by assumption) (by omega) ?_)
           | (refine Ints.ix (c := 0) (Mat.row (by assumption) _ (by omega)) (by omega) ?_)
           | (refine Ints.ixI (by assumption) (by omega) ?_)
           | (refine Mat.ixI (by assumption) (by omega) ?_)
           | (refine Ints.ixI (Mat.row (by assumption) _ (by omega)) (by omega) ?_)
           | (refine Ints.ld (by assumption) (by omega) ?_)
           | (refine Mat.ld (by assumption) (by omega) ?_)
           | (refine Ints.ld (Mat.row (by assumption) _ (by omega)) (by omega) ?_)
           | (refine At.ld (by assumption) rfl ?_)
           | (refine At.ldN (by assumption) rfl ?_)
           | (refine Prs.ln (by assumption) ?_)
           | (refine Trs.ln (by assumption) ?_)
           | (refine Prs.ix (by assumption) (by omega) ?_)
           | (refine Trs.ix (by assumption) (by omega) ?_)
           | (refine Prs.ldN (by assumption) (by omega) ?_)
           | (refine Trs.ldN (by assumption) (by omega) ?_)
           | (refine At.ldN (Blk.at (by assumption)) rfl ?_)
           | (refine At.ld (Blk.at (by assumption)) rfl ?_)
           | (refine IxA.mk (by omega) ?_)
           | (refine Sl.ln (Own.sl (by assumption)) ?_)
           | (refine Ints.ix (Own.sl (by assumption)) (by omega) ?_)
           | (refine Ints.ixI (Own.sl (by assumption)) (by omega) ?_)
           | (refine Ints.ld (Own.sl (by assumption)) (by omega) ?_))
  conv => whnf
  refine VC.rc (all_rc) ?_
  rintro _ w9 E9 ⟨bg, rfl, HB, hbg1, hbg2⟩
  replace Hg := Hg.ext E9
  replace Ha := Ha.ext E9
  replace EE := EE.ext E9
  replace Hb := Hb.ext E9
  replace EL1 := EL1.ext E9
  replace Hr := Hr.ext E9
  replace HN := HN.ext E9
  replace EL2 := EL2.ext E9
  replace Hn := Hn.ext E9
  replace EL3 := EL3.ext E9
  replace Hf := Hf.ext E9
  have hrbW2 := Blk.lt Hr
  have hs2 := E2.size
  have hs3 := E3.size
  have hs4 := E4.size
  have hs5 := E5.size
  have hs6 := G6.size
  have hs7 := E7.size
  have hs8 := G8.size
  have hs9 := E9.size
  have hEs := EE.size
  obtain ⟨we, hwe⟩ : ∃ we, we = w9 := ⟨_, rfl⟩
  repeat' (conv => whnf
           first
           | (refine Rng.mk (by omega) ?_)
           | (refine Split.pos (by omega) ?_)
           | (refine Split.neg (by omega) ?_)
           | (refine Split.mk (fun h => ?_) (fun h => ?_))
           | (refine Need.mk (by omega) ?_)
           | (refine Ints.ln (by assumption) ?_)
           | (refine Mat.ln (by assumption) ?_)
           | (refine Ints.ln (Mat.row (by assumption) _ (by omega)) ?_)
           | (refine Ints.ix (by assumption) (by omega) ?_)
           | (refine Mat.ix (by assumption) (by omega) ?_)
           | (refine Ints.ix (Mat.row (by assumption) _ (by omega)) (by omega) ?_)
           | (refine Ints.ix (c := 0) (by assumption) (by omega) ?_)
           | (refine Mat.ix (c := 0) (by assumption) (by omega) ?_)
           | (refine Ints.ix (c := 0) (Mat.row (by assumption) _ (by omega)) (by omega) ?_)
           | (refine Ints.ixI (by assumption) (by omega) ?_)
           | (refine Mat.ixI (by assumption) (by omega) ?_)
           | (refine Ints.ixI (Mat.row (by assumption) _ (by omega)) (by omega) ?_)
           | (refine Ints.ld (by assumption) (by omega) ?_)
           | (refine Mat.ld (by assumption) (by omega) ?_)
           | (refine Ints.ld (Mat.row (by assumption) _ (by omega)) (by omega) ?_)
           | (refine At.ld (by assumption) rfl ?_)
           | (refine At.ldN (by assumption) rfl ?_)
           | (refine Prs.ln (by assumption) ?_)
           | (refine Trs.ln (by assumption) ?_)
           | (refine Prs.ix (by assumption) (by omega) ?_)
           | (refine Trs.ix (by assumption) (by omega) ?_)
           | (refine Prs.ldN (by assumption) (by omega) ?_)
           | (refine Trs.ldN (by assumption) (by omega) ?_)
           | (refine At.ldN (Blk.at (by assumption)) rfl ?_)
           | (refine At.ld (Blk.at (by assumption)) rfl ?_)
           | (refine IxA.mk (by omega) ?_)
           | (refine Sl.ln (Own.sl (by assumption)) ?_)
           | (refine Ints.ix (Own.sl (by assumption)) (by omega) ?_)
           | (refine Ints.ixI (Own.sl (by assumption)) (by omega) ?_)
           | (refine Ints.ld (Own.sl (by assumption)) (by omega) ?_))
  refine Rwx.range tyOk rfl (all_it hgE EE HB hbg2 hck) (fun k hk => by rcases hk with rfl | hk <;> omega) (fun k => k = rb) (fun k hk => ⟨fun hh => by rcases hh with h | h <;> omega, by omega⟩)
    (fun n1 pre W => (∀ y ∈ pre, ¬ abv rr a y) ∧ Blk W rb 25 [.slice none 0 0])
    (fun n1 c pre W => c = .ret ∧ ∃ pre0 x cv, pre = pre0 ++ [x] ∧ (∀ y ∈ pre0, ¬ abv rr a y) ∧ abv rr a x ∧ Blk W rb 25 [cv] ∧ Go.Eng.Own n1 3 1 W cv x.length (x.map i64v))
    (fun n1 pre A B h hg => ⟨h.1, h.2.gr hg (by omega)⟩) (fun n1 c pre A B h hg => ?_) (fun n1 _ => ⟨fun y hy => (by cases hy), Hr⟩) ?round ?done ?stop
  · obtain ⟨h1, pre0, x, cv, h2, h3, h4, h5, h6⟩ := h
    exact ⟨h1, pre0, x, cv, h2, h3, h4, h5.gr hg (by omega), Own.gr h6 hg (fun q hq hS => by have := (Own.lt h6 q hq).1; omega)⟩
  case round =>
    intro l v W0
    conv => whnf
    refine ⟨rfl, rfl, rfl, ?_⟩
    intro n1 pre x W hn1 hn2 hpre hI hG Hx
    obtain ⟨hno, HrW⟩ := hI
    obtain ⟨hvx, hcx, hlx⟩ := lists_mem hck (mem_of_pre hpre)
    have hm10 := (gd_of_chk hck).m10
    have HgW : Mat W gv vs rr := hgE.ext (EE.new hG (fun i hi hk => by omega))
    have HbW : At W ⟨b2, 0, none⟩ [gv] := Hb.gr hG (fun h => by have h : b2 = rb := h; omega)
    have HnW := Hn.gr hG (by omega)
    have HfW := Hf.gr hG (by omega)
    have HNW : OB _ W nv _ := Own.gr HN hG (fun q hq hS => by have := (Own.lt HN q hq).1; omega)
    have ci := imp1_pc HgW Hx hvx (Own.sl HNW) (ownV_len rr a) (Blk.at HnW) HbW
    rw [abvV_own1] at ci
    by_cases hab : abv rr a x
    · rw [tf_t hab] at ci
      repeat' (conv => whnf
               first
               | (refine At.ld (i := 0) (Blk.at HfW) rfl ?_)
               | (refine VC.pure ci ?_)
               | (refine Rng.mk (by omega) ?_)
               | (refine Split.pos (by omega) ?_)
               | (refine Split.neg (by omega) ?_)
               | (refine Split.mk (fun h => ?_) (fun h => ?_))
               | (refine Need.mk (by omega) ?_)
               | (refine Ints.ln (by assumption) ?_)
               | (refine Mat.ln (by assumption) ?_)
               | (refine Ints.ln (Mat.row (by assumption) _ (by omega)) ?_)
               | (refine Ints.ix (by assumption) (by omega) ?_)
               | (refine Mat.ix (by assumption) (by omega) ?_)
               | (refine Ints.ix (Mat.row (by assumption) _ (by omega)) (by omega) ?_)
               | (refine Ints.ix (c := 0) (by assumption) (by omega) ?_)
               | (refine Mat.ix (c := 0) (by assumption) (by omega) ?_)
               | (refine Ints.ix (c := 0) (Mat.row (by assumption) _ (by omega)) (by omega) ?_)
               | (refine Ints.ixI (by assumption) (by omega) ?_)
               | (refine Mat.ixI (by assumption) (by omega) ?_)
               | (refine Ints.ixI (Mat.row (by assumption) _ (by omega)) (by omega) ?_)
               | (refine Ints.ld (by assumption) (by omega) ?_)
               | (refine Mat.ld (by assumption) (by omega) ?_)
               | (refine Ints.ld (Mat.row (by assumption) _ (by omega)) (by omega) ?_)
               | (refine At.ld (by assumption) rfl ?_)
               | (refine At.ldN (by assumption) rfl ?_)
               | (refine Prs.ln (by assumption) ?_)
               | (refine Trs.ln (by assumption) ?_)
               | (refine Prs.ix (by assumption) (by omega) ?_)
               | (refine Trs.ix (by assumption) (by omega) ?_)
               | (refine Prs.ldN (by assumption) (by omega) ?_)
               | (refine Trs.ldN (by assumption) (by omega) ?_)
               | (refine At.ldN (Blk.at (by assumption)) rfl ?_)
               | (refine At.ld (Blk.at (by assumption)) rfl ?_)
               | (refine IxA.mk (by omega) ?_)
               | (refine Sl.ln (Own.sl (by assumption)) ?_)
               | (refine Ints.ix (Own.sl (by assumption)) (by omega) ?_)
               | (refine Ints.ixI (Own.sl (by assumption)) (by omega) ?_)
               | (refine Ints.ld (Own.sl (by assumption)) (by omega) ?_))
      refine VC.rc (clone_rc Hx (by unfold mOf at hlx; omega)) ?_
      rintro cv w31 E31 ⟨_, HC⟩
      repeat' (conv => whnf
               first
               | (refine Rng.mk (by omega) ?_)
               | (refine Split.pos (by omega) ?_)
               | (refine Split.neg (by omega) ?_)
               | (refine Split.mk (fun h => ?_) (fun h => ?_))
               | (refine Need.mk (by omega) ?_)
               | (refine Ints.ln (by assumption) ?_)
               | (refine Mat.ln (by assumption) ?_)
               | (refine Ints.ln (Mat.row (by assumption) _ (by omega)) ?_)
               | (refine Ints.ix (by assumption) (by omega) ?_)
               | (refine Mat.ix (by assumption) (by omega) ?_)
               | (refine Ints.ix (Mat.row (by assumption) _ (by omega)) (by omega) ?_)
               | (refine Ints.ix (c := 0) (by assumption) (by omega) ?_)
               | (refine Mat.ix (c := 0) (by assumption) (by omega) ?_)
               | (refine Ints.ix (c := 0) (Mat.row (by assumption) _ (by omega)) (by omega) ?_)
               | (refine Ints.ixI (by assumption) (by omega) ?_)
               | (refine Mat.ixI (by assumption) (by omega) ?_)
               | (refine Ints.ixI (Mat.row (by assumption) _ (by omega)) (by omega) ?_)
               | (refine Ints.ld (by assumption) (by omega) ?_)
               | (refine Mat.ld (by assumption) (by omega) ?_)
               | (refine Ints.ld (Mat.row (by assumption) _ (by omega)) (by omega) ?_)
               | (refine At.ld (by assumption) rfl ?_)
               | (refine At.ldN (by assumption) rfl ?_)
               | (refine Prs.ln (by assumption) ?_)
               | (refine Trs.ln (by assumption) ?_)
               | (refine Prs.ix (by assumption) (by omega) ?_)
               | (refine Trs.ix (by assumption) (by omega) ?_)
               | (refine Prs.ldN (by assumption) (by omega) ?_)
               | (refine Trs.ldN (by assumption) (by omega) ?_)
               | (refine At.ldN (Blk.at (by assumption)) rfl ?_)
               | (refine At.ld (Blk.at (by assumption)) rfl ?_)
               | (refine IxA.mk (by omega) ?_)
               | (refine Sl.ln (Own.sl (by assumption)) ?_)
               | (refine Ints.ix (Own.sl (by assumption)) (by omega) ?_)
               | (refine Ints.ixI (Own.sl (by assumption)) (by omega) ?_)
               | (refine Ints.ld (Own.sl (by assumption)) (by omega) ?_))
      refine Blk.set0 (HrW.ext E31) (by decide) (Sl.cells (Own.sl HC)).2 fun w32 G32 Hr2 => ?_
      repeat' (conv => whnf
               first
               | (refine Rng.mk (by omega) ?_)
               | (refine Split.pos (by omega) ?_)
               | (refine Split.neg (by omega) ?_)
               | (refine Split.mk (fun h => ?_) (fun h => ?_))
               | (refine Need.mk (by omega) ?_)
               | (refine Ints.ln (by assumption) ?_)
               | (refine Mat.ln (by assumption) ?_)
               | (refine Ints.ln (Mat.row (by assumption) _ (by omega)) ?_)
               | (refine Ints.ix (by assumption) (by omega) ?_)
               | (refine Mat.ix (by assumption) (by omega) ?_)
               | (refine Ints.ix (Mat.row (by assumption) _ (by omega)) (by omega) ?_)
               | (refine Ints.ix (c := 0) (by assumption) (by omega) ?_)
               | (refine Mat.ix (c := 0) (by assumption) (by omega) ?_)
               | (refine Ints.ix (c := 0) (Mat.row (by assumption) _ (by omega)) (by omega) ?_)
               | (refine Ints.ixI (by assumption) (by omega) ?_)
               | (refine Mat.ixI (by assumption) (by omega) ?_)
               | (refine Ints.ixI (Mat.row (by assumption) _ (by omega)) (by omega) ?_)
               | (refine Ints.ld (by assumption) (by omega) ?_)
               | (refine Mat.ld (by assumption) (by omega) ?_)
               | (refine Ints.ld (Mat.row (by assumption) _ (by omega)) (by omega) ?_)
               | (refine At.ld (by assumption) rfl ?_)
               | (refine At.ldN (by assumption) rfl ?_)
               | (refine Prs.ln (by assumption) ?_)
               | (refine Trs.ln (by assumption) ?_)
               | (refine Prs.ix (by assumption) (by omega) ?_)
               | (refine Trs.ix (by assumption) (by omega) ?_)
               | (refine Prs.ldN (by assumption) (by omega) ?_)
               | (refine Trs.ldN (by assumption) (by omega) ?_)
               | (refine At.ldN (Blk.at (by assumption)) rfl ?_)
               | (refine At.ld (Blk.at (by assumption)) rfl ?_)
               | (refine IxA.mk (by omega) ?_)
               | (refine Sl.ln (Own.sl (by assumption)) ?_)
               | (refine Ints.ix (Own.sl (by assumption)) (by omega) ?_)
               | (refine Ints.ixI (Own.sl (by assumption)) (by omega) ?_)
               | (refine Ints.ld (Own.sl (by assumption)) (by omega) ?_))
      exact ⟨⟨rfl, pre, x, cv, rfl, hno, hab, Hr2, Own.base (Own.gr HC G32 (fun q hq hS => by have := (Own.lt HC q hq).1; omega)) hn2⟩, (Gr.ofExt E31 : Gr _ _ _).trans (G32.mono fun k _ h => .inl h)⟩
    · rw [tf_f hab] at ci
      repeat' (conv => whnf
               first
               | (refine At.ld (i := 0) (Blk.at HfW) rfl ?_)
               | (refine VC.pure ci ?_)
               | (refine Rng.mk (by omega) ?_)
               | (refine Split.pos (by omega) ?_)
               | (refine Split.neg (by omega) ?_)
               | (refine Split.mk (fun h => ?_) (fun h => ?_))
               | (refine Need.mk (by omega) ?_)
               | (refine Ints.ln (by assumption) ?_)
               | (refine Mat.ln (by assumption) ?_)
               | (refine Ints.ln (Mat.row (by assumption) _ (by omega)) ?_)
               | (refine Ints.ix (by assumption) (by omega) ?_)
               | (refine Mat.ix (by assumption) (by omega) ?_)
               | (refine Ints.ix (Mat.row (by assumption) _ (by omega)) (by omega) ?_)
               | (refine Ints.ix (c := 0) (by assumption) (by omega) ?_)
               | (refine Mat.ix (c := 0) (by assumption) (by omega) ?_)
               | (refine Ints.ix (c := 0) (Mat.row (by assumption) _ (by omega)) (by omega) ?_)
               | (refine Ints.ixI (by assumption) (by omega) ?_)
               | (refine Mat.ixI (by assumption) (by omega) ?_)
               | (refine Ints.ixI (Mat.row (by assumption) _ (by omega)) (by omega) ?_)
               | (refine Ints.ld (by assumption) (by omega) ?_)
               | (refine Mat.ld (by assumption) (by omega) ?_)
               | (refine Ints.ld (Mat.row (by assumption) _ (by omega)) (by omega) ?_)
               | (refine At.ld (by assumption) rfl ?_)
               | (refine At.ldN (by assumption) rfl ?_)
               | (refine Prs.ln (by assumption) ?_)
               | (refine Trs.ln (by assumption) ?_)
               | (refine Prs.ix (by assumption) (by omega) ?_)
               | (refine Trs.ix (by assumption) (by omega) ?_)
               | (refine Prs.ldN (by assumption) (by omega) ?_)
               | (refine Trs.ldN (by assumption) (by omega) ?_)
               | (refine At.ldN (Blk.at (by assumption)) rfl ?_)
               | (refine At.ld (Blk.at (by assumption)) rfl ?_)
               | (refine IxA.mk (by omega) ?_)
               | (refine Sl.ln (Own.sl (by assumption)) ?_)
               | (refine Ints.ix (Own.sl (by assumption)) (by omega) ?_)
               | (refine Ints.ixI (Own.sl (by assumption)) (by omega) ?_)
               | (refine Ints.ld (Own.sl (by assumption)) (by omega) ?_))
      exact ⟨⟨fun y hy => by rcases List.mem_append.1 hy with h | h; exact hno y h; simp at h; subst h; exact hab, HrW⟩, Gr.refl _ _⟩
  case done =>
    intro D n1 W hD hDn hI hG hdf
    obtain ⟨hno, HrW⟩ := hI
    have EW : Ext w1 W := EE.new hG (fun i hi hk => by omega)
    repeat' (conv => whnf
             first
             | (refine Rng.mk (by omega) ?_)
             | (refine Split.pos (by omega) ?_)
             | (refine Split.neg (by omega) ?_)
             | (refine Split.mk (fun h => ?_) (fun h => ?_))
             | (refine Need.mk (by omega) ?_)
             | (refine Ints.ln (by assumption) ?_)
             | (refine Mat.ln (by assumption) ?_)
             | (refine Ints.ln (Mat.row (by assumption) _ (by omega)) ?_)
             | (refine Ints.ix (by assumption) (by omega) ?_)
             | (refine Mat.ix (by assumption) (by omega) ?_)
             | (refine Ints.ix (Mat.row (by assumption) _ (by omega)) (by omega) ?_)
             | (refine Ints.ix (c := 0) (by assumption) (by omega) ?_)
             | (refine Mat.ix (c := 0) (by assumption) (by omega) ?_)
             | (refine Ints.ix (c := 0) (Mat.row (by assumption) _ (by omega)) (by omega) ?_)
             | (refine Ints.ixI (by assumption) (by omega) ?_)
             | (refine Mat.ixI (by assumption) (by omega) ?_)
             | (refine Ints.ixI (Mat.row (by assumption) _ (by omega)) (by omega) ?_)
             | (refine Ints.ld (by assumption) (by omega) ?_)
             | (refine Mat.ld (by assumption) (by omega) ?_)
             | (refine Ints.ld (Mat.row (by assumption) _ (by omega)) (by omega) ?_)
             | (refine At.ld (by assumption) rfl ?_)
             | (refine At.ldN (by assumption) rfl ?_)
             | (refine Prs.ln (by assumption) ?_)
             | (refine Trs.ln (by assumption) ?_)
             | (refine Prs.ix (by assumption) (by omega) ?_)
             | (refine Trs.ix (by assumption) (by omega) ?_)
             | (refine Prs.ldN (by assumption) (by omega) ?_)
             | (refine Trs.ldN (by assumption) (by omega) ?_)
             | (refine At.ldN (Blk.at (by assumption)) rfl ?_)
             | (refine At.ld (Blk.at (by assumption)) rfl ?_)
             | (refine IxA.mk (by omega) ?_)
             | (refine Sl.ln (Own.sl (by assumption)) ?_)
             | (refine Ints.ix (Own.sl (by assumption)) (by omega) ?_)
             | (refine Ints.ixI (Own.sl (by assumption)) (by omega) ?_)
             | (refine Ints.ld (Own.sl (by assumption)) (by omega) ?_))
    refine Blk.set0 HrW (by decide) rfl fun w32 G32 Hr2 => ?_
    have E32 : Ext w1 w32 := EW.new G32 (fun i hi hk => by omega)
    repeat' (conv => whnf
             first
             | (refine Rng.mk (by omega) ?_)
             | (refine Split.pos (by omega) ?_)
             | (refine Split.neg (by omega) ?_)
             | (refine Split.mk (fun h => ?_) (fun h => ?_))
             | (refine Need.mk (by omega) ?_)
             | (refine Ints.ln (by assumption) ?_)
             | (refine Mat.ln (by assumption) ?_)
             | (refine Ints.ln (Mat.row (by assumption) _ (by omega)) ?_)
             | (refine Ints.ix (by assumption) (by omega) ?_)
             | (refine Mat.ix (by assumption) (by omega) ?_)
             | (refine Ints.ix (Mat.row (by assumption) _ (by omega)) (by omega) ?_)
             | (refine Ints.ix (c := 0) (by assumption) (by omega) ?_)
             | (refine Mat.ix (c := 0) (by assumption) (by omega) ?_)
             | (refine Ints.ix (c := 0) (Mat.row (by assumption) _ (by omega)) (by omega) ?_)
             | (refine Ints.ixI (by assumption) (by omega) ?_)
             | (refine Mat.ixI (by assumption) (by omega) ?_)
             | (refine Ints.ixI (Mat.row (by assumption) _ (by omega)) (by omega) ?_)
             | (refine Ints.ld (by assumption) (by omega) ?_)
             | (refine Mat.ld (by assumption) (by omega) ?_)
             | (refine Ints.ld (Mat.row (by assumption) _ (by omega)) (by omega) ?_)
             | (refine At.ld (by assumption) rfl ?_)
             | (refine At.ldN (by assumption) rfl ?_)
             | (refine Prs.ln (by assumption) ?_)
             | (refine Trs.ln (by assumption) ?_)
             | (refine Prs.ix (by assumption) (by omega) ?_)
             | (refine Trs.ix (by assumption) (by omega) ?_)
             | (refine Prs.ldN (by assumption) (by omega) ?_)
             | (refine Trs.ldN (by assumption) (by omega) ?_)
             | (refine At.ldN (Blk.at (by assumption)) rfl ?_)
             | (refine At.ld (Blk.at (by assumption)) rfl ?_)
             | (refine IxA.mk (by omega) ?_)
             | (refine Sl.ln (Own.sl (by assumption)) ?_)
             | (refine Ints.ix (Own.sl (by assumption)) (by omega) ?_)
             | (refine Ints.ixI (Own.sl (by assumption)) (by omega) ?_)
             | (refine Ints.ld (Own.sl (by assumption)) (by omega) ?_))
    refine ⟨dfd_gr hdf G32 (by omega), fun w33 G33 => ?_⟩
    have Hr3 := Hr2.gr G33 (by omega)
    conv => whnf
    refine At.ld (i := 0) (Blk.at Hr3) rfl ?_
    conv => whnf
    refine ⟨E32.new G33 (fun i hi hk => by omega), ?_⟩
    rw [imp_none hno]
    rfl
  case stop =>
    intro D n1 c pre W hD hDn hpre hI hG hdf
    obtain ⟨rfl, pre0, x, cv, rfl, hno, hab, HrW, HC⟩ := hI
    have EW : Ext w1 W := EE.new hG (fun i hi hk => by omega)
    conv => whnf
    refine ⟨hdf, fun w33 G33 => ?_⟩
    have Hr3 := HrW.gr G33 (by omega)
    conv => whnf
    refine At.ld (i := 0) (Blk.at Hr3) rfl ?_
    conv => whnf
    refine ⟨EW.new G33 (fun i hi hk => by omega), ?_⟩
    have hi := imp_some hpre hno hab
    rw [hi]
    exact ⟨Own.base (Own.gr HC G33 (fun q hq hS => by have := (Own.lt HC q hq).1; omega)) (Nat.zero_le _), (imp_ne hv hi).2⟩
end Go.Proofs.Ytebklnmafjbhcaa
set_option linter.unusedVariables false
set_option linter.unusedSimpArgs false
namespace Go.Eng
open Go.RowKit Go.ChangeShapes Go.WideShapes Go.ChangeAt

section
variable {H : Type} {enc : TypeId × Value → H} {P : Program} {w : World} {base b0 : Nat} {spare : Nat → Bool} {held : Bool} {r : Reach} {v : Value} {d : DataW H} {ps : List MemPlace}

theorem open_I {t : TypeId} (ht : P.underlying t = some (.int .i64)) (hv : Value.okWide P w r b0 t v) (hd : DataW.Trod enc P w base spare held t v d ps) : ∃ n, v = .int .i64 n ∧ I64 n := by
  obtain ⟨n, rfl⟩ := okWide_int ht hv
  obtain ⟨fuel, h⟩ := hd
  obtain ⟨m, hm, hr⟩ := read_i64 ht h
  simp [Value.cells] at hm; subst hm
  exact ⟨_, rfl, hr⟩

theorem open_B {t : TypeId} (ht : P.underlying t = some .bool) (hv : Value.okWide P w r b0 t v) : ∃ n, v = .bool n := okWide_bool ht hv

theorem open_L {t e : TypeId} (ht : P.underlying t = some (.slice e)) (he : P.underlying e = some (.int .i64)) (hs : P.cellsOf e = 1) (hv : Value.okWide P w r b0 t v) (hd : DataW.Trod enc P w base spare held t v d ps) : ∃ l, Ints w v l ∧ ∀ i, I64 (l.getD i 0) := by
  obtain ⟨a, n, c, rfl⟩ := okWide_slice ht hv
  obtain ⟨fuel, h⟩ := hd
  obtain ⟨m, l, hm, h1, h2⟩ := read_ints ht he hs h
  simp [Value.cells] at hm; subst hm
  exact ⟨l, h1, h2⟩

theorem open_M {t e q : TypeId} (ht : P.underlying t = some (.slice e)) (he : P.underlying e = some (.slice q)) (hq : P.underlying q = some (.int .i64)) (hs : P.cellsOf e = 1) (hs2 : P.cellsOf q = 1) (hv : Value.okWide P w r b0 t v) (hd : DataW.Trod enc P w base spare held t v d ps) :
    ∃ vs rr, Mat w v vs rr ∧ ∀ i j, I64 ((rr.getD i []).getD j 0) := by
  obtain ⟨a, n, c, rfl⟩ := okWide_slice ht hv
  obtain ⟨fuel, h⟩ := hd
  obtain ⟨m, vs, rr, hm, h1, h2⟩ := read_mat ht he hq hs hs2 h
  simp [Value.cells] at hm; subst hm
  exact ⟨vs, rr, h1, h2⟩

/-- A struct of one matrix. -/
theorem open_G {t e q : TypeId} {f : Field} (ht : P.underlying t = some (.struct #[f])) (ho : f.offset = 0) (hc : P.cellsOf t = 1) (hcf : P.cellsOf f.type = 1) (hf : P.underlying f.type = some (.slice e)) (he : P.underlying e = some (.slice q)) (hq : P.underlying q = some (.int .i64)) (hs : P.cellsOf e = 1) (hs2 : P.cellsOf q = 1)
    (hv : Value.okWide P w r b0 t v) (hd : DataW.Trod enc P w base spare held t v d ps) : ∃ gv vs rr, v = .agg #[gv] ∧ Mat w gv vs rr ∧ ∀ i j, I64 ((rr.getD i []).getD j 0) := by
  obtain ⟨cs, rfl, hcs⟩ := okWide_struct ht hv
  obtain ⟨fuel, h⟩ := hd
  obtain ⟨y, n, _, hl, hy⟩ := trod_struct1 ht h
  rw [ho, hcf] at hy
  obtain ⟨u, vs, rr, hm, h1, h2⟩ := read_mat hf he hq hs hs2 hy
  have hsz : cs.size = 1 := by omega
  have : cs = #[u] := by
    apply Array.toList_inj.1
    simp only [Value.cells, List.drop_zero] at hm
    rw [List.take_of_length_le (by simp [hsz])] at hm
    simpa using hm
  subst this
  exact ⟨u, vs, rr, rfl, h1, h2⟩
end
end Go.Eng
set_option linter.unusedVariables false
set_option linter.unusedSimpArgs false
namespace Go.Eng
open Go.RowKit Go.ChangeShapes Go.WideShapes Go.ChangeAt Go.Deep

section
variable {H : Type} {enc : TypeId × Value → H} {P : Program} {w : World} {base b0 : Nat} {spare : Nat → Bool} {held : Bool} {r : Reach} {v : Value} {d : DataW H} {ps : List MemPlace}

theorem read_three {t : TypeId} {f0 f1 f2 : Field} {fuel : Nat} {cs : List Value} {x : DataW H × List MemPlace} (ht : P.underlying t = some (.struct #[f0, f1, f2])) (ho : f0.offset = 0 ∧ f1.offset = 1 ∧ f2.offset = 2) (hc : P.cellsOf t = 3)
    (hs : P.cellsOf f0.type = 1 ∧ P.cellsOf f1.type = 1 ∧ P.cellsOf f2.type = 1) (h0 : P.underlying f0.type = some (.int .i64)) (h1 : P.underlying f1.type = some (.int .i64)) (h2 : P.underlying f2.type = some (.int .i64))
    (h : DataW.trod enc P w base spare held fuel t cs = some x) : ∃ a b c, cs = [.int .i64 a, .int .i64 b, .int .i64 c] ∧ I64 a ∧ I64 b ∧ I64 c := by
  obtain ⟨y0, y1, y2, n, _, hl, e0, e1, e2⟩ := trod_struct3 ht h
  rw [ho.1, hs.1] at e0
  rw [ho.2.1, hs.2.1] at e1
  rw [ho.2.2, hs.2.2] at e2
  obtain ⟨a, ha, ra⟩ := read_i64 h0 e0
  obtain ⟨b, hb, rb⟩ := read_i64 h1 e1
  obtain ⟨c, hc', rc⟩ := read_i64 h2 e2
  refine ⟨a, b, c, ?_, ra, rb, rc⟩
  rw [hc] at hl
  match cs, hl with
  | [x, y, z], _ =>
    simp at ha hb hc'
    rw [ha, hb, hc']

/-- A struct of three ints. -/
theorem open_P {t : TypeId} {f0 f1 f2 : Field} (ht : P.underlying t = some (.struct #[f0, f1, f2])) (ho : f0.offset = 0 ∧ f1.offset = 1 ∧ f2.offset = 2) (hc : P.cellsOf t = 3)
    (hs : P.cellsOf f0.type = 1 ∧ P.cellsOf f1.type = 1 ∧ P.cellsOf f2.type = 1) (h0 : P.underlying f0.type = some (.int .i64)) (h1 : P.underlying f1.type = some (.int .i64)) (h2 : P.underlying f2.type = some (.int .i64))
    (hv : Value.okWide P w r b0 t v) (hd : DataW.Trod enc P w base spare held t v d ps) : ∃ a b c, v = .agg #[.int .i64 a, .int .i64 b, .int .i64 c] ∧ I64 a ∧ I64 b ∧ I64 c := by
  obtain ⟨cs, rfl, hcs⟩ := okWide_struct ht hv
  obtain ⟨fuel, h⟩ := hd
  obtain ⟨a, b, c, e, ra, rb, rc⟩ := read_three ht ho hc hs h0 h1 h2 h
  refine ⟨a, b, c, ?_, ra, rb, rc⟩
  have : cs = #[.int .i64 a, .int .i64 b, .int .i64 c] := by
    apply Array.toList_inj.1
    simpa [Value.cells] using e
  rw [this]
end
end Go.Eng
set_option linter.unusedVariables false
set_option linter.unusedSimpArgs false
namespace Go.Eng
open Go.RowKit

section
variable {P : Program} {w : World} {t e : TypeId} {x y : Operand} {v : Value} {K : Value → Prop}
theorem VS.eqnil (b : Bool) (ht : P.underlying t = some (.slice e)) (h : ∃ a n c, v = .slice a n c ∧ a.isNone = b) (hk : K (.bool b)) : VS P (binSem .eql t x y v (.slice none 0 0)) w K := by
  obtain ⟨a, n, c, rfl, rfl⟩ := h
  refine VS.mk (fun w1 _ => ?_) hk
  simp only [binSem, eqGuard, Sem.run_bind, binOp]
  simp [Op.equal, Op.maxDepth, Lib.run_equalIn_slice_nil w1 9999 t e a n c 0 0 ht]
theorem VS.nenil (b : Bool) (ht : P.underlying t = some (.slice e)) (h : ∃ a n c, v = .slice a n c ∧ a.isNone = b) (hk : K (.bool (!b))) : VS P (binSem .neq t x y v (.slice none 0 0)) w K := by
  obtain ⟨a, n, c, rfl, rfl⟩ := h
  refine VS.mk (fun w1 _ => ?_) hk
  have h := run_neq_slice_nil_any w1 t e a n c 0 0 ht
  simp only [binSem, eqGuard, Sem.run_bind]
  simpa using h
theorem Own.some_of {B s n : Nat} {e : TypeId} {xs : List Value} (h : Own B e s w v n xs) (hn : n ≠ 0) : ∃ a m c, v = .slice a m c ∧ a.isNone = false := by
  rcases h.2 with ⟨_, h0⟩ | ⟨g, cap, cur, rfl, _⟩
  · exact absurd h0 hn
  · exact ⟨_, _, _, rfl, rfl⟩
end

/-- A new box, as a block. -/
theorem Bx.blk {T : TypeId} {l : List Value} {w : World} {K : Value → World → Prop} (h : ∀ (b : Nat) w', Ext w w' → w.heap.size ≤ b → Blk w' b T l → K (.pointer (some ⟨b, 0, none⟩)) w') : Bx T (.agg l.toArray) w K := by
  simp only [Bx]
  intro w1 hw1
  exact h w1.heap.size _ (hw1.alloc _) hw1.size (Blk.new w1 T l)

theorem places_run {P : Program} {w : World} : ∀ {l : List Field}, (∀ f ∈ l, P.cellsOf f.type ≠ 0) →
    ((l.toArray).mapM (m := Sem) fun f => do pure (f.offset, ← Go.sizeOf f.type)).run P w = .ok (l.map fun f => (f.offset, P.cellsOf f.type)).toArray w := by
  intro l hl
  rw [List.mapM_toArray]
  have h := mapM_run (P := P) (w := w) (fun f : Field => (do pure (f.offset, ← Go.sizeOf f.type) : Sem (Nat × Nat))) (fun f => (f.offset, P.cellsOf f.type)) l (fun f hf => by
    simp only [Sem.run_bind, sizeOf_run rfl (hl f hf), Result.andThen_ok, Sem.run_pure])
  simp only [Sem.run_bind, Sem.run_map, h, Result.andThen_ok, Sem.run_pure]
  try rfl
theorem fill_at (pl : Array (Nat × Nat)) (n : Nat) : ∀ (ps : List (Nat × Value)) (zc : Array Value), (∀ p ∈ ps, pl[p.1]? = some (p.1, 1) ∧ p.1 < n ∧ p.2.cells = #[p.2]) → zc.size = n →
    Instr.fill (pl[·]?) zc ps = some (ps.foldl (fun c p => c.setIfInBounds p.1 p.2) zc)
  | [], zc, _, _ => rfl
  | (i, v) :: ps, zc, h, hz => by
    obtain ⟨e2, h1, h2⟩ := h (i, v) (by simp)
    have h1 : i < n := h1
    have h2 : v.cells = #[v] := h2
    have e2 : pl[i]? = some (i, 1) := e2
    have e3 : ¬ (decide (#[v].size ≠ 1) || decide (i + #[v].size > zc.size)) = true := by simp; omega
    have e4 : Array.foldl (fun (cs : Array Value) (x : Value × Nat) => cs.setIfInBounds (i + x.snd) x.fst) zc #[v].zipIdx = zc.setIfInBounds i v := by simp [Array.zipIdx]
    simp only [Instr.fill, e2, h2, List.foldl_cons]
    rw [if_neg e3, e4]
    exact fill_at pl n ps _ (fun p hp => h p (by simp [hp])) (by simpa using hz)
/-- 'T{F: x, ..}', fields of several cells among the others. -/
theorem VS.sparse2 {P : Program} {w : World} {t : TypeId} {zc : Array Value} {N b : Nat} {l : List Field} {ps : List (Nat × Value)} {K : Value → Prop} (ht : P.underlying t = some (.struct l.toArray)) (hz : Elem P t (.agg zc) N b)
    (hg : ∀ f ∈ l, P.cellsOf f.type ≠ 0) (hv : ∀ p ∈ ps, (l.map fun f => (f.offset, P.cellsOf f.type)).toArray[p.1]? = some (p.1, 1) ∧ p.1 < zc.size ∧ p.2.cells = #[p.2])
    (hk : K (.agg (ps.foldl (fun c p => c.setIfInBounds p.1 p.2) zc))) : VS P (Instr.build t ps.toArray) w K := by
  refine VS.mk (v := .agg (ps.foldl (fun c p => c.setIfInBounds p.1 p.2) zc)) (fun w1 _ => ?_) hk
  obtain ⟨i, hi, hz1, _, _⟩ := hz.info
  have hfill := fill_at _ zc.size ps zc hv rfl
  simp only [Instr.build, Sem.run_bind, zeroValue, typeInfo, run_program, Result.andThen_ok, hi, hz1, Sem.run_pure, run_underlying ht, places_run hg, Value.cells, hfill]
theorem VS.sparseR {P : Program} {w : World} {t : TypeId} {zc : Array Value} {N b : Nat} {l : List Field} {ps : List (Nat × Value)} {K : Value → Prop} (r : Array Value) (ht : P.underlying t = some (.struct l.toArray)) (hz : Elem P t (.agg zc) N b)
    (hg : ∀ f ∈ l, P.cellsOf f.type ≠ 0) (hv : ∀ p ∈ ps, (l.map fun f => (f.offset, P.cellsOf f.type)).toArray[p.1]? = some (p.1, 1) ∧ p.1 < zc.size ∧ p.2.cells = #[p.2]) (hr : ps.foldl (fun c p => c.setIfInBounds p.1 p.2) zc = r)
    (hk : K (.agg r)) : VS P (Instr.build t ps.toArray) w K := VS.sparse2 ht hz hg hv (by rw [hr]; exact hk)
end Go.Eng
set_option linter.unusedVariables false
set_option linter.unusedSimpArgs false
namespace Go.Proofs.Ytebklnmafjbhcaa
open Go.Eng
set_option maxRecDepth 100000
set_option maxHeartbeats 4000000

theorem ImpV.ext {w w' : World} {v : Value} {o : Option (List Int)} (h : ImpV w v o) (hg : Ext w w') : ImpV w' v o := by
  cases o with
  | none => exact h
  | some b => exact ⟨Own.ext h.1 hg, h.2⟩
theorem ImpV.sl {w : World} {v : Value} {o : Option (List Int)} (h : ImpV w v o) : Ints w v (o.getD []) := by
  cases o with
  | none => have h : v = .slice none 0 0 := h; subst h; exact Own.sl (B := 0) (e := 3) Own.nil
  | some b => exact Own.sl h.1
theorem imp_at {rr : List (List Int)} {a : List Int} {c : Nat} (hc : c < tot rr) (h1 : ∀ j, j < c → ¬ abv rr a (digs rr.length (mOf rr) j)) (h2 : abv rr a (digs rr.length (mOf rr) c)) : imp rr a = some (digs rr.length (mOf rr) c) := by
  refine imp_some (pre := (lists rr).take c) (by rw [← lists_snoc hc]; exact List.take_prefix _ _) (fun y hy => ?_) h2
  obtain ⟨j, hj, e⟩ := List.getElem_of_mem hy
  rw [List.length_take, lists_len] at hj
  have e2 : y = digs rr.length (mOf rr) j := by
    rw [← e, List.getElem_take]
    have := lists_get (rr := rr) (show j < tot rr by omega)
    rw [List.getD_eq_getElem?_getD, List.getElem?_eq_getElem (by rw [lists_len]; omega), Option.getD_some] at this
    exact this
  rw [e2]; exact h1 j (by omega)
theorem imp_no {rr : List (List Int)} {a : List Int} (h : ∀ j, j < tot rr → ¬ abv rr a (digs rr.length (mOf rr) j)) : imp rr a = none := by
  refine imp_none fun y hy => ?_
  obtain ⟨j, hj, e⟩ := List.getElem_of_mem hy
  rw [lists_len] at hj
  have := lists_get hj
  rw [List.getD_eq_getElem?_getD, List.getElem?_eq_getElem (by rw [lists_len]; exact hj), Option.getD_some, e] at this
  rw [this]; exact h j hj
theorem nxt_cb {rr : List (List Int)} (hn : 1 ≤ rr.length) {c : Nat} (h : c < tot rr) : (nxt rr.length (digs rr.length (mOf rr) c)).1 = decide (c + 1 < tot rr) ∧ (c + 1 < tot rr → (nxt rr.length (digs rr.length (mOf rr) c)).2 = digs rr.length (mOf rr) (c + 1)) := by
  have := nxt_digs hn (j := mOf rr) (k := c) h
  unfold tot at *
  by_cases h2 : c + 1 < rr.length ^ mOf rr
  · rw [if_pos h2] at this; rw [this]; exact ⟨by simp [h2], fun _ => rfl⟩
  · rw [if_neg h2] at this; rw [this]; exact ⟨by simp [h2], fun h3 => absurd h3 h2⟩

theorem rfirst_rc {w : World} {gv av : Value} {vs : List Value} {rr : List (List Int)} {a : List Int} (Hg : Mat w gv vs rr) (Ha : Ints w av a) (hv : vld rr a = 0) :
    RC Try.prog 76 [.agg #[gv], av] w NoB (fun u w' => ∃ v, u = .tuple #[v, .bool (imp rr a).isSome] ∧ ImpV w' v (imp rr a)) := by
  refine RC.mk tyOk Try.func76 rfl (by kernel_rfl) fun w1 E1 => ?_
  replace Hg := Hg.ext E1
  replace Ha := Ha.ext E1
  have EE := Ext.refl w1
  refine Bx.agg fun b2 w2 E2 hb2 Hb _ => ?_
  replace Hg := Hg.ext E2
  replace Ha := Ha.ext E2
  replace EE := EE.ext E2
  have hck := chk_of_vld hv
  have hgd := gd_of_chk hck
  have hn := hgd.n6
  have hn1 := hgd.n1
  have hm := hgd.m10
  have hmO : mOf rr = (rr.getD 0 []).length := rfl
  have hal := al_of_vld hv
  have hlen := hal.len
  repeat' (conv => whnf
           first
           | (refine Dr.quiet tyOk (by kernel_rfl) ?_)
           | (refine Rng.mk (by omega) ?_)
           | (refine Split.pos (by omega) ?_)
           | (refine Split.neg (by omega) ?_)
           | (refine Split.mk (fun h => ?_) (fun h => ?_))
           | (refine Need.mk (by omega) ?_)
           | (refine Ints.ln (by assumption) ?_)
           | (refine Mat.ln (by assumption) ?_)
           | (refine Ints.ln (Mat.row (by assumption) _ (by omega)) ?_)
           | (refine Ints.ix (by assumption) (by omega) ?_)
           | (refine Mat.ix (by assumption) (by omega) ?_)
           | (refine Ints.ix (Mat.row (by assumption) _ (by omega)) (by omega) ?_)
           | (refine Ints.ix (c := 0) (by assumption) (by omega) ?_)
           | (refine Mat.ix (c := 0) (by assumption) (by omega) ?_)
           | (refine Ints.ix (c := 0) (Mat.row (by assumption) _ (by omega)) (by omega) ?_)
           | (refine Ints.ixI (by assumption) (by omega) ?_)
           | (refine Mat.ixI (by assumption) (by omega) ?_)
           | (refine Ints.ixI (Mat.row (by assumption) _ (by omega)) (by omega) ?_)
           | (refine Ints.ld (by assumption) (by omega) ?_)
           | (refine Mat.ld (by assumption) (by omega) ?_)
           | (refine Ints.ld (Mat.row (by assumption) _ (by omega)) (by omega) ?_)
           | (refine At.ld (by assumption) rfl ?_)
           | (refine At.ldN (by assumption) rfl ?_)
           | (refine Prs.ln (by assumption) ?_)
           | (refine Trs.ln (by assumption) ?_)
           | (refine Prs.ix (by assumption) (by omega) ?_)
           | (refine Trs.ix (by assumption) (by omega) ?_)
           | (refine Prs.ldN (by assumption) (by omega) ?_)
           | (refine Trs.ldN (by assumption) (by omega) ?_)
           | (refine At.ldN (Blk.at (by assumption)) rfl ?_)
           | (refine At.ld (Blk.at (by assumption)) rfl ?_)
           | (refine IxA.mk (by omega) ?_)
           | (refine Sl.ln (Own.sl (by assumption)) ?_)
           | (refine Ints.ix (Own.sl (by assumption)) (by omega) ?_)
           | (refine Ints.ixI (Own.sl (by assumption)) (by omega) ?_)
           | (refine Ints.ld (Own.sl (by assumption)) (by omega) ?_))
  have Hg__1 := Hg
  have Ha__1 := Ha
  have EE__1 := EE
  have Hb__1 := Hb
  conv => whnf
  refine VE.made (n := a.length) Try.underlying25 eInt rfl (by omega) (by omega) fun bv w3 E3 HB hb_bv => ?_
  replace Hg := Hg.ext E3
  replace Ha := Ha.ext E3
  replace EE := EE.ext E3
  replace Hb := Hb.ext E3
  replace HB := OB.made (HB _ (Nat.le_refl _))
  have EL1 := E3
  rw [show a.length = mOf rr from hlen, ← digs_zero rr.length] at HB
  have hdl := digs_len rr.length (mOf rr)
  have hl0 := hdl 0
  repeat' (conv => whnf
           first
           | (refine Dr.quiet tyOk (by kernel_rfl) ?_)
           | (refine Rng.mk (by omega) ?_)
           | (refine Split.pos (by omega) ?_)
           | (refine Split.neg (by omega) ?_)
           | (refine Split.mk (fun h => ?_) (fun h => ?_))
           | (refine Need.mk (by omega) ?_)
           | (refine Ints.ln (by assumption) ?_)
           | (refine Mat.ln (by assumption) ?_)
           | (refine Ints.ln (Mat.row (by assumption) _ (by omega)) ?_)
           | (refine Ints.ix (by assumption) (by omega) ?_)
           | (refine Mat.ix (by assumption) (by omega) ?_)
           | (refine Ints.ix (Mat.row (by assumption) _ (by omega)) (by omega) ?_)
           | (refine Ints.ix (c := 0) (by assumption) (by omega) ?_)
           | (refine Mat.ix (c := 0) (by assumption) (by omega) ?_)
           | (refine Ints.ix (c := 0) (Mat.row (by assumption) _ (by omega)) (by omega) ?_)
           | (refine Ints.ixI (by assumption) (by omega) ?_)
           | (refine Mat.ixI (by assumption) (by omega) ?_)
           | (refine Ints.ixI (Mat.row (by assumption) _ (by omega)) (by omega) ?_)
           | (refine Ints.ld (by assumption) (by omega) ?_)
           | (refine Mat.ld (by assumption) (by omega) ?_)
           | (refine Ints.ld (Mat.row (by assumption) _ (by omega)) (by omega) ?_)
           | (refine At.ld (by assumption) rfl ?_)
           | (refine At.ldN (by assumption) rfl ?_)
           | (refine Prs.ln (by assumption) ?_)
           | (refine Trs.ln (by assumption) ?_)
           | (refine Prs.ix (by assumption) (by omega) ?_)
           | (refine Trs.ix (by assumption) (by omega) ?_)
           | (refine Prs.ldN (by assumption) (by omega) ?_)
           | (refine Trs.ldN (by assumption) (by omega) ?_)
           | (refine At.ldN (Blk.at (by assumption)) rfl ?_)
           | (refine At.ld (Blk.at (by assumption)) rfl ?_)
           | (refine IxA.mk (by omega) ?_)
           | (refine Sl.ln (Own.sl (by assumption)) ?_)
           | (refine Ints.ix (Own.sl (by assumption)) (by omega) ?_)
           | (refine Ints.ixI (Own.sl (by assumption)) (by omega) ?_)
           | (refine Ints.ld (Own.sl (by assumption)) (by omega) ?_))
  refine Lp.mk tyOk [false, false, false, false, true, true, false, true, false, false, false, true, true, true, true, true, true, true, true, true, true, true] (fun m fr wr => getK fr 7 fun s => ∃ c : Nat, c ≤ (tot rr) ∧ m = (tot rr) - c ∧ s = .bool (decide (c < tot rr)) ∧ ((∃ A : List Int, A.length = mOf rr ∧ (c < tot rr → A = digs rr.length (mOf rr) c) ∧ OB w2.heap.size wr bv A)) ∧ (∀ j, j < c → ¬ abv rr a (digs rr.length (mOf rr) j)) ∧ Ext w2 wr) ((tot rr)) ?_ ?_
  · exact ⟨0, Nat.zero_le _, rfl, (by rw [decide_eq_true (show 0 < tot rr from tot_pos hn1)]), ⟨_, hl0, fun _ => rfl, HB⟩, (by first | exact fun _ hi => absurd hi (Nat.not_lt_zero _) | exact fun _ _ hi => absurd hi (Nat.not_lt_zero _) | assumption | exact Own.nil | omega | simp), EL1⟩
  · intro m w4 u4 u5 u7 u11 u12 u13 u14 u15 u16 u17 u18 u19 u20 u21 hR
    obtain ⟨c, hc, rfl, rfl, HX, hno, EL1⟩ := hR
    replace Hg := Hg__1.ext EL1
    replace Ha := Ha__1.ext EL1
    replace EE := EE__1.ext EL1
    replace Hb := Hb__1.ext EL1
    obtain ⟨A, hAl, hAd, HA⟩ := HX
    by_cases hct : c < tot rr
    · obtain rfl := hAd hct
      have hv2 := (digs_ok hck hct).1
      have ca := rabove_pc Hg Ha (Own.sl HA) hv hv2
      have hnx := nxt_cb hn1 hct
      have hrg := digs_rng hn1 (j := mOf rr) hct
      rw [decide_eq_true hct]
      by_cases hab : abv rr a (digs rr.length (mOf rr) c)
      · rw [tf_t hab] at ca
        have hi := imp_at hct hno hab
        repeat' (conv => whnf
                 first
                 | (refine Dr.quiet tyOk (by kernel_rfl) ?_)
                 | (refine VC.pure ca ?_)
                 | (refine Rng.mk (by omega) ?_)
                 | (refine Split.pos (by omega) ?_)
                 | (refine Split.neg (by omega) ?_)
                 | (refine Split.mk (fun h => ?_) (fun h => ?_))
                 | (refine Need.mk (by omega) ?_)
                 | (refine Ints.ln (by assumption) ?_)
                 | (refine Mat.ln (by assumption) ?_)
                 | (refine Ints.ln (Mat.row (by assumption) _ (by omega)) ?_)
                 | (refine Ints.ix (by assumption) (by omega) ?_)
                 | (refine Mat.ix (by assumption) (by omega) ?_)
                 | (refine Ints.ix (Mat.row (by assumption) _ (by omega)) (by omega) ?_)
                 | (refine Ints.ix (c := 0) (by assumption) (by omega) ?_)
                 | (refine Mat.ix (c := 0) (by assumption) (by omega) ?_)
                 | (refine Ints.ix (c := 0) (Mat.row (by assumption) _ (by omega)) (by omega) ?_)
                 | (refine Ints.ixI (by assumption) (by omega) ?_)
                 | (refine Mat.ixI (by assumption) (by omega) ?_)
                 | (refine Ints.ixI (Mat.row (by assumption) _ (by omega)) (by omega) ?_)
                 | (refine Ints.ld (by assumption) (by omega) ?_)
                 | (refine Mat.ld (by assumption) (by omega) ?_)
                 | (refine Ints.ld (Mat.row (by assumption) _ (by omega)) (by omega) ?_)
                 | (refine At.ld (by assumption) rfl ?_)
                 | (refine At.ldN (by assumption) rfl ?_)
                 | (refine Prs.ln (by assumption) ?_)
                 | (refine Trs.ln (by assumption) ?_)
                 | (refine Prs.ix (by assumption) (by omega) ?_)
                 | (refine Trs.ix (by assumption) (by omega) ?_)
                 | (refine Prs.ldN (by assumption) (by omega) ?_)
                 | (refine Trs.ldN (by assumption) (by omega) ?_)
                 | (refine At.ldN (Blk.at (by assumption)) rfl ?_)
                 | (refine At.ld (Blk.at (by assumption)) rfl ?_)
                 | (refine IxA.mk (by omega) ?_)
                 | (refine Sl.ln (Own.sl (by assumption)) ?_)
                 | (refine Ints.ix (Own.sl (by assumption)) (by omega) ?_)
                 | (refine Ints.ixI (Own.sl (by assumption)) (by omega) ?_)
                 | (refine Ints.ld (Own.sl (by assumption)) (by omega) ?_))
        refine ⟨EE, _, by rw [hi]; rfl, ?_⟩
        have hne := imp_ne hv hi
        rw [hi]
        exact ⟨Own.base HA (Nat.zero_le _), hne.2⟩
      · rw [tf_f hab] at ca
        repeat' (conv => whnf
                 first
                 | (refine Dr.quiet tyOk (by kernel_rfl) ?_)
                 | (refine VC.pure ca ?_)
                 | (refine Rng.mk (by omega) ?_)
                 | (refine Split.pos (by omega) ?_)
                 | (refine Split.neg (by omega) ?_)
                 | (refine Split.mk (fun h => ?_) (fun h => ?_))
                 | (refine Need.mk (by omega) ?_)
                 | (refine Ints.ln (by assumption) ?_)
                 | (refine Mat.ln (by assumption) ?_)
                 | (refine Ints.ln (Mat.row (by assumption) _ (by omega)) ?_)
                 | (refine Ints.ix (by assumption) (by omega) ?_)
                 | (refine Mat.ix (by assumption) (by omega) ?_)
                 | (refine Ints.ix (Mat.row (by assumption) _ (by omega)) (by omega) ?_)
                 | (refine Ints.ix (c := 0) (by assumption) (by omega) ?_)
                 | (refine Mat.ix (c := 0) (by assumption) (by omega) ?_)
                 | (refine Ints.ix (c := 0) (Mat.row (by assumption) _ (by omega)) (by omega) ?_)
                 | (refine Ints.ixI (by assumption) (by omega) ?_)
                 | (refine Mat.ixI (by assumption) (by omega) ?_)
                 | (refine Ints.ixI (Mat.row (by assumption) _ (by omega)) (by omega) ?_)
                 | (refine Ints.ld (by assumption) (by omega) ?_)
                 | (refine Mat.ld (by assumption) (by omega) ?_)
                 | (refine Ints.ld (Mat.row (by assumption) _ (by omega)) (by omega) ?_)
                 | (refine At.ld (by assumption) rfl ?_)
                 | (refine At.ldN (by assumption) rfl ?_)
                 | (refine Prs.ln (by assumption) ?_)
                 | (refine Trs.ln (by assumption) ?_)
                 | (refine Prs.ix (by assumption) (by omega) ?_)
                 | (refine Trs.ix (by assumption) (by omega) ?_)
                 | (refine Prs.ldN (by assumption) (by omega) ?_)
                 | (refine Trs.ldN (by assumption) (by omega) ?_)
                 | (refine At.ldN (Blk.at (by assumption)) rfl ?_)
                 | (refine At.ld (Blk.at (by assumption)) rfl ?_)
                 | (refine IxA.mk (by omega) ?_)
                 | (refine Sl.ln (Own.sl (by assumption)) ?_)
                 | (refine Ints.ix (Own.sl (by assumption)) (by omega) ?_)
                 | (refine Ints.ixI (Own.sl (by assumption)) (by omega) ?_)
                 | (refine Ints.ld (Own.sl (by assumption)) (by omega) ?_))
        refine VC.rc (next_rc (n := rr.length) HA (fun i hi => hrg i (by rwa [hdl c] at hi)) (by omega)) ?_
        rintro _ w20 G20 ⟨rfl, HA20⟩
        have E20 := Own.keep HA EL1 (Nat.le_refl _) G20
        repeat' (conv => whnf
                 first
                 | (refine Dr.quiet tyOk (by kernel_rfl) ?_)
                 | (refine Rng.mk (by omega) ?_)
                 | (refine Split.pos (by omega) ?_)
                 | (refine Split.neg (by omega) ?_)
                 | (refine Split.mk (fun h => ?_) (fun h => ?_))
                 | (refine Need.mk (by omega) ?_)
                 | (refine Ints.ln (by assumption) ?_)
                 | (refine Mat.ln (by assumption) ?_)
                 | (refine Ints.ln (Mat.row (by assumption) _ (by omega)) ?_)
                 | (refine Ints.ix (by assumption) (by omega) ?_)
                 | (refine Mat.ix (by assumption) (by omega) ?_)
                 | (refine Ints.ix (Mat.row (by assumption) _ (by omega)) (by omega) ?_)
                 | (refine Ints.ix (c := 0) (by assumption) (by omega) ?_)
                 | (refine Mat.ix (c := 0) (by assumption) (by omega) ?_)
                 | (refine Ints.ix (c := 0) (Mat.row (by assumption) _ (by omega)) (by omega) ?_)
                 | (refine Ints.ixI (by assumption) (by omega) ?_)
                 | (refine Mat.ixI (by assumption) (by omega) ?_)
                 | (refine Ints.ixI (Mat.row (by assumption) _ (by omega)) (by omega) ?_)
                 | (refine Ints.ld (by assumption) (by omega) ?_)
                 | (refine Mat.ld (by assumption) (by omega) ?_)
                 | (refine Ints.ld (Mat.row (by assumption) _ (by omega)) (by omega) ?_)
                 | (refine At.ld (by assumption) rfl ?_)
                 | (refine At.ldN (by assumption) rfl ?_)
                 | (refine Prs.ln (by assumption) ?_)
                 | (refine Trs.ln (by assumption) ?_)
                 | (refine Prs.ix (by assumption) (by omega) ?_)
                 | (refine Trs.ix (by assumption) (by omega) ?_)
                 | (refine Prs.ldN (by assumption) (by omega) ?_)
                 | (refine Trs.ldN (by assumption) (by omega) ?_)
                 | (refine At.ldN (Blk.at (by assumption)) rfl ?_)
                 | (refine At.ld (Blk.at (by assumption)) rfl ?_)
                 | (refine IxA.mk (by omega) ?_)
                 | (refine Sl.ln (Own.sl (by assumption)) ?_)
                 | (refine Ints.ix (Own.sl (by assumption)) (by omega) ?_)
                 | (refine Ints.ixI (Own.sl (by assumption)) (by omega) ?_)
                 | (refine Ints.ld (Own.sl (by assumption)) (by omega) ?_))
        refine ⟨_, (by omega : (tot rr) - (c + 1) < (tot rr) - c), rfl, c + 1, by omega, rfl, (by rw [hnx.1]), ⟨(nxt rr.length (digs rr.length (mOf rr) c)).2, by rw [nxt_len, hdl], hnx.2, by show Go.Eng.Own _ 3 1 _ bv (nxt rr.length (digs rr.length (mOf rr) c)).2.length _; rw [nxt_len]; exact HA20⟩, all_succ hno hab, E20⟩
    · obtain rfl : c = tot rr := by omega
      rw [decide_eq_false (Nat.lt_irrefl _)]
      repeat' (conv => whnf
               first
               | (refine Dr.quiet tyOk (by kernel_rfl) ?_)
               | (refine Rng.mk (by omega) ?_)
               | (refine Split.pos (by omega) ?_)
               | (refine Split.neg (by omega) ?_)
               | (refine Split.mk (fun h => ?_) (fun h => ?_))
               | (refine Need.mk (by omega) ?_)
               | (refine Ints.ln (by assumption) ?_)
               | (refine Mat.ln (by assumption) ?_)
               | (refine Ints.ln (Mat.row (by assumption) _ (by omega)) ?_)
               | (refine Ints.ix (by assumption) (by omega) ?_)
               | (refine Mat.ix (by assumption) (by omega) ?_)
               | (refine Ints.ix (Mat.row (by assumption) _ (by omega)) (by omega) ?_)
               | (refine Ints.ix (c := 0) (by assumption) (by omega) ?_)
               | (refine Mat.ix (c := 0) (by assumption) (by omega) ?_)
               | (refine Ints.ix (c := 0) (Mat.row (by assumption) _ (by omega)) (by omega) ?_)
               | (refine Ints.ixI (by assumption) (by omega) ?_)
               | (refine Mat.ixI (by assumption) (by omega) ?_)
               | (refine Ints.ixI (Mat.row (by assumption) _ (by omega)) (by omega) ?_)
               | (refine Ints.ld (by assumption) (by omega) ?_)
               | (refine Mat.ld (by assumption) (by omega) ?_)
               | (refine Ints.ld (Mat.row (by assumption) _ (by omega)) (by omega) ?_)
               | (refine At.ld (by assumption) rfl ?_)
               | (refine At.ldN (by assumption) rfl ?_)
               | (refine Prs.ln (by assumption) ?_)
               | (refine Trs.ln (by assumption) ?_)
               | (refine Prs.ix (by assumption) (by omega) ?_)
               | (refine Trs.ix (by assumption) (by omega) ?_)
               | (refine Prs.ldN (by assumption) (by omega) ?_)
               | (refine Trs.ldN (by assumption) (by omega) ?_)
               | (refine At.ldN (Blk.at (by assumption)) rfl ?_)
               | (refine At.ld (Blk.at (by assumption)) rfl ?_)
               | (refine IxA.mk (by omega) ?_)
               | (refine Sl.ln (Own.sl (by assumption)) ?_)
               | (refine Ints.ix (Own.sl (by assumption)) (by omega) ?_)
               | (refine Ints.ixI (Own.sl (by assumption)) (by omega) ?_)
               | (refine Ints.ld (Own.sl (by assumption)) (by omega) ?_))
      rw [imp_no hno]
      exact ⟨EE, _, rfl, rfl⟩

open Classical in noncomputable def fdE (rr : List (List Int)) (a : List Int) : Int := if lkE rr a = 0 then (if (imp rr a).isSome then 0 else 6) else lkE rr a
open Classical in noncomputable def fdR (rr : List (List Int)) (a : List Int) : Option (List Int) := if lkE rr a = 0 then imp rr a else none
theorem lkE_zero {rr : List (List Int)} {a : List Int} (h : lkE rr a = 0) : vld rr a = 0 ∧ ¬ 20000 < tot rr := by
  unfold lkE at h
  split at h
  · split at h
    · omega
    · exact ⟨‹_›, ‹_›⟩
  · exact absurd h ‹_›
theorem lkE_ok {rr : List (List Int)} {a : List Int} (h : vld rr a = 0) (h2 : ¬ 20000 < tot rr) : lkE rr a = 0 := by unfold lkE; rw [if_pos h, if_neg h2]
theorem lkE_many {rr : List (List Int)} {a : List Int} (h : vld rr a = 0) (h2 : 20000 < tot rr) : lkE rr a = 4 := by unfold lkE; rw [if_pos h, if_pos h2]
theorem lkE_vld {rr : List (List Int)} {a : List Int} (h : ¬ vld rr a = 0) : lkE rr a = vld rr a := by unfold lkE; rw [if_neg h]
theorem fd_some {rr : List (List Int)} {a b : List Int} (h : lkE rr a = 0) (hi : imp rr a = some b) : fdE rr a = 0 ∧ fdR rr a = some b := by unfold fdE fdR; rw [if_pos h, if_pos h, hi]; exact ⟨rfl, rfl⟩
theorem fd_none {rr : List (List Int)} {a : List Int} (h : lkE rr a = 0) (hi : imp rr a = none) : fdE rr a = 6 ∧ fdR rr a = none := by unfold fdE fdR; rw [if_pos h, if_pos h, hi]; exact ⟨rfl, rfl⟩
theorem fd_err {rr : List (List Int)} {a : List Int} (h : ¬ lkE rr a = 0) : fdE rr a = lkE rr a ∧ fdR rr a = none := by unfold fdE fdR; rw [if_neg h, if_neg h]; exact ⟨rfl, rfl⟩

theorem gfind_rc {w : World} {gv av : Value} {vs : List Value} {rr : List (List Int)} {a : List Int} (Hg : Mat w gv vs rr) (Ha : Ints w av a) :
    RC Try.prog 33 [.agg #[gv], av] w NoB (fun u w' => ∃ v, u = .tuple #[v, .int .i64 (fdE rr a)] ∧ ImpV w' v (fdR rr a)) := by
  refine RC.mk tyOk Try.func33 rfl (by kernel_rfl) fun w1 E1 => ?_
  replace Hg := Hg.ext E1
  replace Ha := Ha.ext E1
  have EE := Ext.refl w1
  refine Bx.agg fun b2 w2 E2 hb2 Hb _ => ?_
  replace Hg := Hg.ext E2
  replace Ha := Ha.ext E2
  replace EE := EE.ext E2
  have cl := looked_pc Hg Ha
  by_cases hE : lkE rr a = 0
  · obtain ⟨hv, ht⟩ := lkE_zero hE
    rw [hE] at cl
    repeat' (conv => whnf
             first
             | (refine Dr.quiet tyOk (by kernel_rfl) ?_)
             | (refine VC.pure cl ?_)
             | (refine Rng.mk (by omega) ?_)
             | (refine Split.pos (by omega) ?_)
             | (refine Split.neg (by omega) ?_)
             | (refine Split.mk (fun h => ?_) (fun h => ?_))
             | (refine Need.mk (by omega) ?_)
             | (refine Ints.ln (by assumption) ?_)
             | (refine Mat.ln (by assumption) ?_)
             | (refine Ints.ln (Mat.row (by assumption) _ (by omega)) ?_)
             | (refine Ints.ix (by assumption) (by omega) ?_)
             | (refine Mat.ix (by assumption) (by omega) ?_)
             | (refine Ints.ix (Mat.row (by assumption) _ (by omega)) (by omega) ?_)
             | (refine Ints.ix (c := 0) (by assumption) (by omega) ?_)
             | (refine Mat.ix (c := 0) (by assumption) (by omega) ?_)
             | (refine Ints.ix (c := 0) (Mat.row (by assumption) _ (by omega)) (by omega) ?_)
             | (refine Ints.ixI (by assumption) (by omega) ?_)
             | (refine Mat.ixI (by assumption) (by omega) ?_)
             | (refine Ints.ixI (Mat.row (by assumption) _ (by omega)) (by omega) ?_)
             | (refine Ints.ld (by assumption) (by omega) ?_)
             | (refine Mat.ld (by assumption) (by omega) ?_)
             | (refine Ints.ld (Mat.row (by assumption) _ (by omega)) (by omega) ?_)
             | (refine At.ld (by assumption) rfl ?_)
             | (refine At.ldN (by assumption) rfl ?_)
             | (refine Prs.ln (by assumption) ?_)
             | (refine Trs.ln (by assumption) ?_)
             | (refine Prs.ix (by assumption) (by omega) ?_)
             | (refine Trs.ix (by assumption) (by omega) ?_)
             | (refine Prs.ldN (by assumption) (by omega) ?_)
             | (refine Trs.ldN (by assumption) (by omega) ?_)
             | (refine At.ldN (Blk.at (by assumption)) rfl ?_)
             | (refine At.ld (Blk.at (by assumption)) rfl ?_)
             | (refine IxA.mk (by omega) ?_)
             | (refine Sl.ln (Own.sl (by assumption)) ?_)
             | (refine Ints.ix (Own.sl (by assumption)) (by omega) ?_)
             | (refine Ints.ixI (Own.sl (by assumption)) (by omega) ?_)
             | (refine Ints.ld (Own.sl (by assumption)) (by omega) ?_))
    conv => whnf
    refine VC.rc (improve_rc Hg Ha hv) ?_
    rintro v w3 E3 HI
    replace Hg := Hg.ext E3
    replace Ha := Ha.ext E3
    replace EE := EE.ext E3
    replace Hb := Hb.ext E3
    cases hi : imp rr a with
    | none =>
      rw [hi] at HI
      have HI : v = .slice none 0 0 := HI
      subst HI
      obtain ⟨e1, e2⟩ := fd_none hE hi
      repeat' (conv => whnf
               first
               | (refine Dr.quiet tyOk (by kernel_rfl) ?_)
               | (refine VS.nenil true Try.underlying25 ⟨none, 0, 0, rfl, rfl⟩ ?_)
               | (refine Rng.mk (by omega) ?_)
               | (refine Split.pos (by omega) ?_)
               | (refine Split.neg (by omega) ?_)
               | (refine Split.mk (fun h => ?_) (fun h => ?_))
               | (refine Need.mk (by omega) ?_)
               | (refine Ints.ln (by assumption) ?_)
               | (refine Mat.ln (by assumption) ?_)
               | (refine Ints.ln (Mat.row (by assumption) _ (by omega)) ?_)
               | (refine Ints.ix (by assumption) (by omega) ?_)
               | (refine Mat.ix (by assumption) (by omega) ?_)
               | (refine Ints.ix (Mat.row (by assumption) _ (by omega)) (by omega) ?_)
               | (refine Ints.ix (c := 0) (by assumption) (by omega) ?_)
               | (refine Mat.ix (c := 0) (by assumption) (by omega) ?_)
               | (refine Ints.ix (c := 0) (Mat.row (by assumption) _ (by omega)) (by omega) ?_)
               | (refine Ints.ixI (by assumption) (by omega) ?_)
               | (refine Mat.ixI (by assumption) (by omega) ?_)
               | (refine Ints.ixI (Mat.row (by assumption) _ (by omega)) (by omega) ?_)
               | (refine Ints.ld (by assumption) (by omega) ?_)
               | (refine Mat.ld (by assumption) (by omega) ?_)
               | (refine Ints.ld (Mat.row (by assumption) _ (by omega)) (by omega) ?_)
               | (refine At.ld (by assumption) rfl ?_)
               | (refine At.ldN (by assumption) rfl ?_)
               | (refine Prs.ln (by assumption) ?_)
               | (refine Trs.ln (by assumption) ?_)
               | (refine Prs.ix (by assumption) (by omega) ?_)
               | (refine Trs.ix (by assumption) (by omega) ?_)
               | (refine Prs.ldN (by assumption) (by omega) ?_)
               | (refine Trs.ldN (by assumption) (by omega) ?_)
               | (refine At.ldN (Blk.at (by assumption)) rfl ?_)
               | (refine At.ld (Blk.at (by assumption)) rfl ?_)
               | (refine IxA.mk (by omega) ?_)
               | (refine Sl.ln (Own.sl (by assumption)) ?_)
               | (refine Ints.ix (Own.sl (by assumption)) (by omega) ?_)
               | (refine Ints.ixI (Own.sl (by assumption)) (by omega) ?_)
               | (refine Ints.ld (Own.sl (by assumption)) (by omega) ?_))
      rw [e1, e2]
      exact ⟨EE, _, rfl, rfl⟩
    | some b =>
      rw [hi] at HI
      obtain ⟨e1, e2⟩ := fd_some hE hi
      obtain ⟨sa, sn, sc, rfl, hsa⟩ := Own.some_of HI.1 HI.2
      repeat' (conv => whnf
               first
               | (refine Dr.quiet tyOk (by kernel_rfl) ?_)
               | (refine VS.nenil false Try.underlying25 ⟨sa, sn, sc, rfl, hsa⟩ ?_)
               | (refine Rng.mk (by omega) ?_)
               | (refine Split.pos (by omega) ?_)
               | (refine Split.neg (by omega) ?_)
               | (refine Split.mk (fun h => ?_) (fun h => ?_))
               | (refine Need.mk (by omega) ?_)
               | (refine Ints.ln (by assumption) ?_)
               | (refine Mat.ln (by assumption) ?_)
               | (refine Ints.ln (Mat.row (by assumption) _ (by omega)) ?_)
               | (refine Ints.ix (by assumption) (by omega) ?_)
               | (refine Mat.ix (by assumption) (by omega) ?_)
               | (refine Ints.ix (Mat.row (by assumption) _ (by omega)) (by omega) ?_)
               | (refine Ints.ix (c := 0) (by assumption) (by omega) ?_)
               | (refine Mat.ix (c := 0) (by assumption) (by omega) ?_)
               | (refine Ints.ix (c := 0) (Mat.row (by assumption) _ (by omega)) (by omega) ?_)
               | (refine Ints.ixI (by assumption) (by omega) ?_)
               | (refine Mat.ixI (by assumption) (by omega) ?_)
               | (refine Ints.ixI (Mat.row (by assumption) _ (by omega)) (by omega) ?_)
               | (refine Ints.ld (by assumption) (by omega) ?_)
               | (refine Mat.ld (by assumption) (by omega) ?_)
               | (refine Ints.ld (Mat.row (by assumption) _ (by omega)) (by omega) ?_)
               | (refine At.ld (by assumption) rfl ?_)
               | (refine At.ldN (by assumption) rfl ?_)
               | (refine Prs.ln (by assumption) ?_)
               | (refine Trs.ln (by assumption) ?_)
               | (refine Prs.ix (by assumption) (by omega) ?_)
               | (refine Trs.ix (by assumption) (by omega) ?_)
               | (refine Prs.ldN (by assumption) (by omega) ?_)
               | (refine Trs.ldN (by assumption) (by omega) ?_)
               | (refine At.ldN (Blk.at (by assumption)) rfl ?_)
               | (refine At.ld (Blk.at (by assumption)) rfl ?_)
               | (refine IxA.mk (by omega) ?_)
               | (refine Sl.ln (Own.sl (by assumption)) ?_)
               | (refine Ints.ix (Own.sl (by assumption)) (by omega) ?_)
               | (refine Ints.ixI (Own.sl (by assumption)) (by omega) ?_)
               | (refine Ints.ld (Own.sl (by assumption)) (by omega) ?_))
      rw [e1, e2]
      exact ⟨EE, _, rfl, HI⟩
  · obtain ⟨e1, e2⟩ := fd_err hE
    repeat' (conv => whnf
             first
             | (refine Dr.quiet tyOk (by kernel_rfl) ?_)
             | (refine VC.pure cl ?_)
             | (refine Rng.mk (by omega) ?_)
             | (refine Split.pos (by omega) ?_)
             | (refine Split.neg (by omega) ?_)
             | (refine Split.mk (fun h => ?_) (fun h => ?_))
             | (refine Need.mk (by omega) ?_)
             | (refine Ints.ln (by assumption) ?_)
             | (refine Mat.ln (by assumption) ?_)
             | (refine Ints.ln (Mat.row (by assumption) _ (by omega)) ?_)
             | (refine Ints.ix (by assumption) (by omega) ?_)
             | (refine Mat.ix (by assumption) (by omega) ?_)
             | (refine Ints.ix (Mat.row (by assumption) _ (by omega)) (by omega) ?_)
             | (refine Ints.ix (c := 0) (by assumption) (by omega) ?_)
             | (refine Mat.ix (c := 0) (by assumption) (by omega) ?_)
             | (refine Ints.ix (c := 0) (Mat.row (by assumption) _ (by omega)) (by omega) ?_)
             | (refine Ints.ixI (by assumption) (by omega) ?_)
             | (refine Mat.ixI (by assumption) (by omega) ?_)
             | (refine Ints.ixI (Mat.row (by assumption) _ (by omega)) (by omega) ?_)
             | (refine Ints.ld (by assumption) (by omega) ?_)
             | (refine Mat.ld (by assumption) (by omega) ?_)
             | (refine Ints.ld (Mat.row (by assumption) _ (by omega)) (by omega) ?_)
             | (refine At.ld (by assumption) rfl ?_)
             | (refine At.ldN (by assumption) rfl ?_)
             | (refine Prs.ln (by assumption) ?_)
             | (refine Trs.ln (by assumption) ?_)
             | (refine Prs.ix (by assumption) (by omega) ?_)
             | (refine Trs.ix (by assumption) (by omega) ?_)
             | (refine Prs.ldN (by assumption) (by omega) ?_)
             | (refine Trs.ldN (by assumption) (by omega) ?_)
             | (refine At.ldN (Blk.at (by assumption)) rfl ?_)
             | (refine At.ld (Blk.at (by assumption)) rfl ?_)
             | (refine IxA.mk (by omega) ?_)
             | (refine Sl.ln (Own.sl (by assumption)) ?_)
             | (refine Ints.ix (Own.sl (by assumption)) (by omega) ?_)
             | (refine Ints.ixI (Own.sl (by assumption)) (by omega) ?_)
             | (refine Ints.ld (Own.sl (by assumption)) (by omega) ?_))
    rw [e1, e2]
    exact ⟨EE, _, rfl, rfl⟩

theorem rfind_rc {w : World} {gv av : Value} {vs : List Value} {rr : List (List Int)} {a : List Int} (Hg : Mat w gv vs rr) (Ha : Ints w av a) :
    RC Try.prog 34 [.agg #[gv], av] w NoB (fun u w' => ∃ v, u = .tuple #[v, .int .i64 (fdE rr a)] ∧ ImpV w' v (fdR rr a)) := by
  refine RC.mk tyOk Try.func34 rfl (by kernel_rfl) fun w1 E1 => ?_
  replace Hg := Hg.ext E1
  replace Ha := Ha.ext E1
  have EE := Ext.refl w1
  refine Bx.agg fun b2 w2 E2 hb2 Hb _ => ?_
  replace Hg := Hg.ext E2
  replace Ha := Ha.ext E2
  replace EE := EE.ext E2
  have ca := rvalid_pc Hg Ha
  by_cases hv : vld rr a = 0
  · have ct := btries_pc Hg (chk_of_vld hv)
    rw [hv] at ca
    by_cases ht : 20000 < tot rr
    · rw [tf_t ht] at ct
      have hE := lkE_many hv ht
      obtain ⟨e1, e2⟩ := fd_err (rr := rr) (a := a) (by omega)
      repeat' (conv => whnf
               first
               | (refine Dr.quiet tyOk (by kernel_rfl) ?_)
               | (refine VC.pure ca ?_)
               | (refine VC.pure ct ?_)
               | (refine Rng.mk (by omega) ?_)
               | (refine Split.pos (by omega) ?_)
               | (refine Split.neg (by omega) ?_)
               | (refine Split.mk (fun h => ?_) (fun h => ?_))
               | (refine Need.mk (by omega) ?_)
               | (refine Ints.ln (by assumption) ?_)
               | (refine Mat.ln (by assumption) ?_)
               | (refine Ints.ln (Mat.row (by assumption) _ (by omega)) ?_)
               | (refine Ints.ix (by assumption) (by omega) ?_)
               | (refine Mat.ix (by assumption) (by omega) ?_)
               | (refine Ints.ix (Mat.row (by assumption) _ (by omega)) (by omega) ?_)
               | (refine Ints.ix (c := 0) (by assumption) (by omega) ?_)
               | (refine Mat.ix (c := 0) (by assumption) (by omega) ?_)
               | (refine Ints.ix (c := 0) (Mat.row (by assumption) _ (by omega)) (by omega) ?_)
               | (refine Ints.ixI (by assumption) (by omega) ?_)
               | (refine Mat.ixI (by assumption) (by omega) ?_)
               | (refine Ints.ixI (Mat.row (by assumption) _ (by omega)) (by omega) ?_)
               | (refine Ints.ld (by assumption) (by omega) ?_)
               | (refine Mat.ld (by assumption) (by omega) ?_)
               | (refine Ints.ld (Mat.row (by assumption) _ (by omega)) (by omega) ?_)
               | (refine At.ld (by assumption) rfl ?_)
               | (refine At.ldN (by assumption) rfl ?_)
               | (refine Prs.ln (by assumption) ?_)
               | (refine Trs.ln (by assumption) ?_)
               | (refine Prs.ix (by assumption) (by omega) ?_)
               | (refine Trs.ix (by assumption) (by omega) ?_)
               | (refine Prs.ldN (by assumption) (by omega) ?_)
               | (refine Trs.ldN (by assumption) (by omega) ?_)
               | (refine At.ldN (Blk.at (by assumption)) rfl ?_)
               | (refine At.ld (Blk.at (by assumption)) rfl ?_)
               | (refine IxA.mk (by omega) ?_)
               | (refine Sl.ln (Own.sl (by assumption)) ?_)
               | (refine Ints.ix (Own.sl (by assumption)) (by omega) ?_)
               | (refine Ints.ixI (Own.sl (by assumption)) (by omega) ?_)
               | (refine Ints.ld (Own.sl (by assumption)) (by omega) ?_))
      rw [e1, e2, hE]
      exact ⟨EE, _, rfl, rfl⟩
    · rw [tf_f ht] at ct
      have hE := lkE_ok hv ht
      repeat' (conv => whnf
               first
               | (refine Dr.quiet tyOk (by kernel_rfl) ?_)
               | (refine VC.pure ca ?_)
               | (refine VC.pure ct ?_)
               | (refine Rng.mk (by omega) ?_)
               | (refine Split.pos (by omega) ?_)
               | (refine Split.neg (by omega) ?_)
               | (refine Split.mk (fun h => ?_) (fun h => ?_))
               | (refine Need.mk (by omega) ?_)
               | (refine Ints.ln (by assumption) ?_)
               | (refine Mat.ln (by assumption) ?_)
               | (refine Ints.ln (Mat.row (by assumption) _ (by omega)) ?_)
               | (refine Ints.ix (by assumption) (by omega) ?_)
               | (refine Mat.ix (by assumption) (by omega) ?_)
               | (refine Ints.ix (Mat.row (by assumption) _ (by omega)) (by omega) ?_)
               | (refine Ints.ix (c := 0) (by assumption) (by omega) ?_)
               | (refine Mat.ix (c := 0) (by assumption) (by omega) ?_)
               | (refine Ints.ix (c := 0) (Mat.row (by assumption) _ (by omega)) (by omega) ?_)
               | (refine Ints.ixI (by assumption) (by omega) ?_)
               | (refine Mat.ixI (by assumption) (by omega) ?_)
               | (refine Ints.ixI (Mat.row (by assumption) _ (by omega)) (by omega) ?_)
               | (refine Ints.ld (by assumption) (by omega) ?_)
               | (refine Mat.ld (by assumption) (by omega) ?_)
               | (refine Ints.ld (Mat.row (by assumption) _ (by omega)) (by omega) ?_)
               | (refine At.ld (by assumption) rfl ?_)
               | (refine At.ldN (by assumption) rfl ?_)
               | (refine Prs.ln (by assumption) ?_)
               | (refine Trs.ln (by assumption) ?_)
               | (refine Prs.ix (by assumption) (by omega) ?_)
               | (refine Trs.ix (by assumption) (by omega) ?_)
               | (refine Prs.ldN (by assumption) (by omega) ?_)
               | (refine Trs.ldN (by assumption) (by omega) ?_)
               | (refine At.ldN (Blk.at (by assumption)) rfl ?_)
               | (refine At.ld (Blk.at (by assumption)) rfl ?_)
               | (refine IxA.mk (by omega) ?_)
               | (refine Sl.ln (Own.sl (by assumption)) ?_)
               | (refine Ints.ix (Own.sl (by assumption)) (by omega) ?_)
               | (refine Ints.ixI (Own.sl (by assumption)) (by omega) ?_)
               | (refine Ints.ld (Own.sl (by assumption)) (by omega) ?_))
      conv => whnf
      refine VC.rc (rfirst_rc Hg Ha hv) ?_
      rintro _ w3 E3 ⟨v, rfl, HI⟩
      replace Hg := Hg.ext E3
      replace Ha := Ha.ext E3
      replace EE := EE.ext E3
      replace Hb := Hb.ext E3
      cases hi : imp rr a with
      | none =>
        rw [hi] at HI
        have HI : v = .slice none 0 0 := HI
        subst HI
        obtain ⟨e1, e2⟩ := fd_none hE hi
        simp only [Option.isSome_none]
        repeat' (conv => whnf
                 first
                 | (refine Dr.quiet tyOk (by kernel_rfl) ?_)
                 | (refine Rng.mk (by omega) ?_)
                 | (refine Split.pos (by omega) ?_)
                 | (refine Split.neg (by omega) ?_)
                 | (refine Split.mk (fun h => ?_) (fun h => ?_))
                 | (refine Need.mk (by omega) ?_)
                 | (refine Ints.ln (by assumption) ?_)
                 | (refine Mat.ln (by assumption) ?_)
                 | (refine Ints.ln (Mat.row (by assumption) _ (by omega)) ?_)
                 | (refine Ints.ix (by assumption) (by omega) ?_)
                 | (refine Mat.ix (by assumption) (by omega) ?_)
                 | (refine Ints.ix (Mat.row (by assumption) _ (by omega)) (by omega) ?_)
                 | (refine Ints.ix (c := 0) (by assumption) (by omega) ?_)
                 | (refine Mat.ix (c := 0) (by assumption) (by omega) ?_)
                 | (refine Ints.ix (c := 0) (Mat.row (by assumption) _ (by omega)) (by omega) ?_)
                 | (refine Ints.ixI (by assumption) (by omega) ?_)
                 | (refine Mat.ixI (by assumption) (by omega) ?_)
                 | (refine Ints.ixI (Mat.row (by assumption) _ (by omega)) (by omega) ?_)
                 | (refine Ints.ld (by assumption) (by omega) ?_)
                 | (refine Mat.ld (by assumption) (by omega) ?_)
                 | (refine Ints.ld (Mat.row (by assumption) _ (by omega)) (by omega) ?_)
                 | (refine At.ld (by assumption) rfl ?_)
                 | (refine At.ldN (by assumption) rfl ?_)
                 | (refine Prs.ln (by assumption) ?_)
                 | (refine Trs.ln (by assumption) ?_)
                 | (refine Prs.ix (by assumption) (by omega) ?_)
                 | (refine Trs.ix (by assumption) (by omega) ?_)
                 | (refine Prs.ldN (by assumption) (by omega) ?_)
                 | (refine Trs.ldN (by assumption) (by omega) ?_)
                 | (refine At.ldN (Blk.at (by assumption)) rfl ?_)
                 | (refine At.ld (Blk.at (by assumption)) rfl ?_)
                 | (refine IxA.mk (by omega) ?_)
                 | (refine Sl.ln (Own.sl (by assumption)) ?_)
                 | (refine Ints.ix (Own.sl (by assumption)) (by omega) ?_)
                 | (refine Ints.ixI (Own.sl (by assumption)) (by omega) ?_)
                 | (refine Ints.ld (Own.sl (by assumption)) (by omega) ?_))
        rw [e1, e2]
        exact ⟨EE, _, rfl, rfl⟩
      | some b =>
        rw [hi] at HI
        obtain ⟨e1, e2⟩ := fd_some hE hi
        simp only [Option.isSome_some]
        repeat' (conv => whnf
                 first
                 | (refine Dr.quiet tyOk (by kernel_rfl) ?_)
                 | (refine Rng.mk (by omega) ?_)
                 | (refine Split.pos (by omega) ?_)
                 | (refine Split.neg (by omega) ?_)
                 | (refine Split.mk (fun h => ?_) (fun h => ?_))
                 | (refine Need.mk (by omega) ?_)
                 | (refine Ints.ln (by assumption) ?_)
                 | (refine Mat.ln (by assumption) ?_)
                 | (refine Ints.ln (Mat.row (by assumption) _ (by omega)) ?_)
                 | (refine Ints.ix (by assumption) (by omega) ?_)
                 | (refine Mat.ix (by assumption) (by omega) ?_)
                 | (refine Ints.ix (Mat.row (by assumption) _ (by omega)) (by omega) ?_)
                 | (refine Ints.ix (c := 0) (by assumption) (by omega) ?_)
                 | (refine Mat.ix (c := 0) (by assumption) (by omega) ?_)
                 | (refine Ints.ix (c := 0) (Mat.row (by assumption) _ (by omega)) (by omega) ?_)
                 | (refine Ints.ixI (by assumption) (by omega) ?_)
                 | (refine Mat.ixI (by assumption) (by omega) ?_)
                 | (refine Ints.ixI (Mat.row (by assumption) _ (by omega)) (by omega) ?_)
                 | (refine Ints.ld (by assumption) (by omega) ?_)
                 | (refine Mat.ld (by assumption) (by omega) ?_)
                 | (refine Ints.ld (Mat.row (by assumption) _ (by omega)) (by omega) ?_)
                 | (refine At.ld (by assumption) rfl ?_)
                 | (refine At.ldN (by assumption) rfl ?_)
                 | (refine Prs.ln (by assumption) ?_)
                 | (refine Trs.ln (by assumption) ?_)
                 | (refine Prs.ix (by assumption) (by omega) ?_)
                 | (refine Trs.ix (by assumption) (by omega) ?_)
                 | (refine Prs.ldN (by assumption) (by omega) ?_)
                 | (refine Trs.ldN (by assumption) (by omega) ?_)
                 | (refine At.ldN (Blk.at (by assumption)) rfl ?_)
                 | (refine At.ld (Blk.at (by assumption)) rfl ?_)
                 | (refine IxA.mk (by omega) ?_)
                 | (refine Sl.ln (Own.sl (by assumption)) ?_)
                 | (refine Ints.ix (Own.sl (by assumption)) (by omega) ?_)
                 | (refine Ints.ixI (Own.sl (by assumption)) (by omega) ?_)
                 | (refine Ints.ld (Own.sl (by assumption)) (by omega) ?_))
        rw [e1, e2]
        exact ⟨EE, _, rfl, HI⟩
  · have hE := lkE_vld hv
    obtain ⟨e1, e2⟩ := fd_err (rr := rr) (a := a) (by omega)
    repeat' (conv => whnf
             first
             | (refine Dr.quiet tyOk (by kernel_rfl) ?_)
             | (refine VC.pure ca ?_)
             | (refine Rng.mk (by omega) ?_)
             | (refine Split.pos (by omega) ?_)
             | (refine Split.neg (by omega) ?_)
             | (refine Split.mk (fun h => ?_) (fun h => ?_))
             | (refine Need.mk (by omega) ?_)
             | (refine Ints.ln (by assumption) ?_)
             | (refine Mat.ln (by assumption) ?_)
             | (refine Ints.ln (Mat.row (by assumption) _ (by omega)) ?_)
             | (refine Ints.ix (by assumption) (by omega) ?_)
             | (refine Mat.ix (by assumption) (by omega) ?_)
             | (refine Ints.ix (Mat.row (by assumption) _ (by omega)) (by omega) ?_)
             | (refine Ints.ix (c := 0) (by assumption) (by omega) ?_)
             | (refine Mat.ix (c := 0) (by assumption) (by omega) ?_)
             | (refine Ints.ix (c := 0) (Mat.row (by assumption) _ (by omega)) (by omega) ?_)
             | (refine Ints.ixI (by assumption) (by omega) ?_)
             | (refine Mat.ixI (by assumption) (by omega) ?_)
             | (refine Ints.ixI (Mat.row (by assumption) _ (by omega)) (by omega) ?_)
             | (refine Ints.ld (by assumption) (by omega) ?_)
             | (refine Mat.ld (by assumption) (by omega) ?_)
             | (refine Ints.ld (Mat.row (by assumption) _ (by omega)) (by omega) ?_)
             | (refine At.ld (by assumption) rfl ?_)
             | (refine At.ldN (by assumption) rfl ?_)
             | (refine Prs.ln (by assumption) ?_)
             | (refine Trs.ln (by assumption) ?_)
             | (refine Prs.ix (by assumption) (by omega) ?_)
             | (refine Trs.ix (by assumption) (by omega) ?_)
             | (refine Prs.ldN (by assumption) (by omega) ?_)
             | (refine Trs.ldN (by assumption) (by omega) ?_)
             | (refine At.ldN (Blk.at (by assumption)) rfl ?_)
             | (refine At.ld (Blk.at (by assumption)) rfl ?_)
             | (refine IxA.mk (by omega) ?_)
             | (refine Sl.ln (Own.sl (by assumption)) ?_)
             | (refine Ints.ix (Own.sl (by assumption)) (by omega) ?_)
             | (refine Ints.ixI (Own.sl (by assumption)) (by omega) ?_)
             | (refine Ints.ld (Own.sl (by assumption)) (by omega) ?_))
    rw [e1, e2, hE]
    exact ⟨EE, _, rfl, rfl⟩
end Go.Proofs.Ytebklnmafjbhcaa
set_option linter.unusedVariables false
set_option linter.unusedSimpArgs false
namespace Go.Proofs.Ytebklnmafjbhcaa
open Go.Eng
set_option maxRecDepth 100000
set_option maxHeartbeats 4000000

/-- the allocation after c improvements -/
noncomputable def itr (rr : List (List Int)) (a : List Int) : Nat → List Int
  | 0 => a
  | c + 1 => (imp rr (itr rr a c)).getD []
def sumN (f : Nat → Int) : Nat → Int
  | 0 => 0
  | c + 1 => sumN f c + f c
theorem sumN_le {f g : Nat → Int} : ∀ {n : Nat}, (∀ i, i < n → f i ≤ g i) → sumN f n ≤ sumN g n
  | 0, _ => Int.le_refl _
  | n + 1, h => by
    have h1 := sumN_le (n := n) (fun i hi => h i (by omega))
    have h2 := h n (by omega)
    show sumN f n + f n ≤ sumN g n + g n
    omega
theorem sumN_lt {f g : Nat → Int} : ∀ {n : Nat}, abvV n f g → sumN f n < sumN g n
  | 0, h => by obtain ⟨i, hi, _⟩ := h.2; omega
  | n + 1, h => by
    have h2 := h.1 n (by omega)
    have h3 := sumN_le (n := n) (fun i hi => h.1 i (by omega))
    show sumN f n + f n < sumN g n + g n
    by_cases e : f n < g n
    · omega
    · have := sumN_lt (n := n) (f := f) (g := g) ⟨fun i hi => h.1 i (by omega), by
        obtain ⟨i, hi, h4⟩ := h.2
        by_cases ei : i = n
        · subst ei; exact absurd h4 e
        · exact ⟨i, by omega, h4⟩⟩
      omega
theorem sumN_bd {f : Nat → Int} {b : Int} : ∀ {n : Nat}, (∀ i, i < n → 0 ≤ f i ∧ f i ≤ b) → 0 ≤ sumN f n ∧ sumN f n ≤ b * n
  | 0, _ => ⟨Int.le_refl _, by show (0 : Int) ≤ b * 0; omega⟩
  | n + 1, h => by
    have h1 := sumN_bd (n := n) (fun i hi => h i (by omega))
    have h2 := h n (by omega)
    show 0 ≤ sumN f n + f n ∧ sumN f n + f n ≤ b * ((n + 1 : Nat) : Int)
    have e : b * ((n + 1 : Nat) : Int) = b * n + b := by rw [Int.natCast_add, Int.mul_add]; simp
    omega
theorem imp_abv {rr : List (List Int)} {a b : List Int} (hi : imp rr a = some b) : abv rr a b ∧ b ∈ lists rr := by
  have h1 := List.find?_some hi
  exact ⟨by simpa using h1, List.mem_of_find?_eq_some hi⟩
theorem imp_vld {rr : List (List Int)} {a b : List Int} (hc : chk rr = 0) (hi : imp rr a = some b) : vld rr b = 0 := (lists_mem hc (imp_abv hi).2).1
theorem itr_vld {rr : List (List Int)} {a : List Int} (hv : vld rr a = 0) : ∀ {c : Nat}, (∀ j, j < c → (imp rr (itr rr a j)).isSome) → vld rr (itr rr a c) = 0
  | 0, _ => hv
  | c + 1, h => by
    obtain ⟨b, hb⟩ := Option.isSome_iff_exists.1 (h c (by omega))
    show vld rr ((imp rr (itr rr a c)).getD []) = 0
    rw [hb]; exact imp_vld (chk_of_vld hv) hb
def totV (rr : List (List Int)) (a : List Int) : Int := sumN (ownB rr a) rr.length
theorem totV_bd {rr : List (List Int)} {a : List Int} (hv : vld rr a = 0) : 0 ≤ totV rr a ∧ totV rr a ≤ 60000 := by
  have hg := gd_of_chk (chk_of_vld hv)
  have hl := (al_of_vld hv).len
  have hm := hg.m10
  have hn := hg.n6
  have h := sumN_bd (f := ownB rr a) (b := 10000) (n := rr.length) (fun i hi => by
    have := wth_bd (a := a) hg i i
    unfold ownB; omega)
  unfold totV; omega
theorem itr_len {rr : List (List Int)} {a : List Int} (hv : vld rr a = 0) : ∀ {c : Nat}, (∀ j, j < c → (imp rr (itr rr a j)).isSome) → (c : Int) ≤ totV rr (itr rr a c)
  | 0, _ => (totV_bd hv).1
  | c + 1, h => by
    have ih := itr_len hv (c := c) (fun j hj => h j (by omega))
    obtain ⟨b, hb⟩ := Option.isSome_iff_exists.1 (h c (by omega))
    have e : itr rr a (c + 1) = b := by show (imp rr (itr rr a c)).getD [] = b; rw [hb]; rfl
    have := sumN_lt (imp_abv hb).1
    rw [e]
    unfold totV at ih ⊢
    omega
theorem itr_bd {rr : List (List Int)} {a : List Int} (hv : vld rr a = 0) {c : Nat} (h : ∀ j, j < c → (imp rr (itr rr a j)).isSome) : c ≤ 60000 := by
  have h1 := itr_len hv h
  have h2 := (totV_bd (itr_vld hv h)).2
  omega

def IsCh (rr : List (List Int)) (a : List Int) (c : Nat) : Prop := (∀ j, j < c → (imp rr (itr rr a j)).isSome) ∧ imp rr (itr rr a c) = none
theorem isCh_one {rr : List (List Int)} {a : List Int} {c d : Nat} (h1 : IsCh rr a c) (h2 : IsCh rr a d) : c = d := by
  refine Classical.byContradiction fun hn => ?_
  by_cases h : c < d
  · have := h2.1 c h; rw [h1.2] at this; cases this
  · have := h1.1 d (by omega); rw [h2.2] at this; cases this
open Classical in noncomputable def chN (rr : List (List Int)) (a : List Int) : Nat := epsilon (IsCh rr a)
theorem chN_eq {rr : List (List Int)} {a : List Int} {c : Nat} (h : IsCh rr a c) : chN rr a = c := isCh_one (Classical.epsilon_spec (p := IsCh rr a) ⟨c, h⟩) h
noncomputable def chP (rr : List (List Int)) (a : List Int) (c : Nat) : List (List Int) := mk c fun j => itr rr a (j + 1)
theorem chP_len (rr : List (List Int)) (a : List Int) (c : Nat) : (chP rr a c).length = c := mk_len _ _
theorem chP_succ (rr : List (List Int)) (a : List Int) (c : Nat) : chP rr a (c + 1) = chP rr a c ++ [itr rr a (c + 1)] := mk_succ _ _
open Classical in noncomputable def chL (rr : List (List Int)) (a : List Int) : List (List Int) := if lkE rr a = 0 then chP rr a (chN rr a) else []
theorem chL_ok {rr : List (List Int)} {a : List Int} {c : Nat} (h : lkE rr a = 0) (h2 : IsCh rr a c) : chL rr a = chP rr a c := by unfold chL; rw [if_pos h, chN_eq h2]
theorem chL_err {rr : List (List Int)} {a : List Int} (h : ¬ lkE rr a = 0) : chL rr a = [] := by unfold chL; rw [if_neg h]

theorem gchain_rc {w : World} {gv av : Value} {vs : List Value} {rr : List (List Int)} {a : List Int} (Hg : Mat w gv vs rr) (Ha : Ints w av a) :
    RC Try.prog 35 [.agg #[gv], av] w NoB (fun u w' => ∃ v us, u = .tuple #[v, .int .i64 (lkE rr a)] ∧ OM 0 w' v us (chL rr a)) := by
  refine RC.mk tyOk Try.func35 rfl (by kernel_rfl) fun w1 E1 => ?_
  replace Hg := Hg.ext E1
  replace Ha := Ha.ext E1
  have EE := Ext.refl w1
  refine Bx.agg fun b2 w2 E2 hb2 Hb _ => ?_
  replace Hg := Hg.ext E2
  replace Ha := Ha.ext E2
  replace EE := EE.ext E2
  have cl := looked_pc Hg Ha
  by_cases hE : lkE rr a = 0
  · obtain ⟨hv, ht⟩ := lkE_zero hE
    rw [hE] at cl
    repeat' (conv => whnf
             first
             | (refine Dr.quiet tyOk (by kernel_rfl) ?_)
             | (refine VC.pure cl ?_)
             | (refine Rng.mk (by omega) ?_)
             | (refine Split.pos (by omega) ?_)
             | (refine Split.neg (by omega) ?_)
             | (refine Split.mk (fun h => ?_) (fun h => ?_))
             | (refine Need.mk (by omega) ?_)
             | (refine Ints.ln (by assumption) ?_)
             | (refine Mat.ln (by assumption) ?_)
             | (refine Ints.ln (Mat.row (by assumption) _ (by omega)) ?_)
             | (refine Ints.ix (by assumption) (by omega) ?_)
             | (refine Mat.ix (by assumption) (by omega) ?_)
             | (refine Ints.ix (Mat.row (by assumption) _ (by omega)) (by omega) ?_)
             | (refine Ints.ix (c := 0) (by assumption) (by omega) ?_)
             | (refine Mat.ix (c := 0) (by assumption) (by omega) ?_)
             | (refine Ints.ix (c := 0) (Mat.row (by assumption) _ (by omega)) (by omega) ?_)
             | (refine Ints.ixI (by assumption) (by omega) ?_)
             | (refine Mat.ixI (by assumption) (by omega) ?_)
             | (refine Ints.ixI (Mat.row (by assumption) _ (by omega)) (by omega) ?_)
             | (refine Ints.ld (by assumption) (by omega) ?_)
             | (refine Mat.ld (by assumption) (by omega) ?_)
             | (refine Ints.ld (Mat.row (by assumption) _ (by omega)) (by omega) ?_)
             | (refine At.ld (by assumption) rfl ?_)
             | (refine At.ldN (by assumption) rfl ?_)
             | (refine Prs.ln (by assumption) ?_)
             | (refine Trs.ln (by assumption) ?_)
             | (refine Prs.ix (by assumption) (by omega) ?_)
             | (refine Trs.ix (by assumption) (by omega) ?_)
             | (refine Prs.ldN (by assumption) (by omega) ?_)
             | (refine Trs.ldN (by assumption) (by omega) ?_)
             | (refine At.ldN (Blk.at (by assumption)) rfl ?_)
             | (refine At.ld (Blk.at (by assumption)) rfl ?_)
             | (refine IxA.mk (by omega) ?_)
             | (refine Sl.ln (Own.sl (by assumption)) ?_)
             | (refine Ints.ix (Own.sl (by assumption)) (by omega) ?_)
             | (refine Ints.ixI (Own.sl (by assumption)) (by omega) ?_)
             | (refine Ints.ld (Own.sl (by assumption)) (by omega) ?_))
    conv => whnf
    refine VC.rc (improve_rc Hg Ha hv) ?_
    rintro v0 w3 E3 HI
    replace Hg := Hg.ext E3
    replace Ha := Ha.ext E3
    replace EE := EE.ext E3
    replace Hb := Hb.ext E3
    have hI0 := HI
    clear HI
    repeat' (conv => whnf
             first
             | (refine Dr.quiet tyOk (by kernel_rfl) ?_)
             | (refine Rng.mk (by omega) ?_)
             | (refine Split.pos (by omega) ?_)
             | (refine Split.neg (by omega) ?_)
             | (refine Split.mk (fun h => ?_) (fun h => ?_))
             | (refine Need.mk (by omega) ?_)
             | (refine Ints.ln (by assumption) ?_)
             | (refine Mat.ln (by assumption) ?_)
             | (refine Ints.ln (Mat.row (by assumption) _ (by omega)) ?_)
             | (refine Ints.ix (by assumption) (by omega) ?_)
             | (refine Mat.ix (by assumption) (by omega) ?_)
             | (refine Ints.ix (Mat.row (by assumption) _ (by omega)) (by omega) ?_)
             | (refine Ints.ix (c := 0) (by assumption) (by omega) ?_)
             | (refine Mat.ix (c := 0) (by assumption) (by omega) ?_)
             | (refine Ints.ix (c := 0) (Mat.row (by assumption) _ (by omega)) (by omega) ?_)
             | (refine Ints.ixI (by assumption) (by omega) ?_)
             | (refine Mat.ixI (by assumption) (by omega) ?_)
             | (refine Ints.ixI (Mat.row (by assumption) _ (by omega)) (by omega) ?_)
             | (refine Ints.ld (by assumption) (by omega) ?_)
             | (refine Mat.ld (by assumption) (by omega) ?_)
             | (refine Ints.ld (Mat.row (by assumption) _ (by omega)) (by omega) ?_)
             | (refine At.ld (by assumption) rfl ?_)
             | (refine At.ldN (by assumption) rfl ?_)
             | (refine Prs.ln (by assumption) ?_)
             | (refine Trs.ln (by assumption) ?_)
             | (refine Prs.ix (by assumption) (by omega) ?_)
             | (refine Trs.ix (by assumption) (by omega) ?_)
             | (refine Prs.ldN (by assumption) (by omega) ?_)
             | (refine Trs.ldN (by assumption) (by omega) ?_)
             | (refine At.ldN (Blk.at (by assumption)) rfl ?_)
             | (refine At.ld (Blk.at (by assumption)) rfl ?_)
             | (refine IxA.mk (by omega) ?_)
             | (refine Sl.ln (Own.sl (by assumption)) ?_)
             | (refine Ints.ix (Own.sl (by assumption)) (by omega) ?_)
             | (refine Ints.ixI (Own.sl (by assumption)) (by omega) ?_)
             | (refine Ints.ld (Own.sl (by assumption)) (by omega) ?_))
    have Hg__1 := Hg
    have Ha__1 := Ha
    have EE__1 := EE
    have Hb__1 := Hb
    have hz1 := Nat.le_trans E1.size EE.size
    refine Lp.mk tyOk [false, false, false, false, false, false, false, true, true, false, false, false, false, false, false, false, false, false, true, true, true, true, true, true, true, true, true] (fun m fr wr => getK fr 7 fun out => getK fr 8 fun b => ∃ c : Nat, c ≤ 60001 ∧ m = 60001 - c ∧ ((∃ us, OM w3.heap.size wr out us (chP rr a c))) ∧ (ImpV wr b (imp rr (itr rr a c))) ∧ (∀ j, j < c → (imp rr (itr rr a j)).isSome) ∧ Ext w3 wr) (60001) ?_ ?_
    · exact ⟨0, Nat.zero_le _, rfl, ⟨_, OM.nil⟩, hI0, (by first | exact fun _ hi => absurd hi (Nat.not_lt_zero _) | exact fun _ _ hi => absurd hi (Nat.not_lt_zero _) | assumption | exact Own.nil | omega | simp), Ext.refl _⟩
    · intro m w4 u7 u8 u18 u19 u20 u21 u22 u23 u24 u25 u26 hR
      obtain ⟨c, hc, rfl, HO, HI, hs, EL1⟩ := hR
      replace Hg := Hg__1.ext EL1
      replace Ha := Ha__1.ext EL1
      replace EE := EE__1.ext EL1
      replace Hb := Hb__1.ext EL1
      have hcb := itr_bd hv hs
      have hvc := itr_vld hv hs
      obtain ⟨us, HO⟩ := HO
      cases hi : imp rr (itr rr a c) with
      | none =>
        rw [hi] at HI
        have HI : u8 = .slice none 0 0 := HI
        subst HI
        repeat' (conv => whnf
                 first
                 | (refine Dr.quiet tyOk (by kernel_rfl) ?_)
                 | (refine VS.nenil true Try.underlying25 ⟨none, 0, 0, rfl, rfl⟩ ?_)
                 | (refine Rng.mk (by omega) ?_)
                 | (refine Split.pos (by omega) ?_)
                 | (refine Split.neg (by omega) ?_)
                 | (refine Split.mk (fun h => ?_) (fun h => ?_))
                 | (refine Need.mk (by omega) ?_)
                 | (refine Ints.ln (by assumption) ?_)
                 | (refine Mat.ln (by assumption) ?_)
                 | (refine Ints.ln (Mat.row (by assumption) _ (by omega)) ?_)
                 | (refine Ints.ix (by assumption) (by omega) ?_)
                 | (refine Mat.ix (by assumption) (by omega) ?_)
                 | (refine Ints.ix (Mat.row (by assumption) _ (by omega)) (by omega) ?_)
                 | (refine Ints.ix (c := 0) (by assumption) (by omega) ?_)
                 | (refine Mat.ix (c := 0) (by assumption) (by omega) ?_)
                 | (refine Ints.ix (c := 0) (Mat.row (by assumption) _ (by omega)) (by omega) ?_)
                 | (refine Ints.ixI (by assumption) (by omega) ?_)
                 | (refine Mat.ixI (by assumption) (by omega) ?_)
                 | (refine Ints.ixI (Mat.row (by assumption) _ (by omega)) (by omega) ?_)
                 | (refine Ints.ld (by assumption) (by omega) ?_)
                 | (refine Mat.ld (by assumption) (by omega) ?_)
                 | (refine Ints.ld (Mat.row (by assumption) _ (by omega)) (by omega) ?_)
                 | (refine At.ld (by assumption) rfl ?_)
                 | (refine At.ldN (by assumption) rfl ?_)
                 | (refine Prs.ln (by assumption) ?_)
                 | (refine Trs.ln (by assumption) ?_)
                 | (refine Prs.ix (by assumption) (by omega) ?_)
                 | (refine Trs.ix (by assumption) (by omega) ?_)
                 | (refine Prs.ldN (by assumption) (by omega) ?_)
                 | (refine Trs.ldN (by assumption) (by omega) ?_)
                 | (refine At.ldN (Blk.at (by assumption)) rfl ?_)
                 | (refine At.ld (Blk.at (by assumption)) rfl ?_)
                 | (refine IxA.mk (by omega) ?_)
                 | (refine Sl.ln (Own.sl (by assumption)) ?_)
                 | (refine Ints.ix (Own.sl (by assumption)) (by omega) ?_)
                 | (refine Ints.ixI (Own.sl (by assumption)) (by omega) ?_)
                 | (refine Ints.ld (Own.sl (by assumption)) (by omega) ?_))
        rw [hE, chL_ok hE ⟨hs, hi⟩]
        exact ⟨EE, _, us, rfl, HO.base (Nat.zero_le _)⟩
      | some b =>
        rw [hi] at HI
        have hb : itr rr a (c + 1) = b := by show (imp rr (itr rr a c)).getD [] = b; rw [hi]; rfl
        have hvb := imp_vld (chk_of_vld hv) hi
        have hol := chP_len rr a c
        obtain ⟨sa, sn, sc, rfl, hsa⟩ := Own.some_of HI.1 HI.2
        have HB := HI.1
        repeat' (conv => whnf
                 first
                 | (refine Dr.quiet tyOk (by kernel_rfl) ?_)
                 | (refine VS.nenil false Try.underlying25 ⟨sa, sn, sc, rfl, hsa⟩ ?_)
                 | (refine Rng.mk (by omega) ?_)
                 | (refine Split.pos (by omega) ?_)
                 | (refine Split.neg (by omega) ?_)
                 | (refine Split.mk (fun h => ?_) (fun h => ?_))
                 | (refine Need.mk (by omega) ?_)
                 | (refine Ints.ln (by assumption) ?_)
                 | (refine Mat.ln (by assumption) ?_)
                 | (refine Ints.ln (Mat.row (by assumption) _ (by omega)) ?_)
                 | (refine Ints.ix (by assumption) (by omega) ?_)
                 | (refine Mat.ix (by assumption) (by omega) ?_)
                 | (refine Ints.ix (Mat.row (by assumption) _ (by omega)) (by omega) ?_)
                 | (refine Ints.ix (c := 0) (by assumption) (by omega) ?_)
                 | (refine Mat.ix (c := 0) (by assumption) (by omega) ?_)
                 | (refine Ints.ix (c := 0) (Mat.row (by assumption) _ (by omega)) (by omega) ?_)
                 | (refine Ints.ixI (by assumption) (by omega) ?_)
                 | (refine Mat.ixI (by assumption) (by omega) ?_)
                 | (refine Ints.ixI (Mat.row (by assumption) _ (by omega)) (by omega) ?_)
                 | (refine Ints.ld (by assumption) (by omega) ?_)
                 | (refine Mat.ld (by assumption) (by omega) ?_)
                 | (refine Ints.ld (Mat.row (by assumption) _ (by omega)) (by omega) ?_)
                 | (refine At.ld (by assumption) rfl ?_)
                 | (refine At.ldN (by assumption) rfl ?_)
                 | (refine Prs.ln (by assumption) ?_)
                 | (refine Trs.ln (by assumption) ?_)
                 | (refine Prs.ix (by assumption) (by omega) ?_)
                 | (refine Trs.ix (by assumption) (by omega) ?_)
                 | (refine Prs.ldN (by assumption) (by omega) ?_)
                 | (refine Trs.ldN (by assumption) (by omega) ?_)
                 | (refine At.ldN (Blk.at (by assumption)) rfl ?_)
                 | (refine At.ld (Blk.at (by assumption)) rfl ?_)
                 | (refine IxA.mk (by omega) ?_)
                 | (refine Sl.ln (Own.sl (by assumption)) ?_)
                 | (refine Ints.ix (Own.sl (by assumption)) (by omega) ?_)
                 | (refine Ints.ixI (Own.sl (by assumption)) (by omega) ?_)
                 | (refine Ints.ld (Own.sl (by assumption)) (by omega) ?_))
        refine VE.lit1 Try.underlying22 eRow ((Sl.cells (Own.sl HB)).1) fun lv w5 E5 Hl => ?_
        replace Hg := Hg.ext E5
        replace Ha := Ha.ext E5
        replace EE := EE.ext E5
        replace Hb := Hb.ext E5
        replace EL1 := EL1.ext E5
        replace HI := HI.ext E5
        replace HO := HO.ext E5
        replace HB := HB.ext E5
        conv => whnf
        refine VE.app Try.underlying22 eRow rfl (by omega) HO.top EL1 rfl Hl (by intro u hu; simp only [List.mem_singleton] at hu; subst hu; exact (Sl.cells (Own.sl HB)).2) (by first | omega | (simp only [List.length_map, List.length_range]; omega) | (simp; omega)) (by first | omega | (simp only [List.length_map, List.length_range]; omega) | (simp; omega)) fun v8 w6 E6 G6 H8 => ?_
        replace Hg := Hg__1.ext E6
        replace Ha := Ha__1.ext E6
        replace EE := EE__1.ext E6
        replace Hb := Hb__1.ext E6
        replace EL1 := E6
        have HO9 := HO.push HB G6 H8
        have HB9 := Own.gr HB G6 (fun k hk hS => Own.ne HO.top HB (by decide) k hS hk)
        rw [← hb, ← chP_succ] at HO9
        rw [← hb] at HB9 hvb
        repeat' (conv => whnf
                 first
                 | (refine Dr.quiet tyOk (by kernel_rfl) ?_)
                 | (refine Rng.mk (by omega) ?_)
                 | (refine Split.pos (by omega) ?_)
                 | (refine Split.neg (by omega) ?_)
                 | (refine Split.mk (fun h => ?_) (fun h => ?_))
                 | (refine Need.mk (by omega) ?_)
                 | (refine Ints.ln (by assumption) ?_)
                 | (refine Mat.ln (by assumption) ?_)
                 | (refine Ints.ln (Mat.row (by assumption) _ (by omega)) ?_)
                 | (refine Ints.ix (by assumption) (by omega) ?_)
                 | (refine Mat.ix (by assumption) (by omega) ?_)
                 | (refine Ints.ix (Mat.row (by assumption) _ (by omega)) (by omega) ?_)
                 | (refine Ints.ix (c := 0) (by assumption) (by omega) ?_)
                 | (refine Mat.ix (c := 0) (by assumption) (by omega) ?_)
                 | (refine Ints.ix (c := 0) (Mat.row (by assumption) _ (by omega)) (by omega) ?_)
                 | (refine Ints.ixI (by assumption) (by omega) ?_)
                 | (refine Mat.ixI (by assumption) (by omega) ?_)
                 | (refine Ints.ixI (Mat.row (by assumption) _ (by omega)) (by omega) ?_)
                 | (refine Ints.ld (by assumption) (by omega) ?_)
                 | (refine Mat.ld (by assumption) (by omega) ?_)
                 | (refine Ints.ld (Mat.row (by assumption) _ (by omega)) (by omega) ?_)
                 | (refine At.ld (by assumption) rfl ?_)
                 | (refine At.ldN (by assumption) rfl ?_)
                 | (refine Prs.ln (by assumption) ?_)
                 | (refine Trs.ln (by assumption) ?_)
                 | (refine Prs.ix (by assumption) (by omega) ?_)
                 | (refine Trs.ix (by assumption) (by omega) ?_)
                 | (refine Prs.ldN (by assumption) (by omega) ?_)
                 | (refine Trs.ldN (by assumption) (by omega) ?_)
                 | (refine At.ldN (Blk.at (by assumption)) rfl ?_)
                 | (refine At.ld (Blk.at (by assumption)) rfl ?_)
                 | (refine IxA.mk (by omega) ?_)
                 | (refine Sl.ln (Own.sl (by assumption)) ?_)
                 | (refine Ints.ix (Own.sl (by assumption)) (by omega) ?_)
                 | (refine Ints.ixI (Own.sl (by assumption)) (by omega) ?_)
                 | (refine Ints.ld (Own.sl (by assumption)) (by omega) ?_))
        conv => whnf
        refine VC.rc (improve_rc Hg (Own.sl HB9) hvb) ?_
        rintro v9 w7 E7 HI9
        replace Hg := Hg.ext E7
        replace Ha := Ha.ext E7
        replace EE := EE.ext E7
        replace Hb := Hb.ext E7
        replace EL1 := EL1.ext E7
        replace H8 := H8.ext E7
        replace HO9 := HO9.ext E7
        repeat' (conv => whnf
                 first
                 | (refine Dr.quiet tyOk (by kernel_rfl) ?_)
                 | (refine Rng.mk (by omega) ?_)
                 | (refine Split.pos (by omega) ?_)
                 | (refine Split.neg (by omega) ?_)
                 | (refine Split.mk (fun h => ?_) (fun h => ?_))
                 | (refine Need.mk (by omega) ?_)
                 | (refine Ints.ln (by assumption) ?_)
                 | (refine Mat.ln (by assumption) ?_)
                 | (refine Ints.ln (Mat.row (by assumption) _ (by omega)) ?_)
                 | (refine Ints.ix (by assumption) (by omega) ?_)
                 | (refine Mat.ix (by assumption) (by omega) ?_)
                 | (refine Ints.ix (Mat.row (by assumption) _ (by omega)) (by omega) ?_)
                 | (refine Ints.ix (c := 0) (by assumption) (by omega) ?_)
                 | (refine Mat.ix (c := 0) (by assumption) (by omega) ?_)
                 | (refine Ints.ix (c := 0) (Mat.row (by assumption) _ (by omega)) (by omega) ?_)
                 | (refine Ints.ixI (by assumption) (by omega) ?_)
                 | (refine Mat.ixI (by assumption) (by omega) ?_)
                 | (refine Ints.ixI (Mat.row (by assumption) _ (by omega)) (by omega) ?_)
                 | (refine Ints.ld (by assumption) (by omega) ?_)
                 | (refine Mat.ld (by assumption) (by omega) ?_)
                 | (refine Ints.ld (Mat.row (by assumption) _ (by omega)) (by omega) ?_)
                 | (refine At.ld (by assumption) rfl ?_)
                 | (refine At.ldN (by assumption) rfl ?_)
                 | (refine Prs.ln (by assumption) ?_)
                 | (refine Trs.ln (by assumption) ?_)
                 | (refine Prs.ix (by assumption) (by omega) ?_)
                 | (refine Trs.ix (by assumption) (by omega) ?_)
                 | (refine Prs.ldN (by assumption) (by omega) ?_)
                 | (refine Trs.ldN (by assumption) (by omega) ?_)
                 | (refine At.ldN (Blk.at (by assumption)) rfl ?_)
                 | (refine At.ld (Blk.at (by assumption)) rfl ?_)
                 | (refine IxA.mk (by omega) ?_)
                 | (refine Sl.ln (Own.sl (by assumption)) ?_)
                 | (refine Ints.ix (Own.sl (by assumption)) (by omega) ?_)
                 | (refine Ints.ixI (Own.sl (by assumption)) (by omega) ?_)
                 | (refine Ints.ld (Own.sl (by assumption)) (by omega) ?_))
        refine ⟨_, (by omega : 60001 - (c + 1) < 60001 - c), rfl, c + 1, by omega, rfl, ⟨_, HO9⟩, HI9, all_succ hs (by rw [hi]; rfl), EL1⟩
  · rw [chL_err hE]
    repeat' (conv => whnf
             first
             | (refine Dr.quiet tyOk (by kernel_rfl) ?_)
             | (refine VC.pure cl ?_)
             | (refine Rng.mk (by omega) ?_)
             | (refine Split.pos (by omega) ?_)
             | (refine Split.neg (by omega) ?_)
             | (refine Split.mk (fun h => ?_) (fun h => ?_))
             | (refine Need.mk (by omega) ?_)
             | (refine Ints.ln (by assumption) ?_)
             | (refine Mat.ln (by assumption) ?_)
             | (refine Ints.ln (Mat.row (by assumption) _ (by omega)) ?_)
             | (refine Ints.ix (by assumption) (by omega) ?_)
             | (refine Mat.ix (by assumption) (by omega) ?_)
             | (refine Ints.ix (Mat.row (by assumption) _ (by omega)) (by omega) ?_)
             | (refine Ints.ix (c := 0) (by assumption) (by omega) ?_)
             | (refine Mat.ix (c := 0) (by assumption) (by omega) ?_)
             | (refine Ints.ix (c := 0) (Mat.row (by assumption) _ (by omega)) (by omega) ?_)
             | (refine Ints.ixI (by assumption) (by omega) ?_)
             | (refine Mat.ixI (by assumption) (by omega) ?_)
             | (refine Ints.ixI (Mat.row (by assumption) _ (by omega)) (by omega) ?_)
             | (refine Ints.ld (by assumption) (by omega) ?_)
             | (refine Mat.ld (by assumption) (by omega) ?_)
             | (refine Ints.ld (Mat.row (by assumption) _ (by omega)) (by omega) ?_)
             | (refine At.ld (by assumption) rfl ?_)
             | (refine At.ldN (by assumption) rfl ?_)
             | (refine Prs.ln (by assumption) ?_)
             | (refine Trs.ln (by assumption) ?_)
             | (refine Prs.ix (by assumption) (by omega) ?_)
             | (refine Trs.ix (by assumption) (by omega) ?_)
             | (refine Prs.ldN (by assumption) (by omega) ?_)
             | (refine Trs.ldN (by assumption) (by omega) ?_)
             | (refine At.ldN (Blk.at (by assumption)) rfl ?_)
             | (refine At.ld (Blk.at (by assumption)) rfl ?_)
             | (refine IxA.mk (by omega) ?_)
             | (refine Sl.ln (Own.sl (by assumption)) ?_)
             | (refine Ints.ix (Own.sl (by assumption)) (by omega) ?_)
             | (refine Ints.ixI (Own.sl (by assumption)) (by omega) ?_)
             | (refine Ints.ld (Own.sl (by assumption)) (by omega) ?_))
    exact ⟨EE, _, [], rfl, OM.nil⟩
theorem lkE_ne {rr : List (List Int)} {a : List Int} : lkE rr a ≠ 6 := by
  unfold lkE vld chk
  repeat' split
  all_goals omega

theorem rchain_rc {w : World} {gv av : Value} {vs : List Value} {rr : List (List Int)} {a : List Int} (Hg : Mat w gv vs rr) (Ha : Ints w av a) :
    RC Try.prog 36 [.agg #[gv], av] w NoB (fun u w' => ∃ v us, u = .tuple #[v, .int .i64 (lkE rr a)] ∧ OM 0 w' v us (chL rr a)) := by
  refine RC.mk tyOk Try.func36 rfl (by kernel_rfl) fun w1 E1 => ?_
  replace Hg := Hg.ext E1
  replace Ha := Ha.ext E1
  have EE := Ext.refl w1
  refine Bx.agg fun b2 w2 E2 hb2 Hb _ => ?_
  replace Hg := Hg.ext E2
  replace Ha := Ha.ext E2
  replace EE := EE.ext E2
  repeat' (conv => whnf
           first
           | (refine Dr.quiet tyOk (by kernel_rfl) ?_)
           | (refine Rng.mk (by omega) ?_)
           | (refine Split.pos (by omega) ?_)
           | (refine Split.neg (by omega) ?_)
           | (refine Split.mk (fun h => ?_) (fun h => ?_))
           | (refine Need.mk (by omega) ?_)
           | (refine Ints.ln (by assumption) ?_)
           | (refine Mat.ln (by assumption) ?_)
           | (refine Ints.ln (Mat.row (by assumption) _ (by omega)) ?_)
           | (refine Ints.ix (by assumption) (by omega) ?_)
           | (refine Mat.ix (by assumption) (by omega) ?_)
           | (refine Ints.ix (Mat.row (by assumption) _ (by omega)) (by omega) ?_)
           | (refine Ints.ix (c := 0) (by assumption) (by omega) ?_)
           | (refine Mat.ix (c := 0) (by assumption) (by omega) ?_)
           | (refine Ints.ix (c := 0) (Mat.row (by assumption) _ (by omega)) (by omega) ?_)
           | (refine Ints.ixI (by assumption) (by omega) ?_)
           | (refine Mat.ixI (by assumption) (by omega) ?_)
           | (refine Ints.ixI (Mat.row (by assumption) _ (by omega)) (by omega) ?_)
           | (refine Ints.ld (by assumption) (by omega) ?_)
           | (refine Mat.ld (by assumption) (by omega) ?_)
           | (refine Ints.ld (Mat.row (by assumption) _ (by omega)) (by omega) ?_)
           | (refine At.ld (by assumption) rfl ?_)
           | (refine At.ldN (by assumption) rfl ?_)
           | (refine Prs.ln (by assumption) ?_)
           | (refine Trs.ln (by assumption) ?_)
           | (refine Prs.ix (by assumption) (by omega) ?_)
           | (refine Trs.ix (by assumption) (by omega) ?_)
           | (refine Prs.ldN (by assumption) (by omega) ?_)
           | (refine Trs.ldN (by assumption) (by omega) ?_)
           | (refine At.ldN (Blk.at (by assumption)) rfl ?_)
           | (refine At.ld (Blk.at (by assumption)) rfl ?_)
           | (refine IxA.mk (by omega) ?_)
           | (refine Sl.ln (Own.sl (by assumption)) ?_)
           | (refine Ints.ix (Own.sl (by assumption)) (by omega) ?_)
           | (refine Ints.ixI (Own.sl (by assumption)) (by omega) ?_)
           | (refine Ints.ld (Own.sl (by assumption)) (by omega) ?_))
  have Hg__1 := Hg
  have Ha__1 := Ha
  have EE__1 := EE
  have Hb__1 := Hb
  have hz1 := Nat.le_trans E1.size EE.size
  refine Lp.mk tyOk [false, true, false, false, true, true, true, true, true, true, true, true, true, true, true, true, true, true, true, true, true, true, true, true, true, true] (fun m fr wr => getK fr 1 fun av2 => getK fr 6 fun out => ∃ c : Nat, c ≤ 60001 ∧ m = 60001 - c ∧ (Ints wr av2 (itr rr a c)) ∧ ((∃ us, OM w2.heap.size wr out us (chP rr a c))) ∧ (∀ j, j < c → (imp rr (itr rr a j)).isSome) ∧ ((¬ lkE rr a = 0 → c = 0)) ∧ Ext w2 wr) (60001) ?_ ?_
  · exact ⟨0, Nat.zero_le _, rfl, Ha, ⟨_, OM.nil⟩, (by first | exact fun _ hi => absurd hi (Nat.not_lt_zero _) | exact fun _ _ hi => absurd hi (Nat.not_lt_zero _) | assumption | exact Own.nil | omega | simp), (fun _ => rfl), Ext.refl _⟩
  · intro m w3 u1 u4 u5 u6 u7 u8 u9 u10 u11 u12 u13 u14 u15 u16 u17 u18 u19 u20 u21 u22 u23 u24 u25 hR
    obtain ⟨c, hc, rfl, HA2, HO, hs, h0, EL1⟩ := hR
    replace Hg := Hg__1.ext EL1
    replace Ha := Ha__1.ext EL1
    replace EE := EE__1.ext EL1
    replace Hb := Hb__1.ext EL1
    obtain ⟨us, HO⟩ := HO
    by_cases hE : lkE rr a = 0
    · obtain ⟨hv, ht⟩ := lkE_zero hE
      have hcb := itr_bd hv hs
      have hvc := itr_vld hv hs
      have hEc := lkE_ok hvc ht
      have hol := chP_len rr a c
      repeat' (conv => whnf
               first
               | (refine Dr.quiet tyOk (by kernel_rfl) ?_)
               | (refine Rng.mk (by omega) ?_)
               | (refine Split.pos (by omega) ?_)
               | (refine Split.neg (by omega) ?_)
               | (refine Split.mk (fun h => ?_) (fun h => ?_))
               | (refine Need.mk (by omega) ?_)
               | (refine Ints.ln (by assumption) ?_)
               | (refine Mat.ln (by assumption) ?_)
               | (refine Ints.ln (Mat.row (by assumption) _ (by omega)) ?_)
               | (refine Ints.ix (by assumption) (by omega) ?_)
               | (refine Mat.ix (by assumption) (by omega) ?_)
               | (refine Ints.ix (Mat.row (by assumption) _ (by omega)) (by omega) ?_)
               | (refine Ints.ix (c := 0) (by assumption) (by omega) ?_)
               | (refine Mat.ix (c := 0) (by assumption) (by omega) ?_)
               | (refine Ints.ix (c := 0) (Mat.row (by assumption) _ (by omega)) (by omega) ?_)
               | (refine Ints.ixI (by assumption) (by omega) ?_)
               | (refine Mat.ixI (by assumption) (by omega) ?_)
               | (refine Ints.ixI (Mat.row (by assumption) _ (by omega)) (by omega) ?_)
               | (refine Ints.ld (by assumption) (by omega) ?_)
               | (refine Mat.ld (by assumption) (by omega) ?_)
               | (refine Ints.ld (Mat.row (by assumption) _ (by omega)) (by omega) ?_)
               | (refine At.ld (by assumption) rfl ?_)
               | (refine At.ldN (by assumption) rfl ?_)
               | (refine Prs.ln (by assumption) ?_)
               | (refine Trs.ln (by assumption) ?_)
               | (refine Prs.ix (by assumption) (by omega) ?_)
               | (refine Trs.ix (by assumption) (by omega) ?_)
               | (refine Prs.ldN (by assumption) (by omega) ?_)
               | (refine Trs.ldN (by assumption) (by omega) ?_)
               | (refine At.ldN (Blk.at (by assumption)) rfl ?_)
               | (refine At.ld (Blk.at (by assumption)) rfl ?_)
               | (refine IxA.mk (by omega) ?_)
               | (refine Sl.ln (Own.sl (by assumption)) ?_)
               | (refine Ints.ix (Own.sl (by assumption)) (by omega) ?_)
               | (refine Ints.ixI (Own.sl (by assumption)) (by omega) ?_)
               | (refine Ints.ld (Own.sl (by assumption)) (by omega) ?_))
      conv => whnf
      refine VC.rc (rfind_rc Hg HA2) ?_
      rintro _ w4 E4 ⟨v9, rfl, HI⟩
      replace Hg := Hg.ext E4
      replace Ha := Ha.ext E4
      replace EE := EE.ext E4
      replace Hb := Hb.ext E4
      replace EL1 := EL1.ext E4
      replace HA2 := HA2.ext E4
      replace HO := HO.ext E4
      cases hi : imp rr (itr rr a c) with
      | none =>
        obtain ⟨e1, e2⟩ := fd_none hEc hi
        rw [e1]
        repeat' (conv => whnf
                 first
                 | (refine Dr.quiet tyOk (by kernel_rfl) ?_)
                 | (refine Rng.mk (by omega) ?_)
                 | (refine Split.pos (by omega) ?_)
                 | (refine Split.neg (by omega) ?_)
                 | (refine Split.mk (fun h => ?_) (fun h => ?_))
                 | (refine Need.mk (by omega) ?_)
                 | (refine Ints.ln (by assumption) ?_)
                 | (refine Mat.ln (by assumption) ?_)
                 | (refine Ints.ln (Mat.row (by assumption) _ (by omega)) ?_)
                 | (refine Ints.ix (by assumption) (by omega) ?_)
                 | (refine Mat.ix (by assumption) (by omega) ?_)
                 | (refine Ints.ix (Mat.row (by assumption) _ (by omega)) (by omega) ?_)
                 | (refine Ints.ix (c := 0) (by assumption) (by omega) ?_)
                 | (refine Mat.ix (c := 0) (by assumption) (by omega) ?_)
                 | (refine Ints.ix (c := 0) (Mat.row (by assumption) _ (by omega)) (by omega) ?_)
                 | (refine Ints.ixI (by assumption) (by omega) ?_)
                 | (refine Mat.ixI (by assumption) (by omega) ?_)
                 | (refine Ints.ixI (Mat.row (by assumption) _ (by omega)) (by omega) ?_)
                 | (refine Ints.ld (by assumption) (by omega) ?_)
                 | (refine Mat.ld (by assumption) (by omega) ?_)
                 | (refine Ints.ld (Mat.row (by assumption) _ (by omega)) (by omega) ?_)
                 | (refine At.ld (by assumption) rfl ?_)
                 | (refine At.ldN (by assumption) rfl ?_)
                 | (refine Prs.ln (by assumption) ?_)
                 | (refine Trs.ln (by assumption) ?_)
                 | (refine Prs.ix (by assumption) (by omega) ?_)
                 | (refine Trs.ix (by assumption) (by omega) ?_)
                 | (refine Prs.ldN (by assumption) (by omega) ?_)
                 | (refine Trs.ldN (by assumption) (by omega) ?_)
                 | (refine At.ldN (Blk.at (by assumption)) rfl ?_)
                 | (refine At.ld (Blk.at (by assumption)) rfl ?_)
                 | (refine IxA.mk (by omega) ?_)
                 | (refine Sl.ln (Own.sl (by assumption)) ?_)
                 | (refine Ints.ix (Own.sl (by assumption)) (by omega) ?_)
                 | (refine Ints.ixI (Own.sl (by assumption)) (by omega) ?_)
                 | (refine Ints.ld (Own.sl (by assumption)) (by omega) ?_))
        rw [hE, chL_ok hE ⟨hs, hi⟩]
        exact ⟨EE, _, us, rfl, HO.base (Nat.zero_le _)⟩
      | some b =>
        obtain ⟨e1, e2⟩ := fd_some hEc hi
        rw [e2] at HI
        rw [e1]
        have hb : itr rr a (c + 1) = b := by show (imp rr (itr rr a c)).getD [] = b; rw [hi]; rfl
        have HB := HI.1
        repeat' (conv => whnf
                 first
                 | (refine Dr.quiet tyOk (by kernel_rfl) ?_)
                 | (refine Rng.mk (by omega) ?_)
                 | (refine Split.pos (by omega) ?_)
                 | (refine Split.neg (by omega) ?_)
                 | (refine Split.mk (fun h => ?_) (fun h => ?_))
                 | (refine Need.mk (by omega) ?_)
                 | (refine Ints.ln (by assumption) ?_)
                 | (refine Mat.ln (by assumption) ?_)
                 | (refine Ints.ln (Mat.row (by assumption) _ (by omega)) ?_)
                 | (refine Ints.ix (by assumption) (by omega) ?_)
                 | (refine Mat.ix (by assumption) (by omega) ?_)
                 | (refine Ints.ix (Mat.row (by assumption) _ (by omega)) (by omega) ?_)
                 | (refine Ints.ix (c := 0) (by assumption) (by omega) ?_)
                 | (refine Mat.ix (c := 0) (by assumption) (by omega) ?_)
                 | (refine Ints.ix (c := 0) (Mat.row (by assumption) _ (by omega)) (by omega) ?_)
                 | (refine Ints.ixI (by assumption) (by omega) ?_)
                 | (refine Mat.ixI (by assumption) (by omega) ?_)
                 | (refine Ints.ixI (Mat.row (by assumption) _ (by omega)) (by omega) ?_)
                 | (refine Ints.ld (by assumption) (by omega) ?_)
                 | (refine Mat.ld (by assumption) (by omega) ?_)
                 | (refine Ints.ld (Mat.row (by assumption) _ (by omega)) (by omega) ?_)
                 | (refine At.ld (by assumption) rfl ?_)
                 | (refine At.ldN (by assumption) rfl ?_)
                 | (refine Prs.ln (by assumption) ?_)
                 | (refine Trs.ln (by assumption) ?_)
                 | (refine Prs.ix (by assumption) (by omega) ?_)
                 | (refine Trs.ix (by assumption) (by omega) ?_)
                 | (refine Prs.ldN (by assumption) (by omega) ?_)
                 | (refine Trs.ldN (by assumption) (by omega) ?_)
                 | (refine At.ldN (Blk.at (by assumption)) rfl ?_)
                 | (refine At.ld (Blk.at (by assumption)) rfl ?_)
                 | (refine IxA.mk (by omega) ?_)
                 | (refine Sl.ln (Own.sl (by assumption)) ?_)
                 | (refine Ints.ix (Own.sl (by assumption)) (by omega) ?_)
                 | (refine Ints.ixI (Own.sl (by assumption)) (by omega) ?_)
                 | (refine Ints.ld (Own.sl (by assumption)) (by omega) ?_))
        refine VE.lit1 Try.underlying22 eRow ((Sl.cells (Own.sl HB)).1) fun lv w5 E5 Hl => ?_
        replace Hg := Hg.ext E5
        replace Ha := Ha.ext E5
        replace EE := EE.ext E5
        replace Hb := Hb.ext E5
        replace EL1 := EL1.ext E5
        replace HA2 := HA2.ext E5
        replace HO := HO.ext E5
        replace HI := HI.ext E5
        replace HB := HB.ext E5
        conv => whnf
        refine VE.app Try.underlying22 eRow rfl (by omega) HO.top EL1 rfl Hl (by intro u hu; simp only [List.mem_singleton] at hu; subst hu; exact (Sl.cells (Own.sl HB)).2) (by first | omega | (simp only [List.length_map, List.length_range]; omega) | (simp; omega)) (by first | omega | (simp only [List.length_map, List.length_range]; omega) | (simp; omega)) fun v8 w6 E6 G6 H8 => ?_
        replace Hg := Hg__1.ext E6
        replace Ha := Ha__1.ext E6
        replace EE := EE__1.ext E6
        replace Hb := Hb__1.ext E6
        replace EL1 := E6
        have HO9 := HO.push HB G6 H8
        have HB9 := Own.gr HB G6 (fun k hk hS => Own.ne HO.top HB (by decide) k hS hk)
        rw [← hb, ← chP_succ] at HO9
        rw [← hb] at HB9
        repeat' (conv => whnf
                 first
                 | (refine Dr.quiet tyOk (by kernel_rfl) ?_)
                 | (refine Rng.mk (by omega) ?_)
                 | (refine Split.pos (by omega) ?_)
                 | (refine Split.neg (by omega) ?_)
                 | (refine Split.mk (fun h => ?_) (fun h => ?_))
                 | (refine Need.mk (by omega) ?_)
                 | (refine Ints.ln (by assumption) ?_)
                 | (refine Mat.ln (by assumption) ?_)
                 | (refine Ints.ln (Mat.row (by assumption) _ (by omega)) ?_)
                 | (refine Ints.ix (by assumption) (by omega) ?_)
                 | (refine Mat.ix (by assumption) (by omega) ?_)
                 | (refine Ints.ix (Mat.row (by assumption) _ (by omega)) (by omega) ?_)
                 | (refine Ints.ix (c := 0) (by assumption) (by omega) ?_)
                 | (refine Mat.ix (c := 0) (by assumption) (by omega) ?_)
                 | (refine Ints.ix (c := 0) (Mat.row (by assumption) _ (by omega)) (by omega) ?_)
                 | (refine Ints.ixI (by assumption) (by omega) ?_)
                 | (refine Mat.ixI (by assumption) (by omega) ?_)
                 | (refine Ints.ixI (Mat.row (by assumption) _ (by omega)) (by omega) ?_)
                 | (refine Ints.ld (by assumption) (by omega) ?_)
                 | (refine Mat.ld (by assumption) (by omega) ?_)
                 | (refine Ints.ld (Mat.row (by assumption) _ (by omega)) (by omega) ?_)
                 | (refine At.ld (by assumption) rfl ?_)
                 | (refine At.ldN (by assumption) rfl ?_)
                 | (refine Prs.ln (by assumption) ?_)
                 | (refine Trs.ln (by assumption) ?_)
                 | (refine Prs.ix (by assumption) (by omega) ?_)
                 | (refine Trs.ix (by assumption) (by omega) ?_)
                 | (refine Prs.ldN (by assumption) (by omega) ?_)
                 | (refine Trs.ldN (by assumption) (by omega) ?_)
                 | (refine At.ldN (Blk.at (by assumption)) rfl ?_)
                 | (refine At.ld (Blk.at (by assumption)) rfl ?_)
                 | (refine IxA.mk (by omega) ?_)
                 | (refine Sl.ln (Own.sl (by assumption)) ?_)
                 | (refine Ints.ix (Own.sl (by assumption)) (by omega) ?_)
                 | (refine Ints.ixI (Own.sl (by assumption)) (by omega) ?_)
                 | (refine Ints.ld (Own.sl (by assumption)) (by omega) ?_))
        refine ⟨_, (by omega : 60001 - (c + 1) < 60001 - c), rfl, c + 1, by omega, rfl, Own.sl HB9, ⟨_, HO9⟩, all_succ hs (by rw [hi]; rfl), (fun h => absurd hE h), EL1⟩
    · obtain rfl := h0 hE
      obtain ⟨e1, e2⟩ := fd_err hE
      have hne := lkE_ne (rr := rr) (a := a)
      have HA3 : Ints _ u1 a := HA2
      repeat' (conv => whnf
               first
               | (refine Dr.quiet tyOk (by kernel_rfl) ?_)
               | (refine Rng.mk (by omega) ?_)
               | (refine Split.pos (by omega) ?_)
               | (refine Split.neg (by omega) ?_)
               | (refine Split.mk (fun h => ?_) (fun h => ?_))
               | (refine Need.mk (by omega) ?_)
               | (refine Ints.ln (by assumption) ?_)
               | (refine Mat.ln (by assumption) ?_)
               | (refine Ints.ln (Mat.row (by assumption) _ (by omega)) ?_)
               | (refine Ints.ix (by assumption) (by omega) ?_)
               | (refine Mat.ix (by assumption) (by omega) ?_)
               | (refine Ints.ix (Mat.row (by assumption) _ (by omega)) (by omega) ?_)
               | (refine Ints.ix (c := 0) (by assumption) (by omega) ?_)
               | (refine Mat.ix (c := 0) (by assumption) (by omega) ?_)
               | (refine Ints.ix (c := 0) (Mat.row (by assumption) _ (by omega)) (by omega) ?_)
               | (refine Ints.ixI (by assumption) (by omega) ?_)
               | (refine Mat.ixI (by assumption) (by omega) ?_)
               | (refine Ints.ixI (Mat.row (by assumption) _ (by omega)) (by omega) ?_)
               | (refine Ints.ld (by assumption) (by omega) ?_)
               | (refine Mat.ld (by assumption) (by omega) ?_)
               | (refine Ints.ld (Mat.row (by assumption) _ (by omega)) (by omega) ?_)
               | (refine At.ld (by assumption) rfl ?_)
               | (refine At.ldN (by assumption) rfl ?_)
               | (refine Prs.ln (by assumption) ?_)
               | (refine Trs.ln (by assumption) ?_)
               | (refine Prs.ix (by assumption) (by omega) ?_)
               | (refine Trs.ix (by assumption) (by omega) ?_)
               | (refine Prs.ldN (by assumption) (by omega) ?_)
               | (refine Trs.ldN (by assumption) (by omega) ?_)
               | (refine At.ldN (Blk.at (by assumption)) rfl ?_)
               | (refine At.ld (Blk.at (by assumption)) rfl ?_)
               | (refine IxA.mk (by omega) ?_)
               | (refine Sl.ln (Own.sl (by assumption)) ?_)
               | (refine Ints.ix (Own.sl (by assumption)) (by omega) ?_)
               | (refine Ints.ixI (Own.sl (by assumption)) (by omega) ?_)
               | (refine Ints.ld (Own.sl (by assumption)) (by omega) ?_))
      conv => whnf
      refine VC.rc (rfind_rc Hg HA3) ?_
      rintro _ w7 E7 ⟨v9, rfl, HI⟩
      replace Hg := Hg.ext E7
      replace Ha := Ha.ext E7
      replace EE := EE.ext E7
      replace Hb := Hb.ext E7
      replace EL1 := EL1.ext E7
      replace HA2 := HA2.ext E7
      replace HO := HO.ext E7
      rw [e1]
      repeat' (conv => whnf
               first
               | (refine Dr.quiet tyOk (by kernel_rfl) ?_)
               | (refine Rng.mk (by omega) ?_)
               | (refine Split.pos (by omega) ?_)
               | (refine Split.neg (by omega) ?_)
               | (refine Split.mk (fun h => ?_) (fun h => ?_))
               | (refine Need.mk (by omega) ?_)
               | (refine Ints.ln (by assumption) ?_)
               | (refine Mat.ln (by assumption) ?_)
               | (refine Ints.ln (Mat.row (by assumption) _ (by omega)) ?_)
               | (refine Ints.ix (by assumption) (by omega) ?_)
               | (refine Mat.ix (by assumption) (by omega) ?_)
               | (refine Ints.ix (Mat.row (by assumption) _ (by omega)) (by omega) ?_)
               | (refine Ints.ix (c := 0) (by assumption) (by omega) ?_)
               | (refine Mat.ix (c := 0) (by assumption) (by omega) ?_)
               | (refine Ints.ix (c := 0) (Mat.row (by assumption) _ (by omega)) (by omega) ?_)
               | (refine Ints.ixI (by assumption) (by omega) ?_)
               | (refine Mat.ixI (by assumption) (by omega) ?_)
               | (refine Ints.ixI (Mat.row (by assumption) _ (by omega)) (by omega) ?_)
               | (refine Ints.ld (by assumption) (by omega) ?_)
               | (refine Mat.ld (by assumption) (by omega) ?_)
               | (refine Ints.ld (Mat.row (by assumption) _ (by omega)) (by omega) ?_)
               | (refine At.ld (by assumption) rfl ?_)
               | (refine At.ldN (by assumption) rfl ?_)
               | (refine Prs.ln (by assumption) ?_)
               | (refine Trs.ln (by assumption) ?_)
               | (refine Prs.ix (by assumption) (by omega) ?_)
               | (refine Trs.ix (by assumption) (by omega) ?_)
               | (refine Prs.ldN (by assumption) (by omega) ?_)
               | (refine Trs.ldN (by assumption) (by omega) ?_)
               | (refine At.ldN (Blk.at (by assumption)) rfl ?_)
               | (refine At.ld (Blk.at (by assumption)) rfl ?_)
               | (refine IxA.mk (by omega) ?_)
               | (refine Sl.ln (Own.sl (by assumption)) ?_)
               | (refine Ints.ix (Own.sl (by assumption)) (by omega) ?_)
               | (refine Ints.ixI (Own.sl (by assumption)) (by omega) ?_)
               | (refine Ints.ld (Own.sl (by assumption)) (by omega) ?_))
      rw [chL_err hE]
      exact ⟨EE, _, [], rfl, OM.nil⟩
end Go.Proofs.Ytebklnmafjbhcaa
set_option linter.unusedVariables false
set_option linter.unusedSimpArgs false
namespace Go.Eng
open Go.RowKit

section
variable {P : Program} {w w' : World} {v : Value} {B s n : Nat} {xs : List Value} {t e : TypeId}

theorem Own.cut {h : Nat} (H : Eng.Own B e s w v n xs) (hh : h ≤ n) : Eng.Own B e s w (view v s 0 h) h (xs.take (h * s)) := by
  have hm : h * s ≤ n * s := Nat.mul_le_mul_right s hh
  refine ⟨by rw [List.length_take, H.1]; omega, ?_⟩
  rcases H.2 with ⟨rfl, rfl⟩ | ⟨g, cap, cur, rfl, h1, h2, h3, h4, h5, h6⟩
  · obtain rfl : h = 0 := by omega
    exact .inl ⟨rfl, rfl⟩
  · refine .inr ⟨g, cap, cur, ?_, h1, h2, by omega, h4, h5, ?_⟩
    · show sliced (some ⟨g, 0, none⟩) 0 h cap s = _
      unfold sliced
      have e0 : (⟨g, 0, none⟩ : Addr).add (0 * s) = ⟨g, 0, none⟩ := by rw [Nat.zero_mul]; rfl
      simp only [Option.map_some, e0, Nat.sub_zero, ite_self]
    · rw [← h6, List.take_take, Nat.min_eq_left hm]

theorem Own.put {k : Nat} {x : Value} (h : Eng.Own B e s w v n xs) (hk : k < xs.length) (hx : x.oneCell' = true) : (∃ u, w.cell? (ea v k) = some u) ∧ w.frozen? (ea v k) = false ∧ Gr (fun j => v.ownBlock = some j) w (w.setCell (ea v k) x) ∧ Eng.Own B e s (w.setCell (ea v k) x) v n (xs.set k x) := by
  have := Own.set (K := fun w' => Gr (fun j => v.ownBlock = some j) w w' ∧ Eng.Own B e s w' v n (xs.set k x)) h hk hx (fun w' hg h' => ⟨hg, h'⟩)
  simp only [St] at this
  exact ⟨this.2.1, this.2.2.1, (this.2.2.2 w (Ext.refl w)).1, (this.2.2.2 w (Ext.refl w)).2⟩

theorem clear_own {z : Value} (hz : z.oneCell' = true) {g cap : Nat} (hv : v = .slice (some ⟨g, 0, none⟩) n cap) : ∀ (m i : Nat) (w : World) (xs : List Value), Eng.Own B e 1 w v n xs → i + m ≤ n →
    ∃ ys, Gr (fun j => v.ownBlock = some j) w (w.setCells g i (List.replicate m z)) ∧ Eng.Own B e 1 (w.setCells g i (List.replicate m z)) v n ys ∧ ys.take i = xs.take i
  | 0, i, w, xs, h, _ => ⟨xs, Gr.ofExt (Ext.refl w), h, rfl⟩
  | m + 1, i, w, xs, h, hi => by
    have hl := h.1
    have hea : ea v i = ⟨g, i, none⟩ := by
      subst hv; simp only [ea]; unfold Addr.add; split <;> simp_all
    obtain ⟨_, _, hg, ho⟩ := Own.put h (k := i) (by omega) hz
    rw [hea] at hg ho
    obtain ⟨ys, hg2, ho2, ht⟩ := clear_own hz hv m (i + 1) _ _ ho (by omega)
    refine ⟨ys, hg.trans hg2, ho2, ?_⟩
    have e1 : ys.take i = (ys.take (i + 1)).take i := by rw [List.take_take, Nat.min_eq_left (by omega)]
    rw [e1, ht, List.take_take, Nat.min_eq_left (by omega)]
    rw [List.take_set]
    exact List.set_eq_of_length_le (by rw [List.length_take]; omega)

/-- 'clear(s[i:])', s the call's own row of one-cell elements, i short of its end. -/
theorem VE.clear {i b : Nat} {z : Value} {T : TypeId} {K : Value → World → Prop} (ht : P.underlying t = some (.slice e)) (he : Elem P e z 1 b) (hz : z.cells = #[z]) (hz1 : z.oneCell' = true) (H : Eng.Own B e 1 w v n xs) (hi : i < n)
    (hk : ∀ w' ys, Gr (fun j => v.ownBlock = some j) w w' → Eng.Own B e 1 w' v n ys → ys.take i = xs.take i → K (.tuple #[]) w') : VE P (Builtin.clear_ #[t] T #[view v 1 i n]) w K := by
  simp only [VE]
  intro w1 hw1
  have H1 := Own.ext H hw1
  rcases H1.2 with ⟨rfl, h0⟩ | ⟨g, cap, cur, hv, h1, h2, h3, h4, h5, h6⟩
  · omega
  · obtain ⟨ys, hg, ho, hy⟩ := clear_own hz1 hv (n - i) i w1 xs H1 (by omega)
    obtain ⟨i0, hinf, hzv, _, _⟩ := he.info
    have hzr : ∀ w, (zeroValue e).run P w = .ok z w := fun w => by simp [zeroValue, typeInfo, Sem.run_bind, run_program, hinf, hzv]
    have hvw : view v 1 i n = .slice (some ⟨g, i, none⟩) (n - i) (cap - i) := by
      subst hv
      show sliced (some ⟨g, 0, none⟩) i n cap 1 = _
      unfold sliced
      have e0 : (⟨g, 0, none⟩ : Addr).add (i * 1) = ⟨g, i, none⟩ := by rw [Nat.mul_one]; unfold Addr.add; split <;> simp_all
      rw [if_neg (by omega)]
      simp only [Option.map_some, e0]
    have hcell : ∀ j, j < n - i → (w1.cell? ⟨g, i + j, none⟩).isSome = true ∧ w1.frozen? ⟨g, i + j, none⟩ = false := fun j hj => by
      have hl := H1.1
      obtain ⟨⟨u, hu⟩, hf, _, _⟩ := Own.put H1 (k := i + j) (x := z) (by omega) hz1
      have hea : ea v (i + j) = ⟨g, i + j, none⟩ := by
        subst hv; simp only [ea]; unfold Addr.add; split <;> simp_all
      rw [hea] at hu hf
      exact ⟨by rw [hu]; rfl, hf⟩
    have hrun := Go.Lib.run_clear_slice (P := P) w1 t e T z ht hzr hz hz1 g i (n - i) (cap - i) (by omega) (fun j hj => (hcell j hj).1) (fun j hj => (hcell j hj).2)
    rw [← hvw] at hrun
    exact ⟨_, _, hrun, _, Ext.refl _, hk _ ys ((Gr.ofExt hw1).trans hg) ho hy⟩
end
end Go.Eng
