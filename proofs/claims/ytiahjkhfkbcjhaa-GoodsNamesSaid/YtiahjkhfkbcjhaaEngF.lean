/- The engine, part F: code, loops, contracts. -/
import Derived.Test.YtiahjkhfkbcjhaaEngE
import Derived.Scope
set_option linter.unusedVariables false
set_option linter.unusedSimpArgs false
namespace Go.Eng
open Go.RowKit

section
variable {P : Program} {tys : List Ty}

@[irreducible] def Lp (P : Program) (b : Code) (fr : Fr) (w : World) (Q : Exit → Fr → World → Prop) : Prop :=
  ∀ w', Ext w w' → (Code.loop b).wp P (Lift Q) (Act.mk fr.toArray []) w'
@[irreducible] def Rw (P : Program) (c : Code) (fr : Fr) (w : World) (Q : Exit → Fr → World → Prop) : Prop :=
  ∀ w', Ext w w' → c.wp P (Lift Q) (Act.mk fr.toArray []) w'

def thenQ (K : Fr → World → Prop) (Q : Exit → Fr → World → Prop) : Exit → Fr → World → Prop
  | .normal, fr, w => K fr w
  | e, fr, w => Q e fr w

def blockQ (id : Nat) (Q : Exit → Fr → World → Prop) : Exit → Fr → World → Prop
  | .exit id', fr, w => match Nat.beq id' id with
    | true => Q .normal fr w
    | false => Q (.exit id') fr w
  | e, fr, w => Q e fr w

/-- In a scope: no jump. -/
def noGQ (Q : Exit → Fr → World → Prop) : Exit → Fr → World → Prop
  | .goto _, _, _ => False
  | e, fr, w => Q e fr w

def gv (P : Program) (tys : List Ty) (c : Code) : Fr → World → (Exit → Fr → World → Prop) → Prop :=
  @Code.rec (fun _ => Fr → World → (Exit → Fr → World → Prop) → Prop)
    (fun fr w Q => Q .normal fr w)
    (fun _ ops draw fr w Q => match draw with
      | true => Dr P ops.toList fr w fun fr' w' => Q .normal fr' w'
      | false => rgn P tys ops.toList ops.toList fr w fun fr' w' => Q .normal fr' w')
    (fun _ _ iha ihb fr w Q => iha fr w (thenQ (fun fr' w' => ihb fr' w' Q) Q))
    (fun c _ _ iha ihb fr w Q => evK fr c fun v => match v with
      | .bool true => iha fr w Q
      | .bool false => ihb fr w Q
      | _ => Stuck 30)
    (fun id _ ih fr w Q => ih fr w (blockQ id Q))
    (fun b _ fr w Q => Lp P b fr w Q)
    (fun f ps a b _ _ fr w Q => Rw P (.rangeFunc f ps a b) fr w Q)
    (fun id fr w Q => Q (.exit id) fr w)
    (fun _ ih fr w Q => ih fr w (noGQ Q))
    (fun _ fr w Q => Q .normal fr w)
    (fun l fr w Q => Rw P (.goto l) fr w Q)
    (fun fr w Q => Q .ret fr w)
    (fun s fr w Q => Rw P (.refuse s) fr w Q) c

theorem gv_sound (hty : TyOk P tys) : ∀ (c : Code) (fr : Fr) (w : World) (Q : Exit → Fr → World → Prop), gv P tys c fr w Q → ∀ w', Ext w w' → c.wp P (Lift Q) (Act.mk fr.toArray []) w'
  | .skip, fr, w, Q, h, w', hw => wp_skip ⟨fr, w, rfl, hw, h⟩
  | .label _, fr, w, Q, h, w', hw => wp_label ⟨fr, w, rfl, hw, h⟩
  | .region id ops draw, fr, w, Q, h, w', hw => by
    cases draw with
    | true =>
      have h : Dr P ops.toList fr w fun fr' w' => Q .normal fr' w' := h
      simp only [Dr] at h
      have := h id (Lift Q) (fun fr' wb w'' hx hk => ⟨fr', wb, rfl, hx, hk⟩) w' hw
      simpa using this
    | false =>
      refine wp_region_list ?_
      have := rgn_sound (Q := Lift Q) hty ops.toList fr w _ h (fun fr' wb w'' hx hk => ⟨fr', wb, rfl, hx, hk⟩) w' hw
      simpa using this
  | .seq a b, fr, w, Q, h, w', hw => by
    refine wp_seq (wp_mono (gv_sound hty a fr w _ h w' hw) ?_)
    rintro e a' w'' ⟨fr', wb, rfl, hx, hq⟩
    cases e with
    | normal => exact gv_sound hty b fr' wb Q hq w'' hx
    | _ => exact ⟨fr', wb, rfl, hx, hq⟩
  | .cond c a b, fr, w, Q, h, w', hw => by
    have h : evK fr c fun v => match v with
      | .bool true => gv P tys a fr w Q
      | .bool false => gv P tys b fr w Q
      | _ => Stuck 30 := h
    rw [evK_eq] at h
    split at h
    · rename_i e; exact wp_cond_true (by rw [ev_eq, e]) (gv_sound hty a fr w Q h w' hw)
    · rename_i e; exact wp_cond_false (by rw [ev_eq, e]) (gv_sound hty b fr w Q h w' hw)
    · simp [Stuck] at h
  | .block id b, fr, w, Q, h, w', hw => by
    refine wp_block (wp_mono (gv_sound hty b fr w _ h w' hw) ?_)
    rintro e a' w'' ⟨fr', wb, rfl, hx, hq⟩
    cases e with
    | exit id' =>
      simp only [Exit.inBlock]
      simp only [blockQ] at hq
      split
      · rename_i e; subst e
        rw [Nat.beq_refl] at hq
        exact ⟨fr', wb, rfl, hx, hq⟩
      · rename_i e
        have : Nat.beq id' id = false := by
          cases h2 : Nat.beq id' id with
          | false => rfl
          | true => exact absurd (Nat.eq_of_beq_eq_true h2) e
        rw [this] at hq
        exact ⟨fr', wb, rfl, hx, hq⟩
    | _ => exact ⟨fr', wb, rfl, hx, hq⟩
  | .loop b, fr, w, Q, h, w', hw => by have h : Lp P b fr w Q := h; simp only [Lp] at h; exact h w' hw
  | .exit id, fr, w, Q, h, w', hw => wp_exit ⟨fr, w, rfl, hw, h⟩
  | .ret, fr, w, Q, h, w', hw => wp_ret ⟨fr, w, rfl, hw, h⟩
  | .rangeFunc .., fr, w, Q, h, w', hw => by unfold gv at h; simp only [Rw] at h; exact h w' hw
  | .scope b, fr, w, Q, h, w', hw => by
    refine wp_scope_straight (wp_mono (gv_sound hty b fr w _ h w' hw) ?_)
    rintro e a' w'' ⟨fr', wb, rfl, hx, hq⟩
    cases e with
    | goto l => exact hq.elim
    | _ => exact ⟨fr', wb, rfl, hx, hq⟩
  | .goto .., fr, w, Q, h, w', hw => by unfold gv at h; simp only [Rw] at h; exact h w' hw
  | .refuse .., fr, w, Q, h, w', hw => by unfold gv at h; simp only [Rw] at h; exact h w' hw

/-! ### loops -/
theorem least_nat {p : Nat → Prop} (h : ∃ n, p n) : ∃ n, p n ∧ ∀ k, k < n → ¬ p k := by
  obtain ⟨n, hn⟩ := h
  induction n using Nat.strongRecOn with
  | _ n ih =>
    by_cases hk : ∃ k, k < n ∧ p k
    · obtain ⟨k, hk, hp⟩ := hk; exact ih k hk hp
    · exact ⟨n, hn, fun k hkn hp => hk ⟨k, hkn, hp⟩⟩

theorem wp_loop_rel {c : Code} {Q : Exit → Act → World → Prop} (J : Nat → Act → World → Prop) {a : Act} {w : World} {m0 : Nat} (h0 : J m0 a w)
    (round : ∀ m a w, J m a w → c.wp P (Exit.then (fun a' w' => ∃ m', m' < m ∧ J m' a' w') Q) a w) : (Code.loop c).wp P Q a w := by
  refine wp_loop (fun a w => ∃ m, J m a w) (fun a w => Classical.epsilon fun m => J m a w ∧ ∀ k, k < m → ¬ J k a w) ⟨m0, h0⟩ ?_
  intro a w hJ
  have hs := Classical.epsilon_spec (p := fun m => J m a w ∧ ∀ k, k < m → ¬ J k a w) (least_nat hJ)
  refine wp_mono (round _ a w hs.1) ?_
  intro e a' w' hq
  cases e with
  | normal =>
    obtain ⟨m', hlt, hJ'⟩ := hq
    refine ⟨⟨m', hJ'⟩, ?_⟩
    have hs' := Classical.epsilon_spec (p := fun m => J m a' w' ∧ ∀ k, k < m → ¬ J k a' w') (least_nat ⟨m', hJ'⟩)
    refine Nat.lt_of_le_of_lt (Nat.le_of_not_lt fun h => hs'.2 _ h hJ') hlt
  | _ => exact hq

def hv (ds : List Bool) : Fr → (Fr → Prop) → Prop :=
  @List.rec Bool (fun _ => Fr → (Fr → Prop) → Prop) (fun fr K => K fr)
    (fun d _ ih fr K => @List.casesOn Value (fun _ => Prop) fr (K []) fun x r => match d with
      | true => ∀ v, ih r fun r' => K (v :: r')
      | false => ih r fun r' => K (x :: r')) ds

noncomputable def blank (ds : List Bool) : Fr → Fr :=
  @List.rec Bool (fun _ => Fr → Fr) (fun fr => fr)
    (fun d _ ih fr => @List.casesOn Value (fun _ => Fr) fr [] fun x r => match d with
      | true => undef :: ih r
      | false => x :: ih r) ds

theorem blank_cons (d : Bool) (ds : List Bool) (x : Value) (r : Fr) : blank (d :: ds) (x :: r) = (match d with | true => undef :: blank ds r | false => x :: blank ds r) := rfl

theorem hv_spec : ∀ {ds : List Bool} {fr : Fr} {K : Fr → Prop}, hv ds fr K → ∀ fr', blank ds fr' = blank ds fr → K fr'
  | [], fr, K, h, fr', e => by
    have e : fr' = fr := e
    subst e; exact h
  | d :: ds, [], K, h, fr', e => by
    cases fr' with
    | nil => exact h
    | cons x r => rw [blank_cons] at e; cases d <;> cases e
  | d :: ds, x :: r, K, h, fr', e => by
    cases fr' with
    | nil => rw [blank_cons] at e; cases d <;> cases e
    | cons y r' =>
      rw [blank_cons, blank_cons] at e
      cases d with
      | true =>
        simp only [List.cons.injEq, true_and] at e
        have h : ∀ v, hv ds r fun r' => K (v :: r') := h
        exact hv_spec (h y) r' e
      | false =>
        simp only [List.cons.injEq] at e
        have h : hv ds r fun r' => K (x :: r') := h
        rw [e.1]
        exact hv_spec (K := fun r' => K (x :: r')) h r' e.2

def loopQ (ds : List Bool) (fr : Fr) (R : Nat → Fr → World → Prop) (m : Nat) (Q : Exit → Fr → World → Prop) : Exit → Fr → World → Prop :=
  thenQ (fun fr' w' => ∃ m', m' < m ∧ blank ds fr' = blank ds fr ∧ R m' fr' w') Q

/-- A LOOP: the slots of ds turn; R holds at each round's head. -/
theorem Lp.mk (hty : TyOk P tys) {b : Code} {fr : Fr} {w : World} {Q : Exit → Fr → World → Prop} (ds : List Bool) (R : Nat → Fr → World → Prop) (m0 : Nat) (h0 : R m0 fr w)
    (hr : ∀ m w', hv ds fr fun fr' => R m fr' w' → gv P tys b fr' w' (loopQ ds fr R m Q)) : Lp P b fr w Q := by
  simp only [Lp]
  intro w' hw
  refine wp_loop_rel (fun m a w' => ∃ fr' wb, a = Act.mk fr'.toArray [] ∧ Ext wb w' ∧ blank ds fr' = blank ds fr ∧ R m fr' wb) (m0 := m0) ⟨fr, w, rfl, hw, rfl, h0⟩ ?_
  rintro m a w1 ⟨fr', wb, rfl, hx, he, hR⟩
  refine wp_mono (gv_sound hty b fr' wb _ (hv_spec (hr m wb) fr' he hR) w1 hx) ?_
  rintro e a' w2 ⟨fr2, wb2, rfl, hx2, hq⟩
  cases e with
  | normal =>
    obtain ⟨m', hlt, hb, hR'⟩ := hq
    exact ⟨m', hlt, fr2, wb2, rfl, hx2, hb, hR'⟩
  | _ => exact ⟨fr2, wb2, rfl, hx2, hq⟩

/-! ### results, contracts -/
def res1 (tys : List Ty) (x : ResultVar) (fr : Fr) (w : World) (K : Value → Prop) : Prop :=
  match x with
  | .tmp t => getK fr t K
  | .cell a t => getK fr a fun p => match p with
    | .pointer (some p) => match tyAt tys t with
      | .one | .i64 | .bo | .sl _ => Ld w p K
      | .st n _ | .ar n _ _ => LdN n w p K
      | .no => Stuck 31
    | _ => Stuck 32

def resK (tys : List Ty) (rs : List ResultVar) (fr : Fr) (w : World) : (List Value → Prop) → Prop :=
  @List.rec ResultVar (fun _ => (List Value → Prop) → Prop) (fun K => K []) (fun x _ ih K => res1 tys x fr w fun v => ih fun vs => K (v :: vs)) rs

def one1 (K : Value → Prop) : List Value → Prop
  | [v] => K v
  | vs => K (.tuple vs.toArray)

def fin (tys : List Ty) (e : Exit) (rs : List ResultVar) (fr : Fr) (w : World) (K : Value → Prop) : Prop :=
  match e with
  | .normal => resK tys rs fr w (one1 K)
  | .ret => resK tys rs fr w (one1 K)
  | _ => False

def resSem (tmps : Array Value) : ResultVar → Sem Value
  | .tmp t => pure (tmps.getD t undef)
  | .cell a t => do loadVar t (← asAddr (tmps.getD a undef))

theorem resK_run (hty : TyOk P tys) {fr : Fr} {w w' : World} (hw : Ext w w') : ∀ (rs : List ResultVar) (K : List Value → Prop), resK tys rs fr w K →
    ∃ vs, K vs ∧ (rs.mapM (m := Sem) (resSem fr.toArray)).run P w' = .ok vs w'
  | [], K, h => ⟨[], h, rfl⟩
  | .tmp t :: r, K, h => by
    have h : getK fr t fun v => resK tys r fr w fun vs => K (v :: vs) := h
    simp only [getK_eq] at h
    obtain ⟨vs, hk, hr⟩ := resK_run hty hw r _ h
    refine ⟨_, hk, ?_⟩
    rw [List.mapM_cons]
    simp only [resSem, pure_bind, Sem.run_bind, hr, Result.andThen_ok, Sem.run_pure, get_eq]
    simp
  | .cell a t :: r, K, h => by
    have h : getK fr a fun p => match p with
      | .pointer (some p) => match tyAt tys t with
        | .one | .i64 | .bo | .sl _ => Ld w p fun v => resK tys r fr w fun vs => K (v :: vs)
        | .st n _ | .ar n _ _ => LdN n w p fun v => resK tys r fr w fun vs => K (v :: vs)
        | .no => Stuck 31
      | _ => Stuck 32 := h
    simp only [getK_eq] at h
    have hg : fr.toArray.getD a undef = get fr a := by rw [get_eq]; simp
    split at h
    · rename_i p e
      have hT := hty.at t
      have go : ∀ v, (loadVar t p).run P w' = .ok v w' → (resK tys r fr w fun vs => K (v :: vs)) → ∃ vs, K vs ∧ ((ResultVar.cell a t :: r).mapM (m := Sem) (resSem fr.toArray)).run P w' = .ok vs w' := by
        intro v hv hk
        obtain ⟨vs, hk, hr⟩ := resK_run hty hw r _ hk
        refine ⟨_, hk, ?_⟩
        rw [List.mapM_cons]
        have e1 : resSem fr.toArray (.cell a t) = loadVar t p := by simp only [resSem, hg, e]; rfl
        rw [e1]
        simp only [Sem.run_bind, hv, hr, Result.andThen_ok, Sem.run_pure]
      split at h
      any_goals
        rename_i e2
        simp only [Ld] at h
        obtain ⟨v, hv, hk⟩ := h
        exact go v (by simpa [Instr.loadAt, Instr.sureAddr] using loadVar_one hty (by rw [e2]; rfl) (hw.cell hv)) hk
      · rename_i n fs e2
        rw [e2] at hT
        obtain ⟨hc, hn, g, hu⟩ := (agg_ty hT).1 _ _ rfl
        simp only [LdN] at h
        obtain ⟨vs, hl, hv, hk⟩ := h
        exact go _ (by simpa [Instr.loadAt, Instr.sureAddr] using loadVar_agg hc hn hu rfl hl (ext_cells hw hv)) hk
      · rename_i n len s e2
        rw [e2] at hT
        obtain ⟨hc, hn, _, e, hu, _⟩ := (agg_ty hT).2 _ _ _ rfl
        simp only [LdN] at h
        obtain ⟨vs, hl, hv, hk⟩ := h
        exact go _ (by simpa [Instr.loadAt, Instr.sureAddr] using loadVar_agg hc hn hu rfl hl (ext_cells hw hv)) hk
      · simp [Stuck] at h
    · simp [Stuck] at h

theorem results_run (hty : TyOk P tys) {fn : Func} {fr : Fr} {w w' : World} (hw : Ext w w') {K : Value → Prop} (h : resK tys fn.results.toList fr w (one1 K)) :
    ∃ v, K v ∧ (results fn fr.toArray).run P w' = .ok v w' := by
  obtain ⟨vs, hk, hr⟩ := resK_run hty hw _ _ h
  have e : (results fn fr.toArray).run P w' = .ok (if h : vs.toArray.size = 1 then vs.toArray[0] else .tuple vs.toArray) w' := by
    have e2 : results fn fr.toArray = (do let vs ← fn.results.mapM (resSem fr.toArray); pure (if h : vs.size = 1 then vs[0] else .tuple vs)) := by
      unfold results
      congr 2
    rw [e2, Array.mapM_eq_mapM_toList]
    simp only [Sem.run_bind, Sem.run_map, hr, Result.andThen_ok, Sem.run_pure]
  rw [e]
  refine ⟨_, ?_, rfl⟩
  match vs, hk with
  | [], hk => exact hk
  | [v], hk => exact hk
  | v :: u :: r, hk => rw [dif_neg (by simp)]; exact hk
end
end Go.Eng
