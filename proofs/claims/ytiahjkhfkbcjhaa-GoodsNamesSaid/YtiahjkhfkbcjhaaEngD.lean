/- The engine, part D: regions, code, calls. -/
import Derived.Test.YtiahjkhfkbcjhaaEngC
set_option linter.unusedVariables false
set_option linter.unusedSimpArgs false
namespace Go.Eng
open Go.RowKit

noncomputable def dstAt (l : List Oper) : Nat → Option Tmp :=
  @List.rec Oper (fun _ => Nat → Option Tmp) (fun _ => none) (fun o _ ih n => @Nat.casesOn (fun _ => Option Tmp) n o.dst ih) l

def grd (all : List Oper) (fr : Fr) (g : Option (Nat × Bool)) (A B : Prop) : Prop :=
  match g with
  | none => A
  | some (j, want) => match dstAt all j with
    | none => B
    | some d => getK fr d fun v => match v, want with
      | .bool true, true => A
      | .bool false, false => A
      | _, _ => B

theorem dstAt_eq : ∀ (all : List Oper) (j : Nat), dstAt all j = (all.toArray[j]?).bind (·.dst)
  | [], j => by show none = _; simp
  | o :: _, 0 => by show o.dst = _; simp
  | o :: r, n + 1 => by show dstAt r n = _; have := dstAt_eq r n; simp at this ⊢; exact this

theorem getK_opt (fr : Fr) (d : Nat) (K : Value → Prop) : getK fr d K = K ((fr[d]?).getD undef) := by rw [getK_eq, get_eq]

theorem grd_spec {all : List Oper} {fr : Fr} {o : Oper} {A B : Prop} (h : grd all fr o.guard A B) :
    (Region.wanted o (yielded all.toArray fr.toArray) = true ∧ A) ∨ (Region.wanted o (yielded all.toArray fr.toArray) = false ∧ B) := by
  unfold grd at h
  unfold Region.wanted
  split at h
  · rename_i e; rw [e]; exact .inl ⟨rfl, h⟩
  · rename_i j want e
    rw [e]
    simp only
    unfold yielded
    rw [← dstAt_eq]
    split at h
    · rename_i e2; rw [e2]; exact .inr ⟨by cases want <;> rfl, h⟩
    · rename_i d e2
      rw [e2, getK_opt] at *
      simp only [Option.bind_some, List.getElem?_toArray]
      cases hv : fr[d]? with
      | none => rw [hv] at h; simp only [Option.getD_none] at h; exact .inr ⟨by cases want <;> rfl, by cases want <;> exact h⟩
      | some v =>
        rw [hv] at h
        simp only [Option.getD_some] at h
        cases v with
        | bool b => cases b <;> cases want <;> first | exact .inl ⟨rfl, h⟩ | exact .inr ⟨rfl, h⟩
        | _ => exact .inr ⟨by cases want <;> rfl, by cases want <;> exact h⟩

/-! ### quiet regions -/
def rgq (P : Program) (tys : List Ty) (w : World) (all l : List Oper) : Fr → (Fr → Prop) → Prop :=
  @List.rec Oper (fun _ => Fr → (Fr → Prop) → Prop) (fun fr K => K fr)
    (fun o _ ih fr K => grd all fr o.guard (opq P tys o.op o.type fr w fun v => putK fr o.dst v fun fr' => ih fr' K) (putK fr o.dst undef fun fr' => ih fr' K)) l

section
variable {P : Program} {tys : List Ty}

theorem quiet_of_yields {o : Oper} {fr : Fr} {w : World} {v : Value} {K : Act → Prop} (h : Yields P fr o w v) (hk : K ((Act.mk fr.toArray []).put o.dst v)) :
    o.quiet P (Act.mk fr.toArray []) (fun w' => Ext w w') K := by
  refine ⟨v, fun w' hw => ?_, hk⟩
  unfold Oper.quietAt
  rw [ev_eq]
  rcases h with h | ⟨f, args, hpc, h⟩
  · rw [h w' hw]; exact ⟨rfl, rfl⟩
  · rw [h w' hw]
    simp only [PC] at hpc
    refine ⟨rfl, (hpc.2 w' hw).mono fun e w'' ⟨he, hx⟩ => ⟨he, hw.trans hx⟩⟩

theorem rgq_sound (hty : TyOk P tys) {w : World} {all : List Oper} : ∀ (l : List Oper) (fr : Fr) (K : Fr → Prop), rgq P tys w all l fr K →
    wpQuiet P all.toArray (fun w' => Ext w w') (fun a => ∃ fr', a = Act.mk fr'.toArray [] ∧ K fr') l (Act.mk fr.toArray [])
  | [], fr, K, h => ⟨fr, rfl, h⟩
  | o :: rest, fr, K, h => by
    unfold wpQuiet
    have h : grd all fr o.guard (opq P tys o.op o.type fr w fun v => putK fr o.dst v fun fr' => rgq P tys w all rest fr' K) (putK fr o.dst undef fun fr' => rgq P tys w all rest fr' K) := h
    rcases grd_spec h with ⟨hw, h⟩ | ⟨hw, h⟩
    · rw [if_pos hw]
      obtain ⟨v, hy, hk⟩ := opq_sound hty o h
      rw [putK_eq] at hk
      refine quiet_of_yields hy ?_
      rw [act_put]
      exact rgq_sound hty rest _ K hk
    · rw [if_neg (by rw [hw]; simp)]
      rw [putK_eq] at h
      rw [act_put]
      exact rgq_sound hty rest _ K h

/-! ### one operation, with effects -/
def bltSem (b : Builtin) (at_ : Array TypeId) (T : TypeId) (args : List Value) : Option (Sem Value) :=
  match b with
  | .append => some (Builtin.append_ at_ T args.toArray)
  | .copy => some (Builtin.copy_ at_ T args.toArray)
  | .len => some (Builtin.len_ at_ T args.toArray)
  | .cap => some (Builtin.cap_ at_ T args.toArray)
  | .min => some (Builtin.min_ at_ T args.toArray)
  | .max => some (Builtin.max_ at_ T args.toArray)
  | .delete => some (Builtin.delete_ at_ T args.toArray)
  | .clear => some (Builtin.clear_ at_ T args.toArray)
  | _ => none

def op1 (P : Program) (tys : List Ty) (o : Op) (T : TypeId) (fr : Fr) (w : World) (K : Value → World → Prop) : Prop :=
  match o with
  | .box T' x => evK fr x fun v => Bx T' v w K
  | .alloc T' => VE P (Instr.alloc T' true (.tuple #[])) w K
  | .store T' a x => evK fr a fun p => evK fr x fun v => match p, isOne (tyAt tys T') with
    | .pointer (some p), true => St w p v fun w' => K undef w'
    | .pointer (some p), false => VU P (Instr.storeAt T' (.pointer (some p)) v) w fun w' => K undef w'
    | _, _ => Stuck 20
  | .makeSlice T' l c => evK fr l fun l => evK fr c fun c => VE P (Instr.makeSlice T' l c) w K
  | .buildSlice T' n parts => partsK fr parts.toList fun ps => VE P (Instr.buildSlice T' n ps.toArray) w K
  | .makeMap T' r => optK fr r fun r => VE P (Instr.makeMap T' r) w K
  | .mapUpdate T' m k x => evK fr m fun m => evK fr k fun k => evK fr x fun x => VU P (Instr.mapUpdate T' m k x) w fun w' => K undef w'
  | .call c => match c.callee with
    | .builtin b => match b with
      | .len => opq P tys o T fr w fun v => K v w
      | .min => opq P tys o T fr w fun v => K v w
      | .max => opq P tys o T fr w fun v => K v w
      | b => argsK fr c.args.toList fun vs => match bltSem b c.argTypes T vs with
        | some s => VE P s w K
        | none => Stuck 21
    | .value f => evK fr f fun fv => match fv with
      | .func (.func g) first captured => argsK fr c.args.toList fun vs => appK first.toList vs fun us => appK us captured.toList fun ts => VC P g ts w K
      | _ => Stuck 22
    | _ => Stuck 23
  | o => opq P tys o T fr w fun v => K v w

theorem wp_of_yields {o : Oper} {fr : Fr} {w w' : World} {v : Value} (hw : Ext w w') (h : Yields P fr o w v) {next : Act → World → Prop} {Q : Exit → Act → World → Prop}
    (hk : ∀ w'', Ext w w'' → next ((Act.mk fr.toArray []).put o.dst v) w'') : o.wp P (Act.mk fr.toArray []) w' next Q := by
  unfold Oper.wp
  rw [ev_eq]
  rcases h with h | ⟨f, args, hpc, h⟩
  · rw [h w' hw]; exact hk w' hw
  · rw [h w' hw, Oper.upon_enter]
    simp only [PC] at hpc
    refine (hpc.2 w' hw).mono fun e w'' ⟨he, hx⟩ => ?_
    subst he
    exact hk w'' (hw.trans hx)

theorem wp_of_sem {o : Oper} {fr : Fr} {w w' : World} {s : Sem Value} {K : Value → World → Prop} (hw : Ext w w') (he : execOp (ev fr) o = (do pure (.value (← s)))) (h : VE P s w K)
    {next : Act → World → Prop} {Q : Exit → Act → World → Prop} (hk : ∀ v wb w'', Ext wb w'' → K v wb → next ((Act.mk fr.toArray []).put o.dst v) w'') : o.wp P (Act.mk fr.toArray []) w' next Q := by
  simp only [VE] at h
  obtain ⟨v, w'', hr, wb, hx, hK⟩ := h w' hw
  unfold Oper.wp
  rw [ev_eq, he]
  simp only [Sem.run_bind, hr, Result.andThen_ok, Sem.run_pure, Oper.upon_value]
  exact hk v wb w'' hx hK

theorem wp_of_unit {o : Oper} {fr : Fr} {w w' : World} {s : Sem Unit} {K : World → Prop} (hw : Ext w w') (he : execOp (ev fr) o = (do s; pure .skip)) (h : VU P s w K)
    {next : Act → World → Prop} {Q : Exit → Act → World → Prop} (hk : ∀ wb w'', Ext wb w'' → K wb → next ((Act.mk fr.toArray []).put o.dst undef) w'') : o.wp P (Act.mk fr.toArray []) w' next Q := by
  simp only [VU] at h
  obtain ⟨w'', hr, wb, hx, hK⟩ := h w' hw
  unfold Oper.wp
  rw [ev_eq, he]
  simp only [Sem.run_bind, hr, Result.andThen_ok, Sem.run_pure, Oper.upon_skip]
  exact hk wb w'' hx hK

theorem cells_one {v : Value} (h : v.oneCell' = true) : v.cells = #[v] := by cases v <;> simp [Value.oneCell'] at h <;> rfl

theorem store_one (hty : TyOk P tys) {T : TypeId} (h1 : isOne (tyAt tys T) = true) {p : Addr} {v u : Value} {w : World} (hv : v.oneCell' = true) (hc : w.cell? p = some u) (hf : w.frozen? p = false) :
    (Instr.storeAt T (.pointer (some p)) v).run P w = .ok () (w.setCell p v) := by
  obtain ⟨hs, d, hd, _⟩ := one_cells (hty.at T) h1
  have hsz : (sizeOf T).run P w = .ok 1 w := sizeOf_run hs (by omega) w
  have e0 : p.add 0 = p := rfl
  simp only [Instr.storeAt, Instr.sureAddr, pure_bind, storeVar, Sem.run_bind, hsz, Result.andThen_ok, cells_one hv]
  simp [storeCells, e0, run_store P w p v .plain hv, hc, hf]

theorem op1_sound (hty : TyOk P tys) (o : Oper) {fr : Fr} {w w' : World} {K : Value → World → Prop} (hw : Ext w w') (h : op1 P tys o.op o.type fr w K)
    {next : Act → World → Prop} {Q : Exit → Act → World → Prop} (hk : ∀ v wb w'', Ext wb w'' → K v wb → next ((Act.mk fr.toArray []).put o.dst v) w'') : o.wp P (Act.mk fr.toArray []) w' next Q := by
  have quiet : opq P tys o.op o.type fr w (fun v => K v w) → o.wp P (Act.mk fr.toArray []) w' next Q := fun hq => by
    obtain ⟨v, hy, hK⟩ := opq_sound hty o hq
    exact wp_of_yields hw hy fun w'' hx => hk v w w'' hx hK
  obtain ⟨dst, op, T, pos, after, guard⟩ := o
  dsimp only at h quiet hk ⊢
  unfold op1 at h
  split at h
  · -- box
    rename_i T' x
    rw [evK_eq] at h
    simp only [Bx] at h
    have h2 := h w' hw
    unfold Oper.wp
    rw [ev_eq]
    simp only [execOp, Instr.box, newVar, newRow, Sem.run_bind, run_newObj, Result.andThen_ok, Sem.run_pure, Oper.upon_value]
    exact hk _ _ _ (Ext.refl _) h2
  · exact wp_of_sem hw rfl h hk
  · -- store
    rename_i T' a x
    simp only [evK_eq] at h
    split at h
    · rename_i p e1 e2
      simp only [St] at h
      obtain ⟨hv, ⟨u, hc⟩, hf, hK⟩ := h
      have hr : (Instr.storeAt T' (ev fr a) (ev fr x)).run P w' = .ok () (w'.setCell p (ev fr x)) := by
        rw [e1]; exact store_one hty e2 hv (hw.cell hc) (by rw [hw.frozen hc (fun hf => hf)]; exact hf)
      unfold Oper.wp
      rw [ev_eq]
      simp only [execOp, Sem.run_bind, hr, Result.andThen_ok, Sem.run_pure, Oper.upon_skip]
      exact hk _ _ _ (Ext.refl _) (hK w' hw)
    · rename_i p e1 e2
      refine wp_of_unit hw ?_ h (fun wb w'' hx hK => hk _ _ _ hx hK)
      rw [← e1]; rfl
    · simp [Stuck] at h
  · simp only [evK_eq] at h; exact wp_of_sem hw rfl h hk
  · rename_i T' n parts
    rw [partsK_eq] at h
    have e : parts.map (fun (i, x) => (i, ev fr x)) = (parts.toList.map fun (i, x) => (i, ev fr x)).toArray := by rw [← Array.toList_map]
    refine wp_of_sem hw ?_ h hk
    rw [← e]; rfl
  · rw [optK_eq] at h; exact wp_of_sem hw rfl h hk
  · simp only [evK_eq] at h; exact wp_of_unit hw rfl h (fun wb w'' hx hK => hk _ _ _ hx hK)
  · -- call
    rename_i c
    split at h
    · rename_i b hcal
      split at h
      · exact quiet h
      · exact quiet h
      · exact quiet h
      · rename_i b' h1 h2 h3
        rw [argsK_eq] at h
        split at h
        · rename_i s hs
          have hargs : c.args.map (ev fr) = (c.args.toList.map (ev fr)).toArray := by rw [← Array.toList_map]
          refine wp_of_sem hw ?_ h hk
          simp only [execOp, resolve, hcal, invoke, pure_bind, hargs]
          cases b <;> simp only [bltSem, Option.some.injEq, reduceCtorEq] at hs <;> (subst hs; rfl)
        · simp [Stuck] at h
    · rename_i f hcal
      rw [evK_eq] at h
      split at h
      · rename_i g first captured hf
        simp only [argsK_eq, appK_eq, VC] at h
        obtain ⟨⟨fn, h1, h2, h3⟩, hcall⟩ := h
        have e : execOp (ev fr) ⟨dst, .call c, T, pos, after, guard⟩ = callFunc g (first ++ c.args.map (ev fr) ++ captured) := by
          simp only [execOp, resolve, hcal, hf, Deferred.ofValue, pure_bind, invoke]
        have ea : first ++ c.args.map (ev fr) ++ captured = (first.toList ++ c.args.toList.map (ev fr) ++ captured.toList).toArray := by
          apply Array.toList_inj.1; simp
        unfold Oper.wp
        rw [ev_eq, e, ea]
        simp only [callFunc, Sem.run_bind, run_program, Result.andThen_ok, h1, h2, h3, Bool.false_eq_true, if_false, Sem.run_pure, Oper.upon_enter]
        refine (hcall w' hw).mono fun e w'' ⟨v, he, wb, hx, hK⟩ => ?_
        subst he
        exact hk v wb w'' hx hK
      · simp [Stuck] at h
    · simp [Stuck] at h
  · exact quiet h

def rgn (P : Program) (tys : List Ty) (all l : List Oper) : Fr → World → (Fr → World → Prop) → Prop :=
  @List.rec Oper (fun _ => Fr → World → (Fr → World → Prop) → Prop) (fun fr w K => K fr w)
    (fun o _ ih fr w K => grd all fr o.guard (op1 P tys o.op o.type fr w fun v w' => putK fr o.dst v fun fr' => ih fr' w' K) (putK fr o.dst undef fun fr' => ih fr' w K)) l

/-- What the engine's post says of the model's: the defers are none, and the true world has grown out of the base. -/
def Lift (Q : Exit → Fr → World → Prop) : Exit → Act → World → Prop := fun e a w' => ∃ fr wb, a = Act.mk fr.toArray [] ∧ Ext wb w' ∧ Q e fr wb

theorem rgn_sound (hty : TyOk P tys) {all : List Oper} {Q : Exit → Act → World → Prop} : ∀ (l : List Oper) (fr : Fr) (w : World) (K : Fr → World → Prop), rgn P tys all l fr w K →
    (∀ fr' wb w'', Ext wb w'' → K fr' wb → Q .normal (Act.mk fr'.toArray []) w'') → ∀ w', Ext w w' → wpList P all.toArray Q l (Act.mk fr.toArray []) w'
  | [], fr, w, K, h, hq, w', hw => hq fr w w' hw h
  | o :: rest, fr, w, K, h, hq, w', hw => by
    unfold wpList
    have h : grd all fr o.guard (op1 P tys o.op o.type fr w fun v w' => putK fr o.dst v fun fr' => rgn P tys all rest fr' w' K) (putK fr o.dst undef fun fr' => rgn P tys all rest fr' w K) := h
    rcases grd_spec h with ⟨hwt, h⟩ | ⟨hwt, h⟩
    · rw [if_pos hwt]
      refine .inl (op1_sound hty o hw h fun v wb w'' hx hK => ?_)
      rw [putK_eq] at hK
      rw [act_put]
      exact rgn_sound hty rest _ wb K hK hq w'' hx
    · rw [if_neg (by rw [hwt]; simp)]
      rw [putK_eq] at h
      rw [act_put]
      exact rgn_sound hty rest _ w K h hq w' hw

end
end Go.Eng
