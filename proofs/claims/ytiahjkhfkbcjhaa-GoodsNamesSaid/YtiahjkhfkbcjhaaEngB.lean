/- The engine, part B: what one operation asks, and that it is enough. -/
import Derived.Test.YtiahjkhfkbcjhaaEngA
set_option linter.unusedVariables false
set_option linter.unusedSimpArgs false
namespace Go.Eng
open Go.RowKit

def nthK (l : List Value) : Nat → (Value → Prop) → Prop :=
  @List.rec Value (fun _ => Nat → (Value → Prop) → Prop) (fun _ _ => Stuck 1) (fun v _ ih n K => @Nat.casesOn (fun _ => Prop) n (K v) fun k => ih k K) l

theorem nthK_spec : ∀ {l : List Value} {n : Nat} {K : Value → Prop}, nthK l n K → ∃ v, l[n]? = some v ∧ K v
  | [], _, _, h => by have h' : Stuck 1 := h; simp [Stuck] at h'
  | v :: _, 0, _, h => ⟨v, rfl, h⟩
  | _ :: r, n + 1, _, h => by simpa using nthK_spec (l := r) (n := n) h

/-- k values from 'off' on, written out. -/
def subK (l : List Value) : Nat → Nat → (List Value → Prop) → Prop :=
  @List.rec Value (fun _ => Nat → Nat → (List Value → Prop) → Prop)
    (fun off k K => @Nat.casesOn (fun _ => Prop) off (@Nat.casesOn (fun _ => Prop) k (K []) fun _ => Stuck 2) fun _ => Stuck 2)
    (fun v _ ih off k K => @Nat.casesOn (fun _ => Prop) off (@Nat.casesOn (fun _ => Prop) k (K []) fun k => ih 0 k fun vs => K (v :: vs)) fun o => ih o k K) l

theorem subK_spec : ∀ {l : List Value} {off k : Nat} {K : List Value → Prop}, subK l off k K → K ((l.drop off).take k)
  | [], 0, 0, _, h => h
  | _ :: _, 0, 0, _, h => h
  | [], 0, k + 1, _, h => by have h' : Stuck 2 := h; simp [Stuck] at h'
  | [], off + 1, k, _, h => by have h' : Stuck 2 := h; simp [Stuck] at h'
  | v :: r, 0, k + 1, K, h => by
    have h' : subK r 0 k (fun vs => K (v :: vs)) := h
    simpa using subK_spec h'
  | _ :: r, n + 1, k, K, h => by
    have h' : subK r n k K := h
    simpa using subK_spec h'

def optK (fr : Fr) (x : Option Operand) (K : Option Value → Prop) : Prop :=
  match x with
  | none => K none
  | some x => evK fr x fun v => K (some v)

theorem optK_eq (fr : Fr) (x : Option Operand) (K : Option Value → Prop) : optK fr x K = K (x.map (ev fr)) := by
  cases x <;> simp [optK, evK_eq]

def binSem (op : BinOp) (T : TypeId) (x y : Operand) (a b : Value) : Sem Value := do eqGuard op T x y a b; binOp op T a b

def boolK (b : Bool) (K : Value → Prop) : Prop :=
  match b with
  | true => K (.bool true)
  | false => K (.bool false)

theorem boolK_eq (b : Bool) (K : Value → Prop) : boolK b K = K (.bool b) := by cases b <;> rfl

def binq (P : Program) (tys : List Ty) (op : BinOp) (T : TypeId) (x y : Operand) (a b : Value) (w : World) (K : Value → Prop) : Prop :=
  match a, b with
  | .int .i64 m, .int .i64 n =>
    match op with
    | .add => Rng (m + n) (K (.int .i64 (m + n)))
    | .sub => Rng (m - n) (K (.int .i64 (m - n)))
    | .mul => Rng (m * n) (K (.int .i64 (m * n)))
    | .quo => Need (0 ≤ m ∧ m ≤ 9223372036854775807 ∧ 0 < n) (K (.int .i64 (m / n)))
    | .rem => Need (0 ≤ m ∧ 0 < n) (K (.int .i64 (m % n)))
    | .eql => Split (m = n) (K (.bool true)) (K (.bool false))
    | .neq => Split (m = n) (K (.bool false)) (K (.bool true))
    | .lss => Split (m < n) (K (.bool true)) (K (.bool false))
    | .leq => Split (m ≤ n) (K (.bool true)) (K (.bool false))
    | .gtr => Split (n < m) (K (.bool true)) (K (.bool false))
    | .geq => Split (n ≤ m) (K (.bool true)) (K (.bool false))
    | _ => VS P (binSem op T x y a b) w K
  | .bool p, .bool q =>
    match op, tyAt tys T with
    | .eql, .bo => boolK (p == q) K
    | .neq, .bo => boolK (p != q) K
    | _, _ => Stuck 3
  | _, _ => VS P (binSem op T x y a b) w K

def isOne : Ty → Bool
  | .one | .i64 | .bo | .sl _ => true
  | _ => false

noncomputable def fieldAt (fs : List (Nat × Option Nat)) : Nat → Option (Nat × Option Nat) :=
  @List.rec (Nat × Option Nat) (fun _ => Nat → Option (Nat × Option Nat)) (fun _ => none) (fun x _ ih n => @Nat.casesOn (fun _ => Option (Nat × Option Nat)) n (some x) ih) fs

/-- What a quiet operation asks. -/
def opq (P : Program) (tys : List Ty) (o : Op) (T : TypeId) (fr : Fr) (w : World) (K : Value → Prop) : Prop :=
  match o with
  | .move x => evK fr x K
  | .assign x => evK fr x K
  | .pick c a b => evK fr c fun v => match v with
    | .bool true => evK fr a K
    | .bool false => evK fr b K
    | _ => Stuck 4
  | .binOp op xT x y _ => evK fr x fun a => evK fr y fun b => binq P tys op xT x y a b w K
  | .unOp op _ x => evK fr x fun v => match op, v with
    | .not, .bool true => K (.bool false)
    | .not, .bool false => K (.bool true)
    | .neg, .int .i64 n => Rng (0 - n) (K (.int .i64 (0 - n)))
    | _, _ => Stuck 5
  | .convert src dst x => evK fr x fun v => match tyAt tys src, tyAt tys dst, v with
    | .i64, .i64, .int .i64 n => Rng n (K (.int .i64 n))
    | _, _, _ => VS P (convert src dst v) w K
  | .extract t i => evK fr t fun v => match v with
    | .tuple vs => nthK vs.toList i K
    | _ => Stuck 6
  | .field S x f => evK fr x fun v => match v, tyAt tys S with
    | .agg cs, .st _ fs => match fieldAt fs f with
      | some (off, none) => nthK cs.toList off K
      | some (off, some k) => subK cs.toList off k fun vs => K (.agg vs.toArray)
      | none => Stuck 7
    | _, _ => Stuck 8
  | .fieldAddr S x f => evK fr x fun v => match v, tyAt tys S with
    | .pointer (some p), .st _ fs => match fieldAt fs f with
      | some (off, _) => K (.pointer (some (p.add off)))
      | none => Stuck 9
    | _, _ => Stuck 10
  | .indexAddr S x i => evK fr x fun v => evK fr i fun j => match tyAt tys S with
    | .sl s => Ix s v j K
    | .ar _ len s => match v with
      | .pointer (some p) => IxA len s p j K
      | _ => Stuck 11
    | _ => Stuck 12
  | .index S x i => evK fr x fun v => evK fr i fun j => match tyAt tys S, v, j with
    | .ar _ len 1, .agg cs, .int .i64 (.ofNat k) => Need (k < len) (nthK cs.toList k K)
    | _, _, _ => VS P (Instr.index S v j) w K
  | .load T' a => evK fr a fun v => match v with
    | .pointer (some p) => match tyAt tys T' with
      | .one | .i64 | .bo | .sl _ => Ld w p K
      | .st n _ | .ar n _ _ => LdN n w p K
      | .no => Stuck 13
    | _ => Stuck 14
  | .nilCheck x => evK fr x fun v => match v with
    | .pointer (some p) => K (.pointer (some p))
    | .func (.func g) a b => K (.func (.func g) a b)
    | _ => Stuck 15
  | .makeFunc fn first captured => argsK fr first.toList fun a => argsK fr captured.toList fun b => K (.func fn a.toArray b.toArray)
  | .build S parts => partsK fr parts.toList fun ps => VS P (Instr.build S ps.toArray) w K
  | .lookup S x i ok => evK fr x fun v => evK fr i fun j => VS P (Instr.lookup S v j ok) w K
  | .slice S x lo hi mx => evK fr x fun v => optK fr lo fun l => optK fr hi fun h => optK fr mx fun m => VS P (Instr.sliceAt S v l h m) w K
  | .call c => match c.callee with
    | .builtin b => argsK fr c.args.toList fun vs => match b, vs, c.argTypes.toList with
      | .len, [v], [t] => match tyAt tys t with
        | .sl _ => Ln v K
        | _ => VS P (Builtin.len_ c.argTypes T vs.toArray) w K
      | .min, [.int .i64 m, .int .i64 n], _ => Split (n < m) (K (.int .i64 n)) (K (.int .i64 m))
      | .max, [.int .i64 m, .int .i64 n], _ => Split (m < n) (K (.int .i64 n)) (K (.int .i64 m))
      | _, _, _ => Stuck 16
    | .value f => evK fr f fun fv => match fv with
      | .func (.func g) first captured => argsK fr c.args.toList fun vs => appK first.toList vs fun us => appK us captured.toList fun ts => VCQ P g ts w K
      | _ => Stuck 17
    | _ => Stuck 18
  | _ => Stuck 19

/-! ### soundness of the quiet part -/
section
variable {P : Program} {tys : List Ty} {fr : Fr} {w : World} {K : Value → Prop}

/-- The run of an operation, in every later world. -/
def Yields (P : Program) (fr : Fr) (o : Oper) (w : World) (v : Value) : Prop :=
  (∀ w', Ext w w' → (execOp (ev fr) o).run P w' = .ok (.value v) w') ∨
  ∃ f args, PC P f args w v ∧ ∀ w', Ext w w' → (execOp (ev fr) o).run P w' = .ok (.enter f args.toArray) w'

theorem sizeOf_run {P : Program} {t : TypeId} {n : Nat} (h : P.cellsOf t = n) (hn : n ≠ 0) (w : World) : (sizeOf t).run P w = .ok n w := by
  unfold Program.cellsOf at h
  cases hi : P.info? t with
  | none => rw [hi] at h; simp at h; omega
  | some i => rw [hi] at h; simp at h; simp [Go.sizeOf, typeInfo, hi, h]

def aggD : TypeDesc → Bool
  | .struct _ | .array _ _ => true
  | _ => false

theorem isAgg_run {P : Program} {t : TypeId} {d : TypeDesc} (h : P.underlying t = some d) (w : World) :
    (isAgg t).run P w = .ok (aggD d) w := by
  simp only [isAgg, Sem.run_bind, run_underlying h, Result.andThen_ok]
  cases d <;> rfl

theorem one_cells {t : TypeId} {y : Ty} (h : TyB P t y = true) (hy : isOne y = true) :
    P.cellsOf t = 1 ∧ ∃ d, P.underlying t = some d ∧ (aggD d) = false := by
  cases y <;> simp only [isOne, Bool.false_eq_true] at hy <;> simp only [TyB, Bool.and_eq_true, beq_iff_eq] at h
  case one =>
    refine ⟨h.1, ?_⟩
    have h2 := h.2
    cases hu : P.underlying t with
    | none => rw [hu] at h2; simp at h2
    | some d => refine ⟨d, rfl, ?_⟩; rw [hu] at h2; cases d <;> simp [aggD] at h2 ⊢
  case i64 =>
    refine ⟨h.1, ?_⟩
    have h2 := h.2
    cases hu : P.underlying t with
    | none => rw [hu] at h2; simp at h2
    | some d => refine ⟨d, rfl, ?_⟩; rw [hu] at h2; cases d <;> simp [aggD] at h2 ⊢
  case bo =>
    refine ⟨h.1, ?_⟩
    have h2 := h.2
    cases hu : P.underlying t with
    | none => rw [hu] at h2; simp at h2
    | some d => refine ⟨d, rfl, ?_⟩; rw [hu] at h2; cases d <;> simp [aggD] at h2 ⊢
  case sl s =>
    refine ⟨h.1.1, ?_⟩
    have h2 := h.2
    cases hu : P.underlying t with
    | none => rw [hu] at h2; simp at h2
    | some d => refine ⟨d, rfl, ?_⟩; rw [hu] at h2; cases d <;> simp [aggD] at h2 ⊢

theorem loadCellsFrom_run {P : Program} {w : World} {p : Addr} : ∀ (vs : List Value) (i : Nat) (acc : Array Value), (∀ j x, vs[j]? = some x → w.cell? (p.add (i + j)) = some x) →
    (loadCellsFrom p i vs.length acc).run P w = .ok (acc ++ vs.toArray) w
  | [], i, acc, _ => by simp [loadCellsFrom]
  | v :: vs, i, acc, h => by
    have h0 : w.cell? (p.add i) = some v := by simpa using h 0 v rfl
    have ih := loadCellsFrom_run (P := P) (w := w) (p := p) vs (i + 1) (acc.push v) (fun j x hj => by have := h (j + 1) x (by simpa using hj); rwa [show i + 1 + j = i + (j + 1) by omega])
    simp only [loadCellsFrom, List.length_cons, Sem.run_bind, run_load, h0, Result.andThen_ok, ih]
    simp

theorem fieldsFit_at {P : Program} : ∀ {g : List Field} {fs : List (Nat × Option Nat)} {f : Nat} {x : Nat × Option Nat}, fieldsFit P g fs = true → fieldAt fs f = some x → ∃ q, g[f]? = some q ∧ fieldFits P q x = true
  | [], [], _, _, _, h => by simp [fieldAt] at h
  | [], _ :: _, _, _, h, _ => by simp [fieldsFit] at h
  | _ :: _, [], _, _, h, _ => by simp [fieldsFit] at h
  | q :: g, y :: fs, 0, x, h, hx => by
    simp only [fieldsFit, Bool.and_eq_true] at h
    have hx : some y = some x := hx
    simp only [Option.some.injEq] at hx
    exact ⟨q, rfl, hx ▸ h.1⟩
  | q :: g, y :: fs, f + 1, x, h, hx => by
    simp only [fieldsFit, Bool.and_eq_true] at h
    have hx : fieldAt fs f = some x := hx
    simpa using fieldsFit_at h.2 hx

theorem st_field {t : TypeId} {n f : Nat} {fs : List (Nat × Option Nat)} {x : Nat × Option Nat} (h : TyB P t (.st n fs) = true) (hx : fieldAt fs f = some x) :
    ∃ g q, P.underlying t = some (.struct g) ∧ g[f]? = some q ∧ q.offset = x.1 ∧ fieldFits P q x = true := by
  simp only [TyB, Bool.and_eq_true] at h
  have h2 := h.2
  cases hu : P.underlying t with
  | none => rw [hu] at h2; simp at h2
  | some d =>
    rw [hu] at h2
    cases d <;> simp only [Bool.false_eq_true] at h2
    rename_i g
    obtain ⟨q, hq, hf⟩ := fieldsFit_at h2 hx
    refine ⟨g, q, rfl, by simpa using hq, ?_, hf⟩
    simp only [fieldFits, Bool.and_eq_true, beq_iff_eq] at hf
    exact hf.1

end

end Go.Eng
