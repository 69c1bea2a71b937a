/- Joined texts: EngA EngB EngC EngD EngE EngF EngG EngH EngI EngJ EngK EngM EngN EngO EngP EngQ EngS Spec R16a Goods1 R16b Goods2 Kit2 Plain16 Slc L16a NKit EngT EngY FlowPl. -/
import Derived.WalkKit
import Derived.Deep.Quiet
import Derived.StillTail
import Derived.Scope
import Derived.ProofKit
import Derived.Laws.IdiomCopy
import Derived.Laws.CopyRow
import Derived.Test.YtpdldifklgpikaaChecked
import Derived.Deep.Strs
set_option linter.unusedVariables false
set_option linter.unusedSimpArgs false
namespace Go.Eng
open Go.RowKit

/-- The world has grown; of the old blocks only those in S may have turned. -/
structure Gr (S : Nat → Prop) (w w' : World) : Prop where
  os : w'.os = w.os
  tape : w'.tape = w.tape
  output : w'.output = w.output
  size : w.heap.size ≤ w'.heap.size
  block : ∀ k, k < w.heap.size → ¬ S k → w'.heap[k]? = w.heap[k]?

def NoB : Nat → Prop := fun _ => False
abbrev Ext (w w' : World) : Prop := Gr NoB w w'

theorem Gr.refl (S : Nat → Prop) (w : World) : Gr S w w := ⟨rfl, rfl, rfl, Nat.le_refl _, fun _ _ _ => rfl⟩
theorem Ext.refl (w : World) : Ext w w := Gr.refl _ w
theorem Gr.trans {S : Nat → Prop} {a b c : World} (h : Gr S a b) (k : Gr S b c) : Gr S a c :=
  ⟨k.os.trans h.os, k.tape.trans h.tape, k.output.trans h.output, Nat.le_trans h.size k.size, fun i hi hs => (k.block i (Nat.lt_of_lt_of_le hi h.size) hs).trans (h.block i hi hs)⟩
theorem Gr.mono {S S' : Nat → Prop} {a b : World} (h : Gr S a b) (hs : ∀ k, k < a.heap.size → S k → S' k) : Gr S' a b :=
  ⟨h.os, h.tape, h.output, h.size, fun k hk hn => h.block k hk fun hS => hn (hs k hk hS)⟩
theorem Gr.ofExt {S : Nat → Prop} {a b : World} (h : Ext a b) : Gr S a b := h.mono fun _ _ hf => hf.elim
/-- Blocks that were not there at first may turn freely. -/
theorem Gr.new {S S' : Nat → Prop} {a b c : World} (h : Gr S a b) (k : Gr S' b c) (hs : ∀ i, i < a.heap.size → S' i → S i) : Gr S a c :=
  ⟨k.os.trans h.os, k.tape.trans h.tape, k.output.trans h.output, Nat.le_trans h.size k.size, fun i hi hn => (k.block i (Nat.lt_of_lt_of_le hi h.size) (fun hS => hn (hs i hi hS))).trans (h.block i hi hn)⟩
theorem Gr.drawn {S : Nat → Prop} {a b : World} (h : Gr S a b) (n : Nat) : Gr S a { b with drawn := n } := ⟨h.os, h.tape, h.output, h.size, h.block⟩
theorem Gr.alloc {S : Nat → Prop} {a b : World} (h : Gr S a b) (o : Obj) : Gr S a (b.alloc o) :=
  h.trans ⟨rfl, rfl, rfl, by simp, fun k hk _ => Below.heap_alloc b o k hk⟩
theorem Gr.setCell {S : Nat → Prop} {a b : World} (h : Gr S a b) {p : Addr} (hp : S p.block) (v : Value) : Gr S a (b.setCell p v) :=
  h.trans ⟨rfl, rfl, rfl, by simp [World.setCell], fun k _ hn => Below.heap_setCell _ _ _ _ (fun e => hn (e ▸ hp))⟩
theorem Gr.ofGrown {a b : World} {row : Option Nat} (h : a.grownBy b row) : Gr (fun k => some k = row) a b :=
  ⟨h.os, h.tape, h.output, h.size, fun k hk hn => h.block k hk hn⟩
theorem Gr.below {S : Nat → Prop} {B : Nat} {w w' : World} (h : Gr S w w') (hB : B ≤ w.heap.size) (hS : ∀ k, k < B → ¬ S k) : Below B w w' :=
  ⟨h.os, h.tape, h.output, h.size, fun k hk => h.block k (Nat.lt_of_lt_of_le hk hB) (hS k hk)⟩
theorem Ext.below {w w' : World} (h : Ext w w') : Below w.heap.size w w' := Gr.below h (Nat.le_refl _) (fun _ _ hf => hf)

theorem Gr.cell {S : Nat → Prop} {w w' : World} (h : Gr S w w') {p : Addr} {v : Value} (hp : w.cell? p = some v) (hs : ¬ S p.block) : w'.cell? p = some v := by
  rw [World.cell?_of_block (w := w) (h.block p.block (World.block_lt_of_cell? _ _ hp) hs)]; exact hp
theorem Gr.frozen {S : Nat → Prop} {w w' : World} (h : Gr S w w') {p : Addr} {v : Value} (hp : w.cell? p = some v) (hs : ¬ S p.block) : w'.frozen? p = w.frozen? p :=
  World.frozen?_of_block (w := w) (h.block p.block (World.block_lt_of_cell? _ _ hp) hs)
theorem Ext.cell {w w' : World} (h : Ext w w') {p : Addr} {v : Value} (hp : w.cell? p = some v) : w'.cell? p = some v := Gr.cell h hp (fun hf => hf)

/-! ### frames -/
abbrev Fr := List Value

def get : Fr → Nat → Value
  | [], _ => undef
  | v :: _, 0 => v
  | _ :: r, n + 1 => get r n

theorem get_eq : ∀ (fr : Fr) (n : Nat), get fr n = fr[n]?.getD undef
  | [], _ => rfl
  | _ :: _, 0 => rfl
  | _ :: r, n + 1 => by simp [get, get_eq r n]

def getK (fr : Fr) : Nat → (Value → Prop) → Prop :=
  @List.rec Value (fun _ => Nat → (Value → Prop) → Prop) (fun _ K => K undef) (fun v _ ih n K => @Nat.casesOn (fun _ => Prop) n (K v) fun k => ih k K) fr

theorem getK_eq : ∀ (fr : Fr) (n : Nat) (K : Value → Prop), getK fr n K = K (get fr n)
  | [], _, _ => rfl
  | _ :: _, 0, _ => rfl
  | _ :: r, n + 1, K => getK_eq r n K

def ev (fr : Fr) : Operand → Value
  | .tmp t => get fr t
  | .const v => v
  | .global g => .pointer (some ⟨g, 0, none⟩)
  | .func f => .func (.func f) #[] #[]

theorem ev_eq (fr : Fr) (ds : List Deferred) : (Act.mk fr.toArray ds).eval = ev fr := by
  funext x; cases x <;> simp [Act.eval, ev, get_eq]

def evK (fr : Fr) (x : Operand) (K : Value → Prop) : Prop :=
  match x with
  | .tmp t => getK fr t K
  | .const v => K v
  | .global g => K (.pointer (some ⟨g, 0, none⟩))
  | .func f => K (.func (.func f) #[] #[])

theorem evK_eq (fr : Fr) (x : Operand) (K : Value → Prop) : evK fr x K = K (ev fr x) := by
  cases x <;> simp [evK, ev, getK_eq]

def argsK (fr : Fr) (xs : List Operand) : (List Value → Prop) → Prop :=
  @List.rec Operand (fun _ => (List Value → Prop) → Prop) (fun K => K []) (fun x _ ih K => evK fr x fun v => ih fun vs => K (v :: vs)) xs

theorem argsK_eq (fr : Fr) : ∀ (xs : List Operand) (K : List Value → Prop), argsK fr xs K = K (xs.map (ev fr))
  | [], _ => rfl
  | x :: xs, K => by show evK fr x (fun v => argsK fr xs fun vs => K (v :: vs)) = _; simp [evK_eq, argsK_eq fr xs]

def partsK (fr : Fr) (xs : List (Nat × Operand)) : (List (Nat × Value) → Prop) → Prop :=
  @List.rec (Nat × Operand) (fun _ => (List (Nat × Value) → Prop) → Prop) (fun K => K []) (fun x _ ih K => evK fr x.2 fun v => ih fun vs => K ((x.1, v) :: vs)) xs

theorem partsK_eq (fr : Fr) : ∀ (xs : List (Nat × Operand)) (K : List (Nat × Value) → Prop), partsK fr xs K = K (xs.map fun (i, x) => (i, ev fr x))
  | [], _ => rfl
  | (i, x) :: xs, K => by show evK fr x (fun v => partsK fr xs fun vs => K ((i, v) :: vs)) = _; simp [evK_eq, partsK_eq fr xs]

def appK (a b : List Value) : (List Value → Prop) → Prop :=
  @List.rec Value (fun _ => (List Value → Prop) → Prop) (fun K => K b) (fun x _ ih K => ih fun r => K (x :: r)) a

theorem appK_eq : ∀ (a b : List Value) (K : List Value → Prop), appK a b K = K (a ++ b)
  | [], _, _ => rfl
  | x :: a, b, K => by show appK a b (fun r => K (x :: r)) = _; simp [appK_eq a b]

def setK (fr : Fr) (n : Nat) (v : Value) : (Fr → Prop) → Prop :=
  @List.rec Value (fun _ => Nat → (Fr → Prop) → Prop) (fun _ K => K []) (fun x r ih n K => @Nat.casesOn (fun _ => Prop) n (K (v :: r)) fun k => ih k fun r' => K (x :: r')) fr n

theorem setK_eq : ∀ (fr : Fr) (n : Nat) (v : Value) (K : Fr → Prop), setK fr n v K = K (fr.set n v)
  | [], _, _, _ => rfl
  | _ :: _, 0, _, _ => rfl
  | x :: r, n + 1, v, K => by show setK r n v (fun r' => K (x :: r')) = _; simp [setK_eq r n v]

def putK (fr : Fr) (d : Option Tmp) (v : Value) (K : Fr → Prop) : Prop :=
  match d with
  | none => K fr
  | some d => setK fr d v K

def putF (fr : Fr) (d : Option Tmp) (v : Value) : Fr :=
  match d with
  | none => fr
  | some d => fr.set d v

theorem putK_eq (fr : Fr) (d : Option Tmp) (v : Value) (K : Fr → Prop) : putK fr d v K = K (putF fr d v) := by
  cases d <;> simp [putK, putF, setK_eq]

theorem act_put (fr : Fr) (ds : List Deferred) (d : Option Tmp) (v : Value) : (Act.mk fr.toArray ds).put d v = Act.mk (putF fr d v).toArray ds := by
  cases d <;> simp [Act.put, putF]

/-! ### contracts -/
def IsFn (P : Program) (f : FuncId) : Prop := ∃ fn : Func, P.funcs[f]? = some fn ∧ (fn.name == "runtime.NumGoroutine") = false ∧ fn.body.isNone = false

/-- A pure contract: one value, whatever has been laid besides. -/
@[irreducible] def PC (P : Program) (f : FuncId) (args : List Value) (w : World) (v : Value) : Prop :=
  IsFn P f ∧ ∀ w', Ext w w' → Calls P f args.toArray w' fun e w'' => e = .returned v ∧ Ext w' w''

/-- A contract: what has come back, in the world behind the call; of the old blocks those in S may have turned. -/
@[irreducible] def RC (P : Program) (f : FuncId) (args : List Value) (w : World) (S : Nat → Prop) (R : Value → World → Prop) : Prop :=
  IsFn P f ∧ ∀ w', Ext w w' → Calls P f args.toArray w' fun e w'' => ∃ v, e = .returned v ∧ ∃ wb, Ext wb w'' ∧ Gr S w' wb ∧ R v wb

/-! ### tags: where the walk stops -/
@[irreducible] def Split (p : Prop) (A B : Prop) : Prop := (p → A) ∧ (¬ p → B)
@[irreducible] def Rng (n : Int) (A : Prop) : Prop := (-9223372036854775808 ≤ n ∧ n ≤ 9223372036854775807) ∧ A
@[irreducible] def Need (p : Prop) (A : Prop) : Prop := p ∧ A
@[irreducible] def Stuck (_ : Nat) : Prop := False

/-- The address of cell k of a slice's array. -/
@[irreducible] def ea (v : Value) (k : Nat) : Addr := match v with | .slice (some a) _ _ => a.add k | _ => default

@[irreducible] def Ln (v : Value) (K : Value → Prop) : Prop := ∃ a n cap, v = .slice a n cap ∧ K (.int .i64 n)
@[irreducible] def Ix (s : Nat) (v i : Value) (K : Value → Prop) : Prop := ∃ a n cap j, v = .slice (some a) n cap ∧ i = .int .i64 j ∧ 0 ≤ j ∧ j < (n : Int) ∧ K (.pointer (some (ea v (j.toNat * s))))
@[irreducible] def IxA (len s : Nat) (p : Addr) (i : Value) (K : Value → Prop) : Prop := ∃ j, i = .int .i64 j ∧ 0 ≤ j ∧ j < (len : Int) ∧ K (.pointer (some (p.add (j.toNat * s))))
@[irreducible] def Ld (w : World) (p : Addr) (K : Value → Prop) : Prop := ∃ v, w.cell? p = some v ∧ K v
@[irreducible] def LdN (n : Nat) (w : World) (p : Addr) (K : Value → Prop) : Prop := ∃ vs : List Value, vs.length = n ∧ (∀ i x, vs[i]? = some x → w.cell? (p.add i) = some x) ∧ K (.agg vs.toArray)
/-- An operation that yields one value in every later world. -/
@[irreducible] def VS (P : Program) (s : Sem Value) (w : World) (K : Value → Prop) : Prop := ∃ v, (∀ w', Ext w w' → s.run P w' = .ok v w') ∧ K v
@[irreducible] def VCQ (P : Program) (f : FuncId) (args : List Value) (w : World) (K : Value → Prop) : Prop := ∃ v, PC P f args w v ∧ K v
@[irreducible] def VC (P : Program) (f : FuncId) (args : List Value) (w : World) (K : Value → World → Prop) : Prop :=
  IsFn P f ∧ ∀ w', Ext w w' → Calls P f args.toArray w' fun e w'' => ∃ v, e = .returned v ∧ ∃ wb, Ext wb w'' ∧ K v wb
@[irreducible] def VE (P : Program) (s : Sem Value) (w : World) (K : Value → World → Prop) : Prop := ∀ w', Ext w w' → ∃ v w'', s.run P w' = .ok v w'' ∧ ∃ wb, Ext wb w'' ∧ K v wb
@[irreducible] def VX (P : Program) (s : Sem Value) (w : World) (K : Value → World → Prop) : Prop := ∀ w', Ext w w' → ∃ v w'', s.run P w' = .ok v w'' ∧ Ext w' w'' ∧ ∃ wb, Ext wb w'' ∧ K v wb
@[irreducible] def VU (P : Program) (s : Sem Unit) (w : World) (K : World → Prop) : Prop := ∀ w', Ext w w' → ∃ w'', s.run P w' = .ok () w'' ∧ ∃ wb, Ext wb w'' ∧ K wb
@[irreducible] def St (w : World) (p : Addr) (v : Value) (K : World → Prop) : Prop :=
  v.oneCell' = true ∧ (∃ u, w.cell? p = some u) ∧ w.frozen? p = false ∧ ∀ w', Ext w w' → K (w'.setCell p v)
@[irreducible] def Bx (T : TypeId) (v : Value) (w : World) (K : Value → World → Prop) : Prop :=
  ∀ w', Ext w w' → K (.pointer (some ⟨w'.heap.size, 0, none⟩)) (w'.alloc (.cells v.cells T))

/-! ### types -/
inductive Ty where
  | one
  | i64
  | bo
  | sl (s : Nat)
  | st (n : Nat) (fs : List (Nat × Option Nat))
  | ar (n len s : Nat)
  | no

def fieldFits (P : Program) (f : Field) (x : Nat × Option Nat) : Bool :=
  f.offset == x.1 && match x.2 with
    | none => P.cellsOf f.type == 1 && (match P.underlying f.type with | some (.struct _) | some (.array _ _) | none => false | _ => true)
    | some k => P.cellsOf f.type == k && k != 0 && (match P.underlying f.type with | some (.struct _) | some (.array _ _) => true | _ => false)

def fieldsFit (P : Program) : List Field → List (Nat × Option Nat) → Bool
  | [], [] => true
  | f :: fs, x :: xs => fieldFits P f x && fieldsFit P fs xs
  | _, _ => false

def TyB (P : Program) (t : TypeId) : Ty → Bool
  | .one => P.cellsOf t == 1 && (match P.underlying t with | some (.struct _) | some (.array _ _) | none => false | _ => true)
  | .i64 => P.cellsOf t == 1 && (match P.underlying t with | some (.int .i64) => true | _ => false)
  | .bo => P.cellsOf t == 1 && (match P.underlying t with | some .bool => true | _ => false)
  | .sl s => P.cellsOf t == 1 && s != 0 && (match P.underlying t with | some (.slice e) => P.cellsOf e == s | _ => false)
  | .st n fs => P.cellsOf t == n && n != 0 && (match P.underlying t with | some (.struct g) => fieldsFit P g.toList fs | _ => false)
  | .ar n len s => P.cellsOf t == n && n != 0 && s != 0 && (match P.underlying t with | some (.array l e) => l == len && P.cellsOf e == s && (s != 1 || (match P.underlying e with | some (.struct _) | some (.array _ _) | none => false | _ => true)) | _ => false)
  | .no => true

noncomputable def tyAt (l : List Ty) : Nat → Ty :=
  @List.rec Ty (fun _ => Nat → Ty) (fun _ => .no) (fun x _ ih n => @Nat.casesOn (fun _ => Ty) n x ih) l

def tysFit (P : Program) : Nat → List Ty → Bool
  | _, [] => true
  | k, t :: ts => TyB P k t && tysFit P (k + 1) ts

theorem tysFit_spec {P : Program} : ∀ {ts : List Ty} {k : Nat}, tysFit P k ts = true → ∀ n, TyB P (k + n) (tyAt ts n) = true
  | [], _, _, _ => rfl
  | t :: ts, k, h, 0 => by simp only [tysFit, Bool.and_eq_true] at h; exact h.1
  | t :: ts, k, h, n + 1 => by
    simp only [tysFit, Bool.and_eq_true] at h
    have := tysFit_spec h.2 n
    rw [show k + (n + 1) = k + 1 + n by omega]
    exact this

structure TyOk (P : Program) (tys : List Ty) : Prop where
  fit : tysFit P 0 tys = true
  mixed : P.follows .mixedOrders = true

theorem TyOk.at {P : Program} {tys : List Ty} (h : TyOk P tys) (t : TypeId) : TyB P t (tyAt tys t) = true := by
  have := tysFit_spec h.fit t
  simpa using this

end Go.Eng
set_option linter.unusedVariables false
set_option linter.unusedSimpArgs false
namespace Go.Eng
open Go.RowKit

def nthK (l : List Value) : Nat → (Value → Prop) → Prop :=
  @List.rec Value (fun _ => Nat → (Value → Prop) → Prop) (fun _ _ => Stuck 1) (fun v _ ih n K => @Nat.casesOn (fun _ => Prop) n (K v) fun k => ih k K) l

theorem nthK_spec : ∀ {l : List Value} {n : Nat} {K : Value → Prop}, nthK l n K → ∃ v, l[n]? = some v ∧ K v
  | [], _, _, h => by have h' : Stuck 1 := h; simp [Stuck] at h'
  | v :: _, 0, _, h => ⟨v, rfl, h⟩
  | _ :: r, n + 1, _, h => by simpa using nthK_spec (l := r) (n := n) h

/-- k values from 'off' on, written out. -/
def subK (l : List Value) : Nat → Nat → (List Value → Prop) → Prop :=
  @List.rec Value (fun _ => Nat → Nat → (List Value → Prop) → Prop)
    (fun off k K => @Nat.casesOn (fun _ => Prop) off (@Nat.casesOn (fun _ => Prop) k (K []) fun _ => Stuck 2) fun _ => Stuck 2)
    (fun v _ ih off k K => @Nat.casesOn (fun _ => Prop) off (@Nat.casesOn (fun _ => Prop) k (K []) fun k => ih 0 k fun vs => K (v :: vs)) fun o => ih o k K) l

theorem subK_spec : ∀ {l : List Value} {off k : Nat} {K : List Value → Prop}, subK l off k K → K ((l.drop off).take k)
  | [], 0, 0, _, h => h
  | _ :: _, 0, 0, _, h => h
  | [], 0, k + 1, _, h => by have h' : Stuck 2 := h; simp [Stuck] at h'
  | [], off + 1, k, _, h => by have h' : Stuck 2 := h; simp [Stuck] at h'
  | v :: r, 0, k + 1, K, h => by
    have h' : subK r 0 k (fun vs => K (v :: vs)) := h
    simpa using subK_spec h'
  | _ :: r, n + 1, k, K, h => by
    have h' : subK r n k K := h
    simpa using subK_spec h'

def optK (fr : Fr) (x : Option Operand) (K : Option Value → Prop) : Prop :=
  match x with
  | none => K none
  | some x => evK fr x fun v => K (some v)

theorem optK_eq (fr : Fr) (x : Option Operand) (K : Option Value → Prop) : optK fr x K = K (x.map (ev fr)) := by
  cases x <;> simp [optK, evK_eq]

def binSem (op : BinOp) (T : TypeId) (x y : Operand) (a b : Value) : Sem Value := do eqGuard op T x y a b; binOp op T a b

def boolK (b : Bool) (K : Value → Prop) : Prop :=
  match b with
  | true => K (.bool true)
  | false => K (.bool false)

theorem boolK_eq (b : Bool) (K : Value → Prop) : boolK b K = K (.bool b) := by cases b <;> rfl

def binq (P : Program) (tys : List Ty) (op : BinOp) (T : TypeId) (x y : Operand) (a b : Value) (w : World) (K : Value → Prop) : Prop :=
  match a, b with
  | .int .i64 m, .int .i64 n =>
    match op with
    | .add => Rng (m + n) (K (.int .i64 (m + n)))
    | .sub => Rng (m - n) (K (.int .i64 (m - n)))
    | .mul => Rng (m * n) (K (.int .i64 (m * n)))
    | .quo => Need (0 ≤ m ∧ m ≤ 9223372036854775807 ∧ 0 < n) (K (.int .i64 (m / n)))
    | .rem => Need (0 ≤ m ∧ 0 < n) (K (.int .i64 (m % n)))
    | .eql => Split (m = n) (K (.bool true)) (K (.bool false))
    | .neq => Split (m = n) (K (.bool false)) (K (.bool true))
    | .lss => Split (m < n) (K (.bool true)) (K (.bool false))
    | .leq => Split (m ≤ n) (K (.bool true)) (K (.bool false))
    | .gtr => Split (n < m) (K (.bool true)) (K (.bool false))
    | .geq => Split (n ≤ m) (K (.bool true)) (K (.bool false))
    | _ => VS P (binSem op T x y a b) w K
  | .bool p, .bool q =>
    match op, tyAt tys T with
    | .eql, .bo => boolK (p == q) K
    | .neq, .bo => boolK (p != q) K
    | _, _ => Stuck 3
  | _, _ => VS P (binSem op T x y a b) w K

def isOne : Ty → Bool
  | .one | .i64 | .bo | .sl _ => true
  | _ => false

noncomputable def fieldAt (fs : List (Nat × Option Nat)) : Nat → Option (Nat × Option Nat) :=
  @List.rec (Nat × Option Nat) (fun _ => Nat → Option (Nat × Option Nat)) (fun _ => none) (fun x _ ih n => @Nat.casesOn (fun _ => Option (Nat × Option Nat)) n (some x) ih) fs

/-- What a quiet operation asks. -/
def opq (P : Program) (tys : List Ty) (o : Op) (T : TypeId) (fr : Fr) (w : World) (K : Value → Prop) : Prop :=
  match o with
  | .move x => evK fr x K
  | .assign x => evK fr x K
  | .pick c a b => evK fr c fun v => match v with
    | .bool true => evK fr a K
    | .bool false => evK fr b K
    | _ => Stuck 4
  | .binOp op xT x y _ => evK fr x fun a => evK fr y fun b => binq P tys op xT x y a b w K
  | .unOp op _ x => evK fr x fun v => match op, v with
    | .not, .bool true => K (.bool false)
    | .not, .bool false => K (.bool true)
    | .neg, .int .i64 n => Rng (0 - n) (K (.int .i64 (0 - n)))
    | _, _ => Stuck 5
  | .convert src dst x => evK fr x fun v => match tyAt tys src, tyAt tys dst, v with
    | .i64, .i64, .int .i64 n => Rng n (K (.int .i64 n))
    | _, _, _ => VS P (convert src dst v) w K
  | .extract t i => evK fr t fun v => match v with
    | .tuple vs => nthK vs.toList i K
    | _ => Stuck 6
  | .field S x f => evK fr x fun v => match v, tyAt tys S with
    | .agg cs, .st _ fs => match fieldAt fs f with
      | some (off, none) => nthK cs.toList off K
      | some (off, some k) => subK cs.toList off k fun vs => K (.agg vs.toArray)
      | none => Stuck 7
    | _, _ => Stuck 8
  | .fieldAddr S x f => evK fr x fun v => match v, tyAt tys S with
    | .pointer (some p), .st _ fs => match fieldAt fs f with
      | some (off, _) => K (.pointer (some (p.add off)))
      | none => Stuck 9
    | _, _ => Stuck 10
  | .indexAddr S x i => evK fr x fun v => evK fr i fun j => match tyAt tys S with
    | .sl s => Ix s v j K
    | .ar _ len s => match v with
      | .pointer (some p) => IxA len s p j K
      | _ => Stuck 11
    | _ => Stuck 12
  | .index S x i => evK fr x fun v => evK fr i fun j => match tyAt tys S, v, j with
    | .ar _ len 1, .agg cs, .int .i64 (.ofNat k) => Need (k < len) (nthK cs.toList k K)
    | _, _, _ => VS P (Instr.index S v j) w K
  | .load T' a => evK fr a fun v => match v with
    | .pointer (some p) => match tyAt tys T' with
      | .one | .i64 | .bo | .sl _ => Ld w p K
      | .st n _ | .ar n _ _ => LdN n w p K
      | .no => Stuck 13
    | _ => Stuck 14
  | .nilCheck x => evK fr x fun v => match v with
    | .pointer (some p) => K (.pointer (some p))
    | .func (.func g) a b => K (.func (.func g) a b)
    | _ => Stuck 15
  | .makeFunc fn first captured => argsK fr first.toList fun a => argsK fr captured.toList fun b => K (.func fn a.toArray b.toArray)
  | .build S parts => partsK fr parts.toList fun ps => VS P (Instr.build S ps.toArray) w K
  | .lookup S x i ok => evK fr x fun v => evK fr i fun j => VS P (Instr.lookup S v j ok) w K
  | .slice S x lo hi mx => evK fr x fun v => optK fr lo fun l => optK fr hi fun h => optK fr mx fun m => VS P (Instr.sliceAt S v l h m) w K
  | .call c => match c.callee with
    | .builtin b => argsK fr c.args.toList fun vs => match b, vs, c.argTypes.toList with
      | .len, [v], [t] => match tyAt tys t with
        | .sl _ => Ln v K
        | _ => VS P (Builtin.len_ c.argTypes T vs.toArray) w K
      | .min, [.int .i64 m, .int .i64 n], _ => Split (n < m) (K (.int .i64 n)) (K (.int .i64 m))
      | .max, [.int .i64 m, .int .i64 n], _ => Split (m < n) (K (.int .i64 n)) (K (.int .i64 m))
      | _, _, _ => Stuck 16
    | .value f => evK fr f fun fv => match fv with
      | .func (.func g) first captured => argsK fr c.args.toList fun vs => appK first.toList vs fun us => appK us captured.toList fun ts => VCQ P g ts w K
      | _ => Stuck 17
    | _ => Stuck 18
  | _ => Stuck 19

section
variable {P : Program} {tys : List Ty} {fr : Fr} {w : World} {K : Value → Prop}

/-- The run of an operation, in every later world. -/
def Yields (P : Program) (fr : Fr) (o : Oper) (w : World) (v : Value) : Prop :=
  (∀ w', Ext w w' → (execOp (ev fr) o).run P w' = .ok (.value v) w') ∨
  ∃ f args, PC P f args w v ∧ ∀ w', Ext w w' → (execOp (ev fr) o).run P w' = .ok (.enter f args.toArray) w'

theorem sizeOf_run {P : Program} {t : TypeId} {n : Nat} (h : P.cellsOf t = n) (hn : n ≠ 0) (w : World) : (sizeOf t).run P w = .ok n w := by
  unfold Program.cellsOf at h
  cases hi : P.info? t with
  | none => rw [hi] at h; simp at h; omega
  | some i => rw [hi] at h; simp at h; simp [Go.sizeOf, typeInfo, hi, h]

def aggD : TypeDesc → Bool
  | .struct _ | .array _ _ => true
  | _ => false

theorem isAgg_run {P : Program} {t : TypeId} {d : TypeDesc} (h : P.underlying t = some d) (w : World) :
    (isAgg t).run P w = .ok (aggD d) w := by
  simp only [isAgg, Sem.run_bind, run_underlying h, Result.andThen_ok]
  cases d <;> rfl

theorem one_cells {t : TypeId} {y : Ty} (h : TyB P t y = true) (hy : isOne y = true) :
    P.cellsOf t = 1 ∧ ∃ d, P.underlying t = some d ∧ (aggD d) = false := by
  cases y <;> simp only [isOne, Bool.false_eq_true] at hy <;> simp only [TyB, Bool.and_eq_true, beq_iff_eq] at h
  case one =>
    refine ⟨h.1, ?_⟩
    have h2 := h.2
    cases hu : P.underlying t with
    | none => rw [hu] at h2; simp at h2
    | some d => refine ⟨d, rfl, ?_⟩; rw [hu] at h2; cases d <;> simp [aggD] at h2 ⊢
  case i64 =>
    refine ⟨h.1, ?_⟩
    have h2 := h.2
    cases hu : P.underlying t with
    | none => rw [hu] at h2; simp at h2
    | some d => refine ⟨d, rfl, ?_⟩; rw [hu] at h2; cases d <;> simp [aggD] at h2 ⊢
  case bo =>
    refine ⟨h.1, ?_⟩
    have h2 := h.2
    cases hu : P.underlying t with
    | none => rw [hu] at h2; simp at h2
    | some d => refine ⟨d, rfl, ?_⟩; rw [hu] at h2; cases d <;> simp [aggD] at h2 ⊢
  case sl s =>
    refine ⟨h.1.1, ?_⟩
    have h2 := h.2
    cases hu : P.underlying t with
    | none => rw [hu] at h2; simp at h2
    | some d => refine ⟨d, rfl, ?_⟩; rw [hu] at h2; cases d <;> simp [aggD] at h2 ⊢

theorem loadCellsFrom_run {P : Program} {w : World} {p : Addr} : ∀ (vs : List Value) (i : Nat) (acc : Array Value), (∀ j x, vs[j]? = some x → w.cell? (p.add (i + j)) = some x) →
    (loadCellsFrom p i vs.length acc).run P w = .ok (acc ++ vs.toArray) w
  | [], i, acc, _ => by simp [loadCellsFrom]
  | v :: vs, i, acc, h => by
    have h0 : w.cell? (p.add i) = some v := by simpa using h 0 v rfl
    have ih := loadCellsFrom_run (P := P) (w := w) (p := p) vs (i + 1) (acc.push v) (fun j x hj => by have := h (j + 1) x (by simpa using hj); rwa [show i + 1 + j = i + (j + 1) by omega])
    simp only [loadCellsFrom, List.length_cons, Sem.run_bind, run_load, h0, Result.andThen_ok, ih]
    simp

theorem fieldsFit_at {P : Program} : ∀ {g : List Field} {fs : List (Nat × Option Nat)} {f : Nat} {x : Nat × Option Nat}, fieldsFit P g fs = true → fieldAt fs f = some x → ∃ q, g[f]? = some q ∧ fieldFits P q x = true
  | [], [], _, _, _, h => by simp [fieldAt] at h
  | [], _ :: _, _, _, h, _ => by simp [fieldsFit] at h
  | _ :: _, [], _, _, h, _ => by simp [fieldsFit] at h
  | q :: g, y :: fs, 0, x, h, hx => by
    simp only [fieldsFit, Bool.and_eq_true] at h
    have hx : some y = some x := hx
    simp only [Option.some.injEq] at hx
    exact ⟨q, rfl, hx ▸ h.1⟩
  | q :: g, y :: fs, f + 1, x, h, hx => by
    simp only [fieldsFit, Bool.and_eq_true] at h
    have hx : fieldAt fs f = some x := hx
    simpa using fieldsFit_at h.2 hx

theorem st_field {t : TypeId} {n f : Nat} {fs : List (Nat × Option Nat)} {x : Nat × Option Nat} (h : TyB P t (.st n fs) = true) (hx : fieldAt fs f = some x) :
    ∃ g q, P.underlying t = some (.struct g) ∧ g[f]? = some q ∧ q.offset = x.1 ∧ fieldFits P q x = true := by
  simp only [TyB, Bool.and_eq_true] at h
  have h2 := h.2
  cases hu : P.underlying t with
  | none => rw [hu] at h2; simp at h2
  | some d =>
    rw [hu] at h2
    cases d <;> simp only [Bool.false_eq_true] at h2
    rename_i g
    obtain ⟨q, hq, hf⟩ := fieldsFit_at h2 hx
    refine ⟨g, q, rfl, by simpa using hq, ?_, hf⟩
    simp only [fieldFits, Bool.and_eq_true, beq_iff_eq] at hf
    exact hf.1

end

end Go.Eng
set_option linter.unusedVariables false
set_option linter.unusedSimpArgs false
namespace Go.Eng
open Go.RowKit

section
variable {P : Program} {tys : List Ty} {fr : Fr} {w : World} {K : Value → Prop}

theorem yields_pure {o : Oper} {v : Value} (h : execOp (ev fr) o = pure (.value v)) : Yields P fr o w v :=
  .inl fun w' _ => by rw [h]; rfl

theorem yields_sem {o : Oper} {v : Value} {s : Sem Value} (h : execOp (ev fr) o = (do pure (.value (← s)))) (hs : ∀ w', Ext w w' → s.run P w' = .ok v w') : Yields P fr o w v :=
  .inl fun w' hw => by rw [h]; simp [hs w' hw]

theorem vs_sound {o : Oper} {s : Sem Value} (h : execOp (ev fr) o = (do pure (.value (← s)))) (hv : VS P s w K) : ∃ v, Yields P fr o w v ∧ K v := by
  simp only [VS] at hv
  obtain ⟨v, hs, hk⟩ := hv
  exact ⟨v, yields_sem h hs, hk⟩

theorem split_yields {o : Oper} {p : Prop} [Decidable p] {s : Sem Value} {u v : Value} (h : execOp (ev fr) o = (do pure (.value (← s)))) (hs : ∀ w', s.run P w' = .ok (if p then u else v) w') (hk : Split p (K u) (K v)) :
    ∃ v, Yields P fr o w v ∧ K v := by
  simp only [Split] at hk
  refine ⟨if p then u else v, yields_sem h (fun w' _ => hs w'), ?_⟩
  by_cases hp : p
  · rw [if_pos hp]; exact hk.1 hp
  · rw [if_neg hp]; exact hk.2 hp

theorem eqGuard_int (op : BinOp) (T : TypeId) (x y : Operand) (a b : IntKind) (m n : Int) : eqGuard op T x y (.int a m) (.int b n) = pure () := by
  cases op <;> rfl

theorem eqGuard_bool (op : BinOp) (T : TypeId) (x y : Operand) (a b : Bool) : eqGuard op T x y (.bool a) (.bool b) = pure () := by
  cases op <;> rfl

theorem equal_bool {T : TypeId} (h : P.underlying T = some .bool) (a b : Bool) (w : World) : (Op.equal T (.bool a) (.bool b)).run P w = .ok (a == b) w := by
  unfold Op.equal
  rw [show Op.maxDepth = 9999 + 1 from rfl, Op.equalIn]
  simp only [Sem.run_bind, run_underlying h, Result.andThen_ok, Sem.run_pure]

theorem binq_sound (hty : TyOk P tys) {op : BinOp} {T : TypeId} {x y : Operand} {a b : Value} {o : Oper} (h : execOp (ev fr) o = (do pure (.value (← binSem op T x y a b))))
    (hk : binq P tys op T x y a b w K) : ∃ v, Yields P fr o w v ∧ K v := by
  unfold binq at hk
  split at hk
  · rename_i m n
    have hg := eqGuard_int op T x y .i64 .i64 m n
    have hb : binSem op T x y (.int .i64 m) (.int .i64 n) = binOp op T (.int .i64 m) (.int .i64 n) := by unfold binSem; rw [hg]; rfl
    split at hk
    · simp only [Rng] at hk
      refine ⟨_, yields_sem h (fun w' _ => ?_), hk.2⟩
      rw [hb]; simp only [binOp, ne_eq, not_true_eq_false, if_false, Op.intArith, Sem.run_pure, IntWalk.i64_in _ hk.1]
    · simp only [Rng] at hk
      refine ⟨_, yields_sem h (fun w' _ => ?_), hk.2⟩
      rw [hb]; simp only [binOp, ne_eq, not_true_eq_false, if_false, Op.intArith, Sem.run_pure, IntWalk.i64_in _ hk.1]
    · simp only [Rng] at hk
      refine ⟨_, yields_sem h (fun w' _ => ?_), hk.2⟩
      rw [hb]; simp only [binOp, ne_eq, not_true_eq_false, if_false, Op.intArith, Sem.run_pure, IntWalk.i64_in _ hk.1]
    · simp only [Need] at hk
      obtain ⟨⟨h0, h1, h2⟩, hK⟩ := hk
      refine ⟨_, yields_sem h (fun w' _ => ?_), hK⟩
      have hn : n ≠ 0 := by omega
      rw [hb]; simp only [binOp, ne_eq, not_true_eq_false, if_false, Op.intDiv, if_neg hn, Sem.run_pure]
      rw [IntWalk.i64_quo m n ⟨h0, h1, by omega⟩]
    · simp only [Need] at hk
      obtain ⟨⟨h0, h2⟩, hK⟩ := hk
      refine ⟨_, yields_sem h (fun w' _ => ?_), hK⟩
      have hn : n ≠ 0 := by omega
      rw [hb]; simp only [binOp, ne_eq, not_true_eq_false, if_false, Op.intDiv, if_neg hn, Sem.run_pure]
      rw [IntWalk.rem_in m n h0]
    · exact split_yields (p := m = n) h (fun w' => by rw [hb]; by_cases e : m = n <;> simp [binOp, Op.intCmp, e]) hk
    · exact split_yields (p := m = n) h (fun w' => by rw [hb]; by_cases e : m = n <;> simp [binOp, Op.intCmp, e]) hk
    · exact split_yields (p := m < n) h (fun w' => by rw [hb]; by_cases e : m < n <;> simp [binOp, Op.intCmp, e]) hk
    · exact split_yields (p := m ≤ n) h (fun w' => by rw [hb]; by_cases e : m ≤ n <;> simp [binOp, Op.intCmp, e]) hk
    · exact split_yields (p := n < m) h (fun w' => by rw [hb]; by_cases e : n < m <;> simp [binOp, Op.intCmp, e]) hk
    · exact split_yields (p := n ≤ m) h (fun w' => by rw [hb]; by_cases e : n ≤ m <;> simp [binOp, Op.intCmp, e]) hk
    · exact vs_sound h hk
  · rename_i p q
    have hg := eqGuard_bool op T x y p q
    have hb : binSem op T x y (.bool p) (.bool q) = binOp op T (.bool p) (.bool q) := by unfold binSem; rw [hg]; rfl
    have hu : tyAt tys T = .bo → P.underlying T = some .bool := by
      intro e
      have := hty.at T
      rw [e] at this
      simp only [TyB, Bool.and_eq_true] at this
      have h2 := this.2
      split at h2
      · rename_i hu; exact hu
      · cases h2
    split at hk
    · rename_i e
      rw [boolK_eq] at hk
      refine ⟨_, yields_sem h (fun w' _ => ?_), hk⟩
      rw [hb]; simp only [binOp, Sem.run_bind, equal_bool (hu e), Result.andThen_ok, Sem.run_pure]
    · rename_i e
      rw [boolK_eq] at hk
      refine ⟨_, yields_sem h (fun w' _ => ?_), hk⟩
      rw [hb]; simp only [binOp, Sem.run_bind, equal_bool (hu e), Result.andThen_ok, Sem.run_pure]; rfl
    · simp [Stuck] at hk
  · exact vs_sound h hk

theorem loadVar_one (hty : TyOk P tys) {T : TypeId} (h1 : isOne (tyAt tys T) = true) {p : Addr} {v : Value} {w' : World} (hv : w'.cell? p = some v) :
    (Instr.loadAt T (.pointer (some p))).run P w' = .ok v w' := by
  obtain ⟨hc, d, hd, hf⟩ := one_cells (hty.at T) h1
  simp [Instr.loadAt, Instr.sureAddr, loadVar, isAgg_run hd, hf, hv]

theorem ext_cells {w w' : World} (h : Ext w w') {p : Addr} {vs : List Value} (hv : ∀ (i : Nat) (x : Value), vs[i]? = some x → w.cell? (p.add i) = some x) (i : Nat) (x : Value) (hx : vs[i]? = some x) : w'.cell? (p.add i) = some x :=
  h.cell (hv i x hx)

theorem loadVar_agg {T : TypeId} {n : Nat} (hc : P.cellsOf T = n) (hn : n ≠ 0) {d : TypeDesc} (hd : P.underlying T = some d) (hf : (aggD d) = true)
    {p : Addr} {vs : List Value} (hl : vs.length = n) {w' : World} (hv : ∀ (i : Nat) (x : Value), vs[i]? = some x → w'.cell? (p.add i) = some x) :
    (Instr.loadAt T (.pointer (some p))).run P w' = .ok (.agg vs.toArray) w' := by
  have := loadCellsFrom_run (P := P) (w := w') (p := p) vs 0 #[] (by simpa using hv)
  simp [Instr.loadAt, Instr.sureAddr, loadVar, isAgg_run hd, hf, sizeOf_run hc hn, loadCells, ← hl, this]

theorem agg_ty {t : TypeId} {y : Ty} (h : TyB P t y = true) : (∀ n fs, y = .st n fs → P.cellsOf t = n ∧ n ≠ 0 ∧ ∃ g, P.underlying t = some (.struct g)) ∧
    (∀ n len s, y = .ar n len s → P.cellsOf t = n ∧ n ≠ 0 ∧ s ≠ 0 ∧ ∃ e, P.underlying t = some (.array len e) ∧ P.cellsOf e = s ∧ (s = 1 → ∃ d, P.underlying e = some d ∧ (aggD d) = false)) := by
  refine ⟨fun n fs e => ?_, fun n len s e => ?_⟩
  · subst e
    simp only [TyB, Bool.and_eq_true, beq_iff_eq, bne_iff_ne] at h
    refine ⟨h.1.1, h.1.2, ?_⟩
    have h2 := h.2
    split at h2
    · rename_i g hu; exact ⟨g, hu⟩
    · cases h2
  · subst e
    simp only [TyB, Bool.and_eq_true, beq_iff_eq, bne_iff_ne] at h
    refine ⟨h.1.1.1, h.1.1.2, h.1.2, ?_⟩
    have h2 := h.2
    split at h2
    · rename_i l e' hu
      simp only [Bool.and_eq_true, beq_iff_eq, Bool.or_eq_true, bne_iff_ne] at h2
      refine ⟨e', by rw [← h2.1.1]; exact hu, h2.1.2, fun hs => ?_⟩
      have h3 := h2.2.resolve_left (fun hh => hh hs)
      cases hd : P.underlying e' with
      | none => rw [hd] at h3; simp at h3
      | some d => refine ⟨d, rfl, ?_⟩; rw [hd] at h3; cases d <;> simp [aggD] at h3 ⊢
    · cases h2

theorem sl_ty {t : TypeId} {s : Nat} (h : TyB P t (.sl s) = true) : s ≠ 0 ∧ ∃ e, P.underlying t = some (.slice e) ∧ P.cellsOf e = s := by
  simp only [TyB, Bool.and_eq_true, beq_iff_eq, bne_iff_ne] at h
  refine ⟨h.1.2, ?_⟩
  have h2 := h.2
  split at h2
  · rename_i e hu; exact ⟨e, hu, by simpa using h2⟩
  · cases h2

theorem opq_sound (hty : TyOk P tys) (o : Oper) (h : opq P tys o.op o.type fr w K) : ∃ v, Yields P fr o w v ∧ K v := by
  obtain ⟨dst, op, T, pos, after, guard⟩ := o
  dsimp only at h
  unfold opq at h
  split at h <;> (try simp only [evK_eq] at h)
  · exact ⟨_, yields_pure rfl, h⟩
  · exact ⟨_, yields_pure rfl, h⟩
  · -- pick
    rename_i c a b
    split at h
    · rename_i e; exact ⟨_, yields_pure (by simp [execOp, e, asBool]), h⟩
    · rename_i e; exact ⟨_, yields_pure (by simp [execOp, e, asBool]), h⟩
    · simp [Stuck] at h
  · exact binq_sound hty rfl h
  · -- unOp
    split at h
    · rename_i e; exact ⟨_, yields_sem rfl (fun w' _ => by simp [e, Op.unary]), h⟩
    · rename_i e; exact ⟨_, yields_sem rfl (fun w' _ => by simp [e, Op.unary]), h⟩
    · rename_i n e
      simp only [Rng] at h
      exact ⟨_, yields_sem rfl (fun w' _ => by rw [e]; simp only [Op.unary, Op.intArith, Sem.run_pure, IntWalk.i64_in _ h.1]), h.2⟩
    · simp [Stuck] at h
  · -- convert
    rename_i src dst x
    split at h
    · rename_i n e1 e2 e
      have hs := hty.at src
      have hd := hty.at dst
      rw [e1] at hs
      rw [e2] at hd
      simp only [TyB, Bool.and_eq_true] at hs hd
      have hs2 : P.underlying src = some (.int .i64) := by have := hs.2; split at this <;> first | (rename_i hu; exact hu) | cases this
      have hd2 : P.underlying dst = some (.int .i64) := by have := hd.2; split at this <;> first | (rename_i hu; exact hu) | cases this
      simp only [Rng] at h
      refine ⟨_, yields_sem rfl (fun w' _ => ?_), h.2⟩
      rw [e]; simp only [convert, Sem.run_bind, run_underlying hs2, run_underlying hd2, Result.andThen_ok, Conv.intToInt, Sem.run_pure, IntWalk.i64_in _ h.1]
    · exact vs_sound rfl h
  · -- extract
    rename_i t i
    split at h
    · rename_i vs e
      obtain ⟨v, hv, hk⟩ := nthK_spec h
      have hv' : vs[i]? = some v := by simpa using hv
      exact ⟨v, yields_sem rfl (fun w' _ => by simp [e, Instr.extract, hv']), hk⟩
    · simp [Stuck] at h
  · -- field
    rename_i S x f
    split at h
    · rename_i cs n fs e1 e2
      have hS := hty.at S
      rw [e2] at hS
      split at h
      · rename_i off e3
        obtain ⟨g, q, hu, hq, ho, hf⟩ := st_field hS e3
        obtain ⟨v, hv, hk⟩ := nthK_spec h
        have hv' : cs[q.offset]? = some v := by rw [ho]; simpa using hv
        simp only [fieldFits, Bool.and_eq_true] at hf
        have hu2 : ∃ d, P.underlying q.type = some d ∧ (aggD d) = false := by
          have h3 := hf.2.2
          cases hd : P.underlying q.type with
          | none => rw [hd] at h3; simp at h3
          | some d => refine ⟨d, rfl, ?_⟩; rw [hd] at h3; cases d <;> simp [aggD] at h3 ⊢
        obtain ⟨d, hd, hda⟩ := hu2
        exact ⟨v, yields_sem rfl (fun w' _ => by simp [e1, Instr.field, run_underlying hu, hq, part, isAgg_run hd, hda, hv', asAgg]), hk⟩
      · rename_i off k e3
        obtain ⟨g, q, hu, hq, ho, hf⟩ := st_field hS e3
        have hk := subK_spec h
        simp only [fieldFits, Bool.and_eq_true, beq_iff_eq, bne_iff_ne] at hf
        have hu2 : ∃ d, P.underlying q.type = some d ∧ (aggD d) = true := by
          have h3 := hf.2.2
          cases hd : P.underlying q.type with
          | none => rw [hd] at h3; simp at h3
          | some d => refine ⟨d, rfl, ?_⟩; rw [hd] at h3; cases d <;> simp [aggD] at h3 ⊢
        obtain ⟨d, hd, hda⟩ := hu2
        have hoff : q.offset = off := ho
        refine ⟨_, yields_sem rfl (fun w' _ => ?_), hk⟩
        simp [e1, Instr.field, run_underlying hu, hq, part, isAgg_run hd, hda, sizeOf_run hf.2.1.1 hf.2.1.2, asAgg, hoff]
        apply Array.toList_inj.1
        simp [Array.toList_extract, List.extract]
      · simp [Stuck] at h
    · simp [Stuck] at h
  · -- fieldAddr
    rename_i S x f
    split at h
    · rename_i p n fs e1 e2
      have hS := hty.at S
      rw [e2] at hS
      split at h
      · rename_i off sz e3
        obtain ⟨g, q, hu, hq, ho, hf⟩ := st_field hS e3
        have hne : P.cellsOf q.type ≠ 0 := by
          simp only [fieldFits, Bool.and_eq_true] at hf
          have h2 := hf.2
          cases sz <;> simp only [Bool.and_eq_true, beq_iff_eq, bne_iff_ne] at h2 <;> omega
        have hoff : q.offset = off := ho
        refine ⟨_, yields_sem rfl (fun w' _ => ?_), h⟩
        simp [e1, Instr.fieldAt, run_underlying hu, hq, Instr.sureAddr, fieldPlace, sizeOf_run rfl hne, hne, hoff]
      · simp [Stuck] at h
    · simp [Stuck] at h
  · -- indexAddr
    rename_i S x i
    split at h
    · rename_i s e2
      have hS := hty.at S
      rw [e2] at hS
      obtain ⟨hs0, e, hu, hce⟩ := sl_ty hS
      simp only [Ix] at h
      obtain ⟨a, n, cap, j, hv, hj, h0, h1, hk⟩ := h
      refine ⟨_, yields_sem rfl (fun w' _ => ?_), hk⟩
      rw [hv, hj]
      simp [Instr.indexAt, asIntOf, run_underlying hu, h0, h1, sizeOf_run hce hs0, ea]
    · rename_i n len s e2
      have hS := hty.at S
      rw [e2] at hS
      obtain ⟨_, _, hs0, e, hu, hce, _⟩ := (agg_ty hS).2 _ _ _ rfl
      split at h
      · rename_i p e1
        simp only [IxA] at h
        obtain ⟨j, hj, h0, h1, hk⟩ := h
        refine ⟨_, yields_sem rfl (fun w' _ => ?_), hk⟩
        rw [e1, hj]
        simp [Instr.indexAt, asIntOf, run_underlying hu, h0, h1, sizeOf_run hce hs0, Instr.sureAddr]
      · simp [Stuck] at h
    · simp [Stuck] at h
  · -- index
    rename_i S x i
    split at h
    · rename_i n len cs k e2 e1 e3
      have hS := hty.at S
      rw [e2] at hS
      obtain ⟨_, _, hs0, e, hu, hce, hone⟩ := (agg_ty hS).2 _ _ _ rfl
      obtain ⟨d, hd, hda⟩ := hone rfl
      simp only [Need] at h
      obtain ⟨hlt, h⟩ := h
      obtain ⟨v, hv, hk⟩ := nthK_spec h
      have hv' : cs[k]? = some v := by simpa using hv
      refine ⟨v, yields_sem rfl (fun w' _ => ?_), hk⟩
      rw [e1, e3]
      simp [Instr.index, asIntOf, run_underlying hu, hlt, sizeOf_run hce (by omega), part, isAgg_run hd, hda, hv']
    · exact vs_sound rfl h
  · -- load
    rename_i T' a
    split at h
    · rename_i p e1
      have hT := hty.at T'
      split at h
      any_goals
        rename_i e2
        simp only [Ld] at h
        obtain ⟨v, hv, hk⟩ := h
        refine ⟨v, yields_sem rfl (fun w' hw => ?_), hk⟩
        rw [e1]
        exact loadVar_one hty (by rw [e2]; rfl) (hw.cell hv)
      · rename_i n fs e2
        rw [e2] at hT
        obtain ⟨hc, hn, g, hu⟩ := (agg_ty hT).1 _ _ rfl
        simp only [LdN] at h
        obtain ⟨vs, hl, hv, hk⟩ := h
        refine ⟨_, yields_sem rfl (fun w' hw => ?_), hk⟩
        rw [e1]
        exact loadVar_agg hc hn hu rfl hl (ext_cells hw hv)
      · rename_i n len s e2
        rw [e2] at hT
        obtain ⟨hc, hn, _, e, hu, _⟩ := (agg_ty hT).2 _ _ _ rfl
        simp only [LdN] at h
        obtain ⟨vs, hl, hv, hk⟩ := h
        refine ⟨_, yields_sem rfl (fun w' hw => ?_), hk⟩
        rw [e1]
        exact loadVar_agg hc hn hu rfl hl (ext_cells hw hv)
      · simp [Stuck] at h
    · simp [Stuck] at h
  · -- nilCheck
    split at h
    · rename_i e; exact ⟨_, .inl (fun w' _ => by simp [execOp, e]), h⟩
    · rename_i e; exact ⟨_, .inl (fun w' _ => by simp [execOp, e]), h⟩
    · simp [Stuck] at h
  · -- makeFunc
    rename_i fn first captured
    simp only [argsK_eq] at h
    refine ⟨_, yields_sem rfl (fun w' _ => ?_), h⟩
    have e1 : first.map (ev fr) = (first.toList.map (ev fr)).toArray := by rw [← Array.toList_map]
    have e2 : captured.map (ev fr) = (captured.toList.map (ev fr)).toArray := by rw [← Array.toList_map]
    rw [e1, e2]; rfl
  · -- build
    rename_i S parts
    rw [partsK_eq] at h
    have e : parts.map (fun (i, x) => (i, ev fr x)) = (parts.toList.map fun (i, x) => (i, ev fr x)).toArray := by rw [← Array.toList_map]
    refine vs_sound ?_ h
    rw [← e]; rfl
  · exact vs_sound rfl h
  · -- slice
    simp only [optK_eq] at h
    exact vs_sound rfl h
  · -- call
    rename_i c
    split at h
    · rename_i b hcal
      rw [argsK_eq] at h
      have hrun : ∀ (s : Sem Value), (∀ cs, builtin b c.argTypes T cs (c.args.map (ev fr)) = (do pure (.value (← s)))) → execOp (ev fr) ⟨dst, .call c, T, pos, after, guard⟩ = (do pure (.value (← s))) := by
        intro s hs
        simp only [execOp, resolve, hcal, invoke]
        exact hs _
      have hargs : c.args.map (ev fr) = (c.args.toList.map (ev fr)).toArray := by rw [← Array.toList_map]
      split at h
      · rename_i v t hvs hts
        have hat : c.argTypes = #[t] := by rw [← hts]
        split at h
        · rename_i s e2
          have hS := hty.at t
          rw [e2] at hS
          obtain ⟨_, e, hu, _⟩ := sl_ty hS
          simp only [Ln] at h
          obtain ⟨a, n, cap, hv, hk⟩ := h
          refine ⟨_, yields_sem (hrun (Builtin.len_ c.argTypes T (c.args.map (ev fr))) (fun _ => rfl)) (fun w' _ => ?_), hk⟩
          rw [hargs, hvs, hat, hv]
          simp [Builtin.len_, run_underlying hu, goInt]
        · exact vs_sound (hrun _ (fun _ => by rw [hargs, hvs]; rfl)) h
      · rename_i m n hvs
        exact split_yields (p := n < m) (hrun (Builtin.min_ c.argTypes T (c.args.map (ev fr))) (fun _ => rfl)) (fun w' => by rw [hargs, hvs]; by_cases e : n < m <;> simp [Builtin.min_, Builtin.min2, e]) h
      · rename_i m n hvs
        exact split_yields (p := m < n) (hrun (Builtin.max_ c.argTypes T (c.args.map (ev fr))) (fun _ => rfl)) (fun w' => by rw [hargs, hvs]; by_cases e : m < n <;> simp [Builtin.max_, Builtin.max2, e]) h
      · simp [Stuck] at h
    · rename_i f hcal
      split at h
      · rename_i g first captured hf
        simp only [argsK_eq, appK_eq, VCQ] at h
        obtain ⟨v, hpc, hk⟩ := h
        refine ⟨v, .inr ⟨g, _, hpc, fun w' _ => ?_⟩, hk⟩
        have hfn := hpc
        simp only [PC] at hfn
        obtain ⟨⟨fn, h1, h2, h3⟩, _⟩ := hfn
        have e : execOp (ev fr) ⟨dst, .call c, T, pos, after, guard⟩ = callFunc g (first ++ c.args.map (ev fr) ++ captured) := by
          simp only [execOp, resolve, hcal, hf, Deferred.ofValue, pure_bind, invoke]
        have ea : first ++ c.args.map (ev fr) ++ captured = (first.toList ++ c.args.toList.map (ev fr) ++ captured.toList).toArray := by
          apply Array.toList_inj.1; simp
        rw [e, ea]
        simp only [callFunc, Sem.run_bind, run_program, Result.andThen_ok, h1, h2, h3, Bool.false_eq_true, if_false, Sem.run_pure]
      · simp [Stuck] at h
    · simp [Stuck] at h
  · simp [Stuck] at h
end
end Go.Eng
set_option linter.unusedVariables false
set_option linter.unusedSimpArgs false
namespace Go.Eng
open Go.RowKit

noncomputable def dstAt (l : List Oper) : Nat → Option Tmp :=
  @List.rec Oper (fun _ => Nat → Option Tmp) (fun _ => none) (fun o _ ih n => @Nat.casesOn (fun _ => Option Tmp) n o.dst ih) l

def grd (all : List Oper) (fr : Fr) (g : Option (Nat × Bool)) (A B : Prop) : Prop :=
  match g with
  | none => A
  | some (j, want) => match dstAt all j with
    | none => B
    | some d => getK fr d fun v => match v, want with
      | .bool true, true => A
      | .bool false, false => A
      | _, _ => B

theorem dstAt_eq : ∀ (all : List Oper) (j : Nat), dstAt all j = (all.toArray[j]?).bind (·.dst)
  | [], j => by show none = _; simp
  | o :: _, 0 => by show o.dst = _; simp
  | o :: r, n + 1 => by show dstAt r n = _; have := dstAt_eq r n; simp at this ⊢; exact this

theorem getK_opt (fr : Fr) (d : Nat) (K : Value → Prop) : getK fr d K = K ((fr[d]?).getD undef) := by rw [getK_eq, get_eq]

theorem grd_spec {all : List Oper} {fr : Fr} {o : Oper} {A B : Prop} (h : grd all fr o.guard A B) :
    (Region.wanted o (yielded all.toArray fr.toArray) = true ∧ A) ∨ (Region.wanted o (yielded all.toArray fr.toArray) = false ∧ B) := by
  unfold grd at h
  unfold Region.wanted
  split at h
  · rename_i e; rw [e]; exact .inl ⟨rfl, h⟩
  · rename_i j want e
    rw [e]
    simp only
    unfold yielded
    rw [← dstAt_eq]
    split at h
    · rename_i e2; rw [e2]; exact .inr ⟨by cases want <;> rfl, h⟩
    · rename_i d e2
      rw [e2, getK_opt] at *
      simp only [Option.bind_some, List.getElem?_toArray]
      cases hv : fr[d]? with
      | none => rw [hv] at h; simp only [Option.getD_none] at h; exact .inr ⟨by cases want <;> rfl, by cases want <;> exact h⟩
      | some v =>
        rw [hv] at h
        simp only [Option.getD_some] at h
        cases v with
        | bool b => cases b <;> cases want <;> first | exact .inl ⟨rfl, h⟩ | exact .inr ⟨rfl, h⟩
        | _ => exact .inr ⟨by cases want <;> rfl, by cases want <;> exact h⟩

/-! ### quiet regions -/
def rgq (P : Program) (tys : List Ty) (w : World) (all l : List Oper) : Fr → (Fr → Prop) → Prop :=
  @List.rec Oper (fun _ => Fr → (Fr → Prop) → Prop) (fun fr K => K fr)
    (fun o _ ih fr K => grd all fr o.guard (opq P tys o.op o.type fr w fun v => putK fr o.dst v fun fr' => ih fr' K) (putK fr o.dst undef fun fr' => ih fr' K)) l

section
variable {P : Program} {tys : List Ty}

theorem quiet_of_yields {o : Oper} {fr : Fr} {w : World} {v : Value} {K : Act → Prop} (h : Yields P fr o w v) (hk : K ((Act.mk fr.toArray []).put o.dst v)) :
    o.quiet P (Act.mk fr.toArray []) (fun w' => Ext w w') K := by
  refine ⟨v, fun w' hw => ?_, hk⟩
  unfold Oper.quietAt
  rw [ev_eq]
  rcases h with h | ⟨f, args, hpc, h⟩
  · rw [h w' hw]; exact ⟨rfl, rfl⟩
  · rw [h w' hw]
    simp only [PC] at hpc
    refine ⟨rfl, (hpc.2 w' hw).mono fun e w'' ⟨he, hx⟩ => ⟨he, hw.trans hx⟩⟩

theorem rgq_sound (hty : TyOk P tys) {w : World} {all : List Oper} : ∀ (l : List Oper) (fr : Fr) (K : Fr → Prop), rgq P tys w all l fr K →
    wpQuiet P all.toArray (fun w' => Ext w w') (fun a => ∃ fr', a = Act.mk fr'.toArray [] ∧ K fr') l (Act.mk fr.toArray [])
  | [], fr, K, h => ⟨fr, rfl, h⟩
  | o :: rest, fr, K, h => by
    unfold wpQuiet
    have h : grd all fr o.guard (opq P tys o.op o.type fr w fun v => putK fr o.dst v fun fr' => rgq P tys w all rest fr' K) (putK fr o.dst undef fun fr' => rgq P tys w all rest fr' K) := h
    rcases grd_spec h with ⟨hw, h⟩ | ⟨hw, h⟩
    · rw [if_pos hw]
      obtain ⟨v, hy, hk⟩ := opq_sound hty o h
      rw [putK_eq] at hk
      refine quiet_of_yields hy ?_
      rw [act_put]
      exact rgq_sound hty rest _ K hk
    · rw [if_neg (by rw [hw]; simp)]
      rw [putK_eq] at h
      rw [act_put]
      exact rgq_sound hty rest _ K h

/-! ### one operation, with effects -/
def bltSem (b : Builtin) (at_ : Array TypeId) (T : TypeId) (args : List Value) : Option (Sem Value) :=
  match b with
  | .append => some (Builtin.append_ at_ T args.toArray)
  | .copy => some (Builtin.copy_ at_ T args.toArray)
  | .len => some (Builtin.len_ at_ T args.toArray)
  | .cap => some (Builtin.cap_ at_ T args.toArray)
  | .min => some (Builtin.min_ at_ T args.toArray)
  | .max => some (Builtin.max_ at_ T args.toArray)
  | .delete => some (Builtin.delete_ at_ T args.toArray)
  | .clear => some (Builtin.clear_ at_ T args.toArray)
  | _ => none

def op1 (P : Program) (tys : List Ty) (o : Op) (T : TypeId) (fr : Fr) (w : World) (K : Value → World → Prop) : Prop :=
  match o with
  | .box T' x => evK fr x fun v => Bx T' v w K
  | .alloc T' => VE P (Instr.alloc T' true (.tuple #[])) w K
  | .store T' a x => evK fr a fun p => evK fr x fun v => match p, isOne (tyAt tys T') with
    | .pointer (some p), true => St w p v fun w' => K undef w'
    | .pointer (some p), false => VU P (Instr.storeAt T' (.pointer (some p)) v) w fun w' => K undef w'
    | _, _ => Stuck 20
  | .makeSlice T' l c => evK fr l fun l => evK fr c fun c => VE P (Instr.makeSlice T' l c) w K
  | .buildSlice T' n parts => partsK fr parts.toList fun ps => VE P (Instr.buildSlice T' n ps.toArray) w K
  | .makeMap T' r => optK fr r fun r => VE P (Instr.makeMap T' r) w K
  | .mapUpdate T' m k x => evK fr m fun m => evK fr k fun k => evK fr x fun x => VU P (Instr.mapUpdate T' m k x) w fun w' => K undef w'
  | .call c => match c.callee with
    | .builtin b => match b with
      | .len => opq P tys o T fr w fun v => K v w
      | .min => opq P tys o T fr w fun v => K v w
      | .max => opq P tys o T fr w fun v => K v w
      | b => argsK fr c.args.toList fun vs => match bltSem b c.argTypes T vs with
        | some s => VE P s w K
        | none => Stuck 21
    | .value f => evK fr f fun fv => match fv with
      | .func (.func g) first captured => argsK fr c.args.toList fun vs => appK first.toList vs fun us => appK us captured.toList fun ts => VC P g ts w K
      | _ => Stuck 22
    | _ => Stuck 23
  | o => opq P tys o T fr w fun v => K v w

theorem wp_of_yields {o : Oper} {fr : Fr} {w w' : World} {v : Value} (hw : Ext w w') (h : Yields P fr o w v) {next : Act → World → Prop} {Q : Exit → Act → World → Prop}
    (hk : ∀ w'', Ext w w'' → next ((Act.mk fr.toArray []).put o.dst v) w'') : o.wp P (Act.mk fr.toArray []) w' next Q := by
  unfold Oper.wp
  rw [ev_eq]
  rcases h with h | ⟨f, args, hpc, h⟩
  · rw [h w' hw]; exact hk w' hw
  · rw [h w' hw, Oper.upon_enter]
    simp only [PC] at hpc
    refine (hpc.2 w' hw).mono fun e w'' ⟨he, hx⟩ => ?_
    subst he
    exact hk w'' (hw.trans hx)

theorem wp_of_sem {o : Oper} {fr : Fr} {w w' : World} {s : Sem Value} {K : Value → World → Prop} (hw : Ext w w') (he : execOp (ev fr) o = (do pure (.value (← s)))) (h : VE P s w K)
    {next : Act → World → Prop} {Q : Exit → Act → World → Prop} (hk : ∀ v wb w'', Ext wb w'' → K v wb → next ((Act.mk fr.toArray []).put o.dst v) w'') : o.wp P (Act.mk fr.toArray []) w' next Q := by
  simp only [VE] at h
  obtain ⟨v, w'', hr, wb, hx, hK⟩ := h w' hw
  unfold Oper.wp
  rw [ev_eq, he]
  simp only [Sem.run_bind, hr, Result.andThen_ok, Sem.run_pure, Oper.upon_value]
  exact hk v wb w'' hx hK

theorem wp_of_unit {o : Oper} {fr : Fr} {w w' : World} {s : Sem Unit} {K : World → Prop} (hw : Ext w w') (he : execOp (ev fr) o = (do s; pure .skip)) (h : VU P s w K)
    {next : Act → World → Prop} {Q : Exit → Act → World → Prop} (hk : ∀ wb w'', Ext wb w'' → K wb → next ((Act.mk fr.toArray []).put o.dst undef) w'') : o.wp P (Act.mk fr.toArray []) w' next Q := by
  simp only [VU] at h
  obtain ⟨w'', hr, wb, hx, hK⟩ := h w' hw
  unfold Oper.wp
  rw [ev_eq, he]
  simp only [Sem.run_bind, hr, Result.andThen_ok, Sem.run_pure, Oper.upon_skip]
  exact hk wb w'' hx hK

theorem cells_one {v : Value} (h : v.oneCell' = true) : v.cells = #[v] := by cases v <;> simp [Value.oneCell'] at h <;> rfl

theorem store_one (hty : TyOk P tys) {T : TypeId} (h1 : isOne (tyAt tys T) = true) {p : Addr} {v u : Value} {w : World} (hv : v.oneCell' = true) (hc : w.cell? p = some u) (hf : w.frozen? p = false) :
    (Instr.storeAt T (.pointer (some p)) v).run P w = .ok () (w.setCell p v) := by
  obtain ⟨hs, d, hd, _⟩ := one_cells (hty.at T) h1
  have hsz : (sizeOf T).run P w = .ok 1 w := sizeOf_run hs (by omega) w
  have e0 : p.add 0 = p := rfl
  simp only [Instr.storeAt, Instr.sureAddr, pure_bind, storeVar, Sem.run_bind, hsz, Result.andThen_ok, cells_one hv]
  simp [storeCells, e0, run_store P w p v .plain hv, hc, hf]

theorem op1_sound (hty : TyOk P tys) (o : Oper) {fr : Fr} {w w' : World} {K : Value → World → Prop} (hw : Ext w w') (h : op1 P tys o.op o.type fr w K)
    {next : Act → World → Prop} {Q : Exit → Act → World → Prop} (hk : ∀ v wb w'', Ext wb w'' → K v wb → next ((Act.mk fr.toArray []).put o.dst v) w'') : o.wp P (Act.mk fr.toArray []) w' next Q := by
  have quiet : opq P tys o.op o.type fr w (fun v => K v w) → o.wp P (Act.mk fr.toArray []) w' next Q := fun hq => by
    obtain ⟨v, hy, hK⟩ := opq_sound hty o hq
    exact wp_of_yields hw hy fun w'' hx => hk v w w'' hx hK
  obtain ⟨dst, op, T, pos, after, guard⟩ := o
  dsimp only at h quiet hk ⊢
  unfold op1 at h
  split at h
  · -- box
    rename_i T' x
    rw [evK_eq] at h
    simp only [Bx] at h
    have h2 := h w' hw
    unfold Oper.wp
    rw [ev_eq]
    simp only [execOp, Instr.box, newVar, newRow, Sem.run_bind, run_newObj, Result.andThen_ok, Sem.run_pure, Oper.upon_value]
    exact hk _ _ _ (Ext.refl _) h2
  · exact wp_of_sem hw rfl h hk
  · -- store
    rename_i T' a x
    simp only [evK_eq] at h
    split at h
    · rename_i p e1 e2
      simp only [St] at h
      obtain ⟨hv, ⟨u, hc⟩, hf, hK⟩ := h
      have hr : (Instr.storeAt T' (ev fr a) (ev fr x)).run P w' = .ok () (w'.setCell p (ev fr x)) := by
        rw [e1]; exact store_one hty e2 hv (hw.cell hc) (by rw [hw.frozen hc (fun hf => hf)]; exact hf)
      unfold Oper.wp
      rw [ev_eq]
      simp only [execOp, Sem.run_bind, hr, Result.andThen_ok, Sem.run_pure, Oper.upon_skip]
      exact hk _ _ _ (Ext.refl _) (hK w' hw)
    · rename_i p e1 e2
      refine wp_of_unit hw ?_ h (fun wb w'' hx hK => hk _ _ _ hx hK)
      rw [← e1]; rfl
    · simp [Stuck] at h
  · simp only [evK_eq] at h; exact wp_of_sem hw rfl h hk
  · rename_i T' n parts
    rw [partsK_eq] at h
    have e : parts.map (fun (i, x) => (i, ev fr x)) = (parts.toList.map fun (i, x) => (i, ev fr x)).toArray := by rw [← Array.toList_map]
    refine wp_of_sem hw ?_ h hk
    rw [← e]; rfl
  · rw [optK_eq] at h; exact wp_of_sem hw rfl h hk
  · simp only [evK_eq] at h; exact wp_of_unit hw rfl h (fun wb w'' hx hK => hk _ _ _ hx hK)
  · -- call
    rename_i c
    split at h
    · rename_i b hcal
      split at h
      · exact quiet h
      · exact quiet h
      · exact quiet h
      · rename_i b' h1 h2 h3
        rw [argsK_eq] at h
        split at h
        · rename_i s hs
          have hargs : c.args.map (ev fr) = (c.args.toList.map (ev fr)).toArray := by rw [← Array.toList_map]
          refine wp_of_sem hw ?_ h hk
          simp only [execOp, resolve, hcal, invoke, pure_bind, hargs]
          cases b <;> simp only [bltSem, Option.some.injEq, reduceCtorEq] at hs <;> (subst hs; rfl)
        · simp [Stuck] at h
    · rename_i f hcal
      rw [evK_eq] at h
      split at h
      · rename_i g first captured hf
        simp only [argsK_eq, appK_eq, VC] at h
        obtain ⟨⟨fn, h1, h2, h3⟩, hcall⟩ := h
        have e : execOp (ev fr) ⟨dst, .call c, T, pos, after, guard⟩ = callFunc g (first ++ c.args.map (ev fr) ++ captured) := by
          simp only [execOp, resolve, hcal, hf, Deferred.ofValue, pure_bind, invoke]
        have ea : first ++ c.args.map (ev fr) ++ captured = (first.toList ++ c.args.toList.map (ev fr) ++ captured.toList).toArray := by
          apply Array.toList_inj.1; simp
        unfold Oper.wp
        rw [ev_eq, e, ea]
        simp only [callFunc, Sem.run_bind, run_program, Result.andThen_ok, h1, h2, h3, Bool.false_eq_true, if_false, Sem.run_pure, Oper.upon_enter]
        refine (hcall w' hw).mono fun e w'' ⟨v, he, wb, hx, hK⟩ => ?_
        subst he
        exact hk v wb w'' hx hK
      · simp [Stuck] at h
    · simp [Stuck] at h
  · exact quiet h

def rgn (P : Program) (tys : List Ty) (all l : List Oper) : Fr → World → (Fr → World → Prop) → Prop :=
  @List.rec Oper (fun _ => Fr → World → (Fr → World → Prop) → Prop) (fun fr w K => K fr w)
    (fun o _ ih fr w K => grd all fr o.guard (op1 P tys o.op o.type fr w fun v w' => putK fr o.dst v fun fr' => ih fr' w' K) (putK fr o.dst undef fun fr' => ih fr' w K)) l

/-- What the engine's post says of the model's: the defers are none, and the true world has grown out of the base. -/
def Lift (Q : Exit → Fr → World → Prop) : Exit → Act → World → Prop := fun e a w' => ∃ fr wb, a = Act.mk fr.toArray [] ∧ Ext wb w' ∧ Q e fr wb

theorem rgn_sound (hty : TyOk P tys) {all : List Oper} {Q : Exit → Act → World → Prop} : ∀ (l : List Oper) (fr : Fr) (w : World) (K : Fr → World → Prop), rgn P tys all l fr w K →
    (∀ fr' wb w'', Ext wb w'' → K fr' wb → Q .normal (Act.mk fr'.toArray []) w'') → ∀ w', Ext w w' → wpList P all.toArray Q l (Act.mk fr.toArray []) w'
  | [], fr, w, K, h, hq, w', hw => hq fr w w' hw h
  | o :: rest, fr, w, K, h, hq, w', hw => by
    unfold wpList
    have h : grd all fr o.guard (op1 P tys o.op o.type fr w fun v w' => putK fr o.dst v fun fr' => rgn P tys all rest fr' w' K) (putK fr o.dst undef fun fr' => rgn P tys all rest fr' w K) := h
    rcases grd_spec h with ⟨hwt, h⟩ | ⟨hwt, h⟩
    · rw [if_pos hwt]
      refine .inl (op1_sound hty o hw h fun v wb w'' hx hK => ?_)
      rw [putK_eq] at hK
      rw [act_put]
      exact rgn_sound hty rest _ wb K hK hq w'' hx
    · rw [if_neg (by rw [hwt]; simp)]
      rw [putK_eq] at h
      rw [act_put]
      exact rgn_sound hty rest _ w K h hq w' hw

end
end Go.Eng
set_option linter.unusedVariables false
set_option linter.unusedSimpArgs false
namespace Go.Eng
open Go.RowKit

section
variable {P : Program} {ops : Array Oper} {Q : Exit → Act → World → Prop} {md : Region.Mode}

end

section
variable {P : Program} {tys : List Ty}

/-- A region that draws its order: the goal at which the walk stops. -/
@[irreducible] def Dr (P : Program) (ops : List Oper) (fr : Fr) (w : World) (K : Fr → World → Prop) : Prop :=
  (∀ (id : Nat) (Q : Exit → Act → World → Prop), (∀ fr' wb w'', Ext wb w'' → K fr' wb → Q .normal (Act.mk fr'.toArray []) w'') → ∀ w', Ext w w' → (Code.region id ops.toArray true).wp P Q (Act.mk fr.toArray []) w')

theorem Dr.quiet (hty : TyOk P tys) {ops : List Oper} {fr : Fr} {w : World} {K : Fr → World → Prop} (hB : Region.lexB .any ops.toArray = true) (h : rgq P tys w ops ops fr fun fr' => K fr' w) : Dr P ops fr w K := by
  simp only [Dr]
  intro id Q hk w' hw
  refine wp_region_quiet (C := fun w' => Ext w w') hty.mixed hB (hw.drawn (w'.drawn + 1)) ?_
  have := rgq_sound hty ops fr _ h
  refine wpQuiet_mono' ?_ this
  rintro a ⟨fr', rfl, hK⟩ w'' hw''
  exact hk fr' w w'' hw'' hK
where
  wpQuiet_mono' {P : Program} {ops : Array Oper} {C : World → Prop} {Q Q' : Act → Prop} (h : ∀ a, Q a → Q' a) : ∀ {l : List Oper} {a : Act}, wpQuiet P ops C Q l a → wpQuiet P ops C Q' l a
  | [], a, hh => h a hh
  | o :: l, a, hh => by
    unfold wpQuiet at hh ⊢
    split
    · rename_i hw; rw [if_pos hw] at hh; exact Oper.quiet_mono (fun a' h' => wpQuiet_mono' h h') hh
    · rename_i hw; rw [if_neg hw] at hh; exact wpQuiet_mono' h hh

end
end Go.Eng
set_option linter.unusedVariables false
set_option linter.unusedSimpArgs false
namespace Go.Eng
open Go.RowKit

section
variable {P : Program} {tys : List Ty}

@[irreducible] def Lp (P : Program) (b : Code) (fr : Fr) (w : World) (Q : Exit → Fr → World → Prop) : Prop :=
  ∀ w', Ext w w' → (Code.loop b).wp P (Lift Q) (Act.mk fr.toArray []) w'
@[irreducible] def Rw (P : Program) (c : Code) (fr : Fr) (w : World) (Q : Exit → Fr → World → Prop) : Prop :=
  ∀ w', Ext w w' → c.wp P (Lift Q) (Act.mk fr.toArray []) w'

def thenQ (K : Fr → World → Prop) (Q : Exit → Fr → World → Prop) : Exit → Fr → World → Prop
  | .normal, fr, w => K fr w
  | e, fr, w => Q e fr w

def blockQ (id : Nat) (Q : Exit → Fr → World → Prop) : Exit → Fr → World → Prop
  | .exit id', fr, w => match Nat.beq id' id with
    | true => Q .normal fr w
    | false => Q (.exit id') fr w
  | e, fr, w => Q e fr w

/-- In a scope: no jump. -/
def noGQ (Q : Exit → Fr → World → Prop) : Exit → Fr → World → Prop
  | .goto _, _, _ => False
  | e, fr, w => Q e fr w

def gv (P : Program) (tys : List Ty) (c : Code) : Fr → World → (Exit → Fr → World → Prop) → Prop :=
  @Code.rec (fun _ => Fr → World → (Exit → Fr → World → Prop) → Prop)
    (fun fr w Q => Q .normal fr w)
    (fun _ ops draw fr w Q => match draw with
      | true => Dr P ops.toList fr w fun fr' w' => Q .normal fr' w'
      | false => rgn P tys ops.toList ops.toList fr w fun fr' w' => Q .normal fr' w')
    (fun _ _ iha ihb fr w Q => iha fr w (thenQ (fun fr' w' => ihb fr' w' Q) Q))
    (fun c _ _ iha ihb fr w Q => evK fr c fun v => match v with
      | .bool true => iha fr w Q
      | .bool false => ihb fr w Q
      | _ => Stuck 30)
    (fun id _ ih fr w Q => ih fr w (blockQ id Q))
    (fun b _ fr w Q => Lp P b fr w Q)
    (fun f ps a b _ _ fr w Q => Rw P (.rangeFunc f ps a b) fr w Q)
    (fun id fr w Q => Q (.exit id) fr w)
    (fun _ ih fr w Q => ih fr w (noGQ Q))
    (fun _ fr w Q => Q .normal fr w)
    (fun l fr w Q => Rw P (.goto l) fr w Q)
    (fun fr w Q => Q .ret fr w)
    (fun s fr w Q => Rw P (.refuse s) fr w Q) c

theorem gv_sound (hty : TyOk P tys) : ∀ (c : Code) (fr : Fr) (w : World) (Q : Exit → Fr → World → Prop), gv P tys c fr w Q → ∀ w', Ext w w' → c.wp P (Lift Q) (Act.mk fr.toArray []) w'
  | .skip, fr, w, Q, h, w', hw => wp_skip ⟨fr, w, rfl, hw, h⟩
  | .label _, fr, w, Q, h, w', hw => wp_label ⟨fr, w, rfl, hw, h⟩
  | .region id ops draw, fr, w, Q, h, w', hw => by
    cases draw with
    | true =>
      have h : Dr P ops.toList fr w fun fr' w' => Q .normal fr' w' := h
      simp only [Dr] at h
      have := h id (Lift Q) (fun fr' wb w'' hx hk => ⟨fr', wb, rfl, hx, hk⟩) w' hw
      simpa using this
    | false =>
      refine wp_region_list ?_
      have := rgn_sound (Q := Lift Q) hty ops.toList fr w _ h (fun fr' wb w'' hx hk => ⟨fr', wb, rfl, hx, hk⟩) w' hw
      simpa using this
  | .seq a b, fr, w, Q, h, w', hw => by
    refine wp_seq (wp_mono (gv_sound hty a fr w _ h w' hw) ?_)
    rintro e a' w'' ⟨fr', wb, rfl, hx, hq⟩
    cases e with
    | normal => exact gv_sound hty b fr' wb Q hq w'' hx
    | _ => exact ⟨fr', wb, rfl, hx, hq⟩
  | .cond c a b, fr, w, Q, h, w', hw => by
    have h : evK fr c fun v => match v with
      | .bool true => gv P tys a fr w Q
      | .bool false => gv P tys b fr w Q
      | _ => Stuck 30 := h
    rw [evK_eq] at h
    split at h
    · rename_i e; exact wp_cond_true (by rw [ev_eq, e]) (gv_sound hty a fr w Q h w' hw)
    · rename_i e; exact wp_cond_false (by rw [ev_eq, e]) (gv_sound hty b fr w Q h w' hw)
    · simp [Stuck] at h
  | .block id b, fr, w, Q, h, w', hw => by
    refine wp_block (wp_mono (gv_sound hty b fr w _ h w' hw) ?_)
    rintro e a' w'' ⟨fr', wb, rfl, hx, hq⟩
    cases e with
    | exit id' =>
      simp only [Exit.inBlock]
      simp only [blockQ] at hq
      split
      · rename_i e; subst e
        rw [Nat.beq_refl] at hq
        exact ⟨fr', wb, rfl, hx, hq⟩
      · rename_i e
        have : Nat.beq id' id = false := by
          cases h2 : Nat.beq id' id with
          | false => rfl
          | true => exact absurd (Nat.eq_of_beq_eq_true h2) e
        rw [this] at hq
        exact ⟨fr', wb, rfl, hx, hq⟩
    | _ => exact ⟨fr', wb, rfl, hx, hq⟩
  | .loop b, fr, w, Q, h, w', hw => by have h : Lp P b fr w Q := h; simp only [Lp] at h; exact h w' hw
  | .exit id, fr, w, Q, h, w', hw => wp_exit ⟨fr, w, rfl, hw, h⟩
  | .ret, fr, w, Q, h, w', hw => wp_ret ⟨fr, w, rfl, hw, h⟩
  | .rangeFunc .., fr, w, Q, h, w', hw => by unfold gv at h; simp only [Rw] at h; exact h w' hw
  | .scope b, fr, w, Q, h, w', hw => by
    refine wp_scope_straight (wp_mono (gv_sound hty b fr w _ h w' hw) ?_)
    rintro e a' w'' ⟨fr', wb, rfl, hx, hq⟩
    cases e with
    | goto l => exact hq.elim
    | _ => exact ⟨fr', wb, rfl, hx, hq⟩
  | .goto .., fr, w, Q, h, w', hw => by unfold gv at h; simp only [Rw] at h; exact h w' hw
  | .refuse .., fr, w, Q, h, w', hw => by unfold gv at h; simp only [Rw] at h; exact h w' hw

/-! ### loops -/
theorem least_nat {p : Nat → Prop} (h : ∃ n, p n) : ∃ n, p n ∧ ∀ k, k < n → ¬ p k := by
  obtain ⟨n, hn⟩ := h
  induction n using Nat.strongRecOn with
  | _ n ih =>
    by_cases hk : ∃ k, k < n ∧ p k
    · obtain ⟨k, hk, hp⟩ := hk; exact ih k hk hp
    · exact ⟨n, hn, fun k hkn hp => hk ⟨k, hkn, hp⟩⟩

theorem wp_loop_rel {c : Code} {Q : Exit → Act → World → Prop} (J : Nat → Act → World → Prop) {a : Act} {w : World} {m0 : Nat} (h0 : J m0 a w)
    (round : ∀ m a w, J m a w → c.wp P (Exit.then (fun a' w' => ∃ m', m' < m ∧ J m' a' w') Q) a w) : (Code.loop c).wp P Q a w := by
  refine wp_loop (fun a w => ∃ m, J m a w) (fun a w => Classical.epsilon fun m => J m a w ∧ ∀ k, k < m → ¬ J k a w) ⟨m0, h0⟩ ?_
  intro a w hJ
  have hs := Classical.epsilon_spec (p := fun m => J m a w ∧ ∀ k, k < m → ¬ J k a w) (least_nat hJ)
  refine wp_mono (round _ a w hs.1) ?_
  intro e a' w' hq
  cases e with
  | normal =>
    obtain ⟨m', hlt, hJ'⟩ := hq
    refine ⟨⟨m', hJ'⟩, ?_⟩
    have hs' := Classical.epsilon_spec (p := fun m => J m a' w' ∧ ∀ k, k < m → ¬ J k a' w') (least_nat ⟨m', hJ'⟩)
    refine Nat.lt_of_le_of_lt (Nat.le_of_not_lt fun h => hs'.2 _ h hJ') hlt
  | _ => exact hq

def hv (ds : List Bool) : Fr → (Fr → Prop) → Prop :=
  @List.rec Bool (fun _ => Fr → (Fr → Prop) → Prop) (fun fr K => K fr)
    (fun d _ ih fr K => @List.casesOn Value (fun _ => Prop) fr (K []) fun x r => match d with
      | true => ∀ v, ih r fun r' => K (v :: r')
      | false => ih r fun r' => K (x :: r')) ds

noncomputable def blank (ds : List Bool) : Fr → Fr :=
  @List.rec Bool (fun _ => Fr → Fr) (fun fr => fr)
    (fun d _ ih fr => @List.casesOn Value (fun _ => Fr) fr [] fun x r => match d with
      | true => undef :: ih r
      | false => x :: ih r) ds

theorem blank_cons (d : Bool) (ds : List Bool) (x : Value) (r : Fr) : blank (d :: ds) (x :: r) = (match d with | true => undef :: blank ds r | false => x :: blank ds r) := rfl

theorem hv_spec : ∀ {ds : List Bool} {fr : Fr} {K : Fr → Prop}, hv ds fr K → ∀ fr', blank ds fr' = blank ds fr → K fr'
  | [], fr, K, h, fr', e => by
    have e : fr' = fr := e
    subst e; exact h
  | d :: ds, [], K, h, fr', e => by
    cases fr' with
    | nil => exact h
    | cons x r => rw [blank_cons] at e; cases d <;> cases e
  | d :: ds, x :: r, K, h, fr', e => by
    cases fr' with
    | nil => rw [blank_cons] at e; cases d <;> cases e
    | cons y r' =>
      rw [blank_cons, blank_cons] at e
      cases d with
      | true =>
        simp only [List.cons.injEq, true_and] at e
        have h : ∀ v, hv ds r fun r' => K (v :: r') := h
        exact hv_spec (h y) r' e
      | false =>
        simp only [List.cons.injEq] at e
        have h : hv ds r fun r' => K (x :: r') := h
        rw [e.1]
        exact hv_spec (K := fun r' => K (x :: r')) h r' e.2

def loopQ (ds : List Bool) (fr : Fr) (R : Nat → Fr → World → Prop) (m : Nat) (Q : Exit → Fr → World → Prop) : Exit → Fr → World → Prop :=
  thenQ (fun fr' w' => ∃ m', m' < m ∧ blank ds fr' = blank ds fr ∧ R m' fr' w') Q

/-- A LOOP: the slots of ds turn; R holds at each round's head. -/
theorem Lp.mk (hty : TyOk P tys) {b : Code} {fr : Fr} {w : World} {Q : Exit → Fr → World → Prop} (ds : List Bool) (R : Nat → Fr → World → Prop) (m0 : Nat) (h0 : R m0 fr w)
    (hr : ∀ m w', hv ds fr fun fr' => R m fr' w' → gv P tys b fr' w' (loopQ ds fr R m Q)) : Lp P b fr w Q := by
  simp only [Lp]
  intro w' hw
  refine wp_loop_rel (fun m a w' => ∃ fr' wb, a = Act.mk fr'.toArray [] ∧ Ext wb w' ∧ blank ds fr' = blank ds fr ∧ R m fr' wb) (m0 := m0) ⟨fr, w, rfl, hw, rfl, h0⟩ ?_
  rintro m a w1 ⟨fr', wb, rfl, hx, he, hR⟩
  refine wp_mono (gv_sound hty b fr' wb _ (hv_spec (hr m wb) fr' he hR) w1 hx) ?_
  rintro e a' w2 ⟨fr2, wb2, rfl, hx2, hq⟩
  cases e with
  | normal =>
    obtain ⟨m', hlt, hb, hR'⟩ := hq
    exact ⟨m', hlt, fr2, wb2, rfl, hx2, hb, hR'⟩
  | _ => exact ⟨fr2, wb2, rfl, hx2, hq⟩

/-! ### results, contracts -/
def res1 (tys : List Ty) (x : ResultVar) (fr : Fr) (w : World) (K : Value → Prop) : Prop :=
  match x with
  | .tmp t => getK fr t K
  | .cell a t => getK fr a fun p => match p with
    | .pointer (some p) => match tyAt tys t with
      | .one | .i64 | .bo | .sl _ => Ld w p K
      | .st n _ | .ar n _ _ => LdN n w p K
      | .no => Stuck 31
    | _ => Stuck 32

def resK (tys : List Ty) (rs : List ResultVar) (fr : Fr) (w : World) : (List Value → Prop) → Prop :=
  @List.rec ResultVar (fun _ => (List Value → Prop) → Prop) (fun K => K []) (fun x _ ih K => res1 tys x fr w fun v => ih fun vs => K (v :: vs)) rs

def one1 (K : Value → Prop) : List Value → Prop
  | [v] => K v
  | vs => K (.tuple vs.toArray)

def fin (tys : List Ty) (e : Exit) (rs : List ResultVar) (fr : Fr) (w : World) (K : Value → Prop) : Prop :=
  match e with
  | .normal => resK tys rs fr w (one1 K)
  | .ret => resK tys rs fr w (one1 K)
  | _ => False

def resSem (tmps : Array Value) : ResultVar → Sem Value
  | .tmp t => pure (tmps.getD t undef)
  | .cell a t => do loadVar t (← asAddr (tmps.getD a undef))

theorem resK_run (hty : TyOk P tys) {fr : Fr} {w w' : World} (hw : Ext w w') : ∀ (rs : List ResultVar) (K : List Value → Prop), resK tys rs fr w K →
    ∃ vs, K vs ∧ (rs.mapM (m := Sem) (resSem fr.toArray)).run P w' = .ok vs w'
  | [], K, h => ⟨[], h, rfl⟩
  | .tmp t :: r, K, h => by
    have h : getK fr t fun v => resK tys r fr w fun vs => K (v :: vs) := h
    simp only [getK_eq] at h
    obtain ⟨vs, hk, hr⟩ := resK_run hty hw r _ h
    refine ⟨_, hk, ?_⟩
    rw [List.mapM_cons]
    simp only [resSem, pure_bind, Sem.run_bind, hr, Result.andThen_ok, Sem.run_pure, get_eq]
    simp
  | .cell a t :: r, K, h => by
    have h : getK fr a fun p => match p with
      | .pointer (some p) => match tyAt tys t with
        | .one | .i64 | .bo | .sl _ => Ld w p fun v => resK tys r fr w fun vs => K (v :: vs)
        | .st n _ | .ar n _ _ => LdN n w p fun v => resK tys r fr w fun vs => K (v :: vs)
        | .no => Stuck 31
      | _ => Stuck 32 := h
    simp only [getK_eq] at h
    have hg : fr.toArray.getD a undef = get fr a := by rw [get_eq]; simp
    split at h
    · rename_i p e
      have hT := hty.at t
      have go : ∀ v, (loadVar t p).run P w' = .ok v w' → (resK tys r fr w fun vs => K (v :: vs)) → ∃ vs, K vs ∧ ((ResultVar.cell a t :: r).mapM (m := Sem) (resSem fr.toArray)).run P w' = .ok vs w' := by
        intro v hv hk
        obtain ⟨vs, hk, hr⟩ := resK_run hty hw r _ hk
        refine ⟨_, hk, ?_⟩
        rw [List.mapM_cons]
        have e1 : resSem fr.toArray (.cell a t) = loadVar t p := by simp only [resSem, hg, e]; rfl
        rw [e1]
        simp only [Sem.run_bind, hv, hr, Result.andThen_ok, Sem.run_pure]
      split at h
      any_goals
        rename_i e2
        simp only [Ld] at h
        obtain ⟨v, hv, hk⟩ := h
        exact go v (by simpa [Instr.loadAt, Instr.sureAddr] using loadVar_one hty (by rw [e2]; rfl) (hw.cell hv)) hk
      · rename_i n fs e2
        rw [e2] at hT
        obtain ⟨hc, hn, g, hu⟩ := (agg_ty hT).1 _ _ rfl
        simp only [LdN] at h
        obtain ⟨vs, hl, hv, hk⟩ := h
        exact go _ (by simpa [Instr.loadAt, Instr.sureAddr] using loadVar_agg hc hn hu rfl hl (ext_cells hw hv)) hk
      · rename_i n len s e2
        rw [e2] at hT
        obtain ⟨hc, hn, _, e, hu, _⟩ := (agg_ty hT).2 _ _ _ rfl
        simp only [LdN] at h
        obtain ⟨vs, hl, hv, hk⟩ := h
        exact go _ (by simpa [Instr.loadAt, Instr.sureAddr] using loadVar_agg hc hn hu rfl hl (ext_cells hw hv)) hk
      · simp [Stuck] at h
    · simp [Stuck] at h

theorem results_run (hty : TyOk P tys) {fn : Func} {fr : Fr} {w w' : World} (hw : Ext w w') {K : Value → Prop} (h : resK tys fn.results.toList fr w (one1 K)) :
    ∃ v, K v ∧ (results fn fr.toArray).run P w' = .ok v w' := by
  obtain ⟨vs, hk, hr⟩ := resK_run hty hw _ _ h
  have e : (results fn fr.toArray).run P w' = .ok (if h : vs.toArray.size = 1 then vs.toArray[0] else .tuple vs.toArray) w' := by
    have e2 : results fn fr.toArray = (do let vs ← fn.results.mapM (resSem fr.toArray); pure (if h : vs.size = 1 then vs[0] else .tuple vs)) := by
      unfold results
      congr 2
    rw [e2, Array.mapM_eq_mapM_toList]
    simp only [Sem.run_bind, Sem.run_map, hr, Result.andThen_ok, Sem.run_pure]
  rw [e]
  refine ⟨_, ?_, rfl⟩
  match vs, hk with
  | [], hk => exact hk
  | [v], hk => exact hk
  | v :: u :: r, hk => rw [dif_neg (by simp)]; exact hk
end
end Go.Eng
set_option linter.unusedVariables false
set_option linter.unusedSimpArgs false
namespace Go.Eng
open Go.RowKit

def mkU (n : Nat) : (Fr → Prop) → Prop :=
  @Nat.rec (fun _ => (Fr → Prop) → Prop) (fun K => K []) (fun _ ih K => ih fun r => K (undef :: r)) n

def mkFr (vs : List Value) : Nat → (Fr → Prop) → Prop :=
  @List.rec Value (fun _ => Nat → (Fr → Prop) → Prop) mkU (fun v _ ih n K => ih (n - 1) fun r => K (v :: r)) vs

theorem mkU_eq : ∀ (n : Nat) (K : Fr → Prop), mkU n K = K (List.replicate n undef)
  | 0, _ => rfl
  | n + 1, K => by show mkU n (fun r => K (undef :: r)) = _; rw [mkU_eq n]; simp [List.replicate_succ]

theorem mkFr_eq : ∀ (vs : List Value) (n : Nat) (K : Fr → Prop), mkFr vs n K = K (vs ++ List.replicate (n - vs.length) undef)
  | [], n, K => by show mkU n K = _; rw [mkU_eq]; simp
  | v :: vs, n, K => by show mkFr vs (n - 1) (fun r => K (v :: r)) = _; rw [mkFr_eq vs (n - 1)]; simp only [List.length_cons, List.cons_append]; rw [show n - 1 - vs.length = n - (vs.length + 1) by omega]

section
variable {P : Program} {tys : List Ty}

theorem calls_of_gv (hty : TyOk P tys) {f : FuncId} {fn : Func} {c : Code} {args : List Value} {w : World} {K : Value → World → Prop} (hf : P.funcs[f]? = some fn) (hb : fn.body = some c)
    (h : mkFr args fn.ntmps fun fr => gv P tys c fr w fun e fr' wb => fin tys e fn.results.toList fr' wb fun v => K v wb) :
    Calls P f args.toArray w fun e w'' => ∃ v, e = .returned v ∧ ∃ wb, Ext wb w'' ∧ K v wb := by
  rw [mkFr_eq] at h
  refine calls_of_wp hf hb ?_
  have e : args.toArray ++ Array.replicate (fn.ntmps - args.toArray.size) undef = (args ++ List.replicate (fn.ntmps - args.length) undef).toArray := by
    apply Array.toList_inj.1; simp
  rw [e]
  refine wp_mono (gv_sound hty c _ w _ h w (Ext.refl w)) ?_
  rintro e a w' ⟨fr, wb, rfl, hx, hq⟩
  have go : resK tys fn.results.toList fr wb (one1 fun v => K v wb) → ∃ v, (results fn fr.toArray).run P w' = .ok v w' ∧ ∃ u, Ending.returned v = .returned u ∧ ∃ wb, Ext wb w' ∧ K u wb := fun hr => by
    obtain ⟨v, hk, hrun⟩ := results_run hty hx hr
    exact ⟨v, hrun, v, rfl, wb, hx, hk⟩
  cases e with
  | normal => exact ⟨rfl, go hq⟩
  | ret => exact ⟨rfl, go hq⟩
  | _ => exact hq.elim

theorem PC.mk (hty : TyOk P tys) {f : FuncId} {fn : Func} {c : Code} {args : List Value} {w : World} {v : Value} (hf : P.funcs[f]? = some fn) (hb : fn.body = some c) (hn : (fn.name == "runtime.NumGoroutine") = false)
    (h : ∀ w', Ext w w' → mkFr args fn.ntmps fun fr => gv P tys c fr w' fun e fr' wb => fin tys e fn.results.toList fr' wb fun u => u = v ∧ Ext w' wb) : PC P f args w v := by
  simp only [PC]
  refine ⟨⟨fn, hf, hn, by rw [hb]; rfl⟩, fun w' hw => ?_⟩
  refine (calls_of_gv hty (K := fun u wb => u = v ∧ Ext w' wb) hf hb (h w' hw)).mono ?_
  rintro e w'' ⟨u, rfl, wb, hx, rfl, hx2⟩
  exact ⟨rfl, hx2.trans hx⟩

theorem RC.mk (hty : TyOk P tys) {f : FuncId} {fn : Func} {c : Code} {args : List Value} {w : World} {S : Nat → Prop} {R : Value → World → Prop} (hf : P.funcs[f]? = some fn) (hb : fn.body = some c) (hn : (fn.name == "runtime.NumGoroutine") = false)
    (h : ∀ w', Ext w w' → mkFr args fn.ntmps fun fr => gv P tys c fr w' fun e fr' wb => fin tys e fn.results.toList fr' wb fun u => Gr S w' wb ∧ R u wb) : RC P f args w S R := by
  simp only [RC]
  refine ⟨⟨fn, hf, hn, by rw [hb]; rfl⟩, fun w' hw => ?_⟩
  refine (calls_of_gv hty (K := fun u wb => Gr S w' wb ∧ R u wb) hf hb (h w' hw)).mono ?_
  rintro e w'' ⟨u, rfl, wb, hx, hg, hr⟩
  exact ⟨u, rfl, wb, hx, hg, hr⟩

theorem PC.ext {f : FuncId} {args : List Value} {w w1 : World} {v : Value} (h : PC P f args w v) (hw : Ext w w1) : PC P f args w1 v := by
  simp only [PC] at h ⊢
  exact ⟨h.1, fun w' hx => h.2 w' (hw.trans hx)⟩

theorem VC.pure {f : FuncId} {args : List Value} {w : World} {v : Value} {K : Value → World → Prop} (h : PC P f args w v) (hk : K v w) : VC P f args w K := by
  simp only [PC] at h
  simp only [VC]
  refine ⟨h.1, fun w' hw => (h.2 w' hw).mono ?_⟩
  rintro e w'' ⟨rfl, hx⟩
  exact ⟨v, rfl, w, hw.trans hx, hk⟩

theorem VC.rc {f : FuncId} {args : List Value} {w : World} {S : Nat → Prop} {R : Value → World → Prop} {K : Value → World → Prop} (h : RC P f args w S R) (hk : ∀ v w', Gr S w w' → R v w' → K v w') : VC P f args w K := by
  simp only [RC] at h
  simp only [VC]
  refine ⟨h.1, fun w' hw => (h.2 w' hw).mono ?_⟩
  rintro e w'' ⟨v, rfl, wb, hx, hg, hr⟩
  exact ⟨v, rfl, wb, hx, hk v wb ((Gr.ofExt hw).trans (hg)) hr⟩

theorem VCQ.pure {f : FuncId} {args : List Value} {w : World} {v : Value} {K : Value → Prop} (h : PC P f args w v) (hk : K v) : VCQ P f args w K := by
  simp only [VCQ]; exact ⟨v, h, hk⟩
end

/-! ### the plain tags -/
theorem Split.mk {p A B : Prop} (h1 : p → A) (h2 : ¬ p → B) : Split p A B := by simp only [Split]; exact ⟨h1, h2⟩
theorem Split.pos {p A B : Prop} (hp : p) (h : A) : Split p A B := Split.mk (fun _ => h) (fun hn => absurd hp hn)
theorem Split.neg {p A B : Prop} (hp : ¬ p) (h : B) : Split p A B := Split.mk (fun h1 => absurd h1 hp) (fun _ => h)
theorem Rng.mk {n : Int} {A : Prop} (h : -9223372036854775808 ≤ n ∧ n ≤ 9223372036854775807) (hA : A) : Rng n A := by simp only [Rng]; exact ⟨h, hA⟩
theorem Need.mk {p A : Prop} (h : p) (hA : A) : Need p A := by simp only [Need]; exact ⟨h, hA⟩

/-! ### cells in a row -/
def At (w : World) (p : Addr) (xs : List Value) : Prop := ∀ (i : Nat) (x : Value), xs[i]? = some x → w.cell? (p.add i) = some x

theorem add_block (p : Addr) (i : Nat) : (p.add i).block = p.block := by unfold Addr.add; split <;> rfl
theorem add_add (p : Addr) (i j : Nat) : (p.add i).add j = p.add (i + j) := by
  unfold Addr.add
  by_cases hi : i = 0
  · subst hi; simp
  · by_cases hj : j = 0
    · subst hj; simp [hi]
    · rw [if_neg hj, if_neg hi, if_neg (by omega)]; simp; omega

theorem At.gr {S : Nat → Prop} {w w' : World} {p : Addr} {xs : List Value} (h : At w p xs) (hg : Gr S w w') (hs : ¬ S p.block) : At w' p xs :=
  fun i x hx => hg.cell (h i x hx) (by rw [add_block]; exact hs)
theorem At.ext {w w' : World} {p : Addr} {xs : List Value} (h : At w p xs) (hg : Ext w w') : At w' p xs := h.gr hg (fun hf => hf)
theorem At.ld {w : World} {p : Addr} {xs : List Value} {i : Nat} {v : Value} {K : Value → Prop} (h : At w p xs) (hx : xs[i]? = some v) (hk : K v) : Ld w (p.add i) K := by
  simp only [Ld]; exact ⟨v, h i v hx, hk⟩
theorem At.ldN {w : World} {p : Addr} {xs : List Value} {n : Nat} {K : Value → Prop} (h : At w p xs) (hn : xs.length = n) (hk : K (.agg xs.toArray)) : LdN n w p K := by
  simp only [LdN]; exact ⟨xs, hn, h, hk⟩

/-- A new box. -/
theorem Bx.mk {T : TypeId} {v : Value} {w : World} {K : Value → World → Prop} (h : ∀ (b : Nat) w', Ext w w' → w.heap.size ≤ b → At w' ⟨b, 0, none⟩ v.cells.toList → (∀ i, w'.frozen? ⟨b, i, none⟩ = false) → K (.pointer (some ⟨b, 0, none⟩)) w') : Bx T v w K := by
  simp only [Bx]
  intro w' hw
  refine h w'.heap.size _ (hw.alloc _) hw.size (fun i x hx => ?_) (fun i => ?_)
  · have e : (⟨w'.heap.size, 0, none⟩ : Addr).add i = ⟨w'.heap.size, i, none⟩ := by unfold Addr.add; split <;> simp_all
    rw [e]
    have hh : (w'.alloc (.cells v.cells T)).heap[w'.heap.size]? = some (.cells v.cells T) := heap_alloc_new w' _
    simp only [World.cell?, hh]
    simpa using hx
  · have hh : (w'.alloc (.cells v.cells T)).heap[w'.heap.size]? = some (.cells v.cells T) := heap_alloc_new w' _
    simp only [World.frozen?, hh]; simp

theorem Bx.agg {T : TypeId} {l : List Value} {w : World} {K : Value → World → Prop} (h : ∀ (b : Nat) w', Ext w w' → w.heap.size ≤ b → At w' ⟨b, 0, none⟩ l → (∀ i, w'.frozen? ⟨b, i, none⟩ = false) → K (.pointer (some ⟨b, 0, none⟩)) w') : Bx T (.agg l.toArray) w K := Bx.mk h
theorem Bx.one {T : TypeId} {v : Value} {w : World} {K : Value → World → Prop} (hv : v.cells = #[v]) (h : ∀ (b : Nat) w', Ext w w' → w.heap.size ≤ b → At w' ⟨b, 0, none⟩ [v] → (∀ i, w'.frozen? ⟨b, i, none⟩ = false) → K (.pointer (some ⟨b, 0, none⟩)) w') : Bx T v w K :=
  Bx.mk fun b w' hx hb ha hf => h b w' hx hb (by rw [hv] at ha; exact ha) hf

/-- v is a slice of n elements of s cells each; its cells hold xs. -/
def Sl (s : Nat) (w : World) (v : Value) (n : Nat) (xs : List Value) : Prop :=
  ∃ a cap, v = .slice a n cap ∧ n ≤ cap ∧ cap ≤ maxLen ∧ xs.length = n * s ∧ (n = 0 ∨ ∃ p, a = some p ∧ At w p xs)

def blk (v : Value) : Nat := match v with | .slice (some a) _ _ => a.block | _ => 0

theorem Sl.gr {s : Nat} {S : Nat → Prop} {w w' : World} {v : Value} {n : Nat} {xs : List Value} (h : Sl s w v n xs) (hg : Gr S w w') (hs : n = 0 ∨ ¬ S (blk v)) : Sl s w' v n xs := by
  obtain ⟨a, cap, rfl, h1, h2, h3, h4⟩ := h
  refine ⟨a, cap, rfl, h1, h2, h3, ?_⟩
  rcases h4 with h4 | ⟨p, rfl, h4⟩
  · exact .inl h4
  · rcases hs with hs | hs
    · exact .inl hs
    · exact .inr ⟨p, rfl, h4.gr hg hs⟩
theorem Sl.ext {s : Nat} {w w' : World} {v : Value} {n : Nat} {xs : List Value} (h : Sl s w v n xs) (hg : Ext w w') : Sl s w' v n xs := h.gr hg (.inr fun hf => hf)
theorem Sl.ln {s : Nat} {w : World} {v : Value} {n : Nat} {xs : List Value} {K : Value → Prop} (h : Sl s w v n xs) (hk : K (.int .i64 n)) : Ln v K := by
  obtain ⟨a, cap, rfl, _⟩ := h
  simp only [Ln]; exact ⟨a, n, cap, rfl, hk⟩
theorem Sl.le {s : Nat} {w : World} {v : Value} {n : Nat} {xs : List Value} (h : Sl s w v n xs) : n ≤ 9223372036854775807 := by
  obtain ⟨a, cap, rfl, h1, h2, _⟩ := h
  unfold maxLen at h2; omega
theorem Sl.ix {s : Nat} {w : World} {v : Value} {n : Nat} {xs : List Value} {c : Nat} {K : Value → Prop} (h : Sl s w v n xs) (hc : c < n) (hk : K (.pointer (some (ea v (c * s))))) : Ix s v (.int .i64 (c : Int)) K := by
  obtain ⟨a, cap, rfl, h1, h2, h3, h4⟩ := h
  rcases h4 with h4 | ⟨p, rfl, h4⟩
  · omega
  · simp only [Ix]; exact ⟨p, n, cap, c, rfl, rfl, by omega, by omega, hk⟩
theorem Sl.ixI {s : Nat} {w : World} {v : Value} {n : Nat} {xs : List Value} {j : Int} {K : Value → Prop} (h : Sl s w v n xs) (hc : 0 ≤ j ∧ j < n) (hk : K (.pointer (some (ea v (j.toNat * s))))) : Ix s v (.int .i64 j) K := by
  obtain ⟨a, cap, rfl, h1, h2, h3, h4⟩ := h
  rcases h4 with h4 | ⟨p, rfl, h4⟩
  · omega
  · simp only [Ix]; exact ⟨p, n, cap, j, rfl, rfl, hc.1, hc.2, hk⟩
theorem Sl.cell {s : Nat} {w : World} {v : Value} {n : Nat} {xs : List Value} {k : Nat} {x : Value} (h : Sl s w v n xs) (hx : xs[k]? = some x) : w.cell? (ea v k) = some x := by
  obtain ⟨a, cap, rfl, h1, h2, h3, h4⟩ := h
  rcases h4 with h4 | ⟨p, rfl, h4⟩
  · have := (List.getElem?_eq_some_iff.1 hx).1
    rw [h3, h4] at this; omega
  · simp only [ea]; exact h4 k x hx
theorem Sl.ld {s : Nat} {w : World} {v : Value} {n : Nat} {xs : List Value} {k : Nat} {x : Value} {K : Value → Prop} (h : Sl s w v n xs) (hx : xs[k]? = some x) (hk : K x) : Ld w (ea v k) K := by
  simp only [Ld]; exact ⟨x, h.cell hx, hk⟩

def i64v (x : Int) : Value := .int .i64 x

/-- A slice of ints. -/
def Ints (w : World) (v : Value) (l : List Int) : Prop := Sl 1 w v l.length (l.map i64v)

section
variable {w w' : World} {v : Value} {l : List Int} {K : Value → Prop}
theorem Ints.ext (h : Ints w v l) (hg : Ext w w') : Ints w' v l := Sl.ext h hg
theorem Ints.gr {S : Nat → Prop} (h : Ints w v l) (hg : Gr S w w') (hs : l.length = 0 ∨ ¬ S (blk v)) : Ints w' v l := Sl.gr h hg hs
theorem Ints.le (h : Ints w v l) : l.length ≤ 9223372036854775807 := Sl.le h
theorem Ints.ln (h : Ints w v l) (hk : K (.int .i64 (l.length : Int))) : Ln v K := Sl.ln h hk
theorem Ints.ix {c : Nat} (h : Ints w v l) (hc : c < l.length) (hk : K (.pointer (some (ea v c)))) : Ix 1 v (.int .i64 (c : Int)) K :=
  Sl.ix h hc (by rw [Nat.mul_one]; exact hk)
theorem Ints.ixI {j : Int} (h : Ints w v l) (hc : 0 ≤ j ∧ j < l.length) (hk : K (.pointer (some (ea v j.toNat)))) : Ix 1 v (.int .i64 j) K :=
  Sl.ixI h hc (by rw [Nat.mul_one]; exact hk)
theorem Ints.ld {c : Nat} (h : Ints w v l) (hc : c < l.length) (hk : K (.int .i64 (l.getD c 0))) : Ld w (ea v c) K :=
  Sl.ld h (x := .int .i64 (l.getD c 0)) (by simp [hc, i64v]) hk
end

/-- A slice of slices of ints. -/
structure Mat (w : World) (v : Value) (vs : List Value) (rr : List (List Int)) : Prop where
  top : Sl 1 w v rr.length vs
  row : ∀ i, i < rr.length → Ints w (vs.getD i undef) (rr.getD i [])

section
variable {w w' : World} {v : Value} {vs : List Value} {rr : List (List Int)} {K : Value → Prop}
theorem Mat.ext (h : Mat w v vs rr) (hg : Ext w w') : Mat w' v vs rr := ⟨h.top.ext hg, fun i hi => (h.row i hi).ext hg⟩
theorem Mat.ln (h : Mat w v vs rr) (hk : K (.int .i64 (rr.length : Int))) : Ln v K := h.top.ln hk
theorem Mat.ix {c : Nat} (h : Mat w v vs rr) (hc : c < rr.length) (hk : K (.pointer (some (ea v c)))) : Ix 1 v (.int .i64 (c : Int)) K :=
  h.top.ix hc (by rw [Nat.mul_one]; exact hk)
theorem Mat.ixI {j : Int} (h : Mat w v vs rr) (hc : 0 ≤ j ∧ j < rr.length) (hk : K (.pointer (some (ea v j.toNat)))) : Ix 1 v (.int .i64 j) K :=
  h.top.ixI hc (by rw [Nat.mul_one]; exact hk)
theorem Mat.ld {c : Nat} (h : Mat w v vs rr) (hc : c < rr.length) (hk : K (vs.getD c undef)) : Ld w (ea v c) K := by
  obtain ⟨_, _, _, _, _, h3, _⟩ := id h.top
  exact h.top.ld (by simp [show c < vs.length by omega]) hk
end
end Go.Eng
set_option linter.unusedVariables false
set_option linter.unusedSimpArgs false
namespace Go.Eng
open Go.RowKit Go.ChangeShapes Go.WideShapes Go.ChangeAt

section
variable {H : Type} {enc : TypeId × Value → H} {P : Program} {w : World} {base : Nat} {spare : Nat → Bool} {held : Bool}

theorem read_sl {t e s fuel : Nat} {cs : List Value} {x : DataW H × List MemPlace} (ht : P.underlying t = some (.slice e)) (hs : P.cellsOf e = s) (h : DataW.trod enc P w base spare held fuel t cs = some x) :
    ∃ v n xs, cs = [v] ∧ Sl s w v n xs ∧ ∀ i, i < n → ∃ fuel y, DataW.trod enc P w base spare held fuel e ((xs.drop (i * s)).take s) = some y := by
  rcases DataW.trod_slice ht h with ⟨rfl, _⟩ | ⟨a, len, cap, elems, rest, n, rfl, rfl, _, hb, hl, hm, hlen, hel, _⟩
  · exact ⟨_, 0, [], rfl, ⟨none, 0, rfl, Nat.le_refl _, Nat.zero_le _, by simp, .inl rfl⟩, fun i hi => absurd hi (Nat.not_lt_zero _)⟩
  · subst hs
    have each : ∀ i, i < len → ∃ L y, w.cells? base (a.add (i * P.cellsOf e)) (P.cellsOf e) = some L ∧ DataW.trod enc P w base spare held n e L = some y := by
      intro i hi
      have h1 := hel i hi
      rw [List.getElem?_eq_getElem (by omega)] at h1
      cases hc : w.cells? base (a.add (i * P.cellsOf e)) (P.cellsOf e) with
      | none => rw [hc] at h1; simp at h1
      | some L => rw [hc] at h1; exact ⟨L, _, rfl, h1⟩
    have cell : ∀ i L, w.cells? base (a.add (i * P.cellsOf e)) (P.cellsOf e) = some L → L.length = P.cellsOf e ∧ ∀ j, j < P.cellsOf e → w.cell? (a.add (i * P.cellsOf e + j)) = L[j]? := by
      intro i L hL
      obtain ⟨_, h2, h3⟩ := World.cells?_some hL
      refine ⟨h2, fun j hj => ?_⟩
      rw [← add_add]
      exact h3 j hj
    let xs : List Value := (List.range (len * P.cellsOf e)).map fun k => (w.cell? (a.add k)).getD undef
    have hxs : xs = (List.range (len * P.cellsOf e)).map fun k => (w.cell? (a.add k)).getD undef := rfl
    refine ⟨_, len, xs, rfl, ⟨some a, cap, rfl, hl, hm, by simp [hxs], .inr ⟨a, rfl, ?_⟩⟩, fun i hi => ?_⟩
    · intro k y hk
      have hkl : k < len * P.cellsOf e := by
        have := (List.getElem?_eq_some_iff.1 hk).1
        simpa [hxs] using this
      have hs0 : 0 < P.cellsOf e := by
        rcases Nat.eq_zero_or_pos (P.cellsOf e) with h0 | h0
        · rw [h0] at hkl; omega
        · exact h0
      have hdiv : k / P.cellsOf e < len := Nat.div_lt_of_lt_mul (by rw [Nat.mul_comm]; exact hkl)
      obtain ⟨L, y', hL, _⟩ := each _ hdiv
      obtain ⟨hLl, hLc⟩ := cell _ _ hL
      have h4 := hLc (k % P.cellsOf e) (Nat.mod_lt _ hs0)
      have e5 : k / P.cellsOf e * P.cellsOf e + k % P.cellsOf e = k := by rw [Nat.mul_comm]; exact Nat.div_add_mod k _
      rw [e5] at h4
      have e6 : xs[k]? = some ((w.cell? (a.add k)).getD undef) := by simp [hxs, hkl]
      rw [e6] at hk
      rw [List.getElem?_eq_getElem (by rw [hLl]; exact Nat.mod_lt _ hs0)] at h4
      rw [h4] at hk ⊢
      exact hk
    · obtain ⟨L, y, hL, hy⟩ := each i hi
      obtain ⟨hLl, hLc⟩ := cell _ _ hL
      have hmul : i * P.cellsOf e + P.cellsOf e ≤ len * P.cellsOf e := by
        have := Nat.mul_le_mul_right (P.cellsOf e) (show i + 1 ≤ len from hi)
        rw [Nat.add_mul, Nat.one_mul] at this; exact this
      have eL : (xs.drop (i * P.cellsOf e)).take (P.cellsOf e) = L := by
        apply List.ext_getElem?
        intro j
        by_cases hj : j < P.cellsOf e
        · rw [List.getElem?_take, if_pos hj, List.getElem?_drop, ← hLc j hj]
          have : i * P.cellsOf e + j < len * P.cellsOf e := by omega
          have h5 := hLc j hj
          rw [List.getElem?_eq_getElem (by omega)] at h5
          simp [hxs, this, h5]
        · rw [List.getElem?_take, if_neg hj, List.getElem?_eq_none (by omega)]
      rw [eL]
      exact ⟨n, y, hy⟩

def I64 (n : Int) : Prop := -9223372036854775808 ≤ n ∧ n ≤ 9223372036854775807

theorem read_i64 {t fuel : Nat} {cs : List Value} {x : DataW H × List MemPlace} (ht : P.underlying t = some (.int .i64)) (h : DataW.trod enc P w base spare held fuel t cs = some x) : ∃ n, cs = [.int .i64 n] ∧ I64 n := by
  obtain ⟨n, rfl, _, wf⟩ := DataW.trod_int ht h
  refine ⟨n, rfl, ?_⟩
  simpa [I64, Lit.wf, IntKind.min, IntKind.max, IntKind.signed, IntKind.bits] using wf

theorem choose_list {α : Type} [Inhabited α] {n : Nat} {p : Nat → α → Prop} (h : ∀ i, i < n → ∃ a, p i a) : ∃ l : List α, l.length = n ∧ ∀ i, i < n → p i (l.getD i default) := by
  classical
  refine ⟨(List.range n).map fun i => if hi : i < n then Classical.choose (h i hi) else default, by simp, fun i hi => ?_⟩
  have := Classical.choose_spec (h i hi)
  simpa [List.getD, hi] using this

end

section
variable {H : Type} {enc : TypeId × Value → H} {P : Program}

theorem trodAll_stays (hl : laidOutB P = true) {W W' : World} (hb : Below W.heap.size W W') : ∀ {ts : List TypeId} {vs : List Value} {ds : List (DataW H)} {ps : List MemPlace}, (∀ t ∈ ts, P.readableRec t = true ∧ t < P.types.size) → (∀ x ∈ ps, x.block < W.heap.size) →
    DataW.TrodAll enc P W 0 (fun _ => true) true ts vs ds ps → DataW.TrodAll enc P W' 0 (fun b => decide (b < W.heap.size)) true ts vs ds ps
  | [], [], [], _, _, _, h => h
  | t :: ts, v :: vs, d :: ds, _, hr, hlt, ⟨p, q, h1, h2, e⟩ => by
    subst e
    exact ⟨p, q, Below.trod hl (hr t (by simp)).1 (hr t (by simp)).2 h1 hb (fun x hx => hlt x (by simp [hx])), trodAll_stays hl hb (fun t ht => hr t (by simp [ht])) (fun x hx => hlt x (by simp [hx])) h2, rfl⟩
  | [], [], _ :: _, _, _, _, h => h.elim
  | [], _ :: _, _, _, _, _, h => by cases ‹List (DataW H)› <;> exact h.elim
  | _ :: _, [], _, _, _, _, h => by cases ‹List (DataW H)› <;> exact h.elim
  | _ :: _, _ :: _, [], _, _, _, h => h.elim

theorem law_post {f : Func} {s : ChangeSpec} {fresh handsOn : Bool} {W W' : World} {args : Array Value} {ds gs : List (DataW H)} {before : List MemPlace} {T : TypeId} (hl : laidOutB P = true)
    (hr : ∀ t ∈ f.params.toList, P.readableRec t = true ∧ t < P.types.size) (hres : f.resultTypes = #[T]) (hT : P.underlying T = some .bool) (hv : s.vars = [])
    (hspec : (s.fn H (ds ++ [])).results = [.lit (.bool true)] ∧ (s.fn H (ds ++ [])).args = ds ∧ (s.fn H (ds ++ [])).vars = [])
    (hW : DataW.Whole enc P f.params.toList s.vars false W args.toList ds gs before) (hb : Below W.heap.size W W') : s.post enc P f false fresh handsOn false W args (.bool true) W' := by
  have hW' := hW
  obtain ⟨p, q, hA, hV, rfl, _, _⟩ := hW
  rw [hv] at hV
  have hg : gs = [] ∧ q = [] := by cases gs with
    | nil => exact ⟨rfl, hV⟩
    | cons _ _ => exact hV.elim
  obtain ⟨rfl, rfl⟩ := hg
  have hlt : ∀ x ∈ p, x.block < W.heap.size := fun x hx => hW'.lt x (by simp [hx])
  refine ⟨ds, [], p ++ [], [], p, [], hW', ?_, ?_, ?_, hb.frame _, fun h => by cases h⟩
  · rw [hspec.1, hres]
    exact trodAll_mk1 (shut_bool hT true)
  · rw [hspec.2.1]
    exact trodAll_stays hl hb hr hlt hA
  · rw [hspec.2.2, hv]; rfl

/-- A law from its pure contract. -/
theorem law_calls {f : Func} {F : FuncId} {s : ChangeSpec} {fresh handsOn : Bool} {W : World} {args : Array Value} {ds gs : List (DataW H)} {before : List MemPlace} {T : TypeId} (hl : laidOutB P = true)
    (hr : ∀ t ∈ f.params.toList, P.readableRec t = true ∧ t < P.types.size) (hres : f.resultTypes = #[T]) (hT : P.underlying T = some .bool) (hv : s.vars = [])
    (hspec : (s.fn H (ds ++ [])).results = [.lit (.bool true)] ∧ (s.fn H (ds ++ [])).args = ds ∧ (s.fn H (ds ++ [])).vars = [])
    (hW : DataW.Whole enc P f.params.toList s.vars false W args.toList ds gs before) (hp : PC P F args.toList W (.bool true)) :
    Calls P F args W fun e W' => ∃ v, e = .returned v ∧ s.post enc P f false fresh handsOn false W args v W' := by
  simp only [PC] at hp
  refine (hp.2 W (Ext.refl W)).mono ?_
  rintro e W' ⟨rfl, hx⟩
  exact ⟨_, rfl, law_post hl hr hres hT hv hspec hW hx.below⟩
end
end Go.Eng
set_option linter.unusedVariables false
set_option linter.unusedSimpArgs false
namespace Go.Eng
open Go.RowKit

noncomputable def tf (p : Prop) : Bool := @decide p (Classical.propDecidable p)
theorem tf_t {p : Prop} (h : p) : tf p = true := by unfold tf; exact @decide_eq_true p (Classical.propDecidable p) h
theorem tf_f {p : Prop} (h : ¬ p) : tf p = false := by unfold tf; exact @decide_eq_false p (Classical.propDecidable p) h

abbrev Own (B : Nat) (e : TypeId) (s : Nat) (w : World) (v : Value) (n : Nat) (xs : List Value) : Prop := w.ownsRow B e s v n xs

/-- What is told of an element's type. -/
def Elem (P : Program) (e : TypeId) (z : Value) (s b : Nat) : Prop := (P.info? e).map (fun i => (i.zero, i.size, i.bytes)) = some (some z, s, b)

section
variable {P : Program} {B : Nat} {e : TypeId} {s : Nat} {w w' : World} {v : Value} {n : Nat} {xs : List Value}

theorem Own.nil : Own B e s w (.slice none 0 0) 0 [] := World.ownsRow_nil w B e s
theorem Own.gr {S : Nat → Prop} (h : Own B e s w v n xs) (hg : Gr S w w') (hs : ∀ k, v.ownBlock = some k → ¬ S k) : Own B e s w' v n xs := by
  refine ⟨h.1, ?_⟩
  rcases h.2 with hn | ⟨g, cap, cur, rfl, hb, hgg, rest⟩
  · exact .inl hn
  · refine .inr ⟨g, cap, cur, rfl, hb, ?_, rest⟩
    rw [hg.block g (Array.getElem?_eq_some_iff.1 hgg).1 (hs g rfl)]
    exact hgg
theorem Own.ext (h : Own B e s w v n xs) (hg : Ext w w') : Own B e s w' v n xs := Own.gr h hg fun _ _ hf => hf
theorem Own.lt (h : Own B e s w v n xs) : ∀ k, v.ownBlock = some k → B ≤ k ∧ k < w.heap.size := World.ownsRow.lt h
theorem Own.base {B' : Nat} (h : Own B e s w v n xs) (hB : B' ≤ B) : Own B' e s w v n xs := by
  refine ⟨h.1, ?_⟩
  rcases h.2 with hn | ⟨g, cap, cur, hv, hb, rest⟩
  · exact .inl hn
  · exact .inr ⟨g, cap, cur, hv, Nat.le_trans hB hb, rest⟩
theorem Own.ne {B' : Nat} {e' : TypeId} {s' : Nat} {v' : Value} {n' : Nat} {xs' : List Value} (h : Own B e s w v n xs) (h' : Own B' e' s' w v' n' xs') (he : e ≠ e') : ∀ k, v.ownBlock = some k → v'.ownBlock ≠ some k := by
  intro k hk hk'
  rcases h.2 with ⟨rfl, _⟩ | ⟨g, cap, cur, rfl, _, hg, _⟩
  · simp [Value.ownBlock] at hk
  · rcases h'.2 with ⟨rfl, _⟩ | ⟨g', cap', cur', rfl, _, hg', _⟩
    · simp [Value.ownBlock] at hk'
    · simp [Value.ownBlock] at hk hk'
      subst hk; subst hk'
      rw [hg] at hg'
      simp at hg'
      exact he hg'.2
theorem add0 (g j : Nat) : (⟨g, 0, none⟩ : Addr).add j = ⟨g, j, none⟩ := by unfold Addr.add; split <;> simp_all
theorem Own.len (h : Own B e s w v n xs) : xs.length = n * s := h.1
theorem Own.sl (h : Own B e s w v n xs) : Sl s w v n xs := by
  rcases h.2 with ⟨rfl, rfl⟩ | ⟨g, cap, cur, rfl, hb, hg, h1, h2, h3, h4⟩
  · exact ⟨none, 0, rfl, Nat.le_refl _, Nat.zero_le _, h.1, .inl rfl⟩
  · refine ⟨_, cap, rfl, h1, h2, h.1, .inr ⟨_, rfl, fun i x hx => ?_⟩⟩
    exact World.ownsRow.cells h rfl i x hx
/-! ### a store -/
theorem Own.set {k : Nat} {x : Value} {K : World → Prop} (h : Own B e s w v n xs) (hk : k < xs.length) (hx : x.oneCell' = true)
    (hK : ∀ w', Gr (fun j => v.ownBlock = some j) w w' → Own B e s w' v n (xs.set k x) → K w') : St w (ea v k) x K := by
  rcases h.2 with ⟨rfl, rfl⟩ | ⟨g, cap, cur, rfl, hb, hg, h1, h2, h3, h4⟩
  · have := h.1; omega
  · have hlen := h.1
    have hns : n * s ≤ cap * s := Nat.mul_le_mul_right s h1
    have ea0 : ea (.slice (some ⟨g, 0, none⟩) n cap) k = ⟨g, k, none⟩ := by simp only [ea]; exact add0 g k
    rw [ea0]
    have hcell : w.cell? ⟨g, k, none⟩ = some (cur[k]'(by omega)) := by
      simp only [World.cell?, hg]
      simp [show k < cur.size by omega]
    simp only [St]
    refine ⟨hx, ⟨_, hcell⟩, by simp only [World.frozen?, hg]; simp, fun w1 hw1 => ?_⟩
    have hg1 : w1.heap[g]? = some (.cells cur e (0, 0)) := by rw [hw1.block g (Array.getElem?_eq_some_iff.1 hg).1 (fun hf => hf)]; exact hg
    refine hK _ (Gr.setCell (S := fun j => Value.ownBlock (.slice (some ⟨g, 0, none⟩) n cap) = some j) (p := ⟨g, k, none⟩) (Gr.ofExt hw1) rfl x) ⟨by simp [hlen], .inr ⟨g, cap, cur.setIfInBounds k x, rfl, hb, ?_, h1, h2, by simp [h3], ?_⟩⟩
    · obtain ⟨hlt, hh⟩ := Array.getElem?_eq_some_iff.1 hg1
      simp only [World.setCell]
      rw [Array.getElem?_modify, if_pos rfl, hg1]
      simp
    · rw [Array.toList_setIfInBounds, List.take_set, h4]

/-! ### literals -/
def enum (i : Nat) : List Value → List (Nat × Value)
  | [] => []
  | v :: vs => (i, v) :: enum (i + 1) vs

def flat : List Value → List Value
  | [] => []
  | v :: vs => v.cells.toList ++ flat vs

theorem flat_len : ∀ {vs : List Value} {s : Nat}, (∀ v ∈ vs, v.cells.size = s) → (flat vs).length = vs.length * s
  | [], _, _ => by simp [flat]
  | v :: vs, s, h => by
    have := flat_len (vs := vs) (s := s) (fun u hu => h u (by simp [hu]))
    have hv := h v (by simp)
    simp [flat, this, hv, Nat.add_mul, Nat.add_comm]

theorem amap_range {α : Type} (f : Nat → α) (N : Nat) : (Array.range N).map f = ((List.range N).map f).toArray := by
  apply Array.toList_inj.1; simp

theorem fill_run (s : Nat) : ∀ (vs : List Value) (i : Nat) (pre rest : List Value), (∀ v ∈ vs, v.cells.size = s) → pre.length = i * s → rest.length = vs.length * s →
    Instr.fill (fun i => some (i * s, s)) (pre ++ rest).toArray (enum i vs) = some (pre ++ flat vs).toArray
  | [], i, pre, rest, _, _, hr => by
    have : rest = [] := by simpa using hr
    simp [enum, Instr.fill, flat, this]
  | v :: vs, i, pre, rest, hv, hp, hr => by
    have hvs := hv v (by simp)
    have hr' : rest.length = s + vs.length * s := by rw [hr, List.length_cons, Nat.add_mul, Nat.one_mul, Nat.add_comm]
    have hfold : ∀ (l : List Value) (k : Nat) (p : List Value) (r : List Value), l.length ≤ r.length → p.length = pre.length + k →
        (l.zipIdx k).foldl (fun (cs : Array Value) (c : Value × Nat) => cs.setIfInBounds (i * s + c.2) c.1) (p ++ r).toArray = (p ++ l ++ r.drop l.length).toArray := by
      intro l
      induction l with
      | nil => intro k p r _ _; simp
      | cons x l ih =>
        intro k p r hl hpk
        match r, hl with
        | y :: r, hl =>
          simp only [List.zipIdx_cons, List.foldl_cons]
          have e1 : ((p ++ y :: r).toArray).setIfInBounds (i * s + k) x = ((p ++ [x]) ++ r).toArray := by
            apply Array.toList_inj.1
            simp only [Array.toList_setIfInBounds, List.append_assoc, List.singleton_append]
            rw [← hp, ← hpk, List.set_append_right _ _ (Nat.le_refl _)]
            simp
          rw [e1, ih (k + 1) (p ++ [x]) r (by simpa using hl) (by simp [hpk]; omega)]
          simp
    simp only [enum, Instr.fill]
    rw [if_neg (by simp [hvs]; omega)]
    have e2 : v.cells.zipIdx.foldl (fun (cs : Array Value) (c : Value × Nat) => cs.setIfInBounds (i * s + c.2) c.1) (pre ++ rest).toArray = ((pre ++ v.cells.toList) ++ rest.drop s).toArray := by
      have := hfold v.cells.toList 0 pre rest (by simp [hvs]; omega) rfl
      rw [← Array.foldl_toList, Array.toList_zipIdx]
      simpa [hvs] using this
    have e3 := fill_run s vs (i + 1) (pre ++ v.cells.toList) (rest.drop s) (fun u hu => hv u (by simp [hu])) (by simp [hp, hvs, Nat.add_mul]) (by simp [hr'])
    rw [e2, e3]
    simp [flat]

theorem Elem.info {P : Program} {e : TypeId} {z : Value} {s b : Nat} (h : Elem P e z s b) : ∃ i, P.info? e = some i ∧ i.zero = some z ∧ i.size = s ∧ i.bytes = b := info_parts h

theorem VE.mk {sem : Sem Value} {K : Value → World → Prop} (h : ∀ w', Ext w w' → ∃ v w'', sem.run P w' = .ok v w'' ∧ K v w'') : VE P sem w K := by
  simp only [VE]
  intro w' hw
  obtain ⟨v, w'', hr, hk⟩ := h w' hw
  exact ⟨v, w'', hr, w'', Ext.refl _, hk⟩

theorem VX.mk {sem : Sem Value} {K : Value → World → Prop} (h : ∀ w', Ext w w' → ∃ v w'', sem.run P w' = .ok v w'' ∧ Ext w' w'' ∧ K v w'') : VX P sem w K := by
  simp only [VX]
  intro w' hw
  obtain ⟨v, w'', hr, hx, hk⟩ := h w' hw
  exact ⟨v, w'', hr, hx, w'', Ext.refl _, hk⟩
theorem VX.toVE {sem : Sem Value} {K : Value → World → Prop} (h : VX P sem w K) : VE P sem w K := by
  simp only [VX] at h
  simp only [VE]
  intro w' hw
  obtain ⟨v, w'', hr, _, hk⟩ := h w' hw
  exact ⟨v, w'', hr, hk⟩

/-- A new row of cells. -/
theorem Own.fresh {cur : Array Value} {n : Nat} (hB : B ≤ w.heap.size) (hm : n ≤ maxLen) (hs : cur.size = n * s) : Own B e s (w.alloc (.cells cur e)) (.slice (some ⟨w.heap.size, 0, none⟩) n n) n cur.toList :=
  ⟨by simp [hs], .inr ⟨w.heap.size, n, cur, rfl, hB, heap_alloc_new w _, Nat.le_refl _, hm, hs, by rw [← hs, ← Array.length_toList, List.take_length]⟩⟩

/-- '[]T{..}'. -/
theorem VX.lit {t : TypeId} {ps : List (Nat × Value)} {z : Value} {b m : Nat} {K : Value → World → Prop} (ht : P.underlying t = some (.slice e)) (he : Elem P e z s b) (hps : ps = enum 0 (ps.map (·.2))) (hm : ps.length = m) (hv : ∀ v ∈ ps.map (·.2), v.cells.size = s) (hsm : m * s ≤ 16777216) (hmm : m ≤ maxLen)
    (hk : ∀ v w', Ext w w' → (∀ B, B ≤ w.heap.size → Own B e s w' v m (flat (ps.map (·.2)))) → (v.ownBlock = some w.heap.size ∨ ∀ k, v.ownBlock = some k → w.heap.size ≤ k) → K v w') : VX P (Instr.buildSlice t m ps.toArray) w K := by
  refine VX.mk fun w1 hw1 => ?_
  obtain ⟨i, hi, hz, hsz, _⟩ := he.info
  subst hm
  have hfill : Instr.fill (fun i => some (i * s, s)) ((Array.range (ps.length * s)).map (fun j => (if ps.length * s = 0 then (#[] : Array Value) else z.cells)[j % (if ps.length * s = 0 then (#[] : Array Value) else z.cells).size]!)) ps = some (flat (ps.map (·.2))).toArray := by
    rw [amap_range]
    have h := fill_run s (ps.map (·.2)) 0 [] ((List.range (ps.length * s)).map (fun j => (if ps.length * s = 0 then (#[] : Array Value) else z.cells)[j % (if ps.length * s = 0 then (#[] : Array Value) else z.cells).size]!)) hv (by simp) (by simp)
    rw [← hps] at h
    exact h
  have hlen : (flat (ps.map (·.2))).length = ps.length * s := by rw [flat_len hv, List.length_map]
  refine ⟨_, _, ?_, (Ext.refl w1).alloc _, hk (.slice (some ⟨w1.heap.size, 0, none⟩) ps.length ps.length) (w1.alloc (.cells (flat (ps.map (·.2))).toArray e)) (hw1.alloc _) (fun B hB => ?_) (.inr fun k hk => ?_)⟩
  · have hge : ¬ (ps.length * s > 2 ^ 24) := by omega
    simp only [Instr.buildSlice, Sem.run_bind, run_underlying ht, Result.andThen_ok, Go.sizeOf, typeInfo, run_program, hi, Sem.run_pure, hsz, if_neg hge]
    by_cases h0 : ps.length * s = 0
    · rw [if_pos h0] at hfill ⊢
      simp only [Sem.run_pure, Result.andThen_ok, hfill, newRow, Sem.run_bind, run_newObj]
      rfl
    · rw [if_neg h0] at hfill ⊢
      simp only [Sem.run_pure, Result.andThen_ok, hfill, newRow, Sem.run_bind, run_newObj, zeroValue, typeInfo, run_program, hi, hz]
      rfl
  · have := Own.fresh (B := B) (e := e) (s := s) (w := w1) (cur := (flat (ps.map (·.2))).toArray) (n := ps.length) (Nat.le_trans hB hw1.size) hmm (by simp [hlen])
    simpa using this
  · simp [Value.ownBlock] at hk
    have := hw1.size; omega
theorem VE.lit {t : TypeId} {ps : List (Nat × Value)} {z : Value} {b m : Nat} {K : Value → World → Prop} (ht : P.underlying t = some (.slice e)) (he : Elem P e z s b) (hps : ps = enum 0 (ps.map (·.2))) (hm : ps.length = m) (hv : ∀ v ∈ ps.map (·.2), v.cells.size = s) (hsm : m * s ≤ 16777216) (hmm : m ≤ maxLen)
    (hk : ∀ v w', Ext w w' → (∀ B, B ≤ w.heap.size → Own B e s w' v m (flat (ps.map (·.2)))) → (v.ownBlock = some w.heap.size ∨ ∀ k, v.ownBlock = some k → w.heap.size ≤ k) → K v w') : VE P (Instr.buildSlice t m ps.toArray) w K := VX.toVE (VX.lit ht he hps hm hv hsm hmm hk)

/-- 'make([]T, n)'. -/
theorem VX.made {t : TypeId} {z : Value} {b : Nat} {n : Nat} {K : Value → World → Prop} (ht : P.underlying t = some (.slice e)) (he : Elem P e z 1 b) (hz1 : z.cells = #[z]) (hn : n ≤ 9223372036854775807) (hb : b * n ≤ 281474976710656)
    (hk : ∀ v w', Ext w w' → (∀ B, B ≤ w.heap.size → Own B e 1 w' v n (List.replicate n z)) → (∀ k, v.ownBlock = some k → w.heap.size ≤ k) → K v w') : VX P (Instr.makeSlice t (.int .i64 (n : Int)) (.int .i64 (n : Int))) w K := by
  refine VX.mk fun w1 hw1 => ?_
  obtain ⟨i, hi, hz, hsz, hby⟩ := he.info
  refine ⟨_, _, ?_, (Ext.refl w1).alloc _, hk (.slice (some ⟨w1.heap.size, 0, none⟩) n n) (w1.alloc (.cells (List.replicate n z).toArray e)) (hw1.alloc _) (fun B hB => ?_) (fun k hk => ?_)⟩
  · have hw : IntKind.i64.wrap (n : Int) = n := IntWalk.i64_in _ (by omega)
    have h1 : ¬ ((n : Int) < 0) := by omega
    have h2 : ¬ ((b : Int) * (n : Int) > 2 ^ 48) := by
      have : (b : Int) * (n : Int) = ((b * n : Nat) : Int) := by simp
      rw [this]; omega
    have harr : (Array.map (fun j => (if n = 0 then (#[] : Array Value) else #[z])[j % (if n = 0 then (#[] : Array Value) else #[z]).size]!) (Array.range n)) = (List.replicate n z).toArray := by
      apply Array.ext
      · simp
      · intro j hj1 hj2
        have hn0 : n ≠ 0 := by
          simp at hj2; omega
        simp [hn0, Nat.mod_one]
    simp only [Instr.makeSlice, Sem.run_bind, run_underlying ht, Result.andThen_ok, asInt, asIntOf, Sem.run_pure, typeInfo, run_program, hi, hby, hw, Go.sizeOf]
    simp only [h1, h2, decide_false, Bool.or_false, Int.lt_irrefl, Bool.false_eq_true, if_false, gt_iff_lt, Int.toNat_natCast, Sem.run_bind, run_askRoom, Result.andThen_ok, zeroValue, typeInfo, run_program, hi, Sem.run_pure, hsz, Nat.mul_one]
    by_cases h0 : n = 0
    · rw [if_pos h0] at harr ⊢
      simp only [Sem.run_pure, Result.andThen_ok, newRow, Sem.run_bind, run_newObj, harr]
      rfl
    · rw [if_neg h0] at harr ⊢
      simp only [Sem.run_bind, run_program, hi, hz, Sem.run_pure, Result.andThen_ok, newRow, run_newObj, hz1, harr]
      rfl
  · have := Own.fresh (B := B) (e := e) (s := 1) (w := w1) (cur := (List.replicate n z).toArray) (n := n) (Nat.le_trans hB hw1.size) (by unfold maxLen; omega) (by simp)
    simpa using this
  · simp [Value.ownBlock] at hk
    have := hw1.size; omega
theorem VE.made {t : TypeId} {z : Value} {b : Nat} {n : Nat} {K : Value → World → Prop} (ht : P.underlying t = some (.slice e)) (he : Elem P e z 1 b) (hz1 : z.cells = #[z]) (hn : n ≤ 9223372036854775807) (hb : b * n ≤ 281474976710656)
    (hk : ∀ v w', Ext w w' → (∀ B, B ≤ w.heap.size → Own B e 1 w' v n (List.replicate n z)) → (∀ k, v.ownBlock = some k → w.heap.size ≤ k) → K v w') : VE P (Instr.makeSlice t (.int .i64 (n : Int)) (.int .i64 (n : Int))) w K := VX.toVE (VX.made ht he hz1 hn hb hk)

/-- 'append(v, ..x)': v is the call's own, x any slice. -/
theorem VE.append {t T : TypeId} {z x : Value} {b m : Nat} {ys : List Value} {K : Value → World → Prop} (ht : P.underlying t = some (.slice e)) (he : Elem P e z s b) (hzs : z.cells.size = s) (hs0 : 0 < s)
    (Ho : Own B e s w v n xs) (Hx : Sl s w x m ys) (h1 : ∀ u ∈ ys, u.oneCell' = true) (h63 : n + m ≤ 9223372036854775807) (hb : (n + m) * b ≤ 140737488355328) (hB : B ≤ w.heap.size)
    (hk : ∀ v' w', Gr (fun k => v.ownBlock = some k) w w' → Own B e s w' v' (n + m) (xs ++ ys) → K v' w') : VE P (Builtin.append_ #[t, t] T #[v, x]) w K := by
  refine VE.mk fun w1 hw1 => ?_
  obtain ⟨i, hi, hz, hsz, hby⟩ := he.info
  have Ho1 := Own.ext Ho hw1
  obtain ⟨a, cap, rfl, hc1, hc2, hc3, hat⟩ := Hx.ext hw1
  cases a with
  | some a =>
    have hnews : ∀ (j : Nat) (u : Value), ys[j]? = some u → w1.cell? (a.add j) = some u := by
      intro j u hu
      rcases hat with h0 | ⟨p, hp, hat⟩
      · have := (List.getElem?_eq_some_iff.1 hu).1
        rw [hc3, h0] at this; omega
      · cases hp; exact hat j u hu
    obtain ⟨v', w', hr, ho, hg, _⟩ := run_append_own w1 (P := P) B t T e i z s b ht hi hz hsz hby hzs hs0 v n xs Ho1 a m cap ys hc3 hnews h1 (by unfold maxLen; omega) hb (Nat.le_trans hB hw1.size)
    refine ⟨v', w', hr, hk v' w' ((Gr.ofExt hw1).trans ((Gr.ofGrown hg).mono fun k _ hk => hk.symm)) ho⟩
  | none =>
    have hm0 : m = 0 := by
      rcases hat with h0 | ⟨p, hp, _⟩
      · exact h0
      · cases hp
    subst hm0
    have hys : ys = [] := by simpa using hc3
    subst hys
    have hcap : ∃ a' c', v = .slice a' n c' ∧ n ≤ c' := by
      rcases Ho.2 with ⟨hv, hn⟩ | ⟨g, c', cur, hv, _, _, hle, _⟩
      · subst hn; exact ⟨none, 0, hv, Nat.le_refl _⟩
      · exact ⟨_, c', hv, hle⟩
    obtain ⟨a', c', rfl, hle⟩ := hcap
    refine ⟨.slice a' n c', w1, ?_, hk _ _ (Gr.ofExt hw1) (by simpa using Ho1)⟩
    simp only [Builtin.append_]
    cases a' <;> simp [run_underlying ht, Go.sizeOf, typeInfo, hi, Builtin.lenOf, hle, Builtin.firstCells, storeCells]

/-- A world that grows out of an old one stays so while a row of the call's own turns. -/
theorem Own.keep {a : World} (h : Own B e s w v n xs) (hx : Ext a w) (hB : a.heap.size ≤ B) (hg : Gr (fun k => v.ownBlock = some k) w w') : Ext a w' :=
  hx.new hg fun i hi hk => by have := (Own.lt h i hk).1; omega

theorem Sl.cells {m : Nat} {ys : List Value} (h : Sl s w v m ys) : v.cells = #[v] ∧ v.oneCell' = true := by
  obtain ⟨a, cap, rfl, _⟩ := h
  exact ⟨rfl, rfl⟩

/-- '[]T{x}': the argument of an append of one element. -/
theorem VX.lit1 {t : TypeId} {z x : Value} {b : Nat} {K : Value → World → Prop} (ht : P.underlying t = some (.slice e)) (he : Elem P e z 1 b) (hx : x.cells = #[x])
    (hk : ∀ v w', Ext w w' → Sl 1 w' v 1 [x] → K v w') : VX P (Instr.buildSlice t 1 [(0, x)].toArray) w K :=
  VX.lit (m := 1) ht he rfl rfl (by intro v hv; simp at hv; subst hv; rw [hx]; rfl) (by omega) (by unfold maxLen; omega) fun v w' hw ho _ => by
    refine hk v w' hw ?_
    have := (ho 0 (Nat.zero_le _)).sl
    simpa [flat, hx] using this
theorem VE.lit1 {t : TypeId} {z x : Value} {b : Nat} {K : Value → World → Prop} (ht : P.underlying t = some (.slice e)) (he : Elem P e z 1 b) (hx : x.cells = #[x])
    (hk : ∀ v w', Ext w w' → Sl 1 w' v 1 [x] → K v w') : VE P (Instr.buildSlice t 1 [(0, x)].toArray) w K :=
  VE.lit (m := 1) ht he rfl rfl (by intro v hv; simp at hv; subst hv; rw [hx]; rfl) (by omega) (by unfold maxLen; omega) fun v w' hw ho _ => by
    refine hk v w' hw ?_
    have := (ho 0 (Nat.zero_le _)).sl
    simpa [flat, hx] using this

/-- An append onto a row of the call's own, made since the world a. -/
theorem VE.app {a : World} {t T : TypeId} {z x : Value} {b m : Nat} {ys : List Value} {K : Value → World → Prop} (ht : P.underlying t = some (.slice e)) (he : Elem P e z s b) (hzs : z.cells.size = s) (hs0 : 0 < s)
    (Ho : Own B e s w v n xs) (hx : Ext a w) (hB : a.heap.size = B) (Hx : Sl s w x m ys) (h1 : ∀ u ∈ ys, u.oneCell' = true) (h63 : n + m ≤ 9223372036854775807) (hb : (n + m) * b ≤ 140737488355328)
    (hk : ∀ v' w', Ext a w' → Gr (fun k => v.ownBlock = some k) w w' → Own B e s w' v' (n + m) (xs ++ ys) → K v' w') : VE P (Builtin.append_ #[t, t] T #[v, x]) w K :=
  VE.append ht he hzs hs0 Ho Hx h1 h63 hb (by rw [← hB]; exact hx.size) fun v' w' hg ho => hk v' w' (Own.keep Ho hx (by omega) hg) hg ho
end
end Go.Eng
set_option linter.unusedVariables false
set_option linter.unusedSimpArgs false
namespace Go.Eng
open Go.RowKit

theorem ext_getD {α : Type} (d : α) {a b : List α} (hl : a.length = b.length) (h : ∀ i, i < a.length → a.getD i d = b.getD i d) : a = b := by
  apply List.ext_getElem hl
  intro i h1 h2
  have := h i h1
  simpa [List.getD, h1, h2] using this

theorem VS.mk {P : Program} {s : Sem Value} {w : World} {K : Value → Prop} {v : Value} (h : ∀ w', Ext w w' → s.run P w' = .ok v w') (hk : K v) : VS P s w K := by
  simp only [VS]; exact ⟨v, h, hk⟩

section
variable {P : Program} {e : TypeId} {s : Nat} {w w' : World}

end

theorem Sl.ld1 {w : World} {v : Value} {n : Nat} {xs : List Value} {c : Nat} {K : Value → Prop} (h : Sl 1 w v n xs) (hc : c < n) (hk : K (xs.getD c undef)) : Ld w (ea v (c * 1)) K := by
  have hl : xs.length = n := by obtain ⟨_, _, _, _, _, h3, _⟩ := id h; omega
  exact h.ld (by simp [show c < xs.length by omega]) hk

/-- the first index with a property, or -1 -/
def firstFrom (p : Nat → Bool) : Nat → Nat → Int
  | 0, _ => -1
  | f + 1, i => if p i = true then (i : Int) else firstFrom p f (i + 1)
theorem firstFrom_spec (p : Nat → Bool) : ∀ (f i : Nat), (∃ j, i ≤ j ∧ j < i + f ∧ p j = true ∧ firstFrom p f i = j ∧ ∀ k, i ≤ k → k < j → p k = false) ∨ (firstFrom p f i = -1 ∧ ∀ k, i ≤ k → k < i + f → p k = false)
  | 0, i => .inr ⟨rfl, fun k h1 h2 => by omega⟩
  | f + 1, i => by
    by_cases h : p i = true
    · exact .inl ⟨i, Nat.le_refl _, by omega, h, by simp [firstFrom, h], fun k h1 h2 => by omega⟩
    · rcases firstFrom_spec p f (i + 1) with ⟨j, h1, h2, h3, h4, h5⟩ | ⟨h1, h2⟩
      · refine .inl ⟨j, by omega, by omega, h3, by simp [firstFrom, h, h4], fun k hk1 hk2 => ?_⟩
        by_cases e : k = i
        · subst e; simpa using h
        · exact h5 k (by omega) hk2
      · refine .inr ⟨by simp [firstFrom, h, h1], fun k hk1 hk2 => ?_⟩
        by_cases e : k = i
        · subst e; simpa using h
        · exact h2 k (by omega) (by omega)

/-! ### pairs of ints -/
def flatP : List (Int × Int) → List Value
  | [] => []
  | p :: r => i64v p.1 :: i64v p.2 :: flatP r
theorem flatP_get : ∀ (l : List (Int × Int)) (c : Nat), c < l.length → (flatP l)[c * 2]? = some (i64v (l.getD c (0, 0)).1) ∧ (flatP l)[c * 2 + 1]? = some (i64v (l.getD c (0, 0)).2)
  | [], _, h => absurd h (Nat.not_lt_zero _)
  | p :: r, 0, _ => by simp [flatP]
  | p :: r, c + 1, h => by
    have := flatP_get r c (by simpa using h)
    rw [show (c + 1) * 2 = c * 2 + 1 + 1 by omega, show c * 2 + 1 + 1 + 1 = (c * 2 + 1) + 1 + 1 by omega]
    simpa [flatP] using this

/-- A slice of pairs. -/
def Prs (w : World) (v : Value) (l : List (Int × Int)) : Prop := Sl 2 w v l.length (flatP l)
section
variable {w w' : World} {v : Value} {l : List (Int × Int)} {K : Value → Prop}
theorem Prs.ext (h : Prs w v l) (hg : Ext w w') : Prs w' v l := Sl.ext h hg
theorem Prs.le (h : Prs w v l) : l.length ≤ 9223372036854775807 := Sl.le h
theorem Prs.ln (h : Prs w v l) (hk : K (.int .i64 (l.length : Int))) : Ln v K := Sl.ln h hk
theorem Prs.ix {c : Nat} (h : Prs w v l) (hc : c < l.length) (hk : K (.pointer (some (ea v (c * 2))))) : Ix 2 v (.int .i64 (c : Int)) K := Sl.ix h hc hk
theorem ea_block {v : Value} {s n : Nat} {w : World} {xs : List Value} (h : Sl s w v n xs) (k j : Nat) : (ea v k).add j = ea v (k + j) ∨ n = 0 := by
  obtain ⟨a, cap, rfl, _, _, _, h4⟩ := h
  rcases h4 with h4 | ⟨p, rfl, _⟩
  · exact .inr h4
  · left; simp only [ea]; exact add_add p k j
theorem Prs.ldN {c : Nat} (h : Prs w v l) (hc : c < l.length) (hk : K (.agg #[.int .i64 (l.getD c (0, 0)).1, .int .i64 (l.getD c (0, 0)).2])) : LdN 2 w (ea v (c * 2)) K := by
  obtain ⟨h1, h2⟩ := flatP_get l c hc
  simp only [LdN]
  refine ⟨[i64v (l.getD c (0, 0)).1, i64v (l.getD c (0, 0)).2], rfl, fun i x hx => ?_, hk⟩
  match i, hx with
  | 0, hx => simp at hx; subst hx; exact Sl.cell h h1
  | 1, hx =>
    simp at hx; subst hx
    rcases ea_block h (c * 2) 1 with e | e
    · rw [e]; exact Sl.cell h h2
    · omega
end
end Go.Eng
set_option linter.unusedVariables false
set_option linter.unusedSimpArgs false
namespace Go.Eng

/-- Block b is a box of type T that holds the cells xs. -/
def Blk (w : World) (b : Nat) (T : TypeId) (xs : List Value) : Prop := w.heap[b]? = some (.cells xs.toArray T (0, 0))

theorem IxA.mk {len s : Nat} {p : Addr} {j : Int} {K : Value → Prop} (h : 0 ≤ j ∧ j < (len : Int)) (hk : K (.pointer (some (p.add (j.toNat * s))))) : IxA len s p (.int .i64 j) K := by
  simp only [IxA]; exact ⟨j, rfl, h.1, h.2, hk⟩
section
variable {P : Program} {T : TypeId} {w w' : World} {b : Nat} {xs : List Value}
theorem Blk.gr {S : Nat → Prop} (h : Blk w b T xs) (hg : Gr S w w') (hs : ¬ S b) : Blk w' b T xs := by
  unfold Blk at *
  rw [hg.block b (Array.getElem?_eq_some_iff.1 h).1 hs]; exact h
theorem Blk.ext (h : Blk w b T xs) (hg : Ext w w') : Blk w' b T xs := h.gr hg fun hf => hf
theorem Blk.lt (h : Blk w b T xs) : b < w.heap.size := (Array.getElem?_eq_some_iff.1 h).1
theorem Blk.at (h : Blk w b T xs) : At w ⟨b, 0, none⟩ xs := by
  intro i x hx
  rw [add0]
  unfold Blk at h
  simp only [World.cell?, h]
  simpa using hx

theorem Blk.put (h : Blk w b T xs) (i : Nat) (x : Value) : Blk (w.setCell ⟨b, i, none⟩ x) b T (xs.set i x) := by
  unfold Blk at *
  obtain ⟨hlt, hh⟩ := Array.getElem?_eq_some_iff.1 h
  simp only [World.setCell]
  rw [Array.getElem?_modify, if_pos rfl, h]
  simp

theorem Blk.set {i : Nat} {x : Value} {K : World → Prop} (h : Blk w b T xs) (hi : i < xs.length) (hx : x.oneCell' = true)
    (hK : ∀ w', Gr (fun j => j = b) w w' → Blk w' b T (xs.set i x) → K w') : St w ⟨b, i, none⟩ x K := by
  have hcell : w.cell? ⟨b, i, none⟩ = some (xs[i]'hi) := by unfold Blk at h; simp only [World.cell?, h]; simp [hi]
  simp only [St]
  refine ⟨hx, ⟨_, hcell⟩, by unfold Blk at h; simp only [World.frozen?, h]; simp, fun w1 hw1 => ?_⟩
  exact hK _ (Gr.setCell (S := fun j => j = b) (p := ⟨b, i, none⟩) (Gr.ofExt hw1) rfl x) ((h.ext hw1).put i x)
theorem Blk.new (w : World) (T : TypeId) (xs : List Value) : Blk (w.alloc (.cells xs.toArray T)) w.heap.size T xs := heap_alloc_new w _

/-- 'new(T)', 'x := T{..}'s box. -/
theorem VX.alloc {z : Value} {s n : Nat} {K : Value → World → Prop} (he : Elem P T z s n) (hk : ∀ b w', Ext w w' → w.heap.size ≤ b → Blk w' b T z.cells.toList → K (.pointer (some ⟨b, 0, none⟩)) w') : VX P (Instr.alloc T true (.tuple #[])) w K := by
  refine VX.mk fun w1 hw1 => ?_
  obtain ⟨i, hi, hz, _, _⟩ := he.info
  refine ⟨.pointer (some ⟨w1.heap.size, 0, none⟩), w1.alloc (.cells z.cells T), ?_, (Ext.refl w1).alloc _, hk _ _ (hw1.alloc _) hw1.size (by have := Blk.new w1 T z.cells.toList; simpa using this)⟩
  simp only [Instr.alloc, Sem.run_bind, zeroValue, typeInfo, run_program, Result.andThen_ok, hi, hz, Sem.run_pure, newVar, newRow, run_newObj_alloc]
theorem VE.alloc {z : Value} {s n : Nat} {K : Value → World → Prop} (he : Elem P T z s n) (hk : ∀ b w', Ext w w' → w.heap.size ≤ b → Blk w' b T z.cells.toList → K (.pointer (some ⟨b, 0, none⟩)) w') : VE P (Instr.alloc T true (.tuple #[])) w K := VX.toVE (VX.alloc he hk)

theorem storeCells_run : ∀ (vs : List Value) (i : Nat) (w : World) (xs : List Value), Blk w b T xs → i + vs.length = xs.length → (∀ v ∈ vs, v.oneCell' = true) →
    ∃ w', (storeCells ⟨b, 0, none⟩ vs i).run P w = .ok () w' ∧ Gr (fun j => j = b) w w' ∧ Blk w' b T (xs.take i ++ vs)
  | [], i, w, xs, h, hl, _ => ⟨w, by simp [storeCells], Gr.ofExt (Ext.refl w), by simp at hl; subst hl; simpa using h⟩
  | v :: vs, i, w, xs, h, hl, h1 => by
    have hi : i < xs.length := by simp at hl; omega
    have hcell : w.cell? ⟨b, i, none⟩ = some (xs[i]'hi) := by unfold Blk at h; simp only [World.cell?, h]; simp [hi]
    have hf : w.frozen? ⟨b, i, none⟩ = false := by unfold Blk at h; simp only [World.frozen?, h]; simp
    obtain ⟨w', hr, hg, hb⟩ := storeCells_run vs (i + 1) (w.setCell ⟨b, i, none⟩ v) (xs.set i v) (h.put i v) (by simp at hl ⊢; omega) (fun u hu => h1 u (by simp [hu]))
    have hg1 : Gr (fun j => j = b) w (w.setCell ⟨b, i, none⟩ v) := Gr.setCell (S := fun j => j = b) (p := ⟨b, i, none⟩) (Gr.ofExt (Ext.refl w)) rfl v
    refine ⟨w', ?_, hg1.trans hg, ?_⟩
    · simp only [storeCells, Sem.run_bind, add0]
      rw [run_store P w _ v .plain (h1 v (by simp))]
      simp only [hcell, hf]
      simpa using hr
    · have e : (xs.set i v).take (i + 1) ++ vs = xs.take i ++ v :: vs := by
        rw [List.take_set]
        apply List.ext_getElem?
        intro j
        simp only [List.getElem?_append, List.getElem?_set, List.length_set, List.length_take, List.getElem?_take, List.getElem?_cons]
        rcases Nat.lt_trichotomy j i with hj | hj | hj
        · have a1 : j < min (i + 1) xs.length := by omega
          have a2 : j < min i xs.length := by omega
          have a3 : ¬ i = j := by omega
          have a4 : j < i + 1 := by omega
          simp [a1, a2, a3, a4, hj]
        · subst hj
          have a1 : j < min (j + 1) xs.length := by omega
          have a2 : ¬ j < min j xs.length := by omega
          have a3 : j - min j xs.length = 0 := by omega
          simp [a1, a2, a3]
        · have a1 : ¬ j < min (i + 1) xs.length := by omega
          have a2 : ¬ j < min i xs.length := by omega
          have a3 : j - min i xs.length = (j - min (i + 1) xs.length) + 1 := by omega
          simp [a1, a2, a3]
      rw [e] at hb; exact hb

/-- The whole of a box is written. -/
theorem Blk.all {s : Nat} {cs : List Value} {K : World → Prop} (h : Blk w b T xs) (hs : P.cellsOf T = s) (hs0 : s ≠ 0) (hl : xs.length = s) (hc : cs.length = s) (h1 : ∀ v ∈ cs, v.oneCell' = true)
    (hK : ∀ w', Gr (fun j => j = b) w w' → Blk w' b T cs → K w') : VU P (Instr.storeAt T (.pointer (some ⟨b, 0, none⟩)) (.agg cs.toArray)) w K := by
  simp only [VU]
  intro w1 hw1
  obtain ⟨w2, hr, hg, hb⟩ := storeCells_run (P := P) cs 0 w1 xs (h.ext hw1) (by omega) h1
  refine ⟨w2, ?_, w2, Ext.refl _, hK w2 ((Gr.ofExt hw1).trans hg) (by simpa using hb)⟩
  simp only [Instr.storeAt, Instr.sureAddr, pure_bind, storeVar, Sem.run_bind, sizeOf_run hs hs0, Result.andThen_ok, Value.cells]
  simp [hc]
  simpa using hr

theorem mapM_run {α β : Type} (f : α → Sem β) (g : α → β) {w : World} : ∀ (l : List α), (∀ x ∈ l, (f x).run P w = .ok (g x) w) → (l.mapM f).run P w = .ok (l.map g) w
  | [], _ => by simp
  | x :: l, h => by
    rw [List.mapM_cons]
    simp only [Sem.run_bind, h x (by simp), Result.andThen_ok, mapM_run f g l (fun y hy => h y (by simp [hy])), Sem.run_pure, List.map_cons]

end
end Go.Eng
set_option linter.unusedVariables false
set_option linter.unusedSimpArgs false
namespace Go.Eng

theorem enum_snd : ∀ (vs : List Value) (i : Nat), (enum i vs).map (·.2) = vs
  | [], _ => rfl
  | v :: vs, i => by simp [enum, enum_snd vs]
theorem flat_ones : ∀ {vs : List Value}, (∀ v ∈ vs, v.cells = #[v]) → flat vs = vs
  | [], _ => rfl
  | v :: vs, h => by
    have ih := flat_ones (vs := vs) (fun u hu => h u (List.mem_cons_of_mem _ hu))
    simp [flat, h v (by simp), ih]
theorem enum_len : ∀ (vs : List Value) (i : Nat), (enum i vs).length = vs.length
  | [], _ => rfl
  | v :: vs, i => by simp [enum, enum_len vs]

section
variable {P : Program} {e t : TypeId} {w : World} {z : Value} {b : Nat} {K : Value → World → Prop}
/-- '[]T{..}' of one-cell elements. -/
theorem VX.litV (vs : List Value) (ht : P.underlying t = some (.slice e)) (he : Elem P e z 1 b) (h1 : ∀ v ∈ vs, v.cells = #[v]) (hl : vs.length ≤ 16777216)
    (hk : ∀ v w', Ext w w' → (∀ B, B ≤ w.heap.size → Own B e 1 w' v vs.length vs) → (∀ k, v.ownBlock = some k → w.heap.size ≤ k) → K v w') : VX P (Instr.buildSlice t vs.length (enum 0 vs).toArray) w K := by
  refine VX.lit (m := vs.length) ht he (by rw [enum_snd]) (enum_len vs 0) (by rw [enum_snd]; intro v hv; rw [h1 v hv]; rfl) (by omega) (by unfold maxLen; omega) fun v w' hw ho hb => ?_
  rw [enum_snd, flat_ones h1] at ho
  exact hk v w' hw ho fun k hk => hb.elim (fun h => by rw [h] at hk; cases hk; exact Nat.le_refl _) (fun h => h k hk)
theorem VE.litV (vs : List Value) (ht : P.underlying t = some (.slice e)) (he : Elem P e z 1 b) (h1 : ∀ v ∈ vs, v.cells = #[v]) (hl : vs.length ≤ 16777216)
    (hk : ∀ v w', Ext w w' → (∀ B, B ≤ w.heap.size → Own B e 1 w' v vs.length vs) → (∀ k, v.ownBlock = some k → w.heap.size ≤ k) → K v w') : VE P (Instr.buildSlice t vs.length (enum 0 vs).toArray) w K := by
  refine VE.lit (m := vs.length) ht he (by rw [enum_snd]) (enum_len vs 0) (by rw [enum_snd]; intro v hv; rw [h1 v hv]; rfl) (by omega) (by unfold maxLen; omega) fun v w' hw ho hb => ?_
  rw [enum_snd, flat_ones h1] at ho
  exact hk v w' hw ho fun k hk => hb.elim (fun h => by rw [h] at hk; cases hk; exact Nat.le_refl _) (fun h => h k hk)

theorem cells_i64 (l : List Int) : ∀ v ∈ l.map i64v, v.cells = #[v] := by
  intro v hv
  obtain ⟨x, _, rfl⟩ := List.mem_map.1 hv
  rfl

/-- '[]int{..}'. -/
theorem VX.litI (l : List Int) (ht : P.underlying t = some (.slice e)) (he : Elem P e z 1 b) (hl : l.length ≤ 16777216)
    (hk : ∀ v w', Ext w w' → (∀ B, B ≤ w.heap.size → Own B e 1 w' v l.length (l.map i64v)) → (∀ k, v.ownBlock = some k → w.heap.size ≤ k) → K v w') : VX P (Instr.buildSlice t l.length (enum 0 (l.map i64v)).toArray) w K := by
  have h := VX.litV (P := P) (K := K) (w := w) (l.map i64v) ht he (cells_i64 l) (by simpa using hl) (fun v w' h1 h2 h3 => hk v w' h1 (by simpa using h2) h3)
  simpa using h
theorem VE.litI (l : List Int) (ht : P.underlying t = some (.slice e)) (he : Elem P e z 1 b) (hl : l.length ≤ 16777216)
    (hk : ∀ v w', Ext w w' → (∀ B, B ≤ w.heap.size → Own B e 1 w' v l.length (l.map i64v)) → (∀ k, v.ownBlock = some k → w.heap.size ≤ k) → K v w') : VE P (Instr.buildSlice t l.length (enum 0 (l.map i64v)).toArray) w K := by
  have h := VE.litV (P := P) (K := K) (w := w) (l.map i64v) ht he (cells_i64 l) (by simpa using hl) (fun v w' h1 h2 h3 => hk v w' h1 (by simpa using h2) h3)
  simpa using h

end

/-- A box of another type is written: the row stays. -/
theorem Own.blk {B : Nat} {e T : TypeId} {s n b : Nat} {w w' : World} {v : Value} {xs ys : List Value} (h : Own B e s w v n xs) (hk : Blk w b T ys) (he : e ≠ T) (hg : Gr (fun j => j = b) w w') : Own B e s w' v n xs :=
  Own.gr h hg fun k hv hb => by
    subst hb
    rcases h.2 with ⟨rfl, _⟩ | ⟨g, cap, cur, rfl, _, hc, _⟩
    · simp [Value.ownBlock] at hv
    · simp [Value.ownBlock] at hv
      subst hv
      unfold Blk at hk
      rw [hk] at hc
      simp at hc
      exact he hc.2.symm
end Go.Eng
set_option linter.unusedVariables false
set_option linter.unusedSimpArgs false
namespace Go.Eng

/-- v[l:h] -/
def view (v : Value) (s l h : Nat) : Value := match v with
  | .slice a _ cap => sliced a l h cap s
  | _ => undef

section
variable {P : Program} {w w' : World} {v : Value} {s n : Nat} {xs : List Value} {t e : TypeId}
theorem elem_eq (ht : P.underlying t = some (.slice e)) : P.elem t = e := by unfold Program.elem; rw [ht]

theorem Sl.view {l h : Nat} (H : Sl s w v n xs) (hl : l ≤ h) (hh : h ≤ n) : Sl s w (view v s l h) (h - l) ((xs.drop (l * s)).take ((h - l) * s)) := by
  obtain ⟨a, cap, rfl, h1, h2, h3, h4⟩ := H
  have hm : l * s + (h - l) * s ≤ n * s := by rw [← Nat.add_mul]; exact Nat.mul_le_mul_right s (by omega)
  refine ⟨_, cap - l, rfl, by omega, by unfold maxLen at *; omega, by simp; omega, ?_⟩
  by_cases e0 : h - l = 0
  · exact .inl e0
  · rcases h4 with h4 | ⟨p, rfl, h4⟩
    · omega
    · right
      refine ⟨p.add (l * s), by rw [if_neg (by omega)]; rfl, fun i x hx => ?_⟩
      rw [add_add]
      refine h4 _ x ?_
      rw [List.getElem?_take] at hx
      split at hx
      · rw [List.getElem?_drop] at hx; exact hx
      · simp at hx

theorem cut_run {lo hi : Option Value} {l h : Nat} (ht : P.underlying t = some (.slice e)) (hs : P.cellsOf e = s) (hs0 : s ≠ 0) (H : Sl s w v n xs) (hl : l ≤ h) (hh : h ≤ n)
    (e1 : (lo = none ∧ l = 0) ∨ lo = some (.int .i64 (l : Int))) (e2 : (hi = none ∧ h = n) ∨ hi = some (.int .i64 (h : Int))) (w1 : World) :
    (Instr.sliceAt t v lo hi none).run P w1 = .ok (view v s l h) w1 := by
  obtain ⟨a, cap, rfl, h1, h2, h3, h4⟩ := H
  have he := elem_eq ht
  have ht' : P.underlying t = some (.slice (P.elem t)) := by rw [he]; exact ht
  have hz := sizeOf_run (P := P) (t := e) hs hs0 w1
  rw [run_sliceAt_slice w1 t _ _ _ _ ht', run_slice_any w1 t a n cap ht']
  have hb : (Instr.sliceBounds true n cap lo hi none).run P w1 = .ok (l, h, cap) w1 := by
    rcases e1 with ⟨rfl, rfl⟩ | rfl <;> rcases e2 with ⟨rfl, rfl⟩ | rfl
    · simp [Instr.sliceBounds]
    · simp [Instr.sliceBounds, run_sliceBound, (by omega : (h : Int) ≤ cap)]
    · simp [Instr.sliceBounds, run_sliceBound, (by omega : (l : Int) ≤ h)]
    · simp [Instr.sliceBounds, run_sliceBound, (by omega : (h : Int) ≤ cap), (by omega : (l : Int) ≤ h)]
  rw [hb]
  simp only [Result.andThen_ok, he, hz]
  rfl

/-- 'x[l:]', 'x[:h]', 'x[l:h]'. -/
theorem VS.cutL {l : Nat} {K : Value → Prop} (ht : P.underlying t = some (.slice e)) (hs : P.cellsOf e = s) (hs0 : s ≠ 0) (H : Sl s w v n xs) (hl : l ≤ n) (hk : K (view v s l n)) : VS P (Instr.sliceAt t v (some (.int .i64 (l : Int))) none none) w K :=
  VS.mk (fun w1 _ => cut_run ht hs hs0 H hl (Nat.le_refl _) (.inr rfl) (.inl ⟨rfl, rfl⟩) w1) hk
theorem VS.cutH {h : Nat} {K : Value → Prop} (ht : P.underlying t = some (.slice e)) (hs : P.cellsOf e = s) (hs0 : s ≠ 0) (H : Sl s w v n xs) (hh : h ≤ n) (hk : K (view v s 0 h)) : VS P (Instr.sliceAt t v none (some (.int .i64 (h : Int))) none) w K :=
  VS.mk (fun w1 _ => cut_run ht hs hs0 H (Nat.zero_le _) hh (.inl ⟨rfl, rfl⟩) (.inr rfl) w1) hk
theorem splice_take {α : Type} {X Y : List α} {l c n : Nat} (hy : Y.length = c) (hn : l + c ≤ n) (hX : n ≤ X.length) : (X.take l ++ Y ++ X.drop (l + c)).take n = (X.take n).take l ++ Y ++ (X.take n).drop (l + c) := by
  rw [List.take_take, Nat.min_eq_left (by omega), List.take_append, List.take_of_length_le (by simp; omega)]
  congr 1
  rw [List.drop_take]
  congr 1
  simp; omega

theorem Gr.setRow {S : Nat → Prop} {a b : World} (h : Gr S a b) {g : Nat} (hg : S g) (cs : Array Value) : Gr S a (b.setRow g cs) :=
  h.trans ⟨rfl, rfl, rfl, by simp, fun k _ hn => setRow_other b g k cs (fun e => hn (e ▸ hg))⟩

/-- 'copy(v[l:], x)', v a row of one's own. -/
theorem VE.copy {B b l m c : Nat} {dT sT T : TypeId} {z sv : Value} {ys : List Value} {K : Value → World → Prop} (ht : P.underlying dT = some (.slice e)) (he : Elem P e z 1 b) (Ho : Own B e 1 w v n xs) (hl : l ≤ n) (Hs : Sl 1 w sv m ys)
    (h1 : ∀ u ∈ ys, u.oneCell' = true) (hc : c = min m (n - l)) (hk : ∀ w', Gr (fun k => v.ownBlock = some k) w w' → Own B e 1 w' v n (xs.take l ++ ys.take c ++ xs.drop (l + c)) → K (.int .i64 (c : Int)) w') :
    VE P (Builtin.copy_ #[dT, sT] T #[view v 1 l n, sv]) w K := by
  refine VE.mk fun w1 hw1 => ?_
  obtain ⟨i, hi, _, hsz, _⟩ := he.info
  have hs1 : (P.info? e).map (·.size) = some 1 := by rw [hi]; simp [hsz]
  have hlen : xs.length = n := by have := Ho.len; omega
  have Ho1 := Own.ext Ho hw1
  have Hs1 := Sl.ext Hs hw1
  have hgo : goInt c = .int .i64 (c : Int) := rfl
  by_cases hc0 : c = 0
  · refine ⟨.int .i64 (c : Int), w1, ?_, hk w1 (Gr.ofExt hw1) ?_⟩
    · obtain ⟨a, cap, rfl, _⟩ := Hs1
      obtain ⟨a', cap', rfl, _⟩ := Own.sl Ho1
      simp only [view, sliced]
      rw [run_copy_none w1 dT sT T e _ _ _ _ _ _ ht hs1 (by show min _ _ = 0; omega), hc0]
      rfl
    · subst hc0; simpa using Ho1
  · obtain ⟨a, cap, rfl, g1, g2, g3, g4⟩ := Hs1
    rcases g4 with g4 | ⟨p, rfl, g4⟩
    · omega
    · rcases Ho1.2 with ⟨rfl, hx⟩ | ⟨g, cap', cur, rfl, hB, hg, k1, k2, k3, k4⟩
      · have : n = 0 := by simp [hx] at hlen; omega
        omega
      · refine ⟨.int .i64 (c : Int), w1.setRow g (cur.toList.take l ++ ys.take c ++ cur.toList.drop (l + (ys.take c).length)).toArray, ?_, hk _ (Gr.setRow (S := fun j => Value.ownBlock (.slice (some ⟨g, 0, none⟩) n cap') = some j) (Gr.ofExt hw1) rfl _) ?_⟩
        · have hv : view (.slice (some ⟨g, 0, none⟩) n cap') 1 l n = .slice (some ⟨g, l, none⟩) (n - l) (cap' - l) := by
            simp only [view, sliced]
            rw [if_neg (by omega), Option.map_some, add0, Nat.mul_one]
          rw [hv]
          have hyl : (ys.take c).length = c := by simp; omega
          rw [run_copy_row P w1 dT sT T e g l (n - l) (cap' - l) p m cap cur e (ys.take c) ht hs1 hg (by rw [hyl]; exact hc) (fun j u hu => by
            rw [List.getElem?_take] at hu
            split at hu
            · exact g4 j u hu
            · simp at hu) (by rw [hyl]; omega) (fun u hu => h1 u (List.mem_of_mem_take hu))]
          rw [hyl]; rfl
        · have hyl : (ys.take c).length = c := by simp; omega
          refine ⟨?_, .inr ⟨g, cap', _, rfl, hB, setRow_heap _ _ _ _ _ _ hg, k1, k2, ?_, ?_⟩⟩
          · simp; omega
          · simp; omega
          · rw [hyl]
            have hx : xs = cur.toList.take n := by rw [Nat.mul_one] at k4; exact k4.symm
            rw [hx, Nat.mul_one]
            exact splice_take hyl (by omega) (by simp; omega)

end
end Go.Eng
set_option linter.unusedVariables false
set_option linter.unusedSimpArgs false
namespace Go.Eng
open Go.RowKit

section
variable {P : Program} {ops : Array Oper} {Q : Exit → Act → World → Prop} {md : Region.Mode}

/-- An operation that succeeds with a value. -/
def ok1 (P : Program) (o : Oper) (ρ : Operand → Value) (w : World) (K : Value → World → Prop) : Prop :=
  match (execOp ρ o).run P w with
  | .ok (.value v) w' => K v w'
  | .ok .skip w' => K undef w'
  | .ok (.enter f args) w' => Calls P f args w' fun e w'' => ∃ v, e = .returned v ∧ K v w''
  | .ok (.row row args) w' => Rows P row args w' K
  | _ => False

theorem ok1_mono {o : Oper} {ρ : Operand → Value} {w : World} {K K' : Value → World → Prop} (h : ok1 P o ρ w K) (hk : ∀ v w', K v w' → K' v w') : ok1 P o ρ w K' := by
  unfold ok1 at *
  split at h
  · exact hk _ _ h
  · exact hk _ _ h
  · exact h.mono fun e w'' ⟨v, he, hv⟩ => ⟨v, he, hk v w'' hv⟩
  · exact h.mono fun v w'' hv => hk v w'' hv
  · exact h.elim

theorem ok1_congr {o : Oper} {ρ ρ' : Operand → Value} {w : World} {K : Value → World → Prop} (h : execOp ρ o = execOp ρ' o) : ok1 P o ρ w K = ok1 P o ρ' w K := by
  unfold ok1; rw [h]

theorem wp_of_ok1 {o : Oper} {a : Act} {w : World} {next : Act → World → Prop} (h : ok1 P o a.eval w fun v w' => next (a.put o.dst v) w') : o.wp P a w next Q := by
  unfold ok1 at h
  unfold Oper.wp
  split at h
  · rename_i e; rw [e]; exact h
  · rename_i e; rw [e]; exact h
  · rename_i e
    rw [e, Oper.upon_enter]
    refine h.mono fun e w'' ⟨v, he, hv⟩ => ?_
    subst he; exact hv
  · rename_i e; rw [e]; exact h
  · exact h.elim

theorem ok1_of_wp {o : Oper} {a : Act} {w : World} {next : Act → World → Prop} (hd : ∀ a' w', next a' w' → a'.defers = [])
    (h : o.wp P a w next (fun _ _ _ => False)) : ok1 P o a.eval w fun v w' => next (a.put o.dst v) w' := by
  unfold Oper.wp at h
  unfold ok1
  generalize he : (execOp a.eval o).run P w = r at *
  cases r with
  | ok n w' =>
    cases n with
    | value v => exact h
    | skip => exact h
    | defer d =>
      have := hd _ _ h
      cases hdst : o.dst <;> rw [hdst] at this <;> simp [Act.put] at this
    | row r args => exact h
    | enter f args =>
      rw [Oper.upon_enter] at h
      refine h.mono fun e w'' hh => ?_
      cases e with
      | returned v => exact ⟨v, rfl, hh⟩
      | panicked c => exact hh.elim
      | outgrown => obtain ⟨_, _, h⟩ := hh; exact h.elim
    | _ => exact h.elim
  | halt x w' => cases x <;> exact h.elim

/-- One step of a region. -/
def stepS (P : Program) (ops : Array Oper) (wr : List Nat) (i : Nat) (K : Act → World → Prop) (a : Act) (w : World) : Prop :=
  match ops[i]? with
  | none => K a w
  | some o => if Region.wanted o (yielded ops a.tmps) = true then ok1 P o a.eval w (fun v w' => (i ∉ wr → Ext w w') ∧ K (a.put o.dst v) w') else K (a.put o.dst undef) w

def anyS (P : Program) (md : Region.Mode) (ops : Array Oper) (wr : List Nat) (Qf : Act → World → Prop) : Nat → Array Bool → Act → World → Prop
  | 0, listed, a, w => Region.ready md ops listed = [] ∧ Qf a w
  | n + 1, listed, a, w => (Region.ready md ops listed = [] → Qf a w) ∧ ∀ i ∈ Region.ready md ops listed, stepS P ops wr i (anyS P md ops wr Qf n (listed.setIfInBounds i true)) a w

theorem any_of_anyS {wr : List Nat} {Qf : Act → World → Prop} (hQ : ∀ a w, Qf a w → Q .normal a w) : ∀ (n : Nat) (listed : Array Bool) (a : Act) (w : World), anyS P md ops wr Qf n listed a w → wpAny P md ops Q n listed a w
  | 0, _, _, _, h => ⟨h.1, hQ _ _ h.2⟩
  | n + 1, listed, a, w, h => by
    refine ⟨fun hr => hQ _ _ (h.1 hr), fun i hi => ?_⟩
    have := h.2 i hi
    unfold stepS at this
    unfold wpOp
    split
    · rename_i ho; rw [ho] at this; exact any_of_anyS hQ n _ a w this
    · rename_i o ho
      rw [ho] at this
      simp only at this
      split
      · rename_i hw
        rw [if_pos hw] at this
        exact .inl (wp_of_ok1 (ok1_mono this fun v w' hv => any_of_anyS hQ n _ _ w' hv.2))
      · rename_i hw
        rw [if_neg hw] at this
        exact any_of_anyS hQ n _ _ w this

/-! ### what an operation looks at -/
theorem map_parts {ρ ρ' : Operand → Value} {ps : Array (Nat × Operand)} (h : ∀ x ∈ (ps.toList.map (·.2)).toArray, ρ x = ρ' x) : ps.map (fun (i, x) => (i, ρ x)) = ps.map (fun (i, x) => (i, ρ' x)) := by
  apply Array.map_congr_left
  rintro ⟨i, x⟩ hx
  have : ρ x = ρ' x := h x (by simp; exact ⟨i, hx⟩)
  simp [this]

def plainOp : Op → Bool
  | .go _ | .defer _ | .select _ _ | .send _ _ | .recv _ _ _ | .panic _ => false
  | .call c => match c.callee with | .invoke _ _ => false | _ => true
  | _ => true

theorem exec_local {ρ ρ' : Operand → Value} (o : Oper) (hp : plainOp o.op = true) (h : ∀ x ∈ o.op.operands, ρ x = ρ' x) : execOp ρ o = execOp ρ' o := by
  obtain ⟨dst, op, T, pos, after, guard⟩ := o
  cases op
  case build t ps => simp only [execOp]; rw [map_parts (by simpa [Op.operands] using h)]
  case buildSlice t n ps => simp only [execOp]; rw [map_parts (by simpa [Op.operands] using h)]
  case makeFunc fn f c =>
    simp only [Op.operands, Array.mem_append] at h
    simp only [execOp]
    rw [Array.map_congr_left (fun x hx => h x (.inl hx)), Array.map_congr_left (fun x hx => h x (.inr hx))]
  case call c =>
    simp only [Op.operands, Call.operands, Array.mem_append] at h
    have ha : c.args.map ρ = c.args.map ρ' := Array.map_congr_left (fun x hx => h x (.inr hx))
    cases hc : c.callee with
    | value f => rw [hc] at h; simp only [execOp, resolve, hc, ha, h f (.inl (by simp))]
    | builtin b => simp only [execOp, resolve, hc, ha]
    | invoke r m => simp [plainOp, hc] at hp
  case slice t x l hh m =>
    simp [Op.operands] at h
    simp only [execOp]
    have e1 := h.1
    have e2 : l.map ρ = l.map ρ' := by cases l with | none => rfl | some y => simp [h.2 y (.inl rfl)]
    have e3 : hh.map ρ = hh.map ρ' := by cases hh with | none => rfl | some y => simp [h.2 y (.inr (.inl rfl))]
    have e4 : m.map ρ = m.map ρ' := by cases m with | none => rfl | some y => simp [h.2 y (.inr (.inr rfl))]
    rw [e1, e2, e3, e4]
  case makeMap t r =>
    simp [Op.operands] at h
    simp only [execOp]
    have e2 : r.map ρ = r.map ρ' := by cases r with | none => rfl | some y => simp [h y (by simp)]
    rw [e2]
  all_goals first | (simp [plainOp] at hp; done) | (simp [Op.operands] at h; simp [execOp, h])

def isTmp (d : Tmp) : Operand → Bool
  | .tmp t => t == d
  | _ => false
theorem eval_put {a : Act} {d : Option Tmp} {v : Value} {x : Operand} (h : ∀ t, d = some t → isTmp t x = false) : (a.put d v).eval x = a.eval x := by
  cases d with
  | none => rfl
  | some t =>
    have := h t rfl
    cases x <;> simp [Act.eval, Act.put, isTmp] at *
    rename_i s
    rw [Array.getElem?_setIfInBounds_ne (fun e => this e.symm)]

/-- The destination of the one is not looked at by the other. -/
def apartB (ops : Array Oper) (x y : Oper) : Bool :=
  match x.dst with
  | none => true
  | some d => (y.op.operands.all fun z => !isTmp d z) && (match y.guard with | none => true | some (g, _) => (ops[g]?).bind (·.dst) != some d)
def sepB (ops : Array Oper) (x y : Oper) : Bool := apartB ops x y && apartB ops y x && (x.dst.isNone || x.dst != y.dst)

theorem put_comm {a : Act} {d e : Option Tmp} {v u : Value} (h : d.isNone = true ∨ d ≠ e) : (a.put d v).put e u = (a.put e u).put d v := by
  cases d with
  | none => rfl
  | some d => cases e with
    | none => rfl
    | some e =>
      have hde : d ≠ e := by
        rcases h with h | h
        · simp at h
        · exact fun e => h (by rw [e])
      simp only [Act.put]
      rw [Array.setIfInBounds_comm _ _ hde]

theorem wanted_put {x y : Oper} {a : Act} {v : Value} (h : apartB ops x y = true) : Region.wanted y (yielded ops (a.put x.dst v).tmps) = Region.wanted y (yielded ops a.tmps) := by
  unfold Region.wanted
  split
  · rfl
  · rename_i g b e
    have : yielded ops (a.put x.dst v).tmps g = yielded ops a.tmps g := by
      unfold apartB at h
      cases hd : x.dst with
      | none => rfl
      | some d =>
        rw [hd, e] at h
        simp only [Bool.and_eq_true, bne_iff_ne, ne_eq] at h
        unfold yielded
        cases hg : (ops[g]?).bind (·.dst) with
        | none => rfl
        | some t =>
          have ht : d ≠ t := fun e => h.2 (by rw [hg, e])
          simp only [Option.bind_some, Act.put]
          rw [Array.getElem?_setIfInBounds_ne ht]
    rw [this]

theorem exec_put {x y : Oper} {a : Act} {v : Value} (hp : plainOp y.op = true) (h : apartB ops x y = true) : execOp (a.put x.dst v).eval y = execOp a.eval y := by
  refine exec_local y hp fun z hz => eval_put fun t ht => ?_
  unfold apartB at h
  rw [ht] at h
  simp only [Bool.and_eq_true, Array.all_eq_true', Bool.not_eq_eq_eq_not, Bool.not_true] at h
  exact h.1 z hz

/-! ### what must come ahead -/
def befB (md : Region.Mode) (ops : Array Oper) : Nat → Nat → Nat → Bool
  | 0, i, j => Region.waitsFor md ops j i
  | f + 1, i, j => Region.waitsFor md ops j i || (List.range ops.size).any fun k => Region.waitsFor md ops j k && befB md ops f i k

def Closed (md : Region.Mode) (ops : Array Oper) (listed : Array Bool) : Prop := ∀ j k, listed.getD j false = true → Region.waitsFor md ops j k = true → listed.getD k false = true

theorem befB_spec {listed : Array Bool} (hc : Closed md ops listed) {i : Nat} : ∀ (f j : Nat), (∀ k, Region.waitsFor md ops j k = true → listed.getD k false = true) → befB md ops f i j = true → listed.getD i false = true
  | 0, j, hj, h => hj i h
  | f + 1, j, hj, h => by
    unfold befB at h
    rw [Bool.or_eq_true] at h
    rcases h with h | h
    · exact hj i h
    · obtain ⟨k, _, hk⟩ := List.any_eq_true.1 h
      rw [Bool.and_eq_true] at hk
      exact befB_spec hc f k (fun m hm => hc k m (hj k hk.1) hm) hk.2

theorem ready_waits {listed : Array Bool} {j : Nat} (h : j ∈ Region.ready md ops listed) : ∀ k, Region.waitsFor md ops j k = true → listed.getD k false = true := by
  intro k hk
  obtain ⟨_, o, ho, ha⟩ := mem_ready.1 h
  obtain ⟨o', ho', e, he, hb, rfl⟩ := Region.waitsFor_spec hk
  rw [ho] at ho'; cases ho'
  exact ha e he hb

theorem getD_set {listed : Array Bool} {j k : Nat} (hk : listed.getD k false = true) : (listed.setIfInBounds j true).getD k false = true := by
  simp only [Array.getD_eq_getD_getElem?, Array.getElem?_setIfInBounds] at *
  split
  · rename_i e
    subst e
    split
    · rfl
    · rename_i h
      rw [Array.getElem?_eq_none (by omega)] at hk; simp at hk
  · exact hk

theorem closed_set {listed : Array Bool} (hc : Closed md ops listed) {j : Nat} (h : j ∈ Region.ready md ops listed) : Closed md ops (listed.setIfInBounds j true) := by
  intro m k hm hk
  have mono : ∀ k, listed.getD k false = true → (listed.setIfInBounds j true).getD k false = true := fun k hk => getD_set hk
  by_cases e : m = j
  · subst e; exact mono k (ready_waits h k hk)
  · refine mono k (hc m k ?_ hk)
    simp only [Array.getD_eq_getD_getElem?] at *
    rwa [Array.getElem?_setIfInBounds_ne (fun h => e h.symm)] at hm

theorem ready_set {listed : Array Bool} {i j : Nat} (hij : j ≠ i) (h : j ∈ Region.ready md ops listed) : j ∈ Region.ready md ops (listed.setIfInBounds i true) := by
  obtain ⟨h1, o, ho, ha⟩ := mem_ready.1 h
  refine mem_ready.2 ⟨?_, o, ho, fun e he hb => ?_⟩
  · simp only [Array.getD_eq_getD_getElem?] at *
    rwa [Array.getElem?_setIfInBounds_ne (fun h => hij h.symm)]
  · exact getD_set (ha e he hb)

theorem unlisted {listed : Array Bool} {j : Nat} (h : j ∈ Region.ready md ops listed) : listed.getD j false = false := by
  have := (mem_ready.1 h).1
  simp only [Array.getD_eq_getD_getElem?] at *
  cases hh : listed[j]? with
  | none => rfl
  | some b => rw [hh] at this; simpa using this

/-- A quiet operation that may come up may be taken first. -/
theorem insert_quiet {wr : List Nat} {Qf : Act → World → Prop} {i : Nat} {oi : Oper} {C : World → Prop} {v : Value} (hi : ops[i]? = some oi) (hpl : ∀ (j : Nat) (o : Oper), ops[j]? = some o → plainOp o.op = true)
    (hsep : ∀ (j : Nat) (oj : Oper), j ≠ i → ops[j]? = some oj → Region.waitsFor md ops j i = true ∨ Region.waitsFor md ops i j = true ∨ sepB ops oi oj = true)
    (hCx : ∀ w w', C w → Ext w w' → C w') (hwr : (∀ w, C w) ∨ ∀ j ∈ wr, j ≠ i → ∃ f, befB md ops f i j = true ∨ befB md ops f j i = true) (hni : i ∉ wr) :
    ∀ (n : Nat) (listed : Array Bool) (a : Act) (w : World), C w → Closed md ops listed → i ∈ Region.ready md ops listed →
      ((Region.wanted oi (yielded ops a.tmps) = true ∧ ∀ w, C w → (execOp a.eval oi).run P w = .ok (.value v) w) ∨ (Region.wanted oi (yielded ops a.tmps) = false ∧ v = undef)) →
      anyS P md ops wr Qf n (listed.setIfInBounds i true) (a.put oi.dst v) w → anyS P md ops wr Qf (n + 1) listed a w := by
  intro n
  induction n with
  | zero =>
    intro listed a w hC hcl hir hq h
    refine ⟨fun h0 => (by rw [h0] at hir; cases hir), fun j hj => ?_⟩
    by_cases e : j = i
    · subst e
      unfold stepS
      rw [hi]
      dsimp only
      rcases hq with ⟨h1, h2⟩ | ⟨h1, rfl⟩
      · rw [if_pos h1]; unfold ok1; rw [h2 w hC]; exact ⟨fun _ => Ext.refl w, h⟩
      · rw [if_neg (by rw [h1]; simp)]; exact h
    · have := ready_set e hj
      rw [h.1] at this; cases this
  | succ m ih =>
    intro listed a w hC hcl hir hq h
    refine ⟨fun h0 => (by rw [h0] at hir; cases hir), fun j hj => ?_⟩
    by_cases e : j = i
    · subst e
      unfold stepS
      rw [hi]
      dsimp only
      rcases hq with ⟨h1, h2⟩ | ⟨h1, rfl⟩
      · rw [if_pos h1]; unfold ok1; rw [h2 w hC]; exact ⟨fun _ => Ext.refl w, h⟩
      · rw [if_neg (by rw [h1]; simp)]; exact h
    · have hj' := ready_set e hj
      have h3 := h.2 j hj'
      obtain ⟨_, oj, hoj, _⟩ := mem_ready.1 hj
      have hs : sepB ops oi oj = true := by
        rcases hsep j oj e hoj with h4 | h4 | h4
        · have := ready_waits hj i h4
          rw [unlisted hir] at this; cases this
        · have := ready_waits hir j h4
          rw [unlisted hj] at this; cases this
        · exact h4
      unfold sepB at hs
      simp only [Bool.and_eq_true] at hs
      have hdd : oi.dst.isNone = true ∨ oi.dst ≠ oj.dst := by
        have := hs.2
        rw [Bool.or_eq_true] at this
        exact this.imp id (by simp)
      have step : ∀ (u : Value) (w'' : World), C w'' → anyS P md ops wr Qf m ((listed.setIfInBounds i true).setIfInBounds j true) ((a.put oi.dst v).put oj.dst u) w'' → anyS P md ops wr Qf (m + 1) (listed.setIfInBounds j true) (a.put oj.dst u) w'' := by
        intro u w'' hC2 h5
        refine ih _ _ _ hC2 (closed_set hcl hj) (ready_set (fun h => e h.symm) hir) ?_ ?_
        · rw [wanted_put hs.1.2, exec_put (hpl i oi hi) hs.1.2]; exact hq
        · rw [Array.setIfInBounds_comm _ _ (fun h => e h.symm), put_comm hdd] at h5
          exact h5
      unfold stepS at h3 ⊢
      rw [hoj] at h3 ⊢
      simp only at h3 ⊢
      rw [wanted_put hs.1.1, ok1_congr (exec_put (hpl j oj hoj) hs.1.1)] at h3
      by_cases hw : Region.wanted oj (yielded ops a.tmps) = true
      · rw [if_pos hw] at h3 ⊢
        refine ok1_mono h3 fun u w'' hv => ⟨hv.1, step u w'' ?_ hv.2⟩
        by_cases hjw : j ∈ wr
        · rcases hwr with h6 | h6
          · exact h6 w''
          · obtain ⟨f, hf | hf⟩ := h6 j hjw e
            · have := befB_spec hcl f j (ready_waits hj) hf
              rw [unlisted hir] at this; cases this
            · have := befB_spec hcl f i (ready_waits hir) hf
              rw [unlisted hj] at this; cases this
        · exact hCx w w'' hC (hv.1 hjw)
      · rw [if_neg hw] at h3 ⊢
        exact step undef w hC h3

/-! ### quiet operations -/
def isQ : Op → Bool
  | .move _ | .assign _ | .pick _ _ _ | .binOp _ _ _ _ _ | .unOp _ _ _ | .convert _ _ _ | .extract _ _ | .field _ _ _ | .fieldAddr _ _ _ | .indexAddr _ _ _ | .index _ _ _ | .load _ _ | .build _ _ | .lookup _ _ _ _ | .slice _ _ _ _ _ | .makeFunc _ _ _ => true
  | .nilCheck _ => true
  | .call c => match c.callee with | .builtin .len => true | .builtin .cap => true | .builtin .min => true | .builtin .max => true | _ => false
  | _ => false
/-- Whatever the world. -/
def isFree : Op → Bool
  | .move _ | .assign _ => true
  | _ => false

theorem noEnter {s : Sem Value} {w w' : World} {f : FuncId} {args : Array Value} : ((do pure (Next.value (← s))) : Sem Next).run P w ≠ .ok (.enter f args) w' := by
  simp only [Sem.run_bind]
  cases s.run P w <;> simp [Result.andThen]

theorem quiet_value {o : Oper} {fr : Fr} {w : World} {v : Value} (hq : isQ o.op = true) (h : Yields P fr o w v) : ∀ w', Ext w w' → (execOp (ev fr) o).run P w' = .ok (.value v) w' := by
  rcases h with h | ⟨f, args, _, h⟩
  · exact h
  · exfalso
    have h0 := h w (Ext.refl w)
    obtain ⟨dst, op, T, pos, after, guard⟩ := o
    cases op <;> simp only [isQ, Bool.false_eq_true] at hq <;> first | exact noEnter h0 | skip
    case move x => simp [execOp] at h0
    case assign x => simp [execOp] at h0
    case pick c a b =>
      simp only [execOp, Sem.run_bind] at h0
      cases hh : (asBool (ev fr c)).run P w with
      | ok b w1 => rw [hh] at h0; simp [Result.andThen] at h0
      | halt x w1 => rw [hh] at h0; simp [Result.andThen] at h0
    case nilCheck x =>
      simp only [execOp] at h0
      split at h0
      · simp [runtimePanic, goPanic] at h0
      · simp [runtimePanic, goPanic] at h0
      · simp [runtimePanic, goPanic] at h0
      · split at h0
        · simp [runtimePanic, goPanic] at h0
        · simp only [Sem.run_bind] at h0
          revert h0
          simp only [run_program, Result.andThen_ok]
          generalize (nilAhead _ _ _ _).run P w = r
          cases r with
          | halt x1 w1 => simp [Result.andThen]
          | ok a w1 =>
            simp only [Result.andThen_ok]
            split <;> simp [unsupported]
        · simp at h0
      · simp at h0
    case call c =>
      cases hc : c.callee with
      | value f => simp [hc] at hq
      | invoke r m => simp [hc] at hq
      | builtin b =>
        rw [hc] at hq
        cases b <;> simp at hq
        all_goals
          simp only [execOp, resolve, hc, pure_bind, invoke] at h0
          exact noEnter h0

theorem quiet_free {o : Oper} {ρ : Operand → Value} {w w' : World} {v : Value} (hf : isFree o.op = true) (h : (execOp ρ o).run P w = .ok (.value v) w) : (execOp ρ o).run P w' = .ok (.value v) w' := by
  obtain ⟨dst, op, T, pos, after, guard⟩ := o
  cases op <;> simp only [isFree, Bool.false_eq_true] at hf
  all_goals
    simp only [execOp, Sem.run_pure, Result.ok.injEq, Next.value.injEq] at h ⊢
    exact ⟨h.1, trivial⟩

/-! ### effects -/
@[irreducible] def VCX (P : Program) (f : FuncId) (args : List Value) (w : World) (K : Value → World → Prop) : Prop :=
  IsFn P f ∧ ∀ w', Ext w w' → Calls P f args.toArray w' fun e w'' => ∃ v, e = .returned v ∧ Ext w' w'' ∧ ∃ wb, Ext wb w'' ∧ K v wb

/-- An effect that leaves all old blocks as they are. -/
def opx (P : Program) (tys : List Ty) (o : Op) (T : TypeId) (fr : Fr) (w : World) (K : Value → World → Prop) : Prop :=
  match o with
  | .box T' x => evK fr x fun v => Bx T' v w K
  | .alloc T' => VX P (Instr.alloc T' true (.tuple #[])) w K
  | .makeSlice T' l c => evK fr l fun l => evK fr c fun c => VX P (Instr.makeSlice T' l c) w K
  | .buildSlice T' n parts => partsK fr parts.toList fun ps => VX P (Instr.buildSlice T' n ps.toArray) w K
  | .makeMap T' r => optK fr r fun r => VX P (Instr.makeMap T' r) w K
  | .call c => match c.callee with
    | .value f => evK fr f fun fv => match fv with
      | .func (.func g) first captured => argsK fr c.args.toList fun vs => appK first.toList vs fun us => appK us captured.toList fun ts => VCX P g ts w K
      | _ => Stuck 42
    | _ => Stuck 41
  | o => opq P tys o T fr w fun v => K v w

theorem ok1_sem {o : Oper} {fr : Fr} {w w' : World} {s : Sem Value} {K : Value → World → Prop} (hw : Ext w w') (he : execOp (ev fr) o = (do pure (.value (← s)))) (h : VX P s w K) :
    ok1 P o (ev fr) w' fun v w'' => Ext w' w'' ∧ ∃ wb, Ext wb w'' ∧ K v wb := by
  simp only [VX] at h
  obtain ⟨v, w'', hr, hx⟩ := h w' hw
  unfold ok1
  rw [he]
  simp only [Sem.run_bind, hr, Result.andThen_ok, Sem.run_pure]
  exact hx

theorem opx_sound {tys : List Ty} (hty : TyOk P tys) (o : Oper) {fr : Fr} {w w' : World} {K : Value → World → Prop} (hw : Ext w w') (h : opx P tys o.op o.type fr w K) :
    ok1 P o (ev fr) w' fun v w'' => Ext w' w'' ∧ ∃ wb, Ext wb w'' ∧ K v wb := by
  obtain ⟨dst, op, T, pos, after, guard⟩ := o
  dsimp only at h
  unfold opx at h
  split at h
  · rename_i T' x
    rw [evK_eq] at h
    simp only [Bx] at h
    unfold ok1
    simp only [execOp, Instr.box, newVar, newRow, Sem.run_bind, run_newObj_alloc, Result.andThen_ok, Sem.run_pure]
    exact ⟨(Ext.refl w').alloc _, _, Ext.refl _, h w' hw⟩
  · exact ok1_sem hw rfl h
  · simp only [evK_eq] at h; exact ok1_sem hw rfl h
  · rename_i T' n parts
    rw [partsK_eq] at h
    have e : parts.map (fun (i, x) => (i, ev fr x)) = (parts.toList.map fun (i, x) => (i, ev fr x)).toArray := by rw [← Array.toList_map]
    refine ok1_sem hw ?_ h
    rw [← e]; rfl
  · rw [optK_eq] at h; exact ok1_sem hw rfl h
  · rename_i c
    split at h
    · rename_i f hcal
      rw [evK_eq] at h
      split at h
      · rename_i g first captured hf
        simp only [argsK_eq, appK_eq, VCX] at h
        obtain ⟨⟨fn, h1, h2, h3⟩, hcall⟩ := h
        have e : execOp (ev fr) ⟨dst, .call c, T, pos, after, guard⟩ = callFunc g (first ++ c.args.map (ev fr) ++ captured) := by
          simp only [execOp, resolve, hcal, hf, Deferred.ofValue, pure_bind, invoke]
        have ea : first ++ c.args.map (ev fr) ++ captured = (first.toList ++ c.args.toList.map (ev fr) ++ captured.toList).toArray := by
          apply Array.toList_inj.1; simp
        unfold ok1
        rw [e, ea]
        simp only [callFunc, Sem.run_bind, run_program, Result.andThen_ok, h1, h2, h3, Bool.false_eq_true, if_false, Sem.run_pure]
        exact hcall w' hw
      · simp [Stuck] at h
    · simp [Stuck] at h
  · obtain ⟨v, hy, hk⟩ := opq_sound hty ⟨dst, _, T, pos, after, guard⟩ h
    rcases hy with hv | ⟨f, args, hp, he⟩
    · unfold ok1
      rw [hv w' hw]
      exact ⟨Ext.refl _, w, hw, hk⟩
    · unfold ok1
      rw [he w' hw]
      simp only [PC] at hp
      exact (hp.2 w' hw).mono fun e w'' ⟨e1, hx⟩ => ⟨v, e1, hx, w, hw.trans hx, hk⟩

theorem op1_ok1 {tys : List Ty} (hty : TyOk P tys) (o : Oper) {fr : Fr} {w w' : World} {K : Value → World → Prop} (hw : Ext w w') (h : op1 P tys o.op o.type fr w K) :
    ok1 P o (ev fr) w' fun u w'' => ∃ v wb, (Act.mk fr.toArray []).put o.dst u = (Act.mk fr.toArray []).put o.dst v ∧ Ext wb w'' ∧ K v wb := by
  have h1 := op1_sound hty o hw h (next := fun a' w'' => a'.defers = [] ∧ ∃ v wb, a' = (Act.mk fr.toArray []).put o.dst v ∧ Ext wb w'' ∧ K v wb) (Q := fun _ _ _ => False)
    (fun v wb w'' hx hK => ⟨by cases o.dst <;> rfl, v, wb, rfl, hx, hK⟩)
  have h2 := ok1_of_wp (fun a' w' h => h.1) h1
  rw [ev_eq] at h2
  exact ok1_mono h2 fun u w'' h => h.2
end
end Go.Eng
set_option linter.unusedVariables false
set_option linter.unusedSimpArgs false
namespace Go.Eng
open Go.RowKit

/-- An order for a region: quiet operations as they come up; where only effects may come up, one branch for each. -/
inductive Plan where
  | nil
  | q (i : Nat) (p : Plan)
  | e (i : Nat) (p r : Plan)

def nthOp (all : List Oper) : Nat → (Oper → Prop) → Prop :=
  @List.rec Oper (fun _ => Nat → (Oper → Prop) → Prop) (fun _ _ => Stuck 50) (fun o _ ih n K => @Nat.casesOn (fun _ => Prop) n (K o) fun m => ih m K) all
noncomputable def memB (l : List Nat) (i : Nat) : Bool := @List.rec Nat (fun _ => Bool) false (fun x _ ih => match Nat.beq x i with | true => true | false => ih) l
def effK (P : Program) (tys : List Ty) (b : Bool) (o : Oper) (fr : Fr) (w : World) (K : Value → World → Prop) : Prop :=
  match b with
  | true => op1 P tys o.op o.type fr w K
  | false => opx P tys o.op o.type fr w K
def andT (r : Plan) (A B : Prop) : Prop := match r with | .nil => A | _ => A ∧ B

def pw (P : Program) (tys : List Ty) (all : List Oper) (wr : List Nat) (p : Plan) : Bool → Fr → World → (Fr → World → Prop) → Prop :=
  @Plan.rec (fun _ => Bool → Fr → World → (Fr → World → Prop) → Prop)
    (fun alt fr w K => match alt with | true => True | false => K fr w)
    (fun i _ ih alt fr w K => match alt with
      | true => Stuck 51
      | false => nthOp all i fun o => grd all fr o.guard (opq P tys o.op o.type fr w fun v => putK fr o.dst v fun fr' => ih false fr' w K) (putK fr o.dst undef fun fr' => ih false fr' w K))
    (fun i _ r ihp ihr _ fr w K => andT r (nthOp all i fun o => grd all fr o.guard (effK P tys (memB wr i) o fr w fun v w' => putK fr o.dst v fun fr' => ihp false fr' w' K) (putK fr o.dst undef fun fr' => ihp false fr' w K)) (ihr true fr w K)) p

def Plan.heads : Plan → List Nat
  | .e i _ r => i :: r.heads
  | _ => []
def Plan.depth : Plan → Nat
  | .nil => 0
  | .q _ p => p.depth + 1
  | .e _ p r => max (p.depth + 1) r.depth

noncomputable def quietB (md : Region.Mode) (ops : Array Oper) (wr : List Nat) (i : Nat) : Bool :=
  match ops[i]? with
  | none => false
  | some o => isQ o.op && !memB wr i && (isFree o.op || wr.all fun j => j == i || befB md ops ops.size i j || befB md ops ops.size j i) &&
    (List.range ops.size).all fun j => j == i || Region.waitsFor md ops j i || Region.waitsFor md ops i j || (match ops[j]? with | some oj => sepB ops o oj | none => true)

noncomputable def chk (md : Region.Mode) (ops : Array Oper) (wr : List Nat) : Plan → Bool → Array Bool → Bool
  | .nil, false, l => (Region.ready md ops l).isEmpty
  | .nil, true, _ => true
  | .q i p, false, l => quietB md ops wr i && (Region.ready md ops l).contains i && chk md ops wr p false (l.setIfInBounds i true)
  | .q _ _, true, _ => false
  | .e i p r, alt, l => chk md ops wr p false (l.setIfInBounds i true) && chk md ops wr r true l && (alt || ((Region.ready md ops l).contains i && (Region.ready md ops l).all fun j => (Plan.e i p r).heads.contains j))

noncomputable def planB (md : Region.Mode) (all : List Oper) (wr : List Nat) (p : Plan) : Bool :=
  (all.all fun o => plainOp o.op) && decide (p.depth ≤ all.length) && chk md all.toArray wr p false (Array.replicate all.length false)

theorem nthOp_spec : ∀ {all : List Oper} {i : Nat} {K : Oper → Prop}, nthOp all i K → ∃ o, all.toArray[i]? = some o ∧ K o
  | [], _, _, h => by have h : Stuck 50 := h; simp [Stuck] at h
  | o :: _, 0, _, h => ⟨o, by simp, h⟩
  | _ :: r, n + 1, K, h => by
    have h : nthOp r n K := h
    obtain ⟨o, h1, h2⟩ := nthOp_spec h
    exact ⟨o, by simpa using h1, h2⟩
theorem memB_spec : ∀ {l : List Nat} {i : Nat}, memB l i = true ↔ i ∈ l
  | [], i => ⟨fun h => (by have h : false = true := h; cases h), fun h => (by cases h)⟩
  | x :: l, i => by
    have e : memB (x :: l) i = match Nat.beq x i with | true => true | false => memB l i := rfl
    rw [e, List.mem_cons]
    cases h : Nat.beq x i with
    | true => have := Nat.eq_of_beq_eq_true h; simp [this]
    | false =>
      have := Nat.ne_of_beq_eq_false h
      simp only [memB_spec (l := l)]
      constructor
      · exact .inr
      · rintro (h | h)
        · exact absurd h.symm this
        · exact h
theorem andT_spec {r : Plan} {A B : Prop} (h : andT r A B) : A ∧ (r = .nil ∨ B) := by
  unfold andT at h
  split at h
  · exact ⟨h, .inl rfl⟩
  · exact ⟨h.1, .inr h.2⟩

section
variable {P : Program} {tys : List Ty} {all : List Oper} {wr : List Nat} {md : Region.Mode}

def Qp (K : Fr → World → Prop) : Act → World → Prop := fun a w' => ∃ fr wb, a = Act.mk fr.toArray [] ∧ Ext wb w' ∧ K fr wb

theorem pw_sound (hty : TyOk P tys) (hpl : ∀ (j : Nat) (o : Oper), all.toArray[j]? = some o → plainOp o.op = true) (K : Fr → World → Prop) : ∀ (p : Plan) (listed : Array Bool) (fr : Fr) (w : World), Closed md all.toArray listed →
    (pw P tys all wr p false fr w K → chk md all.toArray wr p false listed = true → ∀ n, p.depth ≤ n → ∀ w', Ext w w' → anyS P md all.toArray wr (Qp K) n listed (Act.mk fr.toArray []) w') ∧
    (pw P tys all wr p true fr w K → chk md all.toArray wr p true listed = true → ∀ n, p.depth ≤ n + 1 → ∀ w', Ext w w' → ∀ j ∈ p.heads, j ∈ Region.ready md all.toArray listed → stepS P all.toArray wr j (anyS P md all.toArray wr (Qp K) n (listed.setIfInBounds j true)) (Act.mk fr.toArray []) w') := by
  intro p
  induction p with
  | nil =>
    intro listed fr w _
    refine ⟨fun h hc n _ w' hw => ?_, fun _ _ n _ w' _ j hj => by simp [Plan.heads] at hj⟩
    have h0 : Region.ready md all.toArray listed = [] := by simpa [chk] using hc
    have hQ : Qp K (Act.mk fr.toArray []) w' := ⟨fr, w, rfl, hw, h⟩
    cases n with
    | zero => exact ⟨h0, hQ⟩
    | succ n => exact ⟨fun _ => hQ, fun i hi => by rw [h0] at hi; cases hi⟩
  | q i p ih =>
    intro listed fr w hcl
    refine ⟨fun h hc n hn w' hw => ?_, fun _ hc => by simp [chk] at hc⟩
    have h : nthOp all i fun o => grd all fr o.guard (opq P tys o.op o.type fr w fun v => putK fr o.dst v fun fr' => pw P tys all wr p false fr' w K) (putK fr o.dst undef fun fr' => pw P tys all wr p false fr' w K) := h
    obtain ⟨o, ho, h⟩ := nthOp_spec h
    simp only [chk, Bool.and_eq_true] at hc
    obtain ⟨⟨hq, hr⟩, hc⟩ := hc
    have hir : i ∈ Region.ready md all.toArray listed := by simpa using hr
    unfold quietB at hq
    rw [ho] at hq
    simp only [Bool.and_eq_true, Bool.or_eq_true, List.all_eq_true] at hq
    obtain ⟨⟨⟨hQ, hni⟩, hfw⟩, hsep⟩ := hq
    have hni' : i ∉ wr := fun h => by rw [memB_spec.2 h] at hni; simp at hni
    have hsep' : ∀ (j : Nat) (oj : Oper), j ≠ i → all.toArray[j]? = some oj → Region.waitsFor md all.toArray j i = true ∨ Region.waitsFor md all.toArray i j = true ∨ sepB all.toArray o oj = true := fun j oj hj hoj => by
      have hlt : j < all.toArray.size := (Array.getElem?_eq_some_iff.1 hoj).1
      have := hsep j (List.mem_range.2 hlt)
      rw [hoj] at this
      rcases this with ((h1 | h1) | h1) | h1
      · exact absurd (by simpa using h1) hj
      · exact .inl h1
      · exact .inr (.inl h1)
      · exact .inr (.inr h1)
    obtain ⟨m, rfl⟩ : ∃ m, n = m + 1 := ⟨n - 1, by simp only [Plan.depth] at hn; omega⟩
    have hm : p.depth ≤ m := by simp only [Plan.depth] at hn; omega
    have next : ∀ v, pw P tys all wr p false (putF fr o.dst v) w K → anyS P md all.toArray wr (Qp K) m (listed.setIfInBounds i true) ((Act.mk fr.toArray []).put o.dst v) w' := fun v hv => by
      rw [act_put]
      exact (ih _ _ w (closed_set hcl hir)).1 hv hc m hm w' hw
    rcases grd_spec h with ⟨hwt, h⟩ | ⟨hwt, h⟩
    · obtain ⟨v, hy, hk⟩ := opq_sound hty o h
      rw [putK_eq] at hk
      have hval := quiet_value hQ hy
      rcases hfw with hf | hw2
      · refine insert_quiet (C := fun _ => True) ho hpl hsep' (fun _ _ _ _ => trivial) (.inl fun _ => trivial) hni' m listed _ w' trivial hcl hir (.inl ⟨hwt, fun w2 _ => ?_⟩) (next v hk)
        rw [ev_eq]
        exact quiet_free hf (hval w (Ext.refl w))
      · refine insert_quiet (C := fun w2 => Ext w w2) ho hpl hsep' (fun _ _ h1 h2 => h1.trans h2) (.inr fun j hj hji => ?_) hni' m listed _ w' hw hcl hir (.inl ⟨hwt, fun w2 h2 => by rw [ev_eq]; exact hval w2 h2⟩) (next v hk)
        rcases hw2 j hj with (h3 | h3) | h3
        · exact absurd (by simpa using h3) hji
        · exact ⟨_, .inl h3⟩
        · exact ⟨_, .inr h3⟩
    · rw [putK_eq] at h
      exact insert_quiet (C := fun _ => True) (v := undef) ho hpl hsep' (fun _ _ _ _ => trivial) (.inl fun _ => trivial) hni' m listed _ w' trivial hcl hir (.inr ⟨hwt, rfl⟩) (next undef h)
  | e i p r ihp ihr =>
    intro listed fr w hcl
    have step : ∀ alt, pw P tys all wr (.e i p r) alt fr w K → chk md all.toArray wr (.e i p r) alt listed = true → ∀ n, (Plan.e i p r).depth ≤ n + 1 → ∀ w', Ext w w' → ∀ j ∈ (Plan.e i p r).heads, j ∈ Region.ready md all.toArray listed →
        stepS P all.toArray wr j (anyS P md all.toArray wr (Qp K) n (listed.setIfInBounds j true)) (Act.mk fr.toArray []) w' := by
      intro alt h hc n hn w' hw j hj hjr
      have h : andT r (nthOp all i fun o => grd all fr o.guard (effK P tys (memB wr i) o fr w fun v w' => putK fr o.dst v fun fr' => pw P tys all wr p false fr' w' K) (putK fr o.dst undef fun fr' => pw P tys all wr p false fr' w K)) (pw P tys all wr r true fr w K) := h
      obtain ⟨hA, hB⟩ := andT_spec h
      simp only [chk, Bool.and_eq_true] at hc
      obtain ⟨⟨hcp, hcr⟩, _⟩ := hc
      simp only [Plan.depth] at hn
      simp only [Plan.heads, List.mem_cons] at hj
      rcases hj with rfl | hj
      · obtain ⟨o, ho, hA⟩ := nthOp_spec hA
        have next : ∀ v wb w'', Ext wb w'' → pw P tys all wr p false (putF fr o.dst v) wb K → anyS P md all.toArray wr (Qp K) n (listed.setIfInBounds j true) ((Act.mk fr.toArray []).put o.dst v) w'' := fun v wb w'' hx hv => by
          rw [act_put]
          exact (ihp _ _ wb (closed_set hcl hjr)).1 hv hcp n (by omega) w'' hx
        unfold stepS
        rw [ho]
        dsimp only
        rcases grd_spec hA with ⟨hwt, hA⟩ | ⟨hwt, hA⟩
        · rw [if_pos hwt, ev_eq]
          cases hmem : memB wr j with
          | true =>
            rw [hmem] at hA
            refine ok1_mono (op1_ok1 hty o hw hA) fun u w'' ⟨v, wb, he, hx, hK⟩ => ⟨fun hh => absurd (memB_spec.1 hmem) hh, ?_⟩
            rw [putK_eq] at hK
            rw [he]
            exact next v wb w'' hx hK
          | false =>
            rw [hmem] at hA
            refine ok1_mono (opx_sound (tys := tys) hty o hw hA) fun v w'' ⟨hxx, wb, hx, hK⟩ => ⟨fun _ => hxx, ?_⟩
            rw [putK_eq] at hK
            exact next v wb w'' hx hK
        · rw [if_neg (by rw [hwt]; simp)]
          rw [putK_eq] at hA
          exact next undef w w' hw hA
      · rcases hB with rfl | hB
        · simp [Plan.heads] at hj
        · exact (ihr listed fr w hcl).2 hB hcr n (by omega) w' hw j hj hjr
    refine ⟨fun h hc n hn w' hw => ?_, step true⟩
    have hall := hc
    simp only [chk, Bool.and_eq_true, Bool.false_or] at hall
    have hall := hall.2
    obtain ⟨m, rfl⟩ : ∃ m, n = m + 1 := ⟨n - 1, by simp only [Plan.depth] at hn; omega⟩
    refine ⟨fun h0 => ?_, fun j hj => ?_⟩
    · have := hall.1
      rw [h0] at this; simp at this
    · refine step false h hc m hn w' hw j ?_ hj
      have := List.all_eq_true.1 hall.2 j hj
      simpa using this

/-- The slot of a region's first operation. -/
def firstDst (all : List Oper) : Option Tmp := match all with | [] => none | o :: _ => o.dst
theorem Dr.plan (d : Nat) (wr : List Nat) (p : Plan) (hty : TyOk P tys) {fr : Fr} {w : World} {K : Fr → World → Prop} (_hd : firstDst all = some d) (hB : planB .any all wr p = true) (h : pw P tys all wr p false fr w K) : Dr P all fr w K := by
  simp only [Dr]
  intro id Q hk w' hw
  simp only [planB, Bool.and_eq_true, decide_eq_true_eq, List.all_eq_true] at hB
  obtain ⟨⟨hpl, hd⟩, hc⟩ := hB
  refine wp_region_any hty.mixed ?_
  have hcl : Closed .any all.toArray (Array.replicate all.length false) := fun j k hj _ => by rw [getD_replicate_false all.length j] at hj; cases hj
  have := (pw_sound hty (fun j o ho => hpl o (List.mem_of_getElem? (by simpa using ho))) K p _ fr w hcl).1 h hc all.length hd _ (hw.drawn (w'.drawn + 1))
  refine any_of_anyS (Qf := Qp K) ?_ _ _ _ _ (by simpa using this)
  rintro a w2 ⟨fr', wb, rfl, hx, hK⟩
  exact hk fr' wb w2 hx hK

theorem VCX.pure {f : FuncId} {args : List Value} {w : World} {v : Value} {K : Value → World → Prop} (h : PC P f args w v) (hk : K v w) : VCX P f args w K := by
  simp only [PC] at h
  simp only [VCX]
  refine ⟨h.1, fun w' hw => (h.2 w' hw).mono ?_⟩
  rintro e w'' ⟨rfl, hx⟩
  exact ⟨v, rfl, hx, w, hw.trans hx, hk⟩
theorem VCX.rc {f : FuncId} {args : List Value} {w : World} {R : Value → World → Prop} {K : Value → World → Prop} (h : RC P f args w NoB R) (hk : ∀ v w', Ext w w' → R v w' → K v w') : VCX P f args w K := by
  simp only [RC] at h
  simp only [VCX]
  refine ⟨h.1, fun w' hw => (h.2 w' hw).mono ?_⟩
  rintro e w'' ⟨v, rfl, wb, hx, hg, hr⟩
  exact ⟨v, rfl, Gr.trans hg hx, wb, hx, hk v wb (hw.trans hg) hr⟩
end
end Go.Eng
set_option linter.unusedVariables false
set_option linter.unusedSimpArgs false
namespace Go.Eng

abbrev T3 := Int × Int × Int
def flat3 : List T3 → List Value
  | [] => []
  | p :: r => i64v p.1 :: i64v p.2.1 :: i64v p.2.2 :: flat3 r
theorem flat3_len : ∀ l : List T3, (flat3 l).length = l.length * 3
  | [] => rfl
  | _ :: r => by simp [flat3, flat3_len r]; omega
theorem flat3_get : ∀ (l : List T3) (c : Nat), c < l.length → (flat3 l)[c * 3]? = some (i64v (l.getD c (0, 0, 0)).1) ∧ (flat3 l)[c * 3 + 1]? = some (i64v (l.getD c (0, 0, 0)).2.1) ∧ (flat3 l)[c * 3 + 2]? = some (i64v (l.getD c (0, 0, 0)).2.2)
  | [], _, h => absurd h (Nat.not_lt_zero _)
  | p :: r, 0, _ => by simp [flat3]
  | p :: r, c + 1, h => by
    have := flat3_get r c (by simpa using h)
    rw [show (c + 1) * 3 = c * 3 + 1 + 1 + 1 by omega, show c * 3 + 1 + 1 + 1 + 1 = (c * 3 + 1) + 1 + 1 + 1 by omega, show c * 3 + 1 + 1 + 1 + 2 = (c * 3 + 2) + 1 + 1 + 1 by omega]
    simpa [flat3] using this
/-- A slice of records of three ints. -/
def Trs (w : World) (v : Value) (l : List T3) : Prop := Sl 3 w v l.length (flat3 l)
section
variable {w w' : World} {v : Value} {l : List T3} {K : Value → Prop}
theorem Trs.ext (h : Trs w v l) (hg : Ext w w') : Trs w' v l := Sl.ext h hg
theorem Trs.le (h : Trs w v l) : l.length ≤ 9223372036854775807 := Sl.le h
theorem Trs.ln (h : Trs w v l) (hk : K (.int .i64 (l.length : Int))) : Ln v K := Sl.ln h hk
theorem Trs.ix {c : Nat} (h : Trs w v l) (hc : c < l.length) (hk : K (.pointer (some (ea v (c * 3))))) : Ix 3 v (.int .i64 (c : Int)) K := Sl.ix h hc hk
theorem Trs.ldN {c : Nat} (h : Trs w v l) (hc : c < l.length) (hk : K (.agg #[.int .i64 (l.getD c (0, 0, 0)).1, .int .i64 (l.getD c (0, 0, 0)).2.1, .int .i64 (l.getD c (0, 0, 0)).2.2])) : LdN 3 w (ea v (c * 3)) K := by
  obtain ⟨h1, h2, h3⟩ := flat3_get l c hc
  simp only [LdN]
  refine ⟨[i64v (l.getD c (0, 0, 0)).1, i64v (l.getD c (0, 0, 0)).2.1, i64v (l.getD c (0, 0, 0)).2.2], rfl, fun i x hx => ?_, hk⟩
  match i, hx with
  | 0, hx => simp at hx; subst hx; exact Sl.cell h h1
  | 1, hx =>
    simp at hx; subst hx
    rcases ea_block h (c * 3) 1 with e | e
    · rw [e]; exact Sl.cell h h2
    · omega
  | 2, hx =>
    simp at hx; subst hx
    rcases ea_block h (c * 3) 2 with e | e
    · rw [e]; exact Sl.cell h h3
    · omega
theorem Trs.ld0 {c k : Nat} (h : Trs w v l) (hc : c < l.length) (e : k = 0) (hk : K (.int .i64 (l.getD c (0, 0, 0)).1)) : Ld w ((ea v (c * 3)).add k) K := by
  subst e
  rcases ea_block h (c * 3) 0 with e | e
  · rw [e]; simp only [Ld]; exact ⟨_, Sl.cell h (flat3_get l c hc).1, hk⟩
  · omega
theorem Trs.ld1 {c k : Nat} (h : Trs w v l) (hc : c < l.length) (e : k = 1) (hk : K (.int .i64 (l.getD c (0, 0, 0)).2.1)) : Ld w ((ea v (c * 3)).add k) K := by
  subst e
  rcases ea_block h (c * 3) 1 with e | e
  · rw [e]; simp only [Ld]; exact ⟨_, Sl.cell h (flat3_get l c hc).2.1, hk⟩
  · omega
theorem Trs.ld2 {c k : Nat} (h : Trs w v l) (hc : c < l.length) (e : k = 2) (hk : K (.int .i64 (l.getD c (0, 0, 0)).2.2)) : Ld w ((ea v (c * 3)).add k) K := by
  subst e
  rcases ea_block h (c * 3) 2 with e | e
  · rw [e]; simp only [Ld]; exact ⟨_, Sl.cell h (flat3_get l c hc).2.2, hk⟩
  · omega
end

end Go.Eng
set_option linter.unusedVariables false
set_option linter.unusedSimpArgs false
namespace Go.Eng
open Go.RowKit

section
variable {P : Program} {w w' : World} {b : Nat} {T : TypeId} {xs : List Value}

theorem Blk.row {B n s : Nat} {e : TypeId} {v : Value} {ys : List Value} (h : Blk w b T xs) (ho : Own B e s w v n ys) (he : e ≠ T) (hg : Gr (fun k => v.ownBlock = some k) w w') : Blk w' b T xs :=
  h.gr hg fun hb => by
    have hb : v.ownBlock = some b := hb
    rcases ho.2 with ⟨rfl, _⟩ | ⟨g, cap, cur, rfl, _, hgg, _⟩
    · simp [Value.ownBlock] at hb
    · simp [Value.ownBlock] at hb
      subst hb
      unfold Blk at h
      rw [h] at hgg
      simp at hgg
      exact he hgg.2.symm
theorem Blk.two {b' : Nat} {T' : TypeId} {ys : List Value} (h : Blk w b T xs) (_h' : Blk w b' T' ys) (he : b ≠ b') (hg : Gr (fun k => k = b') w w') : Blk w' b T xs := h.gr hg he
theorem Own.row {B n s B' n' s' : Nat} {e e' : TypeId} {v v' : Value} {ys ys' : List Value} (h : Own B e s w v n ys) (h' : Own B' e' s' w v' n' ys') (he : e ≠ e') (hg : Gr (fun k => v'.ownBlock = some k) w w') : Own B e s w' v n ys :=
  Own.gr h hg fun k hk hS => Own.ne h h' he k hk hS

theorem Blk.ldA {k : Nat} {x : Value} {K : Value → Prop} (h : Blk w b T xs) (hx : xs[k]? = some x) (hk : K x) : Ld w ((⟨b, 0, none⟩ : Addr).add k) K := At.ld h.at hx hk
theorem At.sub {p : Addr} (h : At w p xs) (k : Nat) : At w (p.add k) (xs.drop k) := fun i x hx => by
  rw [add_add]
  exact h (k + i) x (by rw [← hx, List.getElem?_drop])
theorem Blk.setA {i : Nat} {x : Value} {K : World → Prop} (h : Blk w b T xs) (hi : i < xs.length) (hx : x.oneCell' = true)
    (hK : ∀ w', Gr (fun j => j = b) w w' → Blk w' b T (xs.set i x) → K w') : St w ((⟨b, 0, none⟩ : Addr).add i) x K := by
  rw [add0]; exact h.set hi hx hK

end
end Go.Eng
set_option linter.unusedVariables false
set_option linter.unusedSimpArgs false
namespace Go.Proofs.Ytpdldifklgpikaa
open Go.Eng

theorem getD_out {α : Type} {l : List α} {i : Nat} {d : α} (h : l.length ≤ i) : l.getD i d = d := by simp [List.getD, List.getElem?_eq_none h]

/-- agent i's value of good j -/
def val (rr : List (List Int)) (i j : Nat) : Int := (rr.getD i []).getD j 0

def bigP (rr : List (List Int)) : Prop := 6 < rr.length ∨ ∃ i, i < rr.length ∧ 10 < (rr.getD i []).length
def badP (rr : List (List Int)) : Prop := rr.length = 0 ∨ ∃ i, i < rr.length ∧ ((rr.getD i []).length ≠ (rr.getD 0 []).length ∨ ∃ j, j < (rr.getD i []).length ∧ (val rr i j < 0 ∨ 1000 < val rr i j))
open Classical in
noncomputable def chk (rr : List (List Int)) : Int := if bigP rr then 4 else if badP rr then 8 else 0

/-- A list made of its elements. -/
def mk {α : Type} (n : Nat) (f : Nat → α) : List α := (List.range n).map f
theorem mk_len {α : Type} (n : Nat) (f : Nat → α) : (mk n f).length = n := by simp [mk]
theorem mk_get {α : Type} {n : Nat} {f : Nat → α} {i : Nat} (d : α) (h : i < n) : (mk n f).getD i d = f i := by simp [mk, List.getD, h]
end Go.Proofs.Ytpdldifklgpikaa
set_option linter.unusedVariables false
set_option linter.unusedSimpArgs false
namespace Go.Proofs.Ytpdldifklgpikaa
open Go.Eng
set_option maxRecDepth 100000

def tys : List Ty := [.no, .one, .i64, .i64, .bo, .one, .one, .st 4 [(0, none), (1, none), (2, none), (3, none)], .st 4 [(0, none), (1, none), (2, none), (3, none)], .one, .one, .one, .one, .st 2 [(0, none), (1, none)], .st 2 [(0, none), (1, none)], .one, .one, .one, .st 1 [(0, none)], .st 1 [(0, none)], .no, .one, .sl 3, .st 2 [(0, none), (1, none)], .st 2 [(0, none), (1, none)], .one, .sl 1, .i64, .no, .one, .no, .one, .sl 1, .no, .one, .no, .one, .one, .one, .one, .one, .no, .one, .no, .one, .one, .one, .one, .one, .no, .one, .no, .one, .one, .one, .st 3 [(0, none), (1, none), (2, none)], .st 3 [(0, none), (1, none), (2, none)], .one, .one, .one, .sl 2, .one, .one, .one, .one, .one, .no, .one, .one, .one, .one, .one, .st 6 [(0, some 2), (2, none), (3, none), (4, none), (5, none)], .st 6 [(0, some 2), (2, none), (3, none), (4, none), (5, none)], .one, .one, .one, .one, .no, .one, .one, .one, .one, .one, .st 4 [(0, none), (1, none), (2, none), (3, none)], .st 4 [(0, none), (1, none), (2, none), (3, none)], .no, .no, .no, .one, .one, .one, .one, .one, .one, .one, .one, .st 11 [(0, none), (1, none), (2, none), (3, none), (4, none), (5, none), (6, none), (7, none), (8, none), (9, none), (10, none)], .st 11 [(0, none), (1, none), (2, none), (3, none), (4, none), (5, none), (6, none), (7, none), (8, none), (9, none), (10, none)], .no]
theorem tyOk : TyOk Try.prog tys := ⟨by kernel_rfl, by kernel_rfl⟩

end Go.Proofs.Ytpdldifklgpikaa
set_option linter.unusedVariables false
set_option linter.unusedSimpArgs false
namespace Go.Proofs.Ytpdldifklgpikaa
open Go.Eng
set_option maxRecDepth 100000

theorem Ints.elem {w : World} {v : Value} {l : List Int} {i : Nat} (h : i < l.length) : (l.map i64v).getD i undef = .int .i64 (l.getD i 0) := by simp [List.getD, h, i64v]

end Go.Proofs.Ytpdldifklgpikaa
set_option linter.unusedVariables false
set_option linter.unusedSimpArgs false
namespace Go.Proofs.Ytpdldifklgpikaa
open Go.Eng
set_option maxRecDepth 100000

theorem eInt : Elem Try.prog 3 (.int .i64 0) 1 8 := by unfold Elem; kernel_rfl
/-- A row of ints, and a matrix, that the call has made. -/
abbrev OI (w : World) (v : Value) (l : List Int) : Prop := Own 0 3 1 w v l.length (l.map i64v)
theorem OI.of {B n : Nat} {w : World} {v : Value} {l : List Int} (h : Own B 3 1 w v n (l.map i64v)) : OI w v l := by
  have e : n = l.length := by have := Own.len h; simpa using this.symm
  subst e; exact Own.base h (Nat.zero_le _)
structure OM (B : Nat) (w : World) (v : Value) (vs : List Value) (rr : List (List Int)) : Prop where
  top : Own B 26 1 w v rr.length vs
  row : ∀ i, i < rr.length → OI w (vs.getD i undef) (rr.getD i [])
theorem OM.ext {B : Nat} {w w' : World} {v : Value} {vs : List Value} {rr : List (List Int)} (h : OM B w v vs rr) (hg : Ext w w') : OM B w' v vs rr := ⟨Own.ext h.top hg, fun i hi => Own.ext (h.row i hi) hg⟩
theorem OM.base {B B' : Nat} {w : World} {v : Value} {vs : List Value} {rr : List (List Int)} (h : OM B w v vs rr) (hB : B' ≤ B) : OM B' w v vs rr := ⟨Own.base h.top hB, h.row⟩
theorem OM.nil {B : Nat} {w : World} : OM B w (.slice none 0 0) [] [] := ⟨Own.nil, fun _ hi => absurd hi (Nat.not_lt_zero _)⟩
theorem OM.push {B B' : Nat} {w w' : World} {v v' x : Value} {vs : List Value} {rr : List (List Int)} {l : List Int} (h : OM B w v vs rr) (hr : OI w x l) (hg : Gr (fun k => v.ownBlock = some k) w w') (ho : Own B' 26 1 w' v' (rr.length + 1) (vs ++ [x])) :
    OM B' w' v' (vs ++ [x]) (rr ++ [l]) := by
  have hl : vs.length = rr.length := by have := h.top.len; omega
  refine ⟨by simpa using ho, fun i hi => ?_⟩
  have keep : ∀ {y : Value} {m : List Int}, OI w y m → OI w' y m := fun {y m} hy => Own.gr hy hg fun k hk hk' => Own.ne hy h.top (by decide) k hk hk'
  by_cases e : i < rr.length
  · have := keep (h.row i e)
    simpa [List.getD, List.getElem?_append_left, hl, e] using this
  · have e2 : i = rr.length := by simp at hi; omega
    subst e2
    have := keep hr
    simpa [List.getD, hl] using this

end Go.Proofs.Ytpdldifklgpikaa
set_option linter.unusedVariables false
set_option linter.unusedSimpArgs false
namespace Go.Proofs.Ytpdldifklgpikaa
open Go.Eng
set_option maxRecDepth 100000

theorem set_map (l : List Int) (k : Nat) (x : Int) : (l.map i64v).set k (.int .i64 x) = (l.set k x).map i64v := by rw [List.map_set]; rfl

end Go.Proofs.Ytpdldifklgpikaa
set_option linter.unusedVariables false
set_option linter.unusedSimpArgs false
namespace Go.Proofs.Ytpdldifklgpikaa
open Go.Eng
abbrev OB (B : Nat) (w : World) (v : Value) (l : List Int) : Prop := Own B 3 1 w v l.length (l.map i64v)
theorem OB.set {B k : Nat} {x : Int} {w : World} {v : Value} {l : List Int} {K : World → Prop} (h : OB B w v l) (hk : k < l.length) (hK : ∀ w', Gr (fun j => v.ownBlock = some j) w w' → OB B w' v (l.set k x) → K w') : St w (ea v k) (.int .i64 x) K :=
  Own.set h (by rw [List.length_map]; exact hk) rfl fun w' hg h' => hK w' hg (by
    rw [set_map] at h'
    show Own B 3 1 w' v (l.set k x).length _
    rw [List.length_set]; exact h')
theorem OB.made {B n : Nat} {w : World} {v : Value} (h : Own B 3 1 w v n (List.replicate n (.int .i64 0))) : OB B w v (List.replicate n 0) := by
  show Own B 3 1 w v (List.replicate n (0 : Int)).length ((List.replicate n (0 : Int)).map i64v)
  rw [List.length_replicate, List.map_replicate]; exact h
end Go.Proofs.Ytpdldifklgpikaa
set_option linter.unusedVariables false
set_option linter.unusedSimpArgs false
namespace Go.Proofs.Ytpdldifklgpikaa
open Go.Eng

/-- the sum of the first n values -/
def sumK (f : Nat → Int) : Nat → Int
  | 0 => 0
  | k + 1 => sumK f k + f k

theorem sumK_congr {f g : Nat → Int} : ∀ {n : Nat}, (∀ k, k < n → f k = g k) → sumK f n = sumK g n
  | 0, _ => rfl
  | n + 1, h => by simp only [sumK]; rw [sumK_congr (fun k hk => h k (by omega)), h n (by omega)]
theorem sumK_add (f g : Nat → Int) : ∀ n, sumK (fun k => f k + g k) n = sumK f n + sumK g n
  | 0 => rfl
  | n + 1 => by simp only [sumK, sumK_add f g n]; omega
theorem sumK_zero : ∀ n, sumK (fun _ => 0) n = 0
  | 0 => rfl
  | n + 1 => by simp only [sumK, sumK_zero n]; rfl
theorem sumK_ind (v x : Int) : ∀ n : Nat, sumK (fun k : Nat => if v = (k : Int) then x else 0) n = if 0 ≤ v ∧ v < n then x else 0
  | 0 => by simp only [sumK]; rw [if_neg (by omega)]
  | n + 1 => by
    simp only [sumK, sumK_ind v x n]
    by_cases h : v = (n : Int)
    · rw [if_pos h, if_neg (by omega), if_pos (by omega)]; omega
    · by_cases h2 : 0 ≤ v ∧ v < n
      · rw [if_neg h, if_pos h2, if_pos (by omega)]; omega
      · rw [if_neg h, if_neg h2, if_neg (by omega)]; omega

end Go.Proofs.Ytpdldifklgpikaa
set_option linter.unusedVariables false
set_option linter.unusedSimpArgs false
namespace Go.Proofs.Ytpdldifklgpikaa
open Go.Eng
set_option maxRecDepth 100000
set_option maxHeartbeats 4000000

theorem VS.conv {src dst : TypeId} {d : TypeDesc} {k q : IntKind} {n : Int} {w : World} {K : Value → Prop} (hs : Try.prog.underlying src = some d) (hd : Try.prog.underlying dst = some (.int k)) (hn : k.wrap n = n) (hk : K (.int k n)) : VS Try.prog (convert src dst (.int q n)) w K :=
  VS.mk (fun w1 _ => by
    simp only [convert, Sem.run_bind, run_underlying hs, run_underlying hd, Result.andThen_ok]
    show Result.ok (Value.int k (k.wrap n)) w1 = _
    rw [hn]) hk

theorem VS.gtr {T : TypeId} {x y : Operand} {k : IntKind} {a b : Int} {w : World} {K : Value → Prop} (h : Split (b < a) (K (.bool true)) (K (.bool false))) : VS Try.prog (binSem .gtr T x y (.int k a) (.int k b)) w K := by
  simp only [Split] at h
  have hg : eqGuard .gtr T x y (.int k a) (.int k b) = pure () := rfl
  have hb : binSem .gtr T x y (.int k a) (.int k b) = binOp .gtr T (.int k a) (.int k b) := by unfold binSem; rw [hg]; rfl
  by_cases hab : b < a
  · exact VS.mk (v := .bool true) (fun w1 _ => by rw [hb]; simp [binOp, Op.intCmp, hab]) (h.1 hab)
  · exact VS.mk (v := .bool false) (fun w1 _ => by rw [hb]; simp [binOp, Op.intCmp, hab]) (h.2 hab)

end Go.Proofs.Ytpdldifklgpikaa
set_option linter.unusedVariables false
set_option linter.unusedSimpArgs false
namespace Go.Proofs.Ytpdldifklgpikaa
open Go.Eng
set_option maxRecDepth 100000

theorem own : ownKnob Try.prog.godebug = none := by kernel_rfl
theorem laidOut : laidOutB Try.prog = true := by kernel_rfl
end Go.Proofs.Ytpdldifklgpikaa
set_option linter.unusedVariables false
set_option linter.unusedSimpArgs false
namespace Go.Eng
theorem Gr.ext {a b c : World} (h : Ext a b) (k : Ext b c) : Ext a c := Gr.trans h k
theorem all_succ {p : Nat → Prop} {c : Nat} (h : ∀ i, i < c → p i) (h1 : p c) : ∀ i, i < c + 1 → p i := fun i hi => by
  by_cases e : i = c
  · subst e; exact h1
  · exact h i (by omega)
end Go.Eng
namespace Go.Proofs.Ytpdldifklgpikaa
open Go.Eng
end Go.Proofs.Ytpdldifklgpikaa
set_option linter.unusedVariables false
set_option linter.unusedSimpArgs false
namespace Go.Eng
open Go.RowKit Go.ChangeShapes Go.WideShapes Go.ChangeAt Go.Deep

section
variable {H : Type} {enc : TypeId × Value → H} {P : Program} {w : World} {base b0 : Nat} {spare : Nat → Bool} {held : Bool} {r : Reach} {v : Value} {d : DataW H} {ps : List MemPlace}

theorem read_three {t : TypeId} {f0 f1 f2 : Field} {fuel : Nat} {cs : List Value} {x : DataW H × List MemPlace} (ht : P.underlying t = some (.struct #[f0, f1, f2])) (ho : f0.offset = 0 ∧ f1.offset = 1 ∧ f2.offset = 2) (hc : P.cellsOf t = 3)
    (hs : P.cellsOf f0.type = 1 ∧ P.cellsOf f1.type = 1 ∧ P.cellsOf f2.type = 1) (h0 : P.underlying f0.type = some (.int .i64)) (h1 : P.underlying f1.type = some (.int .i64)) (h2 : P.underlying f2.type = some (.int .i64))
    (h : DataW.trod enc P w base spare held fuel t cs = some x) : ∃ a b c, cs = [.int .i64 a, .int .i64 b, .int .i64 c] ∧ I64 a ∧ I64 b ∧ I64 c := by
  obtain ⟨y0, y1, y2, n, _, hl, e0, e1, e2⟩ := trod_struct3 ht h
  rw [ho.1, hs.1] at e0
  rw [ho.2.1, hs.2.1] at e1
  rw [ho.2.2, hs.2.2] at e2
  obtain ⟨a, ha, ra⟩ := read_i64 h0 e0
  obtain ⟨b, hb, rb⟩ := read_i64 h1 e1
  obtain ⟨c, hc', rc⟩ := read_i64 h2 e2
  refine ⟨a, b, c, ?_, ra, rb, rc⟩
  rw [hc] at hl
  match cs, hl with
  | [x, y, z], _ =>
    simp at ha hb hc'
    rw [ha, hb, hc']

end
end Go.Eng
set_option linter.unusedVariables false
set_option linter.unusedSimpArgs false
namespace Go.Eng
open Go.RowKit Go.ChangeShapes Go.WideShapes Go.ChangeAt Go.Deep

def bv (b : Bool) : Value := .bool b
/-- a slice of truth values -/
def Bls (w : World) (v : Value) (l : List Bool) : Prop := Sl 1 w v l.length (l.map bv)
section
variable {w w' : World} {v : Value} {l : List Bool} {K : Value → Prop}
theorem Bls.ext (h : Bls w v l) (hg : Ext w w') : Bls w' v l := Sl.ext h hg
theorem Bls.le (h : Bls w v l) : l.length ≤ 9223372036854775807 := Sl.le h
theorem Bls.ln (h : Bls w v l) (hk : K (.int .i64 (l.length : Int))) : Ln v K := Sl.ln h hk
theorem Bls.ix {c : Nat} (h : Bls w v l) (hc : c < l.length) (hk : K (.pointer (some (ea v c)))) : Ix 1 v (.int .i64 (c : Int)) K :=
  Sl.ix h hc (by rw [Nat.mul_one]; exact hk)
theorem Bls.ixI {j : Int} (h : Bls w v l) (hc : 0 ≤ j ∧ j < l.length) (hk : K (.pointer (some (ea v j.toNat)))) : Ix 1 v (.int .i64 j) K :=
  Sl.ixI h hc (by rw [Nat.mul_one]; exact hk)
theorem Bls.ld {c : Nat} (h : Bls w v l) (hc : c < l.length) (hk : K (.bool (l.getD c false))) : Ld w (ea v c) K :=
  Sl.ld h (x := .bool (l.getD c false)) (by simp [hc, bv]) hk
theorem Bls.ldv {c : Nat} {b : Bool} (h : Bls w v l) (hv : l.getD c false = b) (hc : c < l.length) (hk : K (.bool b)) : Ld w (ea v c) K :=
  Bls.ld h hc (by rw [hv]; exact hk)
end
theorem T3.ixI {w : World} {v : Value} {l : List T3} {K : Value → Prop} {j : Int} (h : Trs w v l) (hc : 0 ≤ j ∧ j < l.length) (hk : K (.pointer (some (ea v (j.toNat * 3))))) : Ix 3 v (.int .i64 j) K := Sl.ixI h hc hk

section
variable {H : Type} {enc : TypeId × Value → H} {P : Program} {w : World} {base b0 : Nat} {spare : Nat → Bool} {held : Bool} {r : Reach} {v : Value} {d : DataW H} {ps : List MemPlace}

theorem read_trs {t e fuel : Nat} {f0 f1 f2 : Field} {cs : List Value} {x : DataW H × List MemPlace} (ht : P.underlying t = some (.slice e)) (he : P.underlying e = some (.struct #[f0, f1, f2])) (ho : f0.offset = 0 ∧ f1.offset = 1 ∧ f2.offset = 2) (hc : P.cellsOf e = 3)
    (hs : P.cellsOf f0.type = 1 ∧ P.cellsOf f1.type = 1 ∧ P.cellsOf f2.type = 1) (h0 : P.underlying f0.type = some (.int .i64)) (h1 : P.underlying f1.type = some (.int .i64)) (h2 : P.underlying f2.type = some (.int .i64))
    (h : DataW.trod enc P w base spare held fuel t cs = some x) : ∃ v l, cs = [v] ∧ Trs w v l ∧ ∀ i, I64 (l.getD i (0, 0, 0)).1 ∧ I64 (l.getD i (0, 0, 0)).2.1 ∧ I64 (l.getD i (0, 0, 0)).2.2 := by
  obtain ⟨v, n, xs, rfl, hsl, hel⟩ := read_sl ht hc h
  have each : ∀ i, i < n → ∃ z : T3, ((xs.drop (i * 3)).take 3 = [.int .i64 z.1, .int .i64 z.2.1, .int .i64 z.2.2]) ∧ I64 z.1 ∧ I64 z.2.1 ∧ I64 z.2.2 := fun i hi => by
    obtain ⟨fuel', y, hy⟩ := hel i hi
    obtain ⟨a, b, c, e, ra, rb, rc⟩ := read_three he ho hc hs h0 h1 h2 hy
    exact ⟨(a, b, c), e, ra, rb, rc⟩
  obtain ⟨l, hl, hp⟩ := choose_list each
  have hxl : xs.length = n * 3 := by obtain ⟨_, _, _, _, _, h3, _⟩ := id hsl; omega
  have hd : (default : T3) = (0, 0, 0) := rfl
  have exs : xs = flat3 l := by
    apply List.ext_getElem?
    intro k
    by_cases hk : k < n * 3
    · have hi : k / 3 < n := by omega
      have e := (hp (k / 3) hi).1
      rw [hd] at e
      have e5 : k / 3 * 3 + k % 3 = k := by omega
      have e2 := congrArg (fun l => l[k % 3]?) e
      have h3 : k % 3 < 3 := by omega
      simp only [List.getElem?_take, if_pos h3, List.getElem?_drop, e5] at e2
      rw [e2]
      obtain ⟨g0, g1, g2⟩ := flat3_get l (k / 3) (by omega)
      rcases (by omega : k % 3 = 0 ∨ k % 3 = 1 ∨ k % 3 = 2) with h | h | h
      · rw [h] at e5 ⊢; rw [show (flat3 l)[k]? = (flat3 l)[k / 3 * 3]? by rw [show k / 3 * 3 = k by omega], g0]; rfl
      · rw [h] at e5 ⊢; rw [show (flat3 l)[k]? = (flat3 l)[k / 3 * 3 + 1]? by rw [e5], g1]; rfl
      · rw [h] at e5 ⊢; rw [show (flat3 l)[k]? = (flat3 l)[k / 3 * 3 + 2]? by rw [e5], g2]; rfl
    · rw [List.getElem?_eq_none (by omega), List.getElem?_eq_none (by rw [flat3_len]; omega)]
  refine ⟨v, l, rfl, ?_, fun i => ?_⟩
  · unfold Trs; rw [hl, ← exs]; exact hsl
  · by_cases hi : i < n
    · exact (hp i hi).2
    · simp [List.getD, List.getElem?_eq_none (show l.length ≤ i by omega), I64]

/-- A struct of an int and a slice of structs of three ints. -/
theorem open_N {t s e : TypeId} {f0 f1 g0 g1 g2 : Field} (ht : P.underlying t = some (.struct #[f0, f1])) (ho : f0.offset = 0 ∧ f1.offset = 1) (hc : P.cellsOf t = 2) (hcf : P.cellsOf f0.type = 1 ∧ P.cellsOf f1.type = 1)
    (h0 : P.underlying f0.type = some (.int .i64)) (h1 : P.underlying f1.type = some (.slice e)) (he : P.underlying e = some (.struct #[g0, g1, g2])) (hg : g0.offset = 0 ∧ g1.offset = 1 ∧ g2.offset = 2) (hce : P.cellsOf e = 3)
    (hs : P.cellsOf g0.type = 1 ∧ P.cellsOf g1.type = 1 ∧ P.cellsOf g2.type = 1) (k0 : P.underlying g0.type = some (.int .i64)) (k1 : P.underlying g1.type = some (.int .i64)) (k2 : P.underlying g2.type = some (.int .i64))
    (hv : Value.okWide P w r b0 t v) (hd : DataW.Trod enc P w base spare held t v d ps) : ∃ n sv l, v = .agg #[.int .i64 n, sv] ∧ I64 n ∧ Trs w sv l ∧ ∀ i, I64 (l.getD i (0, 0, 0)).1 ∧ I64 (l.getD i (0, 0, 0)).2.1 ∧ I64 (l.getD i (0, 0, 0)).2.2 := by
  obtain ⟨cs, rfl, hcs⟩ := okWide_struct ht hv
  obtain ⟨fuel, h⟩ := hd
  obtain ⟨y0, y1, n, _, hl, e0, e1⟩ := trod_struct2 ht h
  rw [ho.1, hcf.1] at e0
  rw [ho.2, hcf.2] at e1
  obtain ⟨n, hn, rn⟩ := read_i64 h0 e0
  obtain ⟨sv, l, hsv, hT, rT⟩ := read_trs h1 he hg hce hs k0 k1 k2 e1
  have hsz : cs.size = 2 := by omega
  have : cs = #[.int .i64 n, sv] := by
    apply Array.toList_inj.1
    simp only [Value.cells] at hn hsv
    have hl2 : cs.toList.length = 2 := by simpa using hsz
    match hcl : cs.toList, hl2 with
    | [a, b], _ =>
      rw [hcl] at hn hsv
      simp at hn hsv
      simp [hn, hsv]
  subst this
  exact ⟨n, sv, l, rfl, rn, hT, rT⟩
end
end Go.Eng
set_option linter.unusedVariables false
set_option linter.unusedSimpArgs false
namespace Go.Proofs.Ytpdldifklgpikaa
open Go.Eng
set_option maxRecDepth 100000
set_option maxHeartbeats 4000000

def frm (A : List T3) (i : Nat) : Int := (A.getD i (0, 0, 0)).1
def too (A : List T3) (i : Nat) : Int := (A.getD i (0, 0, 0)).2.1
def cpy (A : List T3) (i : Nat) : Int := (A.getD i (0, 0, 0)).2.2
def badX (n : Int) (x : T3) : Prop := x.1 < 0 ∨ n ≤ x.1 ∨ x.2.1 < 0 ∨ n ≤ x.2.1 ∨ x.1 = x.2.1 ∨ x.2.2 < 0 ∨ 1000000 < x.2.2
open Classical in noncomputable def netE (n : Int) (A : List T3) : Int := if 40 < n ∨ 200 < A.length then 4 else if n < 2 ∨ ∃ i, i < A.length ∧ badX n (A.getD i (0, 0, 0)) then 8 else 0
structure NetOk (N : Nat) (A : List T3) : Prop where
  n2 : 2 ≤ N
  n40 : N ≤ 40
  a200 : A.length ≤ 200
  arc : ∀ i, i < A.length → (0 ≤ frm A i ∧ frm A i < N) ∧ (0 ≤ too A i ∧ too A i < N) ∧ frm A i ≠ too A i ∧ 0 ≤ cpy A i ∧ cpy A i ≤ 1000000
theorem netE_many {n : Int} {A : List T3} (h : 40 < n ∨ 200 < A.length) : netE n A = 4 := by unfold netE; rw [if_pos h]
theorem netE_bad {n : Int} {A : List T3} (h : ¬ (40 < n ∨ 200 < A.length)) (h2 : n < 2 ∨ ∃ i, i < A.length ∧ badX n (A.getD i (0, 0, 0))) : netE n A = 8 := by unfold netE; rw [if_neg h, if_pos h2]
theorem netE_ok {n : Int} {A : List T3} (h : ¬ (40 < n ∨ 200 < A.length)) (h2 : ¬ (n < 2 ∨ ∃ i, i < A.length ∧ badX n (A.getD i (0, 0, 0)))) : netE n A = 0 := by unfold netE; rw [if_neg h, if_neg h2]
theorem netOk {n : Int} {A : List T3} (h : netE n A = 0) : ∃ N : Nat, n = (N : Int) ∧ NetOk N A := by
  unfold netE at h
  split at h
  · omega
  · rename_i h1
    split at h
    · omega
    · rename_i h2
      refine ⟨n.toNat, by omega, by omega, by omega, by omega, fun i hi => ?_⟩
      have h3 : ¬ badX n (A.getD i (0, 0, 0)) := fun h => h2 (.inr ⟨i, hi, h⟩)
      unfold badX at h3
      unfold frm too cpy
      omega

/-- what comes into node v by the first c arcs, less what goes out -/
def bal (A : List T3) (f : List Int) (v : Int) : Nat → Int
  | 0 => 0
  | c + 1 => bal A f v c + (if too A c = v then f.getD c 0 else 0) - (if frm A c = v then f.getD c 0 else 0)
def isF (A : List T3) (f : List Int) : Prop := f.length = A.length ∧ ∀ i, i < f.length → 0 ≤ f.getD i 0 ∧ f.getD i 0 ≤ cpy A i
theorem bal_bd {A : List T3} {f : List Int} {v : Int} : ∀ {c : Nat}, (∀ i, i < c → 0 ≤ f.getD i 0 ∧ f.getD i 0 ≤ 1000000) → -(1000000 * (c : Int)) ≤ bal A f v c ∧ bal A f v c ≤ 1000000 * c
  | 0, _ => by simp [bal]
  | c + 1, h => by
    have := bal_bd (A := A) (v := v) (c := c) (fun i hi => h i (by omega))
    have := h c (by omega)
    simp only [bal]
    split <;> split <;> omega
theorem set_getD' {l : List Int} {i j : Nat} {x : Int} (hi : i < l.length) : (l.set i x).getD j 0 = if i = j then x else l.getD j 0 := by
  simp only [List.getD]
  rw [List.getElem?_set]
  by_cases e : i = j
  · subst e; rw [if_pos rfl, if_pos rfl, if_pos hi]; rfl
  · rw [if_neg e, if_neg e]
def midZ (N : Nat) (A : List T3) (f : List Int) : Prop := ∀ v : Nat, 1 ≤ v → v + 1 < N → bal A f v A.length = 0
def isW (N : Nat) (A : List T3) (f : List Int) : Prop := isF A f ∧ midZ N A f
/-! ### what is reached -/
def Edg (A : List T3) (f : List Int) (u v : Int) (i : Nat) : Prop := (frm A i = u ∧ too A i = v ∧ f.getD i 0 < cpy A i) ∨ (too A i = u ∧ frm A i = v ∧ 0 < f.getD i 0)
inductive Rch (A : List T3) (f : List Int) : Int → Prop
  | z : Rch A f 0
  | s {u v : Int} {i : Nat} : Rch A f u → i < A.length → Edg A f u v i → Rch A f v
open Classical in noncomputable def rchL (N : Nat) (A : List T3) (f : List Int) : List Bool := mk N fun v : Nat => tf (Rch A f v)
theorem rchL_len (N : Nat) (A : List T3) (f : List Int) : (rchL N A f).length = N := mk_len _ _

def cntF : List Bool → Nat
  | [] => 0
  | b :: l => cntF l + if b then 0 else 1
theorem cntF_set : ∀ {l : List Bool} {t : Nat}, t < l.length → l.getD t false = false → cntF (l.set t true) + 1 = cntF l
  | [], t, h, _ => by simp at h
  | b :: l, 0, _, h => by
    have : b = false := h
    subst this
    simp [cntF]
  | b :: l, t + 1, h, h2 => by
    have := cntF_set (l := l) (t := t) (by simpa using h) (by simpa using h2)
    simp only [List.set_cons_succ, cntF]; omega
theorem cntF_le : ∀ (l : List Bool), cntF l ≤ l.length
  | [] => Nat.le_refl _
  | b :: l => by
    have := cntF_le l
    simp only [cntF, List.length_cons]; split <;> omega
theorem setB_getD {l : List Bool} {i j : Nat} {x : Bool} (hi : i < l.length) : (l.set i x).getD j false = if i = j then x else l.getD j false := by
  simp only [List.getD]
  rw [List.getElem?_set]
  by_cases e : i = j
  · subst e; rw [if_pos rfl, if_pos rfl, if_pos hi]; rfl
  · rw [if_neg e, if_neg e]

structure RM (N : Nat) (A : List T3) (f : List Int) (M : List Bool) : Prop where
  len : M.length = N
  rch : ∀ u : Nat, M.getD u false = true → Rch A f u
  zero : M.getD 0 false = true
theorem RM.set {N : Nat} {A : List T3} {f : List Int} {M : List Bool} {t : Nat} (h : RM N A f M) (ht : t < N) (hr : Rch A f t) : RM N A f (M.set t true) :=
  ⟨by rw [List.length_set]; exact h.len, fun u hu => by
    rw [setB_getD (by rw [h.len]; exact ht)] at hu
    by_cases e : t = u
    · subst e; exact hr
    · rw [if_neg e] at hu; exact h.rch u hu, by
    rw [setB_getD (by rw [h.len]; exact ht)]
    split
    · rfl
    · exact h.zero⟩
theorem RM.done {N : Nat} {A : List T3} {f : List Int} {M : List Bool} (h : RM N A f M) (hk : NetOk N A) (hc : ∀ i, i < A.length → ∀ u v : Int, M.getD u.toNat false = true → Edg A f u v i → M.getD v.toNat false = true) : M = rchL N A f := by
  have all : ∀ v, Rch A f v → M.getD v.toNat false = true := by
    intro v hv
    induction hv with
    | z => exact h.zero
    | s _ hi he ih => exact hc _ hi _ _ ih he
  apply List.ext_getElem?
  intro i
  by_cases hi : i < N
  · have e1 : (rchL N A f).getD i false = tf (Rch A f (i : Int)) := mk_get false hi
    have e2 : M.getD i false = (rchL N A f).getD i false := by
      rw [e1]
      by_cases hm : M.getD i false = true
      · rw [hm, tf_t (h.rch i hm)]
      · rw [tf_f (fun hr => hm (by have := all _ hr; simpa using this))]; simpa using hm
    simp only [List.getD] at e2
    rw [List.getElem?_eq_getElem (by rw [h.len]; exact hi), List.getElem?_eq_getElem (by rw [rchL_len]; exact hi)] at e2 ⊢
    simpa using e2
  · rw [List.getElem?_eq_none (by rw [h.len]; omega), List.getElem?_eq_none (by rw [rchL_len]; omega)]

/-- the search with a stack; X: the node that is looked at -/
structure RI (N : Nat) (A : List T3) (f : List Int) (M : List Bool) (st : List Int) (X : Int → Prop) : Prop where
  rm : RM N A f M
  stk : ∀ u ∈ st, 0 ≤ u ∧ u < N ∧ M.getD u.toNat false = true
  cls : ∀ u : Int, 0 ≤ u → u < N → M.getD u.toNat false = true → u ∉ st → ¬ X u → ∀ i, i < A.length → ∀ t, Edg A f u t i → M.getD t.toNat false = true
theorem RI.push {N : Nat} {A : List T3} {f : List Int} {M : List Bool} {st : List Int} {X : Int → Prop} {t : Int} (h : RI N A f M st X) (h0 : 0 ≤ t) (ht : t < N) (hr : Rch A f t) : RI N A f (M.set t.toNat true) (st ++ [t]) X := by
  have hl : t.toNat < M.length := by rw [h.rm.len]; omega
  have mono : ∀ j, M.getD j false = true → (M.set t.toNat true).getD j false = true := fun j hj => by
    rw [setB_getD hl]; split
    · rfl
    · exact hj
  refine ⟨h.rm.set (by omega) (by rw [show ((t.toNat : Nat) : Int) = t by omega]; exact hr), fun u hu => ?_, fun u h1 h2 h3 h4 h5 i hi q hq => ?_⟩
  · rcases List.mem_append.1 hu with hu | hu
    · have := h.stk u hu; exact ⟨this.1, this.2.1, mono _ this.2.2⟩
    · rw [List.mem_singleton] at hu; subst hu
      exact ⟨h0, ht, by rw [setB_getD hl, if_pos rfl]⟩
  · rw [setB_getD hl] at h3
    have hne : t ≠ u := fun e => h4 (by subst e; simp)
    rw [if_neg (by omega)] at h3
    exact mono _ (h.cls u h1 h2 h3 (fun hm => h4 (List.mem_append_left _ hm)) h5 i hi q hq)
theorem RI.pop {N : Nat} {A : List T3} {f : List Int} {M : List Bool} {st : List Int} {v : Int} (h : RI N A f M (st ++ [v]) fun _ => False) : RI N A f M st fun u => u = v :=
  ⟨h.rm, fun u hu => h.stk u (List.mem_append_left _ hu), fun u h1 h2 h3 h4 h5 => h.cls u h1 h2 h3 (fun hm => by
    rcases List.mem_append.1 hm with hm | hm
    · exact h4 hm
    · exact h5 (by simpa using hm)) (fun h => h)⟩
theorem RI.shut {N : Nat} {A : List T3} {f : List Int} {M : List Bool} {st : List Int} {v : Int} (h : RI N A f M st fun u => u = v) (hv : ∀ i, i < A.length → ∀ t, Edg A f v t i → M.getD t.toNat false = true) : RI N A f M st fun _ => False :=
  ⟨h.rm, h.stk, fun u h1 h2 h3 h4 _ => by
    by_cases e : u = v
    · subst e; exact hv
    · exact h.cls u h1 h2 h3 h4 e⟩
theorem edg_rng {N : Nat} {A : List T3} {f : List Int} {u v : Int} {i : Nat} (hk : NetOk N A) (hi : i < A.length) (h : Edg A f u v i) : (0 ≤ u ∧ u < N) ∧ 0 ≤ v ∧ v < N := by
  have := hk.arc i hi
  unfold Edg at h
  omega
theorem RI.done {N : Nat} {A : List T3} {f : List Int} {M : List Bool} (h : RI N A f M [] fun _ => False) (hk : NetOk N A) : M = rchL N A f :=
  h.rm.done hk fun i hi u v hu he => h.cls u (edg_rng hk hi he).1.1 (edg_rng hk hi he).1.2 hu (by simp) (fun h => h) i hi v he
theorem RI.start {N : Nat} {A : List T3} {f : List Int} (hk : NetOk N A) : RI N A f ((List.replicate N false).set 0 true) [0] (fun _ => False) ∧ cntF ((List.replicate N false).set 0 true) + 1 = N := by
  have h2 := hk.n2
  have hg : ∀ j, ((List.replicate N false).set 0 true).getD j false = if 0 = j then true else false := fun j => by
    rw [setB_getD (by simp; omega)]
    split
    · rfl
    · simp only [List.getD]; rw [List.getElem?_replicate]; split <;> rfl
  refine ⟨⟨⟨by simp, fun u hu => ?_, by rw [hg]; rfl⟩, fun u hu => ?_, fun u h1 h2 h3 h4 _ => ?_⟩, ?_⟩
  · rw [hg] at hu
    by_cases e : 0 = u
    · subst e; exact Rch.z
    · rw [if_neg e] at hu; cases hu
  · rw [List.mem_singleton] at hu; subst hu
    exact ⟨by omega, by omega, by rw [hg]; rfl⟩
  · rw [hg] at h3
    by_cases e : 0 = u.toNat
    · exact absurd (by rw [List.mem_singleton]; omega) h4
    · rw [if_neg e] at h3; cases h3
  · have e : cntF (List.replicate N false) = N := by
      have : ∀ n, cntF (List.replicate n false) = n := fun n => by
        induction n with
        | zero => rfl
        | succ n ih => rw [List.replicate_succ]; simp only [cntF, ih]; rfl
      exact this N
    have := cntF_set (l := List.replicate N false) (t := 0) (by simp; omega) (by simp only [List.getD]; rw [List.getElem?_replicate]; split <;> rfl)
    omega
/-! ### cuts of slices with a bound by a sum -/
theorem VS.cutHI {P : Program} {w : World} {v : Value} {t e : TypeId} {s n : Nat} {xs : List Value} {h : Nat} {j : Int} {K : Value → Prop} (hj : j = (h : Int)) (ht : P.underlying t = some (.slice e)) (hs : P.cellsOf e = s) (hs0 : s ≠ 0) (H : Sl s w v n xs) (hh : h ≤ n) (hk : K (view v s 0 h)) : VS P (Instr.sliceAt t v none (some (.int .i64 j)) none) w K := by
  subst hj; exact VS.cutH ht hs hs0 H hh hk
end Go.Proofs.Ytpdldifklgpikaa
