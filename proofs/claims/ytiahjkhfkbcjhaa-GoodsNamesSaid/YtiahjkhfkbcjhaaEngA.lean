/- The engine, part A: worlds ordered by extension, the tags, the region function and its soundness. It holds of every program. -/
import Derived.WalkKit
import Derived.Deep.Quiet
import Derived.StillTail
set_option linter.unusedVariables false
set_option linter.unusedSimpArgs false
namespace Go.Eng
open Go.RowKit

/-- The world has grown; of the old blocks only those in S may have turned. -/
structure Gr (S : Nat → Prop) (w w' : World) : Prop where
  os : w'.os = w.os
  tape : w'.tape = w.tape
  output : w'.output = w.output
  size : w.heap.size ≤ w'.heap.size
  block : ∀ k, k < w.heap.size → ¬ S k → w'.heap[k]? = w.heap[k]?

def NoB : Nat → Prop := fun _ => False
abbrev Ext (w w' : World) : Prop := Gr NoB w w'

theorem Gr.refl (S : Nat → Prop) (w : World) : Gr S w w := ⟨rfl, rfl, rfl, Nat.le_refl _, fun _ _ _ => rfl⟩
theorem Ext.refl (w : World) : Ext w w := Gr.refl _ w
theorem Gr.trans {S : Nat → Prop} {a b c : World} (h : Gr S a b) (k : Gr S b c) : Gr S a c :=
  ⟨k.os.trans h.os, k.tape.trans h.tape, k.output.trans h.output, Nat.le_trans h.size k.size, fun i hi hs => (k.block i (Nat.lt_of_lt_of_le hi h.size) hs).trans (h.block i hi hs)⟩
theorem Gr.mono {S S' : Nat → Prop} {a b : World} (h : Gr S a b) (hs : ∀ k, k < a.heap.size → S k → S' k) : Gr S' a b :=
  ⟨h.os, h.tape, h.output, h.size, fun k hk hn => h.block k hk fun hS => hn (hs k hk hS)⟩
theorem Gr.ofExt {S : Nat → Prop} {a b : World} (h : Ext a b) : Gr S a b := h.mono fun _ _ hf => hf.elim
/-- Blocks that were not there at first may turn freely. -/
theorem Gr.new {S S' : Nat → Prop} {a b c : World} (h : Gr S a b) (k : Gr S' b c) (hs : ∀ i, i < a.heap.size → S' i → S i) : Gr S a c :=
  ⟨k.os.trans h.os, k.tape.trans h.tape, k.output.trans h.output, Nat.le_trans h.size k.size, fun i hi hn => (k.block i (Nat.lt_of_lt_of_le hi h.size) (fun hS => hn (hs i hi hS))).trans (h.block i hi hn)⟩
theorem Gr.drawn {S : Nat → Prop} {a b : World} (h : Gr S a b) (n : Nat) : Gr S a { b with drawn := n } := ⟨h.os, h.tape, h.output, h.size, h.block⟩
theorem Gr.alloc {S : Nat → Prop} {a b : World} (h : Gr S a b) (o : Obj) : Gr S a (b.alloc o) :=
  h.trans ⟨rfl, rfl, rfl, by simp, fun k hk _ => Below.heap_alloc b o k hk⟩
theorem Gr.setCell {S : Nat → Prop} {a b : World} (h : Gr S a b) {p : Addr} (hp : S p.block) (v : Value) : Gr S a (b.setCell p v) :=
  h.trans ⟨rfl, rfl, rfl, by simp [World.setCell], fun k _ hn => Below.heap_setCell _ _ _ _ (fun e => hn (e ▸ hp))⟩
theorem Gr.setNew {S : Nat → Prop} {a b : World} (h : Gr S a b) {p : Addr} (hp : a.heap.size ≤ p.block) (v : Value) : Gr S a (b.setCell p v) :=
  h.new (S' := fun k => k = p.block) (Gr.setCell (S := fun k => k = p.block) (Gr.refl _ b) rfl v) (fun i hi e => by omega)
theorem Gr.ofGrown {a b : World} {row : Option Nat} (h : a.grownBy b row) : Gr (fun k => some k = row) a b :=
  ⟨h.os, h.tape, h.output, h.size, fun k hk hn => h.block k hk hn⟩
theorem Gr.below {S : Nat → Prop} {B : Nat} {w w' : World} (h : Gr S w w') (hB : B ≤ w.heap.size) (hS : ∀ k, k < B → ¬ S k) : Below B w w' :=
  ⟨h.os, h.tape, h.output, h.size, fun k hk => h.block k (Nat.lt_of_lt_of_le hk hB) (hS k hk)⟩
theorem Ext.below {w w' : World} (h : Ext w w') : Below w.heap.size w w' := Gr.below h (Nat.le_refl _) (fun _ _ hf => hf)

theorem Gr.cell {S : Nat → Prop} {w w' : World} (h : Gr S w w') {p : Addr} {v : Value} (hp : w.cell? p = some v) (hs : ¬ S p.block) : w'.cell? p = some v := by
  rw [World.cell?_of_block (w := w) (h.block p.block (World.block_lt_of_cell? _ _ hp) hs)]; exact hp
theorem Gr.frozen {S : Nat → Prop} {w w' : World} (h : Gr S w w') {p : Addr} {v : Value} (hp : w.cell? p = some v) (hs : ¬ S p.block) : w'.frozen? p = w.frozen? p :=
  World.frozen?_of_block (w := w) (h.block p.block (World.block_lt_of_cell? _ _ hp) hs)
theorem Ext.cell {w w' : World} (h : Ext w w') {p : Addr} {v : Value} (hp : w.cell? p = some v) : w'.cell? p = some v := Gr.cell h hp (fun hf => hf)

/-! ### frames -/
abbrev Fr := List Value

def get : Fr → Nat → Value
  | [], _ => undef
  | v :: _, 0 => v
  | _ :: r, n + 1 => get r n

theorem get_eq : ∀ (fr : Fr) (n : Nat), get fr n = fr[n]?.getD undef
  | [], _ => rfl
  | _ :: _, 0 => rfl
  | _ :: r, n + 1 => by simp [get, get_eq r n]

def getK (fr : Fr) : Nat → (Value → Prop) → Prop :=
  @List.rec Value (fun _ => Nat → (Value → Prop) → Prop) (fun _ K => K undef) (fun v _ ih n K => @Nat.casesOn (fun _ => Prop) n (K v) fun k => ih k K) fr

theorem getK_eq : ∀ (fr : Fr) (n : Nat) (K : Value → Prop), getK fr n K = K (get fr n)
  | [], _, _ => rfl
  | _ :: _, 0, _ => rfl
  | _ :: r, n + 1, K => getK_eq r n K

def ev (fr : Fr) : Operand → Value
  | .tmp t => get fr t
  | .const v => v
  | .global g => .pointer (some ⟨g, 0, none⟩)
  | .func f => .func (.func f) #[] #[]

theorem ev_eq (fr : Fr) (ds : List Deferred) : (Act.mk fr.toArray ds).eval = ev fr := by
  funext x; cases x <;> simp [Act.eval, ev, get_eq]

def evK (fr : Fr) (x : Operand) (K : Value → Prop) : Prop :=
  match x with
  | .tmp t => getK fr t K
  | .const v => K v
  | .global g => K (.pointer (some ⟨g, 0, none⟩))
  | .func f => K (.func (.func f) #[] #[])

theorem evK_eq (fr : Fr) (x : Operand) (K : Value → Prop) : evK fr x K = K (ev fr x) := by
  cases x <;> simp [evK, ev, getK_eq]

def argsK (fr : Fr) (xs : List Operand) : (List Value → Prop) → Prop :=
  @List.rec Operand (fun _ => (List Value → Prop) → Prop) (fun K => K []) (fun x _ ih K => evK fr x fun v => ih fun vs => K (v :: vs)) xs

theorem argsK_eq (fr : Fr) : ∀ (xs : List Operand) (K : List Value → Prop), argsK fr xs K = K (xs.map (ev fr))
  | [], _ => rfl
  | x :: xs, K => by show evK fr x (fun v => argsK fr xs fun vs => K (v :: vs)) = _; simp [evK_eq, argsK_eq fr xs]

def partsK (fr : Fr) (xs : List (Nat × Operand)) : (List (Nat × Value) → Prop) → Prop :=
  @List.rec (Nat × Operand) (fun _ => (List (Nat × Value) → Prop) → Prop) (fun K => K []) (fun x _ ih K => evK fr x.2 fun v => ih fun vs => K ((x.1, v) :: vs)) xs

theorem partsK_eq (fr : Fr) : ∀ (xs : List (Nat × Operand)) (K : List (Nat × Value) → Prop), partsK fr xs K = K (xs.map fun (i, x) => (i, ev fr x))
  | [], _ => rfl
  | (i, x) :: xs, K => by show evK fr x (fun v => partsK fr xs fun vs => K ((i, v) :: vs)) = _; simp [evK_eq, partsK_eq fr xs]

def appK (a b : List Value) : (List Value → Prop) → Prop :=
  @List.rec Value (fun _ => (List Value → Prop) → Prop) (fun K => K b) (fun x _ ih K => ih fun r => K (x :: r)) a

theorem appK_eq : ∀ (a b : List Value) (K : List Value → Prop), appK a b K = K (a ++ b)
  | [], _, _ => rfl
  | x :: a, b, K => by show appK a b (fun r => K (x :: r)) = _; simp [appK_eq a b]

def setK (fr : Fr) (n : Nat) (v : Value) : (Fr → Prop) → Prop :=
  @List.rec Value (fun _ => Nat → (Fr → Prop) → Prop) (fun _ K => K []) (fun x r ih n K => @Nat.casesOn (fun _ => Prop) n (K (v :: r)) fun k => ih k fun r' => K (x :: r')) fr n

theorem setK_eq : ∀ (fr : Fr) (n : Nat) (v : Value) (K : Fr → Prop), setK fr n v K = K (fr.set n v)
  | [], _, _, _ => rfl
  | _ :: _, 0, _, _ => rfl
  | x :: r, n + 1, v, K => by show setK r n v (fun r' => K (x :: r')) = _; simp [setK_eq r n v]

def putK (fr : Fr) (d : Option Tmp) (v : Value) (K : Fr → Prop) : Prop :=
  match d with
  | none => K fr
  | some d => setK fr d v K

def putF (fr : Fr) (d : Option Tmp) (v : Value) : Fr :=
  match d with
  | none => fr
  | some d => fr.set d v

theorem putK_eq (fr : Fr) (d : Option Tmp) (v : Value) (K : Fr → Prop) : putK fr d v K = K (putF fr d v) := by
  cases d <;> simp [putK, putF, setK_eq]

theorem act_put (fr : Fr) (ds : List Deferred) (d : Option Tmp) (v : Value) : (Act.mk fr.toArray ds).put d v = Act.mk (putF fr d v).toArray ds := by
  cases d <;> simp [Act.put, putF]

/-! ### contracts -/
def IsFn (P : Program) (f : FuncId) : Prop := ∃ fn : Func, P.funcs[f]? = some fn ∧ (fn.name == "runtime.NumGoroutine") = false ∧ fn.body.isNone = false

/-- A pure contract: one value, whatever has been laid besides. -/
@[irreducible] def PC (P : Program) (f : FuncId) (args : List Value) (w : World) (v : Value) : Prop :=
  IsFn P f ∧ ∀ w', Ext w w' → Calls P f args.toArray w' fun e w'' => e = .returned v ∧ Ext w' w''

/-- A contract: what has come back, in the world behind the call; of the old blocks those in S may have turned. -/
@[irreducible] def RC (P : Program) (f : FuncId) (args : List Value) (w : World) (S : Nat → Prop) (R : Value → World → Prop) : Prop :=
  IsFn P f ∧ ∀ w', Ext w w' → Calls P f args.toArray w' fun e w'' => ∃ v, e = .returned v ∧ ∃ wb, Ext wb w'' ∧ Gr S w' wb ∧ R v wb

/-! ### tags: where the walk stops -/
@[irreducible] def Split (p : Prop) (A B : Prop) : Prop := (p → A) ∧ (¬ p → B)
@[irreducible] def Rng (n : Int) (A : Prop) : Prop := (-9223372036854775808 ≤ n ∧ n ≤ 9223372036854775807) ∧ A
@[irreducible] def Need (p : Prop) (A : Prop) : Prop := p ∧ A
@[irreducible] def Stuck (_ : Nat) : Prop := False

/-- The address of cell k of a slice's array. -/
@[irreducible] def ea (v : Value) (k : Nat) : Addr := match v with | .slice (some a) _ _ => a.add k | _ => default

@[irreducible] def Ln (v : Value) (K : Value → Prop) : Prop := ∃ a n cap, v = .slice a n cap ∧ K (.int .i64 n)
@[irreducible] def Ix (s : Nat) (v i : Value) (K : Value → Prop) : Prop := ∃ a n cap j, v = .slice (some a) n cap ∧ i = .int .i64 j ∧ 0 ≤ j ∧ j < (n : Int) ∧ K (.pointer (some (ea v (j.toNat * s))))
@[irreducible] def IxA (len s : Nat) (p : Addr) (i : Value) (K : Value → Prop) : Prop := ∃ j, i = .int .i64 j ∧ 0 ≤ j ∧ j < (len : Int) ∧ K (.pointer (some (p.add (j.toNat * s))))
@[irreducible] def Ld (w : World) (p : Addr) (K : Value → Prop) : Prop := ∃ v, w.cell? p = some v ∧ K v
@[irreducible] def LdN (n : Nat) (w : World) (p : Addr) (K : Value → Prop) : Prop := ∃ vs : List Value, vs.length = n ∧ (∀ i x, vs[i]? = some x → w.cell? (p.add i) = some x) ∧ K (.agg vs.toArray)
/-- An operation that yields one value in every later world. -/
@[irreducible] def VS (P : Program) (s : Sem Value) (w : World) (K : Value → Prop) : Prop := ∃ v, (∀ w', Ext w w' → s.run P w' = .ok v w') ∧ K v
@[irreducible] def VCQ (P : Program) (f : FuncId) (args : List Value) (w : World) (K : Value → Prop) : Prop := ∃ v, PC P f args w v ∧ K v
@[irreducible] def VC (P : Program) (f : FuncId) (args : List Value) (w : World) (K : Value → World → Prop) : Prop :=
  IsFn P f ∧ ∀ w', Ext w w' → Calls P f args.toArray w' fun e w'' => ∃ v, e = .returned v ∧ ∃ wb, Ext wb w'' ∧ K v wb
@[irreducible] def VE (P : Program) (s : Sem Value) (w : World) (K : Value → World → Prop) : Prop := ∀ w', Ext w w' → ∃ v w'', s.run P w' = .ok v w'' ∧ ∃ wb, Ext wb w'' ∧ K v wb
@[irreducible] def VX (P : Program) (s : Sem Value) (w : World) (K : Value → World → Prop) : Prop := ∀ w', Ext w w' → ∃ v w'', s.run P w' = .ok v w'' ∧ Ext w' w'' ∧ ∃ wb, Ext wb w'' ∧ K v wb
@[irreducible] def VU (P : Program) (s : Sem Unit) (w : World) (K : World → Prop) : Prop := ∀ w', Ext w w' → ∃ w'', s.run P w' = .ok () w'' ∧ ∃ wb, Ext wb w'' ∧ K wb
@[irreducible] def St (w : World) (p : Addr) (v : Value) (K : World → Prop) : Prop :=
  v.oneCell' = true ∧ (∃ u, w.cell? p = some u) ∧ w.frozen? p = false ∧ ∀ w', Ext w w' → K (w'.setCell p v)
@[irreducible] def Bx (T : TypeId) (v : Value) (w : World) (K : Value → World → Prop) : Prop :=
  ∀ w', Ext w w' → K (.pointer (some ⟨w'.heap.size, 0, none⟩)) (w'.alloc (.cells v.cells T))

/-! ### types -/
inductive Ty where
  | one
  | i64
  | bo
  | sl (s : Nat)
  | st (n : Nat) (fs : List (Nat × Option Nat))
  | ar (n len s : Nat)
  | no

def fieldFits (P : Program) (f : Field) (x : Nat × Option Nat) : Bool :=
  f.offset == x.1 && match x.2 with
    | none => P.cellsOf f.type == 1 && (match P.underlying f.type with | some (.struct _) | some (.array _ _) | none => false | _ => true)
    | some k => P.cellsOf f.type == k && k != 0 && (match P.underlying f.type with | some (.struct _) | some (.array _ _) => true | _ => false)

def fieldsFit (P : Program) : List Field → List (Nat × Option Nat) → Bool
  | [], [] => true
  | f :: fs, x :: xs => fieldFits P f x && fieldsFit P fs xs
  | _, _ => false

def TyB (P : Program) (t : TypeId) : Ty → Bool
  | .one => P.cellsOf t == 1 && (match P.underlying t with | some (.struct _) | some (.array _ _) | none => false | _ => true)
  | .i64 => P.cellsOf t == 1 && (match P.underlying t with | some (.int .i64) => true | _ => false)
  | .bo => P.cellsOf t == 1 && (match P.underlying t with | some .bool => true | _ => false)
  | .sl s => P.cellsOf t == 1 && s != 0 && (match P.underlying t with | some (.slice e) => P.cellsOf e == s | _ => false)
  | .st n fs => P.cellsOf t == n && n != 0 && (match P.underlying t with | some (.struct g) => fieldsFit P g.toList fs | _ => false)
  | .ar n len s => P.cellsOf t == n && n != 0 && s != 0 && (match P.underlying t with | some (.array l e) => l == len && P.cellsOf e == s && (s != 1 || (match P.underlying e with | some (.struct _) | some (.array _ _) | none => false | _ => true)) | _ => false)
  | .no => true

noncomputable def tyAt (l : List Ty) : Nat → Ty :=
  @List.rec Ty (fun _ => Nat → Ty) (fun _ => .no) (fun x _ ih n => @Nat.casesOn (fun _ => Ty) n x ih) l

def tysFit (P : Program) : Nat → List Ty → Bool
  | _, [] => true
  | k, t :: ts => TyB P k t && tysFit P (k + 1) ts

theorem tysFit_spec {P : Program} : ∀ {ts : List Ty} {k : Nat}, tysFit P k ts = true → ∀ n, TyB P (k + n) (tyAt ts n) = true
  | [], _, _, _ => rfl
  | t :: ts, k, h, 0 => by simp only [tysFit, Bool.and_eq_true] at h; exact h.1
  | t :: ts, k, h, n + 1 => by
    simp only [tysFit, Bool.and_eq_true] at h
    have := tysFit_spec h.2 n
    rw [show k + (n + 1) = k + 1 + n by omega]
    exact this

structure TyOk (P : Program) (tys : List Ty) : Prop where
  fit : tysFit P 0 tys = true
  mixed : P.follows .mixedOrders = true

theorem TyOk.at {P : Program} {tys : List Ty} (h : TyOk P tys) (t : TypeId) : TyB P t (tyAt tys t) = true := by
  have := tysFit_spec h.fit t
  simpa using this

end Go.Eng
