/- The engine, part G: how contracts are made and used; what the tags ask; slices and boxes. -/
import Derived.Test.YtiahjkhfkbcjhaaEngF
set_option linter.unusedVariables false
set_option linter.unusedSimpArgs false
namespace Go.Eng
open Go.RowKit

def mkU (n : Nat) : (Fr → Prop) → Prop :=
  @Nat.rec (fun _ => (Fr → Prop) → Prop) (fun K => K []) (fun _ ih K => ih fun r => K (undef :: r)) n

def mkFr (vs : List Value) : Nat → (Fr → Prop) → Prop :=
  @List.rec Value (fun _ => Nat → (Fr → Prop) → Prop) mkU (fun v _ ih n K => ih (n - 1) fun r => K (v :: r)) vs

theorem mkU_eq : ∀ (n : Nat) (K : Fr → Prop), mkU n K = K (List.replicate n undef)
  | 0, _ => rfl
  | n + 1, K => by show mkU n (fun r => K (undef :: r)) = _; rw [mkU_eq n]; simp [List.replicate_succ]

theorem mkFr_eq : ∀ (vs : List Value) (n : Nat) (K : Fr → Prop), mkFr vs n K = K (vs ++ List.replicate (n - vs.length) undef)
  | [], n, K => by show mkU n K = _; rw [mkU_eq]; simp
  | v :: vs, n, K => by show mkFr vs (n - 1) (fun r => K (v :: r)) = _; rw [mkFr_eq vs (n - 1)]; simp only [List.length_cons, List.cons_append]; rw [show n - 1 - vs.length = n - (vs.length + 1) by omega]

section
variable {P : Program} {tys : List Ty}

theorem calls_of_gv (hty : TyOk P tys) {f : FuncId} {fn : Func} {c : Code} {args : List Value} {w : World} {K : Value → World → Prop} (hf : P.funcs[f]? = some fn) (hb : fn.body = some c)
    (h : mkFr args fn.ntmps fun fr => gv P tys c fr w fun e fr' wb => fin tys e fn.results.toList fr' wb fun v => K v wb) :
    Calls P f args.toArray w fun e w'' => ∃ v, e = .returned v ∧ ∃ wb, Ext wb w'' ∧ K v wb := by
  rw [mkFr_eq] at h
  refine calls_of_wp hf hb ?_
  have e : args.toArray ++ Array.replicate (fn.ntmps - args.toArray.size) undef = (args ++ List.replicate (fn.ntmps - args.length) undef).toArray := by
    apply Array.toList_inj.1; simp
  rw [e]
  refine wp_mono (gv_sound hty c _ w _ h w (Ext.refl w)) ?_
  rintro e a w' ⟨fr, wb, rfl, hx, hq⟩
  have go : resK tys fn.results.toList fr wb (one1 fun v => K v wb) → ∃ v, (results fn fr.toArray).run P w' = .ok v w' ∧ ∃ u, Ending.returned v = .returned u ∧ ∃ wb, Ext wb w' ∧ K u wb := fun hr => by
    obtain ⟨v, hk, hrun⟩ := results_run hty hx hr
    exact ⟨v, hrun, v, rfl, wb, hx, hk⟩
  cases e with
  | normal => exact ⟨rfl, go hq⟩
  | ret => exact ⟨rfl, go hq⟩
  | _ => exact hq.elim

theorem PC.mk (hty : TyOk P tys) {f : FuncId} {fn : Func} {c : Code} {args : List Value} {w : World} {v : Value} (hf : P.funcs[f]? = some fn) (hb : fn.body = some c) (hn : (fn.name == "runtime.NumGoroutine") = false)
    (h : ∀ w', Ext w w' → mkFr args fn.ntmps fun fr => gv P tys c fr w' fun e fr' wb => fin tys e fn.results.toList fr' wb fun u => u = v ∧ Ext w' wb) : PC P f args w v := by
  simp only [PC]
  refine ⟨⟨fn, hf, hn, by rw [hb]; rfl⟩, fun w' hw => ?_⟩
  refine (calls_of_gv hty (K := fun u wb => u = v ∧ Ext w' wb) hf hb (h w' hw)).mono ?_
  rintro e w'' ⟨u, rfl, wb, hx, rfl, hx2⟩
  exact ⟨rfl, hx2.trans hx⟩

theorem RC.mk (hty : TyOk P tys) {f : FuncId} {fn : Func} {c : Code} {args : List Value} {w : World} {S : Nat → Prop} {R : Value → World → Prop} (hf : P.funcs[f]? = some fn) (hb : fn.body = some c) (hn : (fn.name == "runtime.NumGoroutine") = false)
    (h : ∀ w', Ext w w' → mkFr args fn.ntmps fun fr => gv P tys c fr w' fun e fr' wb => fin tys e fn.results.toList fr' wb fun u => Gr S w' wb ∧ R u wb) : RC P f args w S R := by
  simp only [RC]
  refine ⟨⟨fn, hf, hn, by rw [hb]; rfl⟩, fun w' hw => ?_⟩
  refine (calls_of_gv hty (K := fun u wb => Gr S w' wb ∧ R u wb) hf hb (h w' hw)).mono ?_
  rintro e w'' ⟨u, rfl, wb, hx, hg, hr⟩
  exact ⟨u, rfl, wb, hx, hg, hr⟩

theorem PC.ext {f : FuncId} {args : List Value} {w w1 : World} {v : Value} (h : PC P f args w v) (hw : Ext w w1) : PC P f args w1 v := by
  simp only [PC] at h ⊢
  exact ⟨h.1, fun w' hx => h.2 w' (hw.trans hx)⟩

theorem VC.pure {f : FuncId} {args : List Value} {w : World} {v : Value} {K : Value → World → Prop} (h : PC P f args w v) (hk : K v w) : VC P f args w K := by
  simp only [PC] at h
  simp only [VC]
  refine ⟨h.1, fun w' hw => (h.2 w' hw).mono ?_⟩
  rintro e w'' ⟨rfl, hx⟩
  exact ⟨v, rfl, w, hw.trans hx, hk⟩

theorem VC.rc {f : FuncId} {args : List Value} {w : World} {S : Nat → Prop} {R : Value → World → Prop} {K : Value → World → Prop} (h : RC P f args w S R) (hk : ∀ v w', Gr S w w' → R v w' → K v w') : VC P f args w K := by
  simp only [RC] at h
  simp only [VC]
  refine ⟨h.1, fun w' hw => (h.2 w' hw).mono ?_⟩
  rintro e w'' ⟨v, rfl, wb, hx, hg, hr⟩
  exact ⟨v, rfl, wb, hx, hk v wb ((Gr.ofExt hw).trans (hg)) hr⟩

theorem VCQ.pure {f : FuncId} {args : List Value} {w : World} {v : Value} {K : Value → Prop} (h : PC P f args w v) (hk : K v) : VCQ P f args w K := by
  simp only [VCQ]; exact ⟨v, h, hk⟩
end

/-! ### the plain tags -/
theorem Split.mk {p A B : Prop} (h1 : p → A) (h2 : ¬ p → B) : Split p A B := by simp only [Split]; exact ⟨h1, h2⟩
theorem Split.pos {p A B : Prop} (hp : p) (h : A) : Split p A B := Split.mk (fun _ => h) (fun hn => absurd hp hn)
theorem Split.neg {p A B : Prop} (hp : ¬ p) (h : B) : Split p A B := Split.mk (fun h1 => absurd h1 hp) (fun _ => h)
theorem Rng.mk {n : Int} {A : Prop} (h : -9223372036854775808 ≤ n ∧ n ≤ 9223372036854775807) (hA : A) : Rng n A := by simp only [Rng]; exact ⟨h, hA⟩
theorem Need.mk {p A : Prop} (h : p) (hA : A) : Need p A := by simp only [Need]; exact ⟨h, hA⟩

/-! ### cells in a row -/
def At (w : World) (p : Addr) (xs : List Value) : Prop := ∀ (i : Nat) (x : Value), xs[i]? = some x → w.cell? (p.add i) = some x

theorem add_block (p : Addr) (i : Nat) : (p.add i).block = p.block := by unfold Addr.add; split <;> rfl
theorem add_add (p : Addr) (i j : Nat) : (p.add i).add j = p.add (i + j) := by
  unfold Addr.add
  by_cases hi : i = 0
  · subst hi; simp
  · by_cases hj : j = 0
    · subst hj; simp [hi]
    · rw [if_neg hj, if_neg hi, if_neg (by omega)]; simp; omega

theorem At.gr {S : Nat → Prop} {w w' : World} {p : Addr} {xs : List Value} (h : At w p xs) (hg : Gr S w w') (hs : ¬ S p.block) : At w' p xs :=
  fun i x hx => hg.cell (h i x hx) (by rw [add_block]; exact hs)
theorem At.ext {w w' : World} {p : Addr} {xs : List Value} (h : At w p xs) (hg : Ext w w') : At w' p xs := h.gr hg (fun hf => hf)
theorem At.ld {w : World} {p : Addr} {xs : List Value} {i : Nat} {v : Value} {K : Value → Prop} (h : At w p xs) (hx : xs[i]? = some v) (hk : K v) : Ld w (p.add i) K := by
  simp only [Ld]; exact ⟨v, h i v hx, hk⟩
theorem At.ldN {w : World} {p : Addr} {xs : List Value} {n : Nat} {K : Value → Prop} (h : At w p xs) (hn : xs.length = n) (hk : K (.agg xs.toArray)) : LdN n w p K := by
  simp only [LdN]; exact ⟨xs, hn, h, hk⟩

/-- A new box. -/
theorem Bx.mk {T : TypeId} {v : Value} {w : World} {K : Value → World → Prop} (h : ∀ (b : Nat) w', Ext w w' → w.heap.size ≤ b → At w' ⟨b, 0, none⟩ v.cells.toList → (∀ i, w'.frozen? ⟨b, i, none⟩ = false) → K (.pointer (some ⟨b, 0, none⟩)) w') : Bx T v w K := by
  simp only [Bx]
  intro w' hw
  refine h w'.heap.size _ (hw.alloc _) hw.size (fun i x hx => ?_) (fun i => ?_)
  · have e : (⟨w'.heap.size, 0, none⟩ : Addr).add i = ⟨w'.heap.size, i, none⟩ := by unfold Addr.add; split <;> simp_all
    rw [e]
    have hh : (w'.alloc (.cells v.cells T)).heap[w'.heap.size]? = some (.cells v.cells T) := heap_alloc_new w' _
    simp only [World.cell?, hh]
    simpa using hx
  · have hh : (w'.alloc (.cells v.cells T)).heap[w'.heap.size]? = some (.cells v.cells T) := heap_alloc_new w' _
    simp only [World.frozen?, hh]; simp

theorem Bx.agg {T : TypeId} {l : List Value} {w : World} {K : Value → World → Prop} (h : ∀ (b : Nat) w', Ext w w' → w.heap.size ≤ b → At w' ⟨b, 0, none⟩ l → (∀ i, w'.frozen? ⟨b, i, none⟩ = false) → K (.pointer (some ⟨b, 0, none⟩)) w') : Bx T (.agg l.toArray) w K := Bx.mk h
theorem Bx.one {T : TypeId} {v : Value} {w : World} {K : Value → World → Prop} (hv : v.cells = #[v]) (h : ∀ (b : Nat) w', Ext w w' → w.heap.size ≤ b → At w' ⟨b, 0, none⟩ [v] → (∀ i, w'.frozen? ⟨b, i, none⟩ = false) → K (.pointer (some ⟨b, 0, none⟩)) w') : Bx T v w K :=
  Bx.mk fun b w' hx hb ha hf => h b w' hx hb (by rw [hv] at ha; exact ha) hf

/-! ### slices -/
/-- v is a slice of n elements of s cells each; its cells hold xs. -/
def Sl (s : Nat) (w : World) (v : Value) (n : Nat) (xs : List Value) : Prop :=
  ∃ a cap, v = .slice a n cap ∧ n ≤ cap ∧ cap ≤ maxLen ∧ xs.length = n * s ∧ (n = 0 ∨ ∃ p, a = some p ∧ At w p xs)

def blk (v : Value) : Nat := match v with | .slice (some a) _ _ => a.block | _ => 0

theorem Sl.gr {s : Nat} {S : Nat → Prop} {w w' : World} {v : Value} {n : Nat} {xs : List Value} (h : Sl s w v n xs) (hg : Gr S w w') (hs : n = 0 ∨ ¬ S (blk v)) : Sl s w' v n xs := by
  obtain ⟨a, cap, rfl, h1, h2, h3, h4⟩ := h
  refine ⟨a, cap, rfl, h1, h2, h3, ?_⟩
  rcases h4 with h4 | ⟨p, rfl, h4⟩
  · exact .inl h4
  · rcases hs with hs | hs
    · exact .inl hs
    · exact .inr ⟨p, rfl, h4.gr hg hs⟩
theorem Sl.ext {s : Nat} {w w' : World} {v : Value} {n : Nat} {xs : List Value} (h : Sl s w v n xs) (hg : Ext w w') : Sl s w' v n xs := h.gr hg (.inr fun hf => hf)
theorem Sl.ln {s : Nat} {w : World} {v : Value} {n : Nat} {xs : List Value} {K : Value → Prop} (h : Sl s w v n xs) (hk : K (.int .i64 n)) : Ln v K := by
  obtain ⟨a, cap, rfl, _⟩ := h
  simp only [Ln]; exact ⟨a, n, cap, rfl, hk⟩
theorem Sl.le {s : Nat} {w : World} {v : Value} {n : Nat} {xs : List Value} (h : Sl s w v n xs) : n ≤ 9223372036854775807 := by
  obtain ⟨a, cap, rfl, h1, h2, _⟩ := h
  unfold maxLen at h2; omega
theorem Sl.ix {s : Nat} {w : World} {v : Value} {n : Nat} {xs : List Value} {c : Nat} {K : Value → Prop} (h : Sl s w v n xs) (hc : c < n) (hk : K (.pointer (some (ea v (c * s))))) : Ix s v (.int .i64 (c : Int)) K := by
  obtain ⟨a, cap, rfl, h1, h2, h3, h4⟩ := h
  rcases h4 with h4 | ⟨p, rfl, h4⟩
  · omega
  · simp only [Ix]; exact ⟨p, n, cap, c, rfl, rfl, by omega, by omega, hk⟩
theorem Sl.ixI {s : Nat} {w : World} {v : Value} {n : Nat} {xs : List Value} {j : Int} {K : Value → Prop} (h : Sl s w v n xs) (hc : 0 ≤ j ∧ j < n) (hk : K (.pointer (some (ea v (j.toNat * s))))) : Ix s v (.int .i64 j) K := by
  obtain ⟨a, cap, rfl, h1, h2, h3, h4⟩ := h
  rcases h4 with h4 | ⟨p, rfl, h4⟩
  · omega
  · simp only [Ix]; exact ⟨p, n, cap, j, rfl, rfl, hc.1, hc.2, hk⟩
theorem Sl.cell {s : Nat} {w : World} {v : Value} {n : Nat} {xs : List Value} {k : Nat} {x : Value} (h : Sl s w v n xs) (hx : xs[k]? = some x) : w.cell? (ea v k) = some x := by
  obtain ⟨a, cap, rfl, h1, h2, h3, h4⟩ := h
  rcases h4 with h4 | ⟨p, rfl, h4⟩
  · have := (List.getElem?_eq_some_iff.1 hx).1
    rw [h3, h4] at this; omega
  · simp only [ea]; exact h4 k x hx
theorem Sl.ld {s : Nat} {w : World} {v : Value} {n : Nat} {xs : List Value} {k : Nat} {x : Value} {K : Value → Prop} (h : Sl s w v n xs) (hx : xs[k]? = some x) (hk : K x) : Ld w (ea v k) K := by
  simp only [Ld]; exact ⟨x, h.cell hx, hk⟩

def i64v (x : Int) : Value := .int .i64 x

/-- A slice of ints. -/
def Ints (w : World) (v : Value) (l : List Int) : Prop := Sl 1 w v l.length (l.map i64v)

section
variable {w w' : World} {v : Value} {l : List Int} {K : Value → Prop}
theorem Ints.ext (h : Ints w v l) (hg : Ext w w') : Ints w' v l := Sl.ext h hg
theorem Ints.gr {S : Nat → Prop} (h : Ints w v l) (hg : Gr S w w') (hs : l.length = 0 ∨ ¬ S (blk v)) : Ints w' v l := Sl.gr h hg hs
theorem Ints.le (h : Ints w v l) : l.length ≤ 9223372036854775807 := Sl.le h
theorem Ints.ln (h : Ints w v l) (hk : K (.int .i64 (l.length : Int))) : Ln v K := Sl.ln h hk
theorem Ints.ix {c : Nat} (h : Ints w v l) (hc : c < l.length) (hk : K (.pointer (some (ea v c)))) : Ix 1 v (.int .i64 (c : Int)) K :=
  Sl.ix h hc (by rw [Nat.mul_one]; exact hk)
theorem Ints.ixI {j : Int} (h : Ints w v l) (hc : 0 ≤ j ∧ j < l.length) (hk : K (.pointer (some (ea v j.toNat)))) : Ix 1 v (.int .i64 j) K :=
  Sl.ixI h hc (by rw [Nat.mul_one]; exact hk)
theorem Ints.ld {c : Nat} (h : Ints w v l) (hc : c < l.length) (hk : K (.int .i64 (l.getD c 0))) : Ld w (ea v c) K :=
  Sl.ld h (x := .int .i64 (l.getD c 0)) (by simp [hc, i64v]) hk
end

/-- A slice of slices of ints. -/
structure Mat (w : World) (v : Value) (vs : List Value) (rr : List (List Int)) : Prop where
  top : Sl 1 w v rr.length vs
  row : ∀ i, i < rr.length → Ints w (vs.getD i undef) (rr.getD i [])

section
variable {w w' : World} {v : Value} {vs : List Value} {rr : List (List Int)} {K : Value → Prop}
theorem Mat.ext (h : Mat w v vs rr) (hg : Ext w w') : Mat w' v vs rr := ⟨h.top.ext hg, fun i hi => (h.row i hi).ext hg⟩
theorem Mat.ln (h : Mat w v vs rr) (hk : K (.int .i64 (rr.length : Int))) : Ln v K := h.top.ln hk
theorem Mat.ix {c : Nat} (h : Mat w v vs rr) (hc : c < rr.length) (hk : K (.pointer (some (ea v c)))) : Ix 1 v (.int .i64 (c : Int)) K :=
  h.top.ix hc (by rw [Nat.mul_one]; exact hk)
theorem Mat.ixI {j : Int} (h : Mat w v vs rr) (hc : 0 ≤ j ∧ j < rr.length) (hk : K (.pointer (some (ea v j.toNat)))) : Ix 1 v (.int .i64 j) K :=
  h.top.ixI hc (by rw [Nat.mul_one]; exact hk)
theorem Mat.ld {c : Nat} (h : Mat w v vs rr) (hc : c < rr.length) (hk : K (vs.getD c undef)) : Ld w (ea v c) K := by
  obtain ⟨_, _, _, _, _, h3, _⟩ := id h.top
  exact h.top.ld (by simp [show c < vs.length by omega]) hk
end
end Go.Eng
