/- The engine, part P: plans for drawing regions. -/
import Derived.Test.YtiahjkhfkbcjhaaEngO
set_option linter.unusedVariables false
set_option linter.unusedSimpArgs false
namespace Go.Eng
open Go.RowKit

/-- An order for a region: quiet operations as they come up; where only effects may come up, one branch for each. -/
inductive Plan where
  | nil
  | q (i : Nat) (p : Plan)
  | e (i : Nat) (p r : Plan)

def nthOp (all : List Oper) : Nat → (Oper → Prop) → Prop :=
  @List.rec Oper (fun _ => Nat → (Oper → Prop) → Prop) (fun _ _ => Stuck 50) (fun o _ ih n K => @Nat.casesOn (fun _ => Prop) n (K o) fun m => ih m K) all
noncomputable def memB (l : List Nat) (i : Nat) : Bool := @List.rec Nat (fun _ => Bool) false (fun x _ ih => match Nat.beq x i with | true => true | false => ih) l
def effK (P : Program) (tys : List Ty) (b : Bool) (o : Oper) (fr : Fr) (w : World) (K : Value → World → Prop) : Prop :=
  match b with
  | true => op1 P tys o.op o.type fr w K
  | false => opx P tys o.op fr w K
def andT (r : Plan) (A B : Prop) : Prop := match r with | .nil => A | _ => A ∧ B

def pw (P : Program) (tys : List Ty) (all : List Oper) (wr : List Nat) (p : Plan) : Bool → Fr → World → (Fr → World → Prop) → Prop :=
  @Plan.rec (fun _ => Bool → Fr → World → (Fr → World → Prop) → Prop)
    (fun alt fr w K => match alt with | true => True | false => K fr w)
    (fun i _ ih alt fr w K => match alt with
      | true => Stuck 51
      | false => nthOp all i fun o => grd all fr o.guard (opq P tys o.op o.type fr w fun v => putK fr o.dst v fun fr' => ih false fr' w K) (putK fr o.dst undef fun fr' => ih false fr' w K))
    (fun i _ r ihp ihr _ fr w K => andT r (nthOp all i fun o => grd all fr o.guard (effK P tys (memB wr i) o fr w fun v w' => putK fr o.dst v fun fr' => ihp false fr' w' K) (putK fr o.dst undef fun fr' => ihp false fr' w K)) (ihr true fr w K)) p

def Plan.heads : Plan → List Nat
  | .e i _ r => i :: r.heads
  | _ => []
def Plan.depth : Plan → Nat
  | .nil => 0
  | .q _ p => p.depth + 1
  | .e _ p r => max (p.depth + 1) r.depth

noncomputable def quietB (md : Region.Mode) (ops : Array Oper) (wr : List Nat) (i : Nat) : Bool :=
  match ops[i]? with
  | none => false
  | some o => isQ o.op && !memB wr i && (isFree o.op || wr.all fun j => j == i || befB md ops ops.size i j || befB md ops ops.size j i) &&
    (List.range ops.size).all fun j => j == i || Region.waitsFor md ops j i || Region.waitsFor md ops i j || (match ops[j]? with | some oj => sepB ops o oj | none => true)

noncomputable def chk (md : Region.Mode) (ops : Array Oper) (wr : List Nat) : Plan → Bool → Array Bool → Bool
  | .nil, false, l => (Region.ready md ops l).isEmpty
  | .nil, true, _ => true
  | .q i p, false, l => quietB md ops wr i && (Region.ready md ops l).contains i && chk md ops wr p false (l.setIfInBounds i true)
  | .q _ _, true, _ => false
  | .e i p r, alt, l => chk md ops wr p false (l.setIfInBounds i true) && chk md ops wr r true l && (alt || ((Region.ready md ops l).contains i && (Region.ready md ops l).all fun j => (Plan.e i p r).heads.contains j))

noncomputable def planB (md : Region.Mode) (all : List Oper) (wr : List Nat) (p : Plan) : Bool :=
  (all.all fun o => plainOp o.op) && decide (p.depth ≤ all.length) && chk md all.toArray wr p false (Array.replicate all.length false)

theorem nthOp_spec : ∀ {all : List Oper} {i : Nat} {K : Oper → Prop}, nthOp all i K → ∃ o, all.toArray[i]? = some o ∧ K o
  | [], _, _, h => by have h : Stuck 50 := h; simp [Stuck] at h
  | o :: _, 0, _, h => ⟨o, by simp, h⟩
  | _ :: r, n + 1, K, h => by
    have h : nthOp r n K := h
    obtain ⟨o, h1, h2⟩ := nthOp_spec h
    exact ⟨o, by simpa using h1, h2⟩
theorem memB_spec : ∀ {l : List Nat} {i : Nat}, memB l i = true ↔ i ∈ l
  | [], i => ⟨fun h => (by have h : false = true := h; cases h), fun h => (by cases h)⟩
  | x :: l, i => by
    have e : memB (x :: l) i = match Nat.beq x i with | true => true | false => memB l i := rfl
    rw [e, List.mem_cons]
    cases h : Nat.beq x i with
    | true => have := Nat.eq_of_beq_eq_true h; simp [this]
    | false =>
      have := Nat.ne_of_beq_eq_false h
      simp only [memB_spec (l := l)]
      constructor
      · exact .inr
      · rintro (h | h)
        · exact absurd h.symm this
        · exact h
theorem andT_spec {r : Plan} {A B : Prop} (h : andT r A B) : A ∧ (r = .nil ∨ B) := by
  unfold andT at h
  split at h
  · exact ⟨h, .inl rfl⟩
  · exact ⟨h.1, .inr h.2⟩

section
variable {P : Program} {tys : List Ty} {all : List Oper} {wr : List Nat} {md : Region.Mode}

def Qp (K : Fr → World → Prop) : Act → World → Prop := fun a w' => ∃ fr wb, a = Act.mk fr.toArray [] ∧ Ext wb w' ∧ K fr wb

theorem pw_sound (hty : TyOk P tys) (hpl : ∀ (j : Nat) (o : Oper), all.toArray[j]? = some o → plainOp o.op = true) (K : Fr → World → Prop) : ∀ (p : Plan) (listed : Array Bool) (fr : Fr) (w : World), Closed md all.toArray listed →
    (pw P tys all wr p false fr w K → chk md all.toArray wr p false listed = true → ∀ n, p.depth ≤ n → ∀ w', Ext w w' → anyS P md all.toArray wr (Qp K) n listed (Act.mk fr.toArray []) w') ∧
    (pw P tys all wr p true fr w K → chk md all.toArray wr p true listed = true → ∀ n, p.depth ≤ n + 1 → ∀ w', Ext w w' → ∀ j ∈ p.heads, j ∈ Region.ready md all.toArray listed → stepS P all.toArray wr j (anyS P md all.toArray wr (Qp K) n (listed.setIfInBounds j true)) (Act.mk fr.toArray []) w') := by
  intro p
  induction p with
  | nil =>
    intro listed fr w _
    refine ⟨fun h hc n _ w' hw => ?_, fun _ _ n _ w' _ j hj => by simp [Plan.heads] at hj⟩
    have h0 : Region.ready md all.toArray listed = [] := by simpa [chk] using hc
    have hQ : Qp K (Act.mk fr.toArray []) w' := ⟨fr, w, rfl, hw, h⟩
    cases n with
    | zero => exact ⟨h0, hQ⟩
    | succ n => exact ⟨fun _ => hQ, fun i hi => by rw [h0] at hi; cases hi⟩
  | q i p ih =>
    intro listed fr w hcl
    refine ⟨fun h hc n hn w' hw => ?_, fun _ hc => by simp [chk] at hc⟩
    have h : nthOp all i fun o => grd all fr o.guard (opq P tys o.op o.type fr w fun v => putK fr o.dst v fun fr' => pw P tys all wr p false fr' w K) (putK fr o.dst undef fun fr' => pw P tys all wr p false fr' w K) := h
    obtain ⟨o, ho, h⟩ := nthOp_spec h
    simp only [chk, Bool.and_eq_true] at hc
    obtain ⟨⟨hq, hr⟩, hc⟩ := hc
    have hir : i ∈ Region.ready md all.toArray listed := by simpa using hr
    unfold quietB at hq
    rw [ho] at hq
    simp only [Bool.and_eq_true, Bool.or_eq_true, List.all_eq_true] at hq
    obtain ⟨⟨⟨hQ, hni⟩, hfw⟩, hsep⟩ := hq
    have hni' : i ∉ wr := fun h => by rw [memB_spec.2 h] at hni; simp at hni
    have hsep' : ∀ (j : Nat) (oj : Oper), j ≠ i → all.toArray[j]? = some oj → Region.waitsFor md all.toArray j i = true ∨ Region.waitsFor md all.toArray i j = true ∨ sepB all.toArray o oj = true := fun j oj hj hoj => by
      have hlt : j < all.toArray.size := (Array.getElem?_eq_some_iff.1 hoj).1
      have := hsep j (List.mem_range.2 hlt)
      rw [hoj] at this
      rcases this with ((h1 | h1) | h1) | h1
      · exact absurd (by simpa using h1) hj
      · exact .inl h1
      · exact .inr (.inl h1)
      · exact .inr (.inr h1)
    obtain ⟨m, rfl⟩ : ∃ m, n = m + 1 := ⟨n - 1, by simp only [Plan.depth] at hn; omega⟩
    have hm : p.depth ≤ m := by simp only [Plan.depth] at hn; omega
    have next : ∀ v, pw P tys all wr p false (putF fr o.dst v) w K → anyS P md all.toArray wr (Qp K) m (listed.setIfInBounds i true) ((Act.mk fr.toArray []).put o.dst v) w' := fun v hv => by
      rw [act_put]
      exact (ih _ _ w (closed_set hcl hir)).1 hv hc m hm w' hw
    rcases grd_spec h with ⟨hwt, h⟩ | ⟨hwt, h⟩
    · obtain ⟨v, hy, hk⟩ := opq_sound hty o h
      rw [putK_eq] at hk
      have hval := quiet_value hQ hy
      rcases hfw with hf | hw2
      · refine insert_quiet (C := fun _ => True) ho hpl hsep' (fun _ _ _ _ => trivial) (.inl fun _ => trivial) hni' m listed _ w' trivial hcl hir (.inl ⟨hwt, fun w2 _ => ?_⟩) (next v hk)
        rw [ev_eq]
        exact quiet_free hf (hval w (Ext.refl w))
      · refine insert_quiet (C := fun w2 => Ext w w2) ho hpl hsep' (fun _ _ h1 h2 => h1.trans h2) (.inr fun j hj hji => ?_) hni' m listed _ w' hw hcl hir (.inl ⟨hwt, fun w2 h2 => by rw [ev_eq]; exact hval w2 h2⟩) (next v hk)
        rcases hw2 j hj with (h3 | h3) | h3
        · exact absurd (by simpa using h3) hji
        · exact ⟨_, .inl h3⟩
        · exact ⟨_, .inr h3⟩
    · rw [putK_eq] at h
      exact insert_quiet (C := fun _ => True) (v := undef) ho hpl hsep' (fun _ _ _ _ => trivial) (.inl fun _ => trivial) hni' m listed _ w' trivial hcl hir (.inr ⟨hwt, rfl⟩) (next undef h)
  | e i p r ihp ihr =>
    intro listed fr w hcl
    have step : ∀ alt, pw P tys all wr (.e i p r) alt fr w K → chk md all.toArray wr (.e i p r) alt listed = true → ∀ n, (Plan.e i p r).depth ≤ n + 1 → ∀ w', Ext w w' → ∀ j ∈ (Plan.e i p r).heads, j ∈ Region.ready md all.toArray listed →
        stepS P all.toArray wr j (anyS P md all.toArray wr (Qp K) n (listed.setIfInBounds j true)) (Act.mk fr.toArray []) w' := by
      intro alt h hc n hn w' hw j hj hjr
      have h : andT r (nthOp all i fun o => grd all fr o.guard (effK P tys (memB wr i) o fr w fun v w' => putK fr o.dst v fun fr' => pw P tys all wr p false fr' w' K) (putK fr o.dst undef fun fr' => pw P tys all wr p false fr' w K)) (pw P tys all wr r true fr w K) := h
      obtain ⟨hA, hB⟩ := andT_spec h
      simp only [chk, Bool.and_eq_true] at hc
      obtain ⟨⟨hcp, hcr⟩, _⟩ := hc
      simp only [Plan.depth] at hn
      simp only [Plan.heads, List.mem_cons] at hj
      rcases hj with rfl | hj
      · obtain ⟨o, ho, hA⟩ := nthOp_spec hA
        have next : ∀ v wb w'', Ext wb w'' → pw P tys all wr p false (putF fr o.dst v) wb K → anyS P md all.toArray wr (Qp K) n (listed.setIfInBounds j true) ((Act.mk fr.toArray []).put o.dst v) w'' := fun v wb w'' hx hv => by
          rw [act_put]
          exact (ihp _ _ wb (closed_set hcl hjr)).1 hv hcp n (by omega) w'' hx
        unfold stepS
        rw [ho]
        dsimp only
        rcases grd_spec hA with ⟨hwt, hA⟩ | ⟨hwt, hA⟩
        · rw [if_pos hwt, ev_eq]
          cases hmem : memB wr j with
          | true =>
            rw [hmem] at hA
            refine ok1_mono (op1_ok1 hty o hw hA) fun u w'' ⟨v, wb, he, hx, hK⟩ => ⟨fun hh => absurd (memB_spec.1 hmem) hh, ?_⟩
            rw [putK_eq] at hK
            rw [he]
            exact next v wb w'' hx hK
          | false =>
            rw [hmem] at hA
            refine ok1_mono (opx_sound (tys := tys) o hw hA) fun v w'' ⟨hxx, wb, hx, hK⟩ => ⟨fun _ => hxx, ?_⟩
            rw [putK_eq] at hK
            exact next v wb w'' hx hK
        · rw [if_neg (by rw [hwt]; simp)]
          rw [putK_eq] at hA
          exact next undef w w' hw hA
      · rcases hB with rfl | hB
        · simp [Plan.heads] at hj
        · exact (ihr listed fr w hcl).2 hB hcr n (by omega) w' hw j hj hjr
    refine ⟨fun h hc n hn w' hw => ?_, step true⟩
    have hall := hc
    simp only [chk, Bool.and_eq_true, Bool.false_or] at hall
    have hall := hall.2
    obtain ⟨m, rfl⟩ : ∃ m, n = m + 1 := ⟨n - 1, by simp only [Plan.depth] at hn; omega⟩
    refine ⟨fun h0 => ?_, fun j hj => ?_⟩
    · have := hall.1
      rw [h0] at this; simp at this
    · refine step false h hc m hn w' hw j ?_ hj
      have := List.all_eq_true.1 hall.2 j hj
      simpa using this

/-- The slot of a region's first operation. -/
def firstDst (all : List Oper) : Option Tmp := match all with | [] => none | o :: _ => o.dst
theorem Dr.plan (d : Nat) (wr : List Nat) (p : Plan) (hty : TyOk P tys) {fr : Fr} {w : World} {K : Fr → World → Prop} (_hd : firstDst all = some d) (hB : planB .any all wr p = true) (h : pw P tys all wr p false fr w K) : Dr P all fr w K := by
  simp only [Dr]
  intro id Q hk w' hw
  simp only [planB, Bool.and_eq_true, decide_eq_true_eq, List.all_eq_true] at hB
  obtain ⟨⟨hpl, hd⟩, hc⟩ := hB
  refine wp_region_any hty.mixed ?_
  have hcl : Closed .any all.toArray (Array.replicate all.length false) := fun j k hj _ => by rw [getD_replicate_false all.length j] at hj; cases hj
  have := (pw_sound hty (fun j o ho => hpl o (List.mem_of_getElem? (by simpa using ho))) K p _ fr w hcl).1 h hc all.length hd _ (hw.drawn (w'.drawn + 1))
  refine any_of_anyS (Qf := Qp K) ?_ _ _ _ _ (by simpa using this)
  rintro a w2 ⟨fr', wb, rfl, hx, hK⟩
  exact hk fr' wb w2 hx hK

theorem VCX.pure {f : FuncId} {args : List Value} {w : World} {v : Value} {K : Value → World → Prop} (h : PC P f args w v) (hk : K v w) : VCX P f args w K := by
  simp only [PC] at h
  simp only [VCX]
  refine ⟨h.1, fun w' hw => (h.2 w' hw).mono ?_⟩
  rintro e w'' ⟨rfl, hx⟩
  exact ⟨v, rfl, hx, w, hw.trans hx, hk⟩
theorem VCX.rc {f : FuncId} {args : List Value} {w : World} {R : Value → World → Prop} {K : Value → World → Prop} (h : RC P f args w NoB R) (hk : ∀ v w', Ext w w' → R v w' → K v w') : VCX P f args w K := by
  simp only [RC] at h
  simp only [VCX]
  refine ⟨h.1, fun w' hw => (h.2 w' hw).mono ?_⟩
  rintro e w'' ⟨v, rfl, wb, hx, hg, hr⟩
  exact ⟨v, rfl, Gr.trans hg hx, wb, hx, hk v wb (hw.trans hg) hr⟩
end
end Go.Eng
