/- The engine, part E: regions that draw their order: all quiet, or quiet but for a tail. -/
import Derived.Test.YtiahjkhfkbcjhaaEngD
set_option linter.unusedVariables false
set_option linter.unusedSimpArgs false
namespace Go.Eng
open Go.RowKit

section
variable {P : Program} {ops : Array Oper} {Q : Exit → Act → World → Prop} {md : Region.Mode}

theorem wpAny_more : ∀ (f : Nat) (listed : Array Bool) (a : Act) (w : World), wpAny P md ops Q f listed a w → wpAny P md ops Q (f + 1) listed a w
  | 0, _, _, _, h => ⟨fun _ => h.2, fun i hi => by rw [h.1] at hi; cases hi⟩
  | f + 1, _, _, _, h => ⟨h.1, fun i hi => wpOp_mono (fun a' w' h' => wpAny_more f _ a' w' h') (h.2 i hi)⟩

theorem wpAny_many (k : Nat) {f : Nat} {listed : Array Bool} {a : Act} {w : World} (h : wpAny P md ops Q f listed a w) : wpAny P md ops Q (f + k) listed a w := by
  induction k with
  | zero => exact h
  | succ k ih => exact wpAny_more _ _ _ _ ih

/-- Every edge leads back, every guard of the head too. -/
def backB (md : Region.Mode) (l : List Oper) : Bool :=
  (List.range l.length).all fun i => match l[i]? with
    | some o => (o.after.toList.all fun e => !Region.binds md e || decide (e.on < i)) && (match o.guard with | some (j, _) => decide (j < i) | none => true)
    | none => true

theorem backB_spec {l : List Oper} (h : backB md l = true) {i : Nat} {o : Oper} (hi : l[i]? = some o) :
    (∀ e ∈ o.after, Region.binds md e = true → e.on < i) ∧ ∀ j b, o.guard = some (j, b) → j < i := by
  have hlt : i < l.length := (List.getElem?_eq_some_iff.1 hi).1
  have h1 := List.all_eq_true.1 h i (List.mem_range.2 hlt)
  rw [hi] at h1
  simp only [Bool.and_eq_true] at h1
  refine ⟨fun e he hb => ?_, fun j b hg => ?_⟩
  · have h2 := List.all_eq_true.1 h1.1 e (by simpa using he)
    rw [hb] at h2
    simpa using h2
  · have h2 := h1.2
    rw [hg] at h2
    simpa using h2

def tailB (md : Region.Mode) (l : List Oper) (n : Nat) : Bool :=
  backB md l && decide (n < l.length) && (Region.noSelect (l.take n).toArray && Region.lexFrom md (l.take n).toArray n 0 (Array.replicate l.length false)) && Region.sinkB md l.toArray n && Region.chainB md l.toArray n &&
  Region.seqB md l.toArray (l.length - n) n (Array.replicate n true ++ Array.replicate (l.length - n) false)

theorem head_get {l : List Oper} {n i : Nat} (h : i < n) : ((l.take n).toArray)[i]? = (l.toArray)[i]? := by
  simp [h]

theorem ready_head {l : List Oper} {n i : Nat} (h : i < n) {listed : Array Bool} : i ∈ Region.ready md (l.take n).toArray listed ↔ i ∈ Region.ready md l.toArray listed := by
  rw [mem_ready, mem_ready, head_get h]

theorem wanted_head {l : List Oper} {n : Nat} {o : Oper} {tmps : Array Value} (h : ∀ j b, o.guard = some (j, b) → j < n) :
    Region.wanted o (yielded (l.take n).toArray tmps) = Region.wanted o (yielded l.toArray tmps) := by
  unfold Region.wanted
  split
  · rfl
  · rename_i j b e
    have : yielded (l.take n).toArray tmps j = yielded l.toArray tmps j := by unfold yielded; rw [head_get (h j b e)]
    rw [this]

/-- If no operation of the head may come up, all of the head has come up. -/
theorem all_listed {l : List Oper} {n : Nat} (hb : backB md l = true) {listed : Array Bool} (hs : listed.size = l.length) (hn : n ≤ l.length) (h0 : Region.ready md (l.take n).toArray listed = []) :
    ∀ i, i < n → listed.getD i true = true := by
  intro i
  induction i using Nat.strongRecOn with
  | _ i ih =>
    intro hi
    cases hl : listed.getD i true with
    | true => rfl
    | false =>
      exfalso
      have hlt : i < l.length := by omega
      have hr : i ∈ Region.ready md (l.take n).toArray listed := by
        rw [ready_head hi, mem_ready]
        refine ⟨hl, l[i], by simp, fun e he hbd => ?_⟩
        have hlt2 := (backB_spec hb (List.getElem?_eq_getElem hlt)).1 e he hbd
        have h3 := ih e.on hlt2 (by omega)
        have h4 : e.on < listed.size := by omega
        simpa [h4] using h3
      rw [h0] at hr
      cases hr

theorem listed_full {l : List Oper} {n : Nat} (hn : n ≤ l.length) {listed : Array Bool} (inv : HeadInv md l.toArray n listed) (h : ∀ i, i < n → listed.getD i true = true) :
    listed = Array.replicate n true ++ Array.replicate (l.length - n) false := by
  have hs : listed.size = l.length := by simpa using inv.size
  apply Array.ext
  · simp [hs]; omega
  · intro i h1 h2
    by_cases hi : i < n
    · have := h i hi
      rw [Array.getElem_append_left (by simpa using hi)]
      simpa [h1] using this
    · have := inv.tail i (by omega) (by simpa [hs] using h1)
      rw [Array.getElem_append_right (by simp; omega)]
      simpa [h1] using this

theorem link {l : List Oper} {n : Nat} {C : World → Prop} {Qh : Act → Prop} (hb : backB md l = true) (hn : n < l.length) (hs : Region.sinkB md l.toArray n = true) (hc : Region.chainB md l.toArray n = true)
    (htail : ∀ a w, C w → Qh a → wpAny P md l.toArray Q (l.length - n) (Array.replicate n true ++ Array.replicate (l.length - n) false) a w) :
    ∀ (f : Nat) (listed : Array Bool) (a : Act) (w : World), C w → HeadInv md l.toArray n listed → wpAnyQ P md (l.take n).toArray C Qh f listed a → wpAny P md l.toArray Q (f + (l.length - n)) listed a w := by
  have fin : ∀ (listed : Array Bool) (a : Act) (w : World), C w → HeadInv md l.toArray n listed → Region.ready md (l.take n).toArray listed = [] → Qh a → wpAny P md l.toArray Q (l.length - n) listed a w := by
    intro listed a w hw inv h0 hq
    rw [listed_full (by omega) inv (all_listed hb (by simpa using inv.size) (by omega) h0)]
    exact htail a w hw hq
  intro f
  induction f with
  | zero => intro listed a w hw inv h; rw [Nat.zero_add]; exact fin listed a w hw inv h.1 h.2
  | succ f ih =>
    intro listed a w hw inv h
    by_cases h0 : Region.ready md (l.take n).toArray listed = []
    · have := wpAny_many (f + 1) (fin listed a w hw inv h0 (h.1 h0))
      rwa [Nat.add_comm] at this
    · obtain ⟨i0, hi0⟩ := List.exists_mem_of_ne_nil _ h0
      have hi0n : i0 < n := by
        obtain ⟨_, o, ho, _⟩ := mem_ready.1 hi0
        have := (Array.getElem?_eq_some_iff.1 ho).1
        simp at this; omega
      have hun := (mem_ready.1 hi0).1
      rw [show f + 1 + (l.length - n) = (f + (l.length - n)) + 1 by omega]
      refine ⟨fun h1 => absurd ((ready_head hi0n).1 hi0) (by rw [h1]; simp), fun i hi => ?_⟩
      have hin : i < n := by
        rcases Nat.lt_or_ge i n with h2 | h2
        · exact h2
        · exact absurd hi (tail_waits hs hc (by simpa using hn) inv _ i0 rfl hi0n hun i h2)
      have hq := h.2 i ((ready_head hin).2 hi)
      have inv' := inv.set hi hin
      unfold qOp at hq
      unfold wpOp
      rw [head_get hin] at hq
      have hil : i < l.length := by omega
      have hget : (l.toArray)[i]? = some l[i] := by simp [hil]
      rw [hget] at hq ⊢
      dsimp only at hq ⊢
      rw [wanted_head (fun j b hg => by have := (backB_spec hb (List.getElem?_eq_getElem hil)).2 j b hg; omega)] at hq
      split
      · rename_i hwt
        rw [if_pos hwt] at hq
        exact .inl (Oper.wp_of_quiet hw (fun a' w' hw' hk => ih _ a' w' hw' inv' hk) hq)
      · rename_i hwt
        rw [if_neg hwt] at hq
        exact ih _ _ w hw inv' hq
end

section
variable {P : Program} {tys : List Ty}

/-- A region that draws its order: the goal at which the walk stops. -/
@[irreducible] def Dr (P : Program) (ops : List Oper) (fr : Fr) (w : World) (K : Fr → World → Prop) : Prop :=
  (∀ (id : Nat) (Q : Exit → Act → World → Prop), (∀ fr' wb w'', Ext wb w'' → K fr' wb → Q .normal (Act.mk fr'.toArray []) w'') → ∀ w', Ext w w' → (Code.region id ops.toArray true).wp P Q (Act.mk fr.toArray []) w')

theorem Dr.quiet (hty : TyOk P tys) {ops : List Oper} {fr : Fr} {w : World} {K : Fr → World → Prop} (hB : Region.lexB .any ops.toArray = true) (h : rgq P tys w ops ops fr fun fr' => K fr' w) : Dr P ops fr w K := by
  simp only [Dr]
  intro id Q hk w' hw
  refine wp_region_quiet (C := fun w' => Ext w w') hty.mixed hB (hw.drawn (w'.drawn + 1)) ?_
  have := rgq_sound hty ops fr _ h
  refine wpQuiet_mono' ?_ this
  rintro a ⟨fr', rfl, hK⟩ w'' hw''
  exact hk fr' w w'' hw'' hK
where
  wpQuiet_mono' {P : Program} {ops : Array Oper} {C : World → Prop} {Q Q' : Act → Prop} (h : ∀ a, Q a → Q' a) : ∀ {l : List Oper} {a : Act}, wpQuiet P ops C Q l a → wpQuiet P ops C Q' l a
  | [], a, hh => h a hh
  | o :: l, a, hh => by
    unfold wpQuiet at hh ⊢
    split
    · rename_i hw; rw [if_pos hw] at hh; exact Oper.quiet_mono (fun a' h' => wpQuiet_mono' h h') hh
    · rename_i hw; rw [if_neg hw] at hh; exact wpQuiet_mono' h hh

theorem Dr.tail (n : Nat) (hty : TyOk P tys) {ops : List Oper} {fr : Fr} {w : World} {K : Fr → World → Prop} (hB : tailB .any ops n = true)
    (h : rgq P tys w (ops.take n) (ops.take n) fr fun fr' => rgn P tys ops (ops.drop n) fr' w K) : Dr P ops fr w K := by
  simp only [Dr]
  intro id Q hk w' hw
  simp only [tailB, Bool.and_eq_true, decide_eq_true_eq] at hB
  obtain ⟨⟨⟨⟨⟨hb, hn⟩, hlex⟩, hs⟩, hc⟩, hseq⟩ := hB
  have hq := rgq_sound hty (ops.take n) fr _ h
  have hlen : (ops.take n).length = n := by simp; omega
  have hany := wpAnyQ_lex (md := .any) (P := P) (C := fun w' => Ext w w') hlex.1 (ops.take n) 0 (Array.replicate ops.length false) (Act.mk fr.toArray []) (by simp) (by rw [hlen]; exact hlex.2) hq
  refine wp_region_any hty.mixed ?_
  have inv0 : HeadInv .any ops.toArray n (Array.replicate ops.length false) :=
    ⟨by simp, fun j oj _ hl => (by rw [getD_replicate_false ops.length j] at hl; cases hl), fun t _ ht => getD_in (by simpa using ht) (getD_replicate_false ops.length t)⟩
  have hlink := link (P := P) (Q := Q) (md := .any) (C := fun w' => Ext w w') hb hn hs hc (fun a w1 hw1 hq1 => by
    obtain ⟨fr', rfl, hK⟩ := hq1
    have := wpAny_of_seq (P := P) (md := .any) (Q' := Q) (ops.drop n) n (Array.replicate n true ++ Array.replicate (ops.length - n) false) (Act.mk fr'.toArray []) w1 (fun j => by simp [List.getElem?_drop]) (by rw [List.length_drop]; exact hseq)
      (rgn_sound hty (ops.drop n) fr' w K hK hk w1 hw1)
    rwa [List.length_drop] at this) _ _ _ { w' with drawn := w'.drawn + 1 } (hw.drawn (w'.drawn + 1)) inv0 hany
  rw [hlen, show n + (ops.length - n) = ops.length by omega] at hlink
  simpa using hlink
end
end Go.Eng
