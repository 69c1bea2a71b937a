/- The statement FlowGrows. -/
import Derived.Test.YtpdldifklgpikaaJ3
import Derived.Test.YtpdldifklgpikaaRows
set_option linter.unusedVariables false
set_option linter.unusedSimpArgs false
namespace Go.Proofs.Ytpdldifklgpikaa
open Go.Eng
set_option maxRecDepth 100000

theorem netE_of {N : Nat} {A : List T3} (hk : NetOk N A) : netE (N : Int) A = 0 := by
  have h2 := hk.n2
  have h40 := hk.n40
  have ha := hk.a200
  refine netE_ok (by omega) ?_
  rintro (h | ⟨i, hi, hb⟩)
  · omega
  · have := hk.arc i hi
    unfold frm too cpy at this
    unfold badX at hb
    omega
theorem bal_arcs {A B : List T3} {f : List Int} {v : Int} (h : ∀ j, frm B j = frm A j ∧ too B j = too A j) : ∀ c, bal B f v c = bal A f v c
  | 0 => rfl
  | c + 1 => by simp only [bal]; rw [bal_arcs h c, (h c).1, (h c).2]

/-! ### a greater capacity -/
def wd (A : List T3) (k : Nat) (x : Int) : List T3 := A.set k (frm A k, too A k, cpy A k + x)
theorem wd_len (A : List T3) (k : Nat) (x : Int) : (wd A k x).length = A.length := List.length_set
theorem wd_at {A : List T3} {k : Nat} {x : Int} (hk : k < A.length) (j : Nat) : (wd A k x).getD j (0, 0, 0) = if k = j then (frm A k, too A k, cpy A k + x) else A.getD j (0, 0, 0) := by
  unfold wd
  rw [List.getD, List.getElem?_set]
  by_cases e : k = j
  · subst e; rw [if_pos rfl, if_pos hk, if_pos rfl]; rfl
  · rw [if_neg e, if_neg e]; rfl
theorem wd_ft {A : List T3} {k : Nat} {x : Int} (hk : k < A.length) (j : Nat) : frm (wd A k x) j = frm A j ∧ too (wd A k x) j = too A j := by
  unfold frm too
  rw [wd_at hk]
  by_cases e : k = j
  · subst e; rw [if_pos rfl]; exact ⟨rfl, rfl⟩
  · rw [if_neg e]; exact ⟨rfl, rfl⟩
theorem wd_cpy {A : List T3} {k : Nat} {x : Int} (hk : k < A.length) (j : Nat) : cpy (wd A k x) j = cpy A j + if k = j then x else 0 := by
  show ((wd A k x).getD j (0, 0, 0)).2.2 = _
  rw [wd_at hk]
  by_cases e : k = j
  · subst e; rw [if_pos rfl, if_pos rfl]
  · rw [if_neg e, if_neg e]; exact (Int.add_zero _).symm
theorem wd_net {N : Nat} {A : List T3} {k : Nat} {x : Int} (hn : NetOk N A) (hk : k < A.length) (hx : 0 ≤ x) (hm : x ≤ 1000000 - cpy A k) : NetOk N (wd A k x) := by
  refine ⟨hn.n2, hn.n40, by rw [wd_len]; exact hn.a200, fun i hi => ?_⟩
  rw [wd_len] at hi
  rw [(wd_ft hk i).1, (wd_ft hk i).2, wd_cpy hk]
  have := hn.arc i hi
  by_cases e : k = i
  · subst e; rw [if_pos rfl]; omega
  · rw [if_neg e]; omega
theorem wd_isW {N : Nat} {A : List T3} {k : Nat} {x : Int} {f : List Int} (hk : k < A.length) (hx : 0 ≤ x) (h : isW N A f) : isW N (wd A k x) f := by
  refine ⟨⟨by rw [wd_len]; exact h.1.1, fun i hi => ?_⟩, fun v h1 h2 => ?_⟩
  · have := h.1.2 i hi
    rw [wd_cpy hk]
    split <;> omega
  · rw [wd_len, bal_arcs (wd_ft hk)]; exact h.2 v h1 h2
theorem wd_cut {A : List T3} {k : Nat} {x : Int} {s : List Bool} (hk : k < A.length) (hx : 0 ≤ x) : ∀ c, cutTo (wd A k x) s c ≤ cutTo A s c + if k < c then x else 0
  | 0 => by simp [cutTo]
  | c + 1 => by
    have ih := wd_cut (s := s) hk hx c
    simp only [cutTo]
    rw [(wd_ft hk c).1, (wd_ft hk c).2, wd_cpy hk]
    by_cases e : k = c
    · subst e
      rw [if_neg (by omega)] at ih
      rw [if_pos rfl, if_pos (show k < k + 1 by omega)]
      split <;> omega
    · rw [if_neg e]
      have e2 : (if k < c + 1 then x else 0) = if k < c then x else 0 := by
        by_cases h : k < c
        · rw [if_pos h, if_pos (by omega)]
        · rw [if_neg h, if_neg (by omega)]
      rw [e2]
      split <;> omega
/-- the greatest value grows by at most as much, and does not fall -/
theorem mx_grow {N : Nat} {A : List T3} {k : Nat} {x : Int} (hn : NetOk N A) (ha : A.length < 200) (hk : k < A.length) (hx : 0 ≤ x) (hm : x ≤ 1000000 - cpy A k) (h1 : Mx N A) (h2 : Mx N (wd A k x)) :
    - bal A (gf N A) 0 A.length ≤ - bal (wd A k x) (gf N (wd A k x)) 0 (wd A k x).length ∧ - bal (wd A k x) (gf N (wd A k x)) 0 (wd A k x).length ≤ - bal A (gf N A) 0 A.length + x := by
  have hn2 := wd_net hn hk hx hm
  constructor
  · have := h2.is.2.1 _ (wd_isW hk hx h1.is.1)
    rw [bal_arcs (wd_ft hk) (wd A k x).length (f := gf N A), wd_len] at this
    rw [wd_len]
    omega
  · obtain ⟨hs, hc⟩ := mx_proves hn h1 ha
    have h3 := (cut_weak hn2 h2.is.1 hs).1
    have h4 := wd_cut (s := rchL N A (gf N A)) hk hx A.length
    rw [if_pos hk] at h4
    rw [wd_len] at h3 ⊢
    omega

/-! ### the other way round -/
def sm (t : Nat → Int) : Nat → Int
  | 0 => 0
  | c + 1 => sm t c + t c
theorem sm_congr {t u : Nat → Int} : ∀ {c : Nat}, (∀ j, j < c → t j = u j) → sm t c = sm u c
  | 0, _ => rfl
  | c + 1, h => by simp only [sm]; rw [sm_congr (c := c) fun j hj => h j (by omega), h c (by omega)]
theorem sm_first (t : Nat → Int) : ∀ c, sm t (c + 1) = t 0 + sm (fun j => t (j + 1)) c
  | 0 => by simp [sm]
  | c + 1 => by
    have ih := sm_first t c
    simp only [sm] at ih ⊢
    omega
theorem sm_rev (t : Nat → Int) : ∀ n, sm (fun j => t (n - 1 - j)) n = sm t n
  | 0 => rfl
  | n + 1 => by
    rw [sm_first t n]
    show sm (fun j => t (n + 1 - 1 - j)) n + t (n + 1 - 1 - n) = _
    rw [show n + 1 - 1 - n = 0 by omega, ← sm_rev (fun j => t (j + 1)) n, sm_congr (u := fun j => t (n - 1 - j + 1)) fun j hj => by show t (n + 1 - 1 - j) = t (n - 1 - j + 1); rw [show n + 1 - 1 - j = n - 1 - j + 1 by omega]]
    omega
theorem bal_sm {A : List T3} {f : List Int} {v : Int} : ∀ c, bal A f v c = sm (fun j => (if too A j = v then f.getD j 0 else 0) - (if frm A j = v then f.getD j 0 else 0)) c
  | 0 => rfl
  | c + 1 => by simp only [bal, sm]; rw [bal_sm c]; omega
theorem rev_get {α : Type} {l : List α} {d : α} {j : Nat} (h : j < l.length) : l.reverse.getD j d = l.getD (l.length - 1 - j) d := by
  rw [List.getD, List.getD, List.getElem?_reverse h]
theorem rev_arc {A : List T3} {j : Nat} (h : j < A.length) : frm A.reverse j = frm A (A.length - 1 - j) ∧ too A.reverse j = too A (A.length - 1 - j) ∧ cpy A.reverse j = cpy A (A.length - 1 - j) := by
  unfold frm too cpy; rw [rev_get h]; exact ⟨rfl, rfl, rfl⟩
theorem bal_rev {A : List T3} {f : List Int} {v : Int} (hl : f.length = A.length) : bal A.reverse f.reverse v A.length = bal A f v A.length := by
  rw [bal_sm, bal_sm, ← sm_rev]
  refine sm_congr fun j hj => ?_
  have hj2 : A.length - 1 - j < A.length := by omega
  rw [(rev_arc hj2).1, (rev_arc hj2).2.1, rev_get (by omega), hl, show A.length - 1 - (A.length - 1 - j) = j by omega]
theorem rev_net {N : Nat} {A : List T3} (hn : NetOk N A) : NetOk N A.reverse := by
  refine ⟨hn.n2, hn.n40, by rw [List.length_reverse]; exact hn.a200, fun i hi => ?_⟩
  rw [List.length_reverse] at hi
  rw [(rev_arc hi).1, (rev_arc hi).2.1, (rev_arc hi).2.2]
  exact hn.arc _ (by omega)
theorem rev_isW {N : Nat} {A : List T3} {f : List Int} (h : isW N A f) : isW N A.reverse f.reverse := by
  have hl := h.1.1
  refine ⟨⟨by rw [List.length_reverse, List.length_reverse]; exact hl, fun i hi => ?_⟩, fun v h1 h2 => ?_⟩
  · rw [List.length_reverse] at hi
    rw [rev_get hi, (rev_arc (by omega)).2.2, hl]
    exact h.1.2 _ (by omega)
  · rw [List.length_reverse, bal_rev hl]; exact h.2 v h1 h2
theorem mx_turn {N : Nat} {A : List T3} (h1 : Mx N A) (h2 : Mx N A.reverse) : bal A (gf N A) 0 A.length = bal A.reverse (gf N A.reverse) 0 A.reverse.length := by
  have e1 := h2.is.2.1 _ (rev_isW h1.is.1)
  have e2 := h1.is.2.1 (gf N A.reverse).reverse (by have := rev_isW h2.is.1; rwa [List.reverse_reverse] at this)
  have l1 := h1.is.1.1.1
  have l2 := h2.is.1.1.1
  rw [List.length_reverse] at l2
  rw [List.length_reverse, bal_rev l1] at e1
  have e3 := bal_rev (A := A.reverse) (f := gf N A.reverse) (v := 0) (by rw [List.length_reverse]; exact l2)
  rw [List.reverse_reverse, List.length_reverse] at e3
  rw [List.length_reverse]
  omega
end Go.Proofs.Ytpdldifklgpikaa
set_option linter.unusedVariables false
set_option linter.unusedSimpArgs false
namespace Go.Eng
open Go.RowKit

section
variable {P : Program} {tys : List Ty} {all : List Oper} {wr : List Nat} {md : Region.Mode}
/-- Whatever the world. -/
def isFree2 : Op → Bool
  | .fieldAddr _ _ _ => true
  | o => isFree o
theorem opq_free {fr : Fr} {w : World} {K : Value → Prop} (hty : TyOk P tys) {o : Oper} (hq : isQ o.op = true) (hf : isFree2 o.op = true) (h : opq P tys o.op o.type fr w K) : ∃ v, (∀ w', (execOp (ev fr) o).run P w' = .ok (.value v) w') ∧ K v := by
  by_cases hs : ∃ S x f, o.op = .fieldAddr S x f
  · obtain ⟨S, x, f, e⟩ := hs
    rw [e] at h
    unfold opq at h
    simp only [evK_eq] at h
    split at h
    · rename_i p n fs e1 e2
      have hS := hty.at S
      rw [e2] at hS
      split at h
      · rename_i off sz e3
        obtain ⟨g, q, hu, hqq, ho, hff⟩ := st_field hS e3
        have hne : P.cellsOf q.type ≠ 0 := by
          simp only [fieldFits, Bool.and_eq_true] at hff
          have h2 := hff.2
          cases sz <;> simp only [Bool.and_eq_true, beq_iff_eq, bne_iff_ne] at h2 <;> omega
        have hoff : q.offset = off := ho
        refine ⟨_, fun w' => ?_, h⟩
        obtain ⟨dst, op, T, pos, after, guard⟩ := o
        dsimp only at e
        subst e
        simp [execOp, e1, Instr.fieldAt, run_underlying hu, hqq, Instr.sureAddr, fieldPlace, sizeOf_run rfl hne, hne, hoff]
      · simp [Stuck] at h
    · simp [Stuck] at h
  · have hf2 : isFree o.op = true := by
      unfold isFree2 at hf
      split at hf
      · rename_i S x f e; exact absurd ⟨S, x, f, e⟩ hs
      · exact hf
    obtain ⟨v, hy, hk⟩ := opq_sound hty o h
    exact ⟨v, fun w' => quiet_free hf2 (quiet_value hq hy w (Ext.refl w)), hk⟩

noncomputable def quietB2 (md : Region.Mode) (ops : Array Oper) (wr : List Nat) (i : Nat) : Bool :=
  match ops[i]? with
  | none => false
  | some o => isQ o.op && !memB wr i && (isFree2 o.op || wr.all fun j => j == i || befB md ops ops.size i j || befB md ops ops.size j i) &&
    (List.range ops.size).all fun j => j == i || Region.waitsFor md ops j i || Region.waitsFor md ops i j || (match ops[j]? with | some oj => sepB ops o oj | none => true)

noncomputable def chk2 (md : Region.Mode) (ops : Array Oper) (wr : List Nat) : Plan → Bool → Array Bool → Bool
  | .nil, false, l => (Region.ready md ops l).isEmpty
  | .nil, true, _ => true
  | .q i p, false, l => quietB2 md ops wr i && (Region.ready md ops l).contains i && chk2 md ops wr p false (l.setIfInBounds i true)
  | .q _ _, true, _ => false
  | .e i p r, alt, l => chk2 md ops wr p false (l.setIfInBounds i true) && chk2 md ops wr r true l && (alt || ((Region.ready md ops l).contains i && (Region.ready md ops l).all fun j => (Plan.e i p r).heads.contains j))

noncomputable def planB2 (md : Region.Mode) (all : List Oper) (wr : List Nat) (p : Plan) : Bool :=
  (all.all fun o => plainOp o.op) && decide (p.depth ≤ all.length) && chk2 md all.toArray wr p false (Array.replicate all.length false)


theorem pw_sound2 (hty : TyOk P tys) (hpl : ∀ (j : Nat) (o : Oper), all.toArray[j]? = some o → plainOp o.op = true) (K : Fr → World → Prop) : ∀ (p : Plan) (listed : Array Bool) (fr : Fr) (w : World), Closed md all.toArray listed →
    (pw P tys all wr p false fr w K → chk2 md all.toArray wr p false listed = true → ∀ n, p.depth ≤ n → ∀ w', Ext w w' → anyS P md all.toArray wr (Qp K) n listed (Act.mk fr.toArray []) w') ∧
    (pw P tys all wr p true fr w K → chk2 md all.toArray wr p true listed = true → ∀ n, p.depth ≤ n + 1 → ∀ w', Ext w w' → ∀ j ∈ p.heads, j ∈ Region.ready md all.toArray listed → stepS P all.toArray wr j (anyS P md all.toArray wr (Qp K) n (listed.setIfInBounds j true)) (Act.mk fr.toArray []) w') := by
  intro p
  induction p with
  | nil =>
    intro listed fr w _
    refine ⟨fun h hc n _ w' hw => ?_, fun _ _ n _ w' _ j hj => by simp [Plan.heads] at hj⟩
    have h0 : Region.ready md all.toArray listed = [] := by simpa [chk2] using hc
    have hQ : Qp K (Act.mk fr.toArray []) w' := ⟨fr, w, rfl, hw, h⟩
    cases n with
    | zero => exact ⟨h0, hQ⟩
    | succ n => exact ⟨fun _ => hQ, fun i hi => by rw [h0] at hi; cases hi⟩
  | q i p ih =>
    intro listed fr w hcl
    refine ⟨fun h hc n hn w' hw => ?_, fun _ hc => by simp [chk2] at hc⟩
    have h : nthOp all i fun o => grd all fr o.guard (opq P tys o.op o.type fr w fun v => putK fr o.dst v fun fr' => pw P tys all wr p false fr' w K) (putK fr o.dst undef fun fr' => pw P tys all wr p false fr' w K) := h
    obtain ⟨o, ho, h⟩ := nthOp_spec h
    simp only [chk2, Bool.and_eq_true] at hc
    obtain ⟨⟨hq, hr⟩, hc⟩ := hc
    have hir : i ∈ Region.ready md all.toArray listed := by simpa using hr
    unfold quietB2 at hq
    rw [ho] at hq
    simp only [Bool.and_eq_true, Bool.or_eq_true, List.all_eq_true] at hq
    obtain ⟨⟨⟨hQ, hni⟩, hfw⟩, hsep⟩ := hq
    have hni' : i ∉ wr := fun h => by rw [memB_spec.2 h] at hni; simp at hni
    have hsep' : ∀ (j : Nat) (oj : Oper), j ≠ i → all.toArray[j]? = some oj → Region.waitsFor md all.toArray j i = true ∨ Region.waitsFor md all.toArray i j = true ∨ sepB all.toArray o oj = true := fun j oj hj hoj => by
      have hlt : j < all.toArray.size := (Array.getElem?_eq_some_iff.1 hoj).1
      have := hsep j (List.mem_range.2 hlt)
      rw [hoj] at this
      rcases this with ((h1 | h1) | h1) | h1
      · exact absurd (by simpa using h1) hj
      · exact .inl h1
      · exact .inr (.inl h1)
      · exact .inr (.inr h1)
    obtain ⟨m, rfl⟩ : ∃ m, n = m + 1 := ⟨n - 1, by simp only [Plan.depth] at hn; omega⟩
    have hm : p.depth ≤ m := by simp only [Plan.depth] at hn; omega
    have next : ∀ v, pw P tys all wr p false (putF fr o.dst v) w K → anyS P md all.toArray wr (Qp K) m (listed.setIfInBounds i true) ((Act.mk fr.toArray []).put o.dst v) w' := fun v hv => by
      rw [act_put]
      exact (ih _ _ w (closed_set hcl hir)).1 hv hc m hm w' hw
    rcases grd_spec h with ⟨hwt, h⟩ | ⟨hwt, h⟩
    · rcases hfw with hf | hw2
      · obtain ⟨v, hval, hk⟩ := opq_free hty hQ hf h
        rw [putK_eq] at hk
        refine insert_quiet (C := fun _ => True) ho hpl hsep' (fun _ _ _ _ => trivial) (.inl fun _ => trivial) hni' m listed _ w' trivial hcl hir (.inl ⟨hwt, fun w2 _ => ?_⟩) (next v hk)
        rw [ev_eq]
        exact hval w2
      · obtain ⟨v, hy, hk⟩ := opq_sound hty o h
        rw [putK_eq] at hk
        have hval := quiet_value hQ hy
        refine insert_quiet (C := fun w2 => Ext w w2) ho hpl hsep' (fun _ _ h1 h2 => h1.trans h2) (.inr fun j hj hji => ?_) hni' m listed _ w' hw hcl hir (.inl ⟨hwt, fun w2 h2 => by rw [ev_eq]; exact hval w2 h2⟩) (next v hk)
        rcases hw2 j hj with (h3 | h3) | h3
        · exact absurd (by simpa using h3) hji
        · exact ⟨_, .inl h3⟩
        · exact ⟨_, .inr h3⟩
    · rw [putK_eq] at h
      exact insert_quiet (C := fun _ => True) (v := undef) ho hpl hsep' (fun _ _ _ _ => trivial) (.inl fun _ => trivial) hni' m listed _ w' trivial hcl hir (.inr ⟨hwt, rfl⟩) (next undef h)
  | e i p r ihp ihr =>
    intro listed fr w hcl
    have step : ∀ alt, pw P tys all wr (.e i p r) alt fr w K → chk2 md all.toArray wr (.e i p r) alt listed = true → ∀ n, (Plan.e i p r).depth ≤ n + 1 → ∀ w', Ext w w' → ∀ j ∈ (Plan.e i p r).heads, j ∈ Region.ready md all.toArray listed →
        stepS P all.toArray wr j (anyS P md all.toArray wr (Qp K) n (listed.setIfInBounds j true)) (Act.mk fr.toArray []) w' := by
      intro alt h hc n hn w' hw j hj hjr
      have h : andT r (nthOp all i fun o => grd all fr o.guard (effK P tys (memB wr i) o fr w fun v w' => putK fr o.dst v fun fr' => pw P tys all wr p false fr' w' K) (putK fr o.dst undef fun fr' => pw P tys all wr p false fr' w K)) (pw P tys all wr r true fr w K) := h
      obtain ⟨hA, hB⟩ := andT_spec h
      simp only [chk2, Bool.and_eq_true] at hc
      obtain ⟨⟨hcp, hcr⟩, _⟩ := hc
      simp only [Plan.depth] at hn
      simp only [Plan.heads, List.mem_cons] at hj
      rcases hj with rfl | hj
      · obtain ⟨o, ho, hA⟩ := nthOp_spec hA
        have next : ∀ v wb w'', Ext wb w'' → pw P tys all wr p false (putF fr o.dst v) wb K → anyS P md all.toArray wr (Qp K) n (listed.setIfInBounds j true) ((Act.mk fr.toArray []).put o.dst v) w'' := fun v wb w'' hx hv => by
          rw [act_put]
          exact (ihp _ _ wb (closed_set hcl hjr)).1 hv hcp n (by omega) w'' hx
        unfold stepS
        rw [ho]
        dsimp only
        rcases grd_spec hA with ⟨hwt, hA⟩ | ⟨hwt, hA⟩
        · rw [if_pos hwt, ev_eq]
          cases hmem : memB wr j with
          | true =>
            rw [hmem] at hA
            refine ok1_mono (op1_ok1 hty o hw hA) fun u w'' ⟨v, wb, he, hx, hK⟩ => ⟨fun hh => absurd (memB_spec.1 hmem) hh, ?_⟩
            rw [putK_eq] at hK
            rw [he]
            exact next v wb w'' hx hK
          | false =>
            rw [hmem] at hA
            refine ok1_mono (opx_sound (tys := tys) hty o hw hA) fun v w'' ⟨hxx, wb, hx, hK⟩ => ⟨fun _ => hxx, ?_⟩
            rw [putK_eq] at hK
            exact next v wb w'' hx hK
        · rw [if_neg (by rw [hwt]; simp)]
          rw [putK_eq] at hA
          exact next undef w w' hw hA
      · rcases hB with rfl | hB
        · simp [Plan.heads] at hj
        · exact (ihr listed fr w hcl).2 hB hcr n (by omega) w' hw j hj hjr
    refine ⟨fun h hc n hn w' hw => ?_, step true⟩
    have hall := hc
    simp only [chk2, Bool.and_eq_true, Bool.false_or] at hall
    have hall := hall.2
    obtain ⟨m, rfl⟩ : ∃ m, n = m + 1 := ⟨n - 1, by simp only [Plan.depth] at hn; omega⟩
    refine ⟨fun h0 => ?_, fun j hj => ?_⟩
    · have := hall.1
      rw [h0] at this; simp at this
    · refine step false h hc m hn w' hw j ?_ hj
      have := List.all_eq_true.1 hall.2 j hj
      simpa using this


theorem Dr.plan2 (d : Nat) (wr : List Nat) (p : Plan) (hty : TyOk P tys) {fr : Fr} {w : World} {K : Fr → World → Prop} (_hd : firstDst all = some d) (hB : planB2 .any all wr p = true) (h : pw P tys all wr p false fr w K) : Dr P all fr w K := by
  simp only [Dr]
  intro id Q hk w' hw
  simp only [planB2, Bool.and_eq_true, decide_eq_true_eq, List.all_eq_true] at hB
  obtain ⟨⟨hpl, hd⟩, hc⟩ := hB
  refine wp_region_any hty.mixed ?_
  have hcl : Closed .any all.toArray (Array.replicate all.length false) := fun j k hj _ => by rw [getD_replicate_false all.length j] at hj; cases hj
  have := (pw_sound2 hty (fun j o ho => hpl o (List.mem_of_getElem? (by simpa using ho))) K p _ fr w hcl).1 h hc all.length hd _ (hw.drawn (w'.drawn + 1))
  refine any_of_anyS (Qf := Qp K) ?_ _ _ _ _ (by simpa using this)
  rintro a w2 ⟨fr', wb, rfl, hx, hK⟩
  exact hk fr' wb w2 hx hK

end
end Go.Eng
set_option linter.unusedVariables false
set_option linter.unusedSimpArgs false
namespace Go.Proofs.Ytpdldifklgpikaa
open Go.Eng
set_option maxRecDepth 100000
set_option maxHeartbeats 4000000

theorem flat3_set2 : ∀ (A : List T3) (k : Nat) (x : Int), k < A.length → (flat3 A).set (k * 3 + 2) (i64v x) = flat3 (A.set k ((A.getD k (0, 0, 0)).1, (A.getD k (0, 0, 0)).2.1, x))
  | [], k, x, h => absurd h (by simp)
  | p :: r, 0, x, _ => rfl
  | p :: r, k + 1, x, h => by
    rw [show (k + 1) * 3 + 2 = k * 3 + 2 + 1 + 1 + 1 by omega]
    simp only [flat3, List.set_cons_succ]
    rw [flat3_set2 r k x (by simpa using h)]
    rfl
theorem OA.set2 {B : Nat} {w : World} {v : Value} {A : List T3} {k : Nat} {x : Int} {K : World → Prop} (h : OA B w v A) (hk : k < A.length)
    (hK : ∀ w', Gr (fun j => v.ownBlock = some j) w w' → OA B w' v (A.set k (frm A k, too A k, x)) → K w') : St w ((ea v (k * 3)).add 2) (.int .i64 x) K := by
  rcases ea_block (Own.sl h) (k * 3) 2 with e | e
  · rw [e]
    refine Go.Eng.Own.set h (by rw [flat3_len]; omega) rfl fun w' g h' => hK w' g ?_
    have h2 := flat3_set2 A k x hk
    unfold i64v at h2
    rw [h2] at h'
    show Go.Eng.Own _ _ _ _ _ (A.set k _).length _
    rw [List.length_set]
    exact h'
  · omega
theorem turn_take {A : List T3} {c : Nat} (h : c < A.length) : A.reverse.take (c + 1) = A.reverse.take c ++ [A.getD (A.length - 1 - c) (0, 0, 0)] := by
  have h2 : c < A.reverse.length := by rw [List.length_reverse]; exact h
  rw [List.take_succ_eq_append_getElem h2]
  congr 2
  have := rev_get (d := ((0, 0, 0) : T3)) h
  rw [← this, List.getD, List.getElem?_eq_getElem h2]; rfl
theorem OA.snoc {B : Nat} {w : World} {v : Value} {l : List T3} {p : T3} (h : Go.Eng.Own B 56 3 w v (l.length + 1) (flat3 l ++ [.int .i64 p.1, .int .i64 p.2.1, .int .i64 p.2.2])) : OA B w v (l ++ [p]) := by
  show Go.Eng.Own _ _ _ _ _ (l ++ [p]).length (flat3 (l ++ [p]))
  rw [List.length_append, flat3_app]; exact h

theorem flat3_one : ∀ (A : List T3), ∀ u ∈ flat3 A, u.oneCell' = true
  | [], u, h => by simp [flat3] at h
  | p :: r, u, h => by
    simp only [flat3, List.mem_cons] at h
    rcases h with rfl | rfl | rfl | h
    · rfl
    · rfl
    · rfl
    · exact flat3_one r u h

theorem gf_bd {N : Nat} {A : List T3} {f : List Int} (hk : NetOk N A) (h : isW N A f) : -(1000000 * (A.length : Int)) ≤ bal A f 0 A.length ∧ bal A f 0 A.length ≤ 1000000 * A.length :=
  bal_bd fun i hi => by
    have h1 := h.1.2 i (by rw [h.1.1]; exact hi)
    have h2 := hk.arc i hi
    omega

theorem flowgrows_pc {w : World} {n k more : Int} {sv : Value} {A : List T3} (HA : Trs w sv A) (Rk : -9223372036854775808 ≤ k ∧ k ≤ 9223372036854775807) (Rm : -9223372036854775808 ≤ more ∧ more ≤ 9223372036854775807) : PC Try.prog 6 [.agg #[.int .i64 n, sv], .int .i64 k, .int .i64 more] w (.bool true) := by
  refine PC.mk tyOk Try.func6 rfl (by kernel_rfl) fun w1 E1 => ?_
  replace HA := HA.ext E1
  have EE := Ext.refl w1
  refine Bx.agg fun b2 w2 E2 hb2 Hb _ => ?_
  replace HA := HA.ext E2
  replace EE := EE.ext E2
  have cg := greatN_pc (n := n) HA
  have cc := rnet_pc (n := n) HA
  have hle := HA.le
  by_cases hg : greatN n A
  · rw [tf_t hg] at cg
    repeat' ((conv => whnf); first | (refine Dr.quiet tyOk (by kernel_rfl) ?_) | (refine At.ldN Hb rfl ?_) | (refine VC.pure alive25_pc ?_) | (refine VC.pure cg ?_) | (refine VCQ.pure cg ?_) | (refine VC.pure cc ?_) | (refine VCQ.pure cc ?_) | (refine Trs.ln HA ?_) | (refine Trs.ix HA (by omega) ?_) | (refine Trs.ld2 HA (by omega) rfl ?_) | (refine Rng.mk (by omega) ?_) | (refine Split.pos (by omega) ?_) | (refine Split.neg (by omega) ?_) | (refine Split.mk (fun h => ?_) (fun h => ?_)) | (refine Need.mk (by omega) ?_) | (refine Ints.ln (by assumption) ?_) | (refine Mat.ln (by assumption) ?_) | (refine Ints.ln (Mat.row (by assumption) _ (by omega)) ?_) | (refine Ints.ix (by assumption) (by omega) ?_) | (refine Mat.ix (by assumption) (by omega) ?_) | (refine Ints.ix (Mat.row (by assumption) _ (by omega)) (by omega) ?_) | (refine Ints.ix (c := 0) (by assumption) (by omega) ?_) | (refine Mat.ix (c := 0) (by assumption) (by omega) ?_) | (refine Ints.ix (c := 0) (Mat.row (by assumption) _ (by omega)) (by omega) ?_) | (refine Ints.ixI (by assumption) (by omega) ?_) | (refine Mat.ixI (by assumption) (by omega) ?_) | (refine Ints.ixI (Mat.row (by assumption) _ (by omega)) (by omega) ?_) | (refine Ints.ld (by assumption) (by omega) ?_) | (refine Mat.ld (by assumption) (by omega) ?_) | (refine Ints.ld (Mat.row (by assumption) _ (by omega)) (by omega) ?_) | (refine At.ld (by assumption) rfl ?_) | (refine At.ldN (by assumption) rfl ?_) | (refine Prs.ln (by assumption) ?_) | (refine Trs.ln (by assumption) ?_) | (refine Prs.ix (by assumption) (by omega) ?_) | (refine Trs.ix (by assumption) (by omega) ?_) | (refine Prs.ldN (by assumption) (by omega) ?_) | (refine Trs.ldN (by assumption) (by omega) ?_) | (refine At.ldN (Blk.at (by assumption)) rfl ?_) | (refine At.ld (Blk.at (by assumption)) rfl ?_) | (refine IxA.mk (by omega) ?_) | (refine Sl.ln (Own.sl (by assumption)) ?_) | (refine Ints.ix (Own.sl (by assumption)) (by omega) ?_) | (refine Ints.ixI (Own.sl (by assumption)) (by omega) ?_) | (refine Ints.ld (Own.sl (by assumption)) (by omega) ?_))
    exact ⟨rfl, EE⟩
  · rw [tf_f hg] at cg
    by_cases hE : netE n A = 0
    · obtain ⟨N, rfl, hk⟩ := netOk hE
      have ha : A.length < 200 := by unfold greatN at hg; have := hk.a200; omega
      rw [hE] at cc
      by_cases hk0 : k < 0
      · repeat' ((conv => whnf); first | (refine Dr.quiet tyOk (by kernel_rfl) ?_) | (refine At.ldN Hb rfl ?_) | (refine VC.pure alive25_pc ?_) | (refine VC.pure cg ?_) | (refine VCQ.pure cg ?_) | (refine VC.pure cc ?_) | (refine VCQ.pure cc ?_) | (refine Trs.ln HA ?_) | (refine Trs.ix HA (by omega) ?_) | (refine Trs.ld2 HA (by omega) rfl ?_) | (refine Rng.mk (by omega) ?_) | (refine Split.pos (by omega) ?_) | (refine Split.neg (by omega) ?_) | (refine Split.mk (fun h => ?_) (fun h => ?_)) | (refine Need.mk (by omega) ?_) | (refine Ints.ln (by assumption) ?_) | (refine Mat.ln (by assumption) ?_) | (refine Ints.ln (Mat.row (by assumption) _ (by omega)) ?_) | (refine Ints.ix (by assumption) (by omega) ?_) | (refine Mat.ix (by assumption) (by omega) ?_) | (refine Ints.ix (Mat.row (by assumption) _ (by omega)) (by omega) ?_) | (refine Ints.ix (c := 0) (by assumption) (by omega) ?_) | (refine Mat.ix (c := 0) (by assumption) (by omega) ?_) | (refine Ints.ix (c := 0) (Mat.row (by assumption) _ (by omega)) (by omega) ?_) | (refine Ints.ixI (by assumption) (by omega) ?_) | (refine Mat.ixI (by assumption) (by omega) ?_) | (refine Ints.ixI (Mat.row (by assumption) _ (by omega)) (by omega) ?_) | (refine Ints.ld (by assumption) (by omega) ?_) | (refine Mat.ld (by assumption) (by omega) ?_) | (refine Ints.ld (Mat.row (by assumption) _ (by omega)) (by omega) ?_) | (refine At.ld (by assumption) rfl ?_) | (refine At.ldN (by assumption) rfl ?_) | (refine Prs.ln (by assumption) ?_) | (refine Trs.ln (by assumption) ?_) | (refine Prs.ix (by assumption) (by omega) ?_) | (refine Trs.ix (by assumption) (by omega) ?_) | (refine Prs.ldN (by assumption) (by omega) ?_) | (refine Trs.ldN (by assumption) (by omega) ?_) | (refine At.ldN (Blk.at (by assumption)) rfl ?_) | (refine At.ld (Blk.at (by assumption)) rfl ?_) | (refine IxA.mk (by omega) ?_) | (refine Sl.ln (Own.sl (by assumption)) ?_) | (refine Ints.ix (Own.sl (by assumption)) (by omega) ?_) | (refine Ints.ixI (Own.sl (by assumption)) (by omega) ?_) | (refine Ints.ld (Own.sl (by assumption)) (by omega) ?_))
        exact ⟨rfl, EE⟩
      · obtain ⟨q, rfl⟩ : ∃ q : Nat, k = (q : Int) := ⟨k.toNat, by omega⟩
        by_cases hq : q < A.length
        · by_cases hx : more < 0
          · repeat' ((conv => whnf); first | (refine Dr.quiet tyOk (by kernel_rfl) ?_) | (refine At.ldN Hb rfl ?_) | (refine VC.pure alive25_pc ?_) | (refine VC.pure cg ?_) | (refine VCQ.pure cg ?_) | (refine VC.pure cc ?_) | (refine VCQ.pure cc ?_) | (refine Trs.ln HA ?_) | (refine Trs.ix HA (by omega) ?_) | (refine Trs.ld2 HA (by omega) rfl ?_) | (refine Rng.mk (by omega) ?_) | (refine Split.pos (by omega) ?_) | (refine Split.neg (by omega) ?_) | (refine Split.mk (fun h => ?_) (fun h => ?_)) | (refine Need.mk (by omega) ?_) | (refine Ints.ln (by assumption) ?_) | (refine Mat.ln (by assumption) ?_) | (refine Ints.ln (Mat.row (by assumption) _ (by omega)) ?_) | (refine Ints.ix (by assumption) (by omega) ?_) | (refine Mat.ix (by assumption) (by omega) ?_) | (refine Ints.ix (Mat.row (by assumption) _ (by omega)) (by omega) ?_) | (refine Ints.ix (c := 0) (by assumption) (by omega) ?_) | (refine Mat.ix (c := 0) (by assumption) (by omega) ?_) | (refine Ints.ix (c := 0) (Mat.row (by assumption) _ (by omega)) (by omega) ?_) | (refine Ints.ixI (by assumption) (by omega) ?_) | (refine Mat.ixI (by assumption) (by omega) ?_) | (refine Ints.ixI (Mat.row (by assumption) _ (by omega)) (by omega) ?_) | (refine Ints.ld (by assumption) (by omega) ?_) | (refine Mat.ld (by assumption) (by omega) ?_) | (refine Ints.ld (Mat.row (by assumption) _ (by omega)) (by omega) ?_) | (refine At.ld (by assumption) rfl ?_) | (refine At.ldN (by assumption) rfl ?_) | (refine Prs.ln (by assumption) ?_) | (refine Trs.ln (by assumption) ?_) | (refine Prs.ix (by assumption) (by omega) ?_) | (refine Trs.ix (by assumption) (by omega) ?_) | (refine Prs.ldN (by assumption) (by omega) ?_) | (refine Trs.ldN (by assumption) (by omega) ?_) | (refine At.ldN (Blk.at (by assumption)) rfl ?_) | (refine At.ld (Blk.at (by assumption)) rfl ?_) | (refine IxA.mk (by omega) ?_) | (refine Sl.ln (Own.sl (by assumption)) ?_) | (refine Ints.ix (Own.sl (by assumption)) (by omega) ?_) | (refine Ints.ixI (Own.sl (by assumption)) (by omega) ?_) | (refine Ints.ld (Own.sl (by assumption)) (by omega) ?_))
            exact ⟨rfl, EE⟩
          · have hcp := hk.arc q hq
            have hcq : 0 ≤ (A.getD q (0, 0, 0)).2.2 ∧ (A.getD q (0, 0, 0)).2.2 ≤ 1000000 := hcp.2.2.2
            by_cases hm : 1000000 - (A.getD q (0, 0, 0)).2.2 < more
            · repeat' ((conv => whnf); first | (refine Dr.quiet tyOk (by kernel_rfl) ?_) | (refine At.ldN Hb rfl ?_) | (refine VC.pure alive25_pc ?_) | (refine VC.pure cg ?_) | (refine VCQ.pure cg ?_) | (refine VC.pure cc ?_) | (refine VCQ.pure cc ?_) | (refine Trs.ln HA ?_) | (refine Trs.ix HA (by omega) ?_) | (refine Trs.ld2 HA (by omega) rfl ?_) | (refine Rng.mk (by omega) ?_) | (refine Split.pos (by omega) ?_) | (refine Split.neg (by omega) ?_) | (refine Split.mk (fun h => ?_) (fun h => ?_)) | (refine Need.mk (by omega) ?_) | (refine Ints.ln (by assumption) ?_) | (refine Mat.ln (by assumption) ?_) | (refine Ints.ln (Mat.row (by assumption) _ (by omega)) ?_) | (refine Ints.ix (by assumption) (by omega) ?_) | (refine Mat.ix (by assumption) (by omega) ?_) | (refine Ints.ix (Mat.row (by assumption) _ (by omega)) (by omega) ?_) | (refine Ints.ix (c := 0) (by assumption) (by omega) ?_) | (refine Mat.ix (c := 0) (by assumption) (by omega) ?_) | (refine Ints.ix (c := 0) (Mat.row (by assumption) _ (by omega)) (by omega) ?_) | (refine Ints.ixI (by assumption) (by omega) ?_) | (refine Mat.ixI (by assumption) (by omega) ?_) | (refine Ints.ixI (Mat.row (by assumption) _ (by omega)) (by omega) ?_) | (refine Ints.ld (by assumption) (by omega) ?_) | (refine Mat.ld (by assumption) (by omega) ?_) | (refine Ints.ld (Mat.row (by assumption) _ (by omega)) (by omega) ?_) | (refine At.ld (by assumption) rfl ?_) | (refine At.ldN (by assumption) rfl ?_) | (refine Prs.ln (by assumption) ?_) | (refine Trs.ln (by assumption) ?_) | (refine Prs.ix (by assumption) (by omega) ?_) | (refine Trs.ix (by assumption) (by omega) ?_) | (refine Prs.ldN (by assumption) (by omega) ?_) | (refine Trs.ldN (by assumption) (by omega) ?_) | (refine At.ldN (Blk.at (by assumption)) rfl ?_) | (refine At.ld (Blk.at (by assumption)) rfl ?_) | (refine IxA.mk (by omega) ?_) | (refine Sl.ln (Own.sl (by assumption)) ?_) | (refine Ints.ix (Own.sl (by assumption)) (by omega) ?_) | (refine Ints.ixI (Own.sl (by assumption)) (by omega) ?_) | (refine Ints.ld (Own.sl (by assumption)) (by omega) ?_))
              exact ⟨rfl, EE⟩
            · have hm2 : more ≤ 1000000 - cpy A q := by show more ≤ 1000000 - (A.getD q (0, 0, 0)).2.2; omega
              have F : Ext w2 w2 := Ext.refl _
              have HA__1 := HA
              have EE__1 := EE
              have Hb__1 := Hb
              repeat' ((conv => whnf); first | (refine Dr.plan2 62 [5, 8] (.q 0 (.q 3 (.q 4 (.e 1 (.e 2 (.e 5 (.q 6 (.e 7 (.e 8 .nil .nil) .nil)) (.e 7 (.e 5 (.q 6 (.e 8 .nil .nil)) .nil) .nil)) (.e 7 (.e 2 (.e 5 (.q 6 (.e 8 .nil .nil)) .nil) .nil) .nil)) (.e 2 (.e 1 (.e 5 (.q 6 (.e 7 (.e 8 .nil .nil) .nil)) (.e 7 (.e 5 (.q 6 (.e 8 .nil .nil)) .nil) .nil)) (.e 5 (.e 1 (.q 6 (.e 7 (.e 8 .nil .nil) .nil)) (.e 7 (.e 1 (.q 6 (.e 8 .nil .nil)) .nil) .nil)) (.e 7 (.e 1 (.e 5 (.q 6 (.e 8 .nil .nil)) .nil) (.e 5 (.e 1 (.q 6 (.e 8 .nil .nil)) .nil) .nil)) .nil))) (.e 7 (.e 1 (.e 2 (.e 5 (.q 6 (.e 8 .nil .nil)) .nil) .nil) (.e 2 (.e 1 (.e 5 (.q 6 (.e 8 .nil .nil)) .nil) (.e 5 (.e 1 (.q 6 (.e 8 .nil .nil)) .nil) .nil)) .nil)) .nil)))))) tyOk rfl (by kernel_rfl) ?_) | (refine Dr.plan2 90 [8, 10] (.q 0 (.q 1 (.q 2 (.q 3 (.q 4 (.q 5 (.q 6 (.e 7 (.e 8 (.q 9 (.e 10 .nil .nil)) .nil) .nil)))))))) tyOk rfl (by kernel_rfl) ?_) | (refine Dr.quiet tyOk (by kernel_rfl) ?_) | (refine At.ldN Hb rfl ?_) | (refine VC.pure alive25_pc ?_) | (refine VC.pure cg ?_) | (refine VCQ.pure cg ?_) | (refine VC.pure cc ?_) | (refine VCQ.pure cc ?_) | (refine Trs.ln HA ?_) | (refine Trs.ix HA (by omega) ?_) | (refine Trs.ld2 HA (by omega) rfl ?_) | (refine Rng.mk (by omega) ?_) | (refine Split.pos (by omega) ?_) | (refine Split.neg (by omega) ?_) | (refine Split.mk (fun h => ?_) (fun h => ?_)) | (refine Need.mk (by omega) ?_) | (refine Ints.ln (by assumption) ?_) | (refine Mat.ln (by assumption) ?_) | (refine Ints.ln (Mat.row (by assumption) _ (by omega)) ?_) | (refine Ints.ix (by assumption) (by omega) ?_) | (refine Mat.ix (by assumption) (by omega) ?_) | (refine Ints.ix (Mat.row (by assumption) _ (by omega)) (by omega) ?_) | (refine Ints.ix (c := 0) (by assumption) (by omega) ?_) | (refine Mat.ix (c := 0) (by assumption) (by omega) ?_) | (refine Ints.ix (c := 0) (Mat.row (by assumption) _ (by omega)) (by omega) ?_) | (refine Ints.ixI (by assumption) (by omega) ?_) | (refine Mat.ixI (by assumption) (by omega) ?_) | (refine Ints.ixI (Mat.row (by assumption) _ (by omega)) (by omega) ?_) | (refine Ints.ld (by assumption) (by omega) ?_) | (refine Mat.ld (by assumption) (by omega) ?_) | (refine Ints.ld (Mat.row (by assumption) _ (by omega)) (by omega) ?_) | (refine At.ld (by assumption) rfl ?_) | (refine At.ldN (by assumption) rfl ?_) | (refine Prs.ln (by assumption) ?_) | (refine Trs.ln (by assumption) ?_) | (refine Prs.ix (by assumption) (by omega) ?_) | (refine Trs.ix (by assumption) (by omega) ?_) | (refine Prs.ldN (by assumption) (by omega) ?_) | (refine Trs.ldN (by assumption) (by omega) ?_) | (refine At.ldN (Blk.at (by assumption)) rfl ?_) | (refine At.ld (Blk.at (by assumption)) rfl ?_) | (refine IxA.mk (by omega) ?_) | (refine Sl.ln (Own.sl (by assumption)) ?_) | (refine Ints.ix (Own.sl (by assumption)) (by omega) ?_) | (refine Ints.ixI (Own.sl (by assumption)) (by omega) ?_) | (refine Ints.ld (Own.sl (by assumption)) (by omega) ?_))
              have key : ∀ (wz : World) (b : Nat) (l0 wv : Value), Ext w2 wz → w2.heap.size ≤ b → Blk wz b 24 [.int .i64 (N : Int), wv] → Go.Eng.Own w2.heap.size 56 3 wz wv (0 + A.length) ([] ++ flat3 A) → (?P : World → Nat → Value → Value → Prop) wz b l0 wv := ?key
              · repeat' ((conv => whnf); first | (refine And.intro ?_ ?_) | (refine VX.lit0 Try.underlying22 eArc fun lv wl Fl Hl0 => ?_; have HL := Hl0 _ F.size; (try replace HK := HK.ext Fl); replace F := F.trans Fl) | (refine VX.alloc eNet fun b wb Fb hb HK => ?_; have hbb := Nat.le_trans F.size hb; (try replace HL := Own.ext HL Fb); (try replace HD := Own.ext HD Fb); replace F := F.trans Fb) | (refine VE.app Try.underlying22 eArc rfl (by omega) HL F rfl (HA.ext F) (by exact (flat3_one A)) (by omega) (by omega) fun dv wd Fd Gd HD => ?_; (try replace HK := Blk.row HK HL (by decide) Gd); replace F := Fd) | (refine Blk.all HK (by kernel_rfl) (by decide) rfl rfl (by intro v hv; simp at hv; rcases hv with rfl | rfl; rfl; exact (Sl.cells (Own.sl HD)).2) fun wz Gz HKz => ?_; refine key wz b lv dv (F.new Gz (fun i hi hk => by omega)) hbb HKz (Own.blk HD HK (by decide) Gz)) | (refine VS.sparseR (ps := [(0, .int .i64 (N : Int)), (1, dv)]) #[.int .i64 (N : Int), dv] Try.underlying24 eNet (by decide +kernel) (by intro p hp; simp only [List.mem_cons, List.not_mem_nil, or_false] at hp; rcases hp with rfl | rfl; exact ⟨by kernel_rfl, by simp, rfl⟩; exact ⟨by kernel_rfl, by simp, (Sl.cells (Own.sl HD)).1⟩) rfl ?_) | (refine At.ld (Hb.ext F) rfl ?_) | (refine Blk.ldA (Hb.ext F) rfl ?_))
              intro wz wb l0 wv Fz hwb HW HO
              replace HO : OA w2.heap.size wz wv A := by rw [List.nil_append, Nat.zero_add] at HO; exact HO
              replace HA := HA.ext Fz
              replace EE := EE.ext Fz
              replace Hb := Hb.ext Fz
              repeat' ((conv => whnf); first | (refine Dr.quiet tyOk (by kernel_rfl) ?_) | (refine Blk.ldA HW rfl ?_) | (refine Trs.ix (Own.sl HO) (by omega) ?_) | (refine Trs.ld2 (Own.sl HO) (by omega) rfl ?_) | (refine Rng.mk (by omega) ?_) | (refine Split.pos (by omega) ?_) | (refine Split.neg (by omega) ?_) | (refine Split.mk (fun h => ?_) (fun h => ?_)) | (refine Need.mk (by omega) ?_) | (refine Ints.ln (by assumption) ?_) | (refine Mat.ln (by assumption) ?_) | (refine Ints.ln (Mat.row (by assumption) _ (by omega)) ?_) | (refine Ints.ix (by assumption) (by omega) ?_) | (refine Mat.ix (by assumption) (by omega) ?_) | (refine Ints.ix (Mat.row (by assumption) _ (by omega)) (by omega) ?_) | (refine Ints.ix (c := 0) (by assumption) (by omega) ?_) | (refine Mat.ix (c := 0) (by assumption) (by omega) ?_) | (refine Ints.ix (c := 0) (Mat.row (by assumption) _ (by omega)) (by omega) ?_) | (refine Ints.ixI (by assumption) (by omega) ?_) | (refine Mat.ixI (by assumption) (by omega) ?_) | (refine Ints.ixI (Mat.row (by assumption) _ (by omega)) (by omega) ?_) | (refine Ints.ld (by assumption) (by omega) ?_) | (refine Mat.ld (by assumption) (by omega) ?_) | (refine Ints.ld (Mat.row (by assumption) _ (by omega)) (by omega) ?_) | (refine At.ld (by assumption) rfl ?_) | (refine At.ldN (by assumption) rfl ?_) | (refine Prs.ln (by assumption) ?_) | (refine Trs.ln (by assumption) ?_) | (refine Prs.ix (by assumption) (by omega) ?_) | (refine Trs.ix (by assumption) (by omega) ?_) | (refine Prs.ldN (by assumption) (by omega) ?_) | (refine Trs.ldN (by assumption) (by omega) ?_) | (refine At.ldN (Blk.at (by assumption)) rfl ?_) | (refine At.ld (Blk.at (by assumption)) rfl ?_) | (refine IxA.mk (by omega) ?_) | (refine Sl.ln (Own.sl (by assumption)) ?_) | (refine Ints.ix (Own.sl (by assumption)) (by omega) ?_) | (refine Ints.ixI (Own.sl (by assumption)) (by omega) ?_) | (refine Ints.ld (Own.sl (by assumption)) (by omega) ?_))
              refine OA.set2 HO hq fun w50 G50 HO5 => ?_
              replace HO5 : OA _ w50 wv (wd A q more) := HO5
              have F5 := Fz.new G50 (fun i hi e => by have := (Own.lt HO i e).1; omega)
              have HW5 := Blk.row HW HO (by decide) G50
              replace HA := HA__1.ext F5
              replace Hb := Hb__1.ext F5
              replace EE := EE__1.ext F5
              repeat' ((conv => whnf); first | (refine Dr.quiet tyOk (by kernel_rfl) ?_) | (refine At.ldN Hb rfl ?_) | (refine Rng.mk (by omega) ?_) | (refine Split.pos (by omega) ?_) | (refine Split.neg (by omega) ?_) | (refine Split.mk (fun h => ?_) (fun h => ?_)) | (refine Need.mk (by omega) ?_) | (refine Ints.ln (by assumption) ?_) | (refine Mat.ln (by assumption) ?_) | (refine Ints.ln (Mat.row (by assumption) _ (by omega)) ?_) | (refine Ints.ix (by assumption) (by omega) ?_) | (refine Mat.ix (by assumption) (by omega) ?_) | (refine Ints.ix (Mat.row (by assumption) _ (by omega)) (by omega) ?_) | (refine Ints.ix (c := 0) (by assumption) (by omega) ?_) | (refine Mat.ix (c := 0) (by assumption) (by omega) ?_) | (refine Ints.ix (c := 0) (Mat.row (by assumption) _ (by omega)) (by omega) ?_) | (refine Ints.ixI (by assumption) (by omega) ?_) | (refine Mat.ixI (by assumption) (by omega) ?_) | (refine Ints.ixI (Mat.row (by assumption) _ (by omega)) (by omega) ?_) | (refine Ints.ld (by assumption) (by omega) ?_) | (refine Mat.ld (by assumption) (by omega) ?_) | (refine Ints.ld (Mat.row (by assumption) _ (by omega)) (by omega) ?_) | (refine At.ld (by assumption) rfl ?_) | (refine At.ldN (by assumption) rfl ?_) | (refine Prs.ln (by assumption) ?_) | (refine Trs.ln (by assumption) ?_) | (refine Prs.ix (by assumption) (by omega) ?_) | (refine Trs.ix (by assumption) (by omega) ?_) | (refine Prs.ldN (by assumption) (by omega) ?_) | (refine Trs.ldN (by assumption) (by omega) ?_) | (refine At.ldN (Blk.at (by assumption)) rfl ?_) | (refine At.ld (Blk.at (by assumption)) rfl ?_) | (refine IxA.mk (by omega) ?_) | (refine Sl.ln (Own.sl (by assumption)) ?_) | (refine Ints.ix (Own.sl (by assumption)) (by omega) ?_) | (refine Ints.ixI (Own.sl (by assumption)) (by omega) ?_) | (refine Ints.ld (Own.sl (by assumption)) (by omega) ?_))
              conv => whnf
              refine VS.sparseR (ps := [(0, .int .i64 (↑N))]) #[.int .i64 (↑N), .slice none 0 0] Try.underlying24 eNet (by decide +kernel) (by intro p hp; simp only [List.mem_cons, List.not_mem_nil, or_false] at hp; rcases hp with rfl <;> first | exact ⟨by kernel_rfl, by simp, rfl⟩) rfl ?_
              have HA__2 := HA
              have EE__2 := EE
              have Hb__2 := Hb
              have HW5__2 := HW5
              have HO5__2 := HO5
              conv => whnf
              refine VE.alloc eNet fun tb w51 E51 hb_tb HT => ?_
              replace HA := HA.ext E51
              replace EE := EE.ext E51
              replace Hb := Hb.ext E51
              replace HW5 := HW5.ext E51
              replace HO5 := HO5.ext E51
              have EL2 := E51
              repeat' ((conv => whnf); first | (refine Dr.quiet tyOk (by kernel_rfl) ?_) | (refine Rng.mk (by omega) ?_) | (refine Split.pos (by omega) ?_) | (refine Split.neg (by omega) ?_) | (refine Split.mk (fun h => ?_) (fun h => ?_)) | (refine Need.mk (by omega) ?_) | (refine Ints.ln (by assumption) ?_) | (refine Mat.ln (by assumption) ?_) | (refine Ints.ln (Mat.row (by assumption) _ (by omega)) ?_) | (refine Ints.ix (by assumption) (by omega) ?_) | (refine Mat.ix (by assumption) (by omega) ?_) | (refine Ints.ix (Mat.row (by assumption) _ (by omega)) (by omega) ?_) | (refine Ints.ix (c := 0) (by assumption) (by omega) ?_) | (refine Mat.ix (c := 0) (by assumption) (by omega) ?_) | (refine Ints.ix (c := 0) (Mat.row (by assumption) _ (by omega)) (by omega) ?_) | (refine Ints.ixI (by assumption) (by omega) ?_) | (refine Mat.ixI (by assumption) (by omega) ?_) | (refine Ints.ixI (Mat.row (by assumption) _ (by omega)) (by omega) ?_) | (refine Ints.ld (by assumption) (by omega) ?_) | (refine Mat.ld (by assumption) (by omega) ?_) | (refine Ints.ld (Mat.row (by assumption) _ (by omega)) (by omega) ?_) | (refine At.ld (by assumption) rfl ?_) | (refine At.ldN (by assumption) rfl ?_) | (refine Prs.ln (by assumption) ?_) | (refine Trs.ln (by assumption) ?_) | (refine Prs.ix (by assumption) (by omega) ?_) | (refine Trs.ix (by assumption) (by omega) ?_) | (refine Prs.ldN (by assumption) (by omega) ?_) | (refine Trs.ldN (by assumption) (by omega) ?_) | (refine At.ldN (Blk.at (by assumption)) rfl ?_) | (refine At.ld (Blk.at (by assumption)) rfl ?_) | (refine IxA.mk (by omega) ?_) | (refine Sl.ln (Own.sl (by assumption)) ?_) | (refine Ints.ix (Own.sl (by assumption)) (by omega) ?_) | (refine Ints.ixI (Own.sl (by assumption)) (by omega) ?_) | (refine Ints.ld (Own.sl (by assumption)) (by omega) ?_))
              refine Blk.all HT (by kernel_rfl) (by first | decide | simp) rfl rfl (by intro v hv; simp at hv; rcases hv with rfl | rfl <;> rfl) fun w52 G52 HT' => ?_
              have E52 : Ext w50 w52 := EL2.new G52 fun i hi hk => by omega
              replace HT := HT'
              replace HA := HA__2.ext E52
              replace EE := EE__2.ext E52
              replace Hb := Hb__2.ext E52
              replace HW5 := HW5__2.ext E52
              replace HO5 := HO5__2.ext E52
              replace EL2 := E52
              repeat' ((conv => whnf); first | (refine Dr.quiet tyOk (by kernel_rfl) ?_) | (refine Trs.ln HA ?_) | (refine Rng.mk (by omega) ?_) | (refine Split.pos (by omega) ?_) | (refine Split.neg (by omega) ?_) | (refine Split.mk (fun h => ?_) (fun h => ?_)) | (refine Need.mk (by omega) ?_) | (refine Ints.ln (by assumption) ?_) | (refine Mat.ln (by assumption) ?_) | (refine Ints.ln (Mat.row (by assumption) _ (by omega)) ?_) | (refine Ints.ix (by assumption) (by omega) ?_) | (refine Mat.ix (by assumption) (by omega) ?_) | (refine Ints.ix (Mat.row (by assumption) _ (by omega)) (by omega) ?_) | (refine Ints.ix (c := 0) (by assumption) (by omega) ?_) | (refine Mat.ix (c := 0) (by assumption) (by omega) ?_) | (refine Ints.ix (c := 0) (Mat.row (by assumption) _ (by omega)) (by omega) ?_) | (refine Ints.ixI (by assumption) (by omega) ?_) | (refine Mat.ixI (by assumption) (by omega) ?_) | (refine Ints.ixI (Mat.row (by assumption) _ (by omega)) (by omega) ?_) | (refine Ints.ld (by assumption) (by omega) ?_) | (refine Mat.ld (by assumption) (by omega) ?_) | (refine Ints.ld (Mat.row (by assumption) _ (by omega)) (by omega) ?_) | (refine At.ld (by assumption) rfl ?_) | (refine At.ldN (by assumption) rfl ?_) | (refine Prs.ln (by assumption) ?_) | (refine Trs.ln (by assumption) ?_) | (refine Prs.ix (by assumption) (by omega) ?_) | (refine Trs.ix (by assumption) (by omega) ?_) | (refine Prs.ldN (by assumption) (by omega) ?_) | (refine Trs.ldN (by assumption) (by omega) ?_) | (refine At.ldN (Blk.at (by assumption)) rfl ?_) | (refine At.ld (Blk.at (by assumption)) rfl ?_) | (refine IxA.mk (by omega) ?_) | (refine Sl.ln (Own.sl (by assumption)) ?_) | (refine Ints.ix (Own.sl (by assumption)) (by omega) ?_) | (refine Ints.ixI (Own.sl (by assumption)) (by omega) ?_) | (refine Ints.ld (Own.sl (by assumption)) (by omega) ?_))
              refine Lp.mk tyOk [false, false, false, false, false, false, false, false, false, false, true, false, false, false, false, false, false, false, false, false, false, false, false, false, false, false, false, false, false, false, false, false, false, false, false, false, false, false, false, false, false, false, false, false, false, false, false, false, false, false, false, false, false, false, false, false, false, false, false, false, false, false, false, false, false, false, false, false, false, false, false, false, false, false, false, false, false, false, false, false, false, false, false, false, false, false, true, true, true, true, true, true, true, true, true, true, true, true, true, true] (fun m fr wr => getK fr 10 fun i => ∃ c : Nat, c ≤ A.length ∧ m = A.length - c ∧ i = .int .i64 ((A.length : Int) - 1 - (c : Int)) ∧ ((∃ tv, Blk wr tb 24 [.int .i64 (N : Int), tv] ∧ OA w50.heap.size wr tv (A.reverse.take c))) ∧ Ext w50 wr) (A.length) ?_ ?_
              · exact ⟨0, Nat.zero_le _, rfl, (congrArg (Value.int .i64) (by omega)), ⟨_, HT, Own.nil⟩, EL2⟩
              · intro m w53 u10 u86 u87 u88 u89 u90 u91 u92 u93 u94 u95 u96 u97 u98 u99 hR
                obtain ⟨c, hc, rfl, rfl, HT, EL2⟩ := hR
                replace HA := HA__2.ext EL2
                replace EE := EE__2.ext EL2
                replace Hb := Hb__2.ext EL2
                replace HW5 := HW5__2.ext EL2
                replace HO5 := HO5__2.ext EL2
                obtain ⟨tv, HT, HTo⟩ := HT
                have hlt : (A.reverse.take c).length = c := by rw [List.length_take, List.length_reverse]; omega
                by_cases hcl : c < A.length
                · have hi : (A.length : Int) - 1 - (c : Int) = ((A.length - 1 - c : Nat) : Int) := by omega
                  rw [hi]
                  repeat' ((conv => whnf); first | (refine Dr.plan2 62 [5, 8] (.q 0 (.q 3 (.q 4 (.e 1 (.e 2 (.e 5 (.q 6 (.e 7 (.e 8 .nil .nil) .nil)) (.e 7 (.e 5 (.q 6 (.e 8 .nil .nil)) .nil) .nil)) (.e 7 (.e 2 (.e 5 (.q 6 (.e 8 .nil .nil)) .nil) .nil) .nil)) (.e 2 (.e 1 (.e 5 (.q 6 (.e 7 (.e 8 .nil .nil) .nil)) (.e 7 (.e 5 (.q 6 (.e 8 .nil .nil)) .nil) .nil)) (.e 5 (.e 1 (.q 6 (.e 7 (.e 8 .nil .nil) .nil)) (.e 7 (.e 1 (.q 6 (.e 8 .nil .nil)) .nil) .nil)) (.e 7 (.e 1 (.e 5 (.q 6 (.e 8 .nil .nil)) .nil) (.e 5 (.e 1 (.q 6 (.e 8 .nil .nil)) .nil) .nil)) .nil))) (.e 7 (.e 1 (.e 2 (.e 5 (.q 6 (.e 8 .nil .nil)) .nil) .nil) (.e 2 (.e 1 (.e 5 (.q 6 (.e 8 .nil .nil)) .nil) (.e 5 (.e 1 (.q 6 (.e 8 .nil .nil)) .nil) .nil)) .nil)) .nil)))))) tyOk rfl (by kernel_rfl) ?_) | (refine Dr.plan2 90 [8, 10] (.q 0 (.q 1 (.q 2 (.q 3 (.q 4 (.q 5 (.q 6 (.e 7 (.e 8 (.q 9 (.e 10 .nil .nil)) .nil) .nil)))))))) tyOk rfl (by kernel_rfl) ?_) | (refine Dr.quiet tyOk (by kernel_rfl) ?_) | (refine Blk.ldA HT rfl ?_) | (refine Trs.ln HA ?_) | (refine Trs.ix HA (by omega) ?_) | (refine Trs.ldN HA (by omega) ?_) | (refine Rng.mk (by omega) ?_) | (refine Split.pos (by omega) ?_) | (refine Split.neg (by omega) ?_) | (refine Split.mk (fun h => ?_) (fun h => ?_)) | (refine Need.mk (by omega) ?_) | (refine Ints.ln (by assumption) ?_) | (refine Mat.ln (by assumption) ?_) | (refine Ints.ln (Mat.row (by assumption) _ (by omega)) ?_) | (refine Ints.ix (by assumption) (by omega) ?_) | (refine Mat.ix (by assumption) (by omega) ?_) | (refine Ints.ix (Mat.row (by assumption) _ (by omega)) (by omega) ?_) | (refine Ints.ix (c := 0) (by assumption) (by omega) ?_) | (refine Mat.ix (c := 0) (by assumption) (by omega) ?_) | (refine Ints.ix (c := 0) (Mat.row (by assumption) _ (by omega)) (by omega) ?_) | (refine Ints.ixI (by assumption) (by omega) ?_) | (refine Mat.ixI (by assumption) (by omega) ?_) | (refine Ints.ixI (Mat.row (by assumption) _ (by omega)) (by omega) ?_) | (refine Ints.ld (by assumption) (by omega) ?_) | (refine Mat.ld (by assumption) (by omega) ?_) | (refine Ints.ld (Mat.row (by assumption) _ (by omega)) (by omega) ?_) | (refine At.ld (by assumption) rfl ?_) | (refine At.ldN (by assumption) rfl ?_) | (refine Prs.ln (by assumption) ?_) | (refine Trs.ln (by assumption) ?_) | (refine Prs.ix (by assumption) (by omega) ?_) | (refine Trs.ix (by assumption) (by omega) ?_) | (refine Prs.ldN (by assumption) (by omega) ?_) | (refine Trs.ldN (by assumption) (by omega) ?_) | (refine At.ldN (Blk.at (by assumption)) rfl ?_) | (refine At.ld (Blk.at (by assumption)) rfl ?_) | (refine IxA.mk (by omega) ?_) | (refine Sl.ln (Own.sl (by assumption)) ?_) | (refine Ints.ix (Own.sl (by assumption)) (by omega) ?_) | (refine Ints.ixI (Own.sl (by assumption)) (by omega) ?_) | (refine Ints.ld (Own.sl (by assumption)) (by omega) ?_))
                  refine VX.lit1A Try.underlying22 eArc rfl (by decide) fun lv w70 E70 Hl => ?_
                  replace HA := HA.ext E70
                  replace EE := EE.ext E70
                  replace Hb := Hb.ext E70
                  replace HW5 := HW5.ext E70
                  replace HO5 := HO5.ext E70
                  replace EL2 := EL2.ext E70
                  replace HT := HT.ext E70
                  replace HTo := HTo.ext E70
                  conv => whnf
                  refine VE.app Try.underlying22 eArc rfl (by omega) HTo EL2 rfl Hl (by simp [Value.oneCell']) (by omega) (by omega) fun v8 w71 E71 G71 H8 => ?_
                  have HT8 := Blk.row HT HTo (by decide) G71
                  repeat' ((conv => whnf); first | (refine Dr.quiet tyOk (by kernel_rfl) ?_) | (refine Rng.mk (by omega) ?_) | (refine Split.pos (by omega) ?_) | (refine Split.neg (by omega) ?_) | (refine Split.mk (fun h => ?_) (fun h => ?_)) | (refine Need.mk (by omega) ?_) | (refine Ints.ln (by assumption) ?_) | (refine Mat.ln (by assumption) ?_) | (refine Ints.ln (Mat.row (by assumption) _ (by omega)) ?_) | (refine Ints.ix (by assumption) (by omega) ?_) | (refine Mat.ix (by assumption) (by omega) ?_) | (refine Ints.ix (Mat.row (by assumption) _ (by omega)) (by omega) ?_) | (refine Ints.ix (c := 0) (by assumption) (by omega) ?_) | (refine Mat.ix (c := 0) (by assumption) (by omega) ?_) | (refine Ints.ix (c := 0) (Mat.row (by assumption) _ (by omega)) (by omega) ?_) | (refine Ints.ixI (by assumption) (by omega) ?_) | (refine Mat.ixI (by assumption) (by omega) ?_) | (refine Ints.ixI (Mat.row (by assumption) _ (by omega)) (by omega) ?_) | (refine Ints.ld (by assumption) (by omega) ?_) | (refine Mat.ld (by assumption) (by omega) ?_) | (refine Ints.ld (Mat.row (by assumption) _ (by omega)) (by omega) ?_) | (refine At.ld (by assumption) rfl ?_) | (refine At.ldN (by assumption) rfl ?_) | (refine Prs.ln (by assumption) ?_) | (refine Trs.ln (by assumption) ?_) | (refine Prs.ix (by assumption) (by omega) ?_) | (refine Trs.ix (by assumption) (by omega) ?_) | (refine Prs.ldN (by assumption) (by omega) ?_) | (refine Trs.ldN (by assumption) (by omega) ?_) | (refine At.ldN (Blk.at (by assumption)) rfl ?_) | (refine At.ld (Blk.at (by assumption)) rfl ?_) | (refine IxA.mk (by omega) ?_) | (refine Sl.ln (Own.sl (by assumption)) ?_) | (refine Ints.ix (Own.sl (by assumption)) (by omega) ?_) | (refine Ints.ixI (Own.sl (by assumption)) (by omega) ?_) | (refine Ints.ld (Own.sl (by assumption)) (by omega) ?_))
                  refine Blk.setA HT8 (by simp) (Sl.cells (Own.sl H8)).2 fun w72 G72 HT9 => ?_
                  have H9 := Own.blk H8 HT8 (by decide) G72
                  repeat' ((conv => whnf); first | (refine Dr.quiet tyOk (by kernel_rfl) ?_) | (refine Rng.mk (by omega) ?_) | (refine Split.pos (by omega) ?_) | (refine Split.neg (by omega) ?_) | (refine Split.mk (fun h => ?_) (fun h => ?_)) | (refine Need.mk (by omega) ?_) | (refine Ints.ln (by assumption) ?_) | (refine Mat.ln (by assumption) ?_) | (refine Ints.ln (Mat.row (by assumption) _ (by omega)) ?_) | (refine Ints.ix (by assumption) (by omega) ?_) | (refine Mat.ix (by assumption) (by omega) ?_) | (refine Ints.ix (Mat.row (by assumption) _ (by omega)) (by omega) ?_) | (refine Ints.ix (c := 0) (by assumption) (by omega) ?_) | (refine Mat.ix (c := 0) (by assumption) (by omega) ?_) | (refine Ints.ix (c := 0) (Mat.row (by assumption) _ (by omega)) (by omega) ?_) | (refine Ints.ixI (by assumption) (by omega) ?_) | (refine Mat.ixI (by assumption) (by omega) ?_) | (refine Ints.ixI (Mat.row (by assumption) _ (by omega)) (by omega) ?_) | (refine Ints.ld (by assumption) (by omega) ?_) | (refine Mat.ld (by assumption) (by omega) ?_) | (refine Ints.ld (Mat.row (by assumption) _ (by omega)) (by omega) ?_) | (refine At.ld (by assumption) rfl ?_) | (refine At.ldN (by assumption) rfl ?_) | (refine Prs.ln (by assumption) ?_) | (refine Trs.ln (by assumption) ?_) | (refine Prs.ix (by assumption) (by omega) ?_) | (refine Trs.ix (by assumption) (by omega) ?_) | (refine Prs.ldN (by assumption) (by omega) ?_) | (refine Trs.ldN (by assumption) (by omega) ?_) | (refine At.ldN (Blk.at (by assumption)) rfl ?_) | (refine At.ld (Blk.at (by assumption)) rfl ?_) | (refine IxA.mk (by omega) ?_) | (refine Sl.ln (Own.sl (by assumption)) ?_) | (refine Ints.ix (Own.sl (by assumption)) (by omega) ?_) | (refine Ints.ixI (Own.sl (by assumption)) (by omega) ?_) | (refine Ints.ld (Own.sl (by assumption)) (by omega) ?_))
                  refine ⟨_, (by omega : A.length - (c + 1) < A.length - c), rfl, c + 1, by omega, rfl, (congrArg (Value.int .i64) (by omega)), ⟨v8, HT9, by rw [turn_take hcl]; exact OA.snoc H9⟩, (E71.new G72 (fun i hi e => by omega))⟩
                · obtain rfl : c = A.length := by omega
                  rw [List.take_of_length_le (by rw [List.length_reverse]; exact Nat.le_refl _)] at HTo
                  have hEw := netE_of (wd_net hk hq (by omega) hm2)
                  have hEr := netE_of (rev_net hk)
                  repeat' ((conv => whnf); first | (refine Dr.quiet tyOk (by kernel_rfl) ?_) | (refine At.ldN Hb rfl ?_) | (refine Rng.mk (by omega) ?_) | (refine Split.pos (by omega) ?_) | (refine Split.neg (by omega) ?_) | (refine Split.mk (fun h => ?_) (fun h => ?_)) | (refine Need.mk (by omega) ?_) | (refine Ints.ln (by assumption) ?_) | (refine Mat.ln (by assumption) ?_) | (refine Ints.ln (Mat.row (by assumption) _ (by omega)) ?_) | (refine Ints.ix (by assumption) (by omega) ?_) | (refine Mat.ix (by assumption) (by omega) ?_) | (refine Ints.ix (Mat.row (by assumption) _ (by omega)) (by omega) ?_) | (refine Ints.ix (c := 0) (by assumption) (by omega) ?_) | (refine Mat.ix (c := 0) (by assumption) (by omega) ?_) | (refine Ints.ix (c := 0) (Mat.row (by assumption) _ (by omega)) (by omega) ?_) | (refine Ints.ixI (by assumption) (by omega) ?_) | (refine Mat.ixI (by assumption) (by omega) ?_) | (refine Ints.ixI (Mat.row (by assumption) _ (by omega)) (by omega) ?_) | (refine Ints.ld (by assumption) (by omega) ?_) | (refine Mat.ld (by assumption) (by omega) ?_) | (refine Ints.ld (Mat.row (by assumption) _ (by omega)) (by omega) ?_) | (refine At.ld (by assumption) rfl ?_) | (refine At.ldN (by assumption) rfl ?_) | (refine Prs.ln (by assumption) ?_) | (refine Trs.ln (by assumption) ?_) | (refine Prs.ix (by assumption) (by omega) ?_) | (refine Trs.ix (by assumption) (by omega) ?_) | (refine Prs.ldN (by assumption) (by omega) ?_) | (refine Trs.ldN (by assumption) (by omega) ?_) | (refine At.ldN (Blk.at (by assumption)) rfl ?_) | (refine At.ld (Blk.at (by assumption)) rfl ?_) | (refine IxA.mk (by omega) ?_) | (refine Sl.ln (Own.sl (by assumption)) ?_) | (refine Ints.ix (Own.sl (by assumption)) (by omega) ?_) | (refine Ints.ixI (Own.sl (by assumption)) (by omega) ?_) | (refine Ints.ld (Own.sl (by assumption)) (by omega) ?_))
                  conv => whnf
                  refine VC.rc (gMax_rc HA) ?_
                  rintro _ w71 E71 ⟨fv, rfl, HF, hM⟩
                  replace HA := HA.ext E71
                  replace EE := EE.ext E71
                  replace Hb := Hb.ext E71
                  replace HW5 := HW5.ext E71
                  replace HO5 := HO5.ext E71
                  replace EL2 := EL2.ext E71
                  replace HT := HT.ext E71
                  replace HTo := HTo.ext E71
                  rw [hE]
                  replace hM := hM hE
                  rw [mxL_ok hE] at HF
                  rw [Int.toNat_natCast] at hM
                  repeat' ((conv => whnf); first | (refine Dr.quiet tyOk (by kernel_rfl) ?_) | (refine At.ldN (Blk.at HW5) rfl ?_) | (refine Rng.mk (by omega) ?_) | (refine Split.pos (by omega) ?_) | (refine Split.neg (by omega) ?_) | (refine Split.mk (fun h => ?_) (fun h => ?_)) | (refine Need.mk (by omega) ?_) | (refine Ints.ln (by assumption) ?_) | (refine Mat.ln (by assumption) ?_) | (refine Ints.ln (Mat.row (by assumption) _ (by omega)) ?_) | (refine Ints.ix (by assumption) (by omega) ?_) | (refine Mat.ix (by assumption) (by omega) ?_) | (refine Ints.ix (Mat.row (by assumption) _ (by omega)) (by omega) ?_) | (refine Ints.ix (c := 0) (by assumption) (by omega) ?_) | (refine Mat.ix (c := 0) (by assumption) (by omega) ?_) | (refine Ints.ix (c := 0) (Mat.row (by assumption) _ (by omega)) (by omega) ?_) | (refine Ints.ixI (by assumption) (by omega) ?_) | (refine Mat.ixI (by assumption) (by omega) ?_) | (refine Ints.ixI (Mat.row (by assumption) _ (by omega)) (by omega) ?_) | (refine Ints.ld (by assumption) (by omega) ?_) | (refine Mat.ld (by assumption) (by omega) ?_) | (refine Ints.ld (Mat.row (by assumption) _ (by omega)) (by omega) ?_) | (refine At.ld (by assumption) rfl ?_) | (refine At.ldN (by assumption) rfl ?_) | (refine Prs.ln (by assumption) ?_) | (refine Trs.ln (by assumption) ?_) | (refine Prs.ix (by assumption) (by omega) ?_) | (refine Trs.ix (by assumption) (by omega) ?_) | (refine Prs.ldN (by assumption) (by omega) ?_) | (refine Trs.ldN (by assumption) (by omega) ?_) | (refine At.ldN (Blk.at (by assumption)) rfl ?_) | (refine At.ld (Blk.at (by assumption)) rfl ?_) | (refine IxA.mk (by omega) ?_) | (refine Sl.ln (Own.sl (by assumption)) ?_) | (refine Ints.ix (Own.sl (by assumption)) (by omega) ?_) | (refine Ints.ixI (Own.sl (by assumption)) (by omega) ?_) | (refine Ints.ld (Own.sl (by assumption)) (by omega) ?_))
                  conv => whnf
                  refine VC.rc (gMax_rc (n := (N : Int)) (A := wd A q more) (Own.sl HO5)) ?_
                  rintro _ w72 E72 ⟨fv2, rfl, HF2, hM2⟩
                  replace HA := HA.ext E72
                  replace EE := EE.ext E72
                  replace Hb := Hb.ext E72
                  replace HW5 := HW5.ext E72
                  replace HO5 := HO5.ext E72
                  replace EL2 := EL2.ext E72
                  replace HT := HT.ext E72
                  replace HTo := HTo.ext E72
                  replace HF := HF.ext E72
                  rw [hEw]
                  replace hM2 := hM2 hEw
                  rw [mxL_ok hEw] at HF2
                  rw [Int.toNat_natCast] at hM2
                  repeat' ((conv => whnf); first | (refine Dr.quiet tyOk (by kernel_rfl) ?_) | (refine At.ldN (Blk.at HT) rfl ?_) | (refine Rng.mk (by omega) ?_) | (refine Split.pos (by omega) ?_) | (refine Split.neg (by omega) ?_) | (refine Split.mk (fun h => ?_) (fun h => ?_)) | (refine Need.mk (by omega) ?_) | (refine Ints.ln (by assumption) ?_) | (refine Mat.ln (by assumption) ?_) | (refine Ints.ln (Mat.row (by assumption) _ (by omega)) ?_) | (refine Ints.ix (by assumption) (by omega) ?_) | (refine Mat.ix (by assumption) (by omega) ?_) | (refine Ints.ix (Mat.row (by assumption) _ (by omega)) (by omega) ?_) | (refine Ints.ix (c := 0) (by assumption) (by omega) ?_) | (refine Mat.ix (c := 0) (by assumption) (by omega) ?_) | (refine Ints.ix (c := 0) (Mat.row (by assumption) _ (by omega)) (by omega) ?_) | (refine Ints.ixI (by assumption) (by omega) ?_) | (refine Mat.ixI (by assumption) (by omega) ?_) | (refine Ints.ixI (Mat.row (by assumption) _ (by omega)) (by omega) ?_) | (refine Ints.ld (by assumption) (by omega) ?_) | (refine Mat.ld (by assumption) (by omega) ?_) | (refine Ints.ld (Mat.row (by assumption) _ (by omega)) (by omega) ?_) | (refine At.ld (by assumption) rfl ?_) | (refine At.ldN (by assumption) rfl ?_) | (refine Prs.ln (by assumption) ?_) | (refine Trs.ln (by assumption) ?_) | (refine Prs.ix (by assumption) (by omega) ?_) | (refine Trs.ix (by assumption) (by omega) ?_) | (refine Prs.ldN (by assumption) (by omega) ?_) | (refine Trs.ldN (by assumption) (by omega) ?_) | (refine At.ldN (Blk.at (by assumption)) rfl ?_) | (refine At.ld (Blk.at (by assumption)) rfl ?_) | (refine IxA.mk (by omega) ?_) | (refine Sl.ln (Own.sl (by assumption)) ?_) | (refine Ints.ix (Own.sl (by assumption)) (by omega) ?_) | (refine Ints.ixI (Own.sl (by assumption)) (by omega) ?_) | (refine Ints.ld (Own.sl (by assumption)) (by omega) ?_))
                  conv => whnf
                  refine VC.rc (gMax_rc (n := (N : Int)) (A := A.reverse) (Own.sl HTo)) ?_
                  rintro _ w73 E73 ⟨fv3, rfl, HF3, hM3⟩
                  replace HA := HA.ext E73
                  replace EE := EE.ext E73
                  replace Hb := Hb.ext E73
                  replace HW5 := HW5.ext E73
                  replace HO5 := HO5.ext E73
                  replace EL2 := EL2.ext E73
                  replace HT := HT.ext E73
                  replace HTo := HTo.ext E73
                  replace HF := HF.ext E73
                  replace HF2 := HF2.ext E73
                  rw [hEr]
                  replace hM3 := hM3 hEr
                  rw [mxL_ok hEr] at HF3
                  rw [Int.toNat_natCast] at hM3
                  obtain ⟨g1, g2⟩ := mx_grow hk ha hq (by omega) hm2 hM hM2
                  have g3 := mx_turn hM hM3
                  have b1 := gf_bd hk hM.is.1
                  have hl2 := hk.a200
                  have c1 := gvalue_pc (n := (N : Int)) HA (Own.sl HF)
                  rw [vE_ok hE hM.is.1, vV_ok hE hM.is.1] at c1
                  have c2 := gvalue_pc (n := (N : Int)) (Own.sl HO5) (Own.sl HF2)
                  rw [vE_ok hEw hM2.is.1, vV_ok hEw hM2.is.1] at c2
                  have c3 := gvalue_pc (n := (N : Int)) (Own.sl HTo) (Own.sl HF3)
                  rw [vE_ok hEr hM3.is.1, vV_ok hEr hM3.is.1] at c3
                  repeat' ((conv => whnf); first | (refine Dr.quiet tyOk (by kernel_rfl) ?_) | (refine At.ldN Hb rfl ?_) | (refine At.ldN (Blk.at HW5) rfl ?_) | (refine At.ldN (Blk.at HT) rfl ?_) | (refine VC.pure c1 ?_) | (refine VC.pure c2 ?_) | (refine VC.pure c3 ?_) | (refine Rng.mk (by omega) ?_) | (refine Split.pos (by omega) ?_) | (refine Split.neg (by omega) ?_) | (refine Split.mk (fun h => ?_) (fun h => ?_)) | (refine Need.mk (by omega) ?_) | (refine Ints.ln (by assumption) ?_) | (refine Mat.ln (by assumption) ?_) | (refine Ints.ln (Mat.row (by assumption) _ (by omega)) ?_) | (refine Ints.ix (by assumption) (by omega) ?_) | (refine Mat.ix (by assumption) (by omega) ?_) | (refine Ints.ix (Mat.row (by assumption) _ (by omega)) (by omega) ?_) | (refine Ints.ix (c := 0) (by assumption) (by omega) ?_) | (refine Mat.ix (c := 0) (by assumption) (by omega) ?_) | (refine Ints.ix (c := 0) (Mat.row (by assumption) _ (by omega)) (by omega) ?_) | (refine Ints.ixI (by assumption) (by omega) ?_) | (refine Mat.ixI (by assumption) (by omega) ?_) | (refine Ints.ixI (Mat.row (by assumption) _ (by omega)) (by omega) ?_) | (refine Ints.ld (by assumption) (by omega) ?_) | (refine Mat.ld (by assumption) (by omega) ?_) | (refine Ints.ld (Mat.row (by assumption) _ (by omega)) (by omega) ?_) | (refine At.ld (by assumption) rfl ?_) | (refine At.ldN (by assumption) rfl ?_) | (refine Prs.ln (by assumption) ?_) | (refine Trs.ln (by assumption) ?_) | (refine Prs.ix (by assumption) (by omega) ?_) | (refine Trs.ix (by assumption) (by omega) ?_) | (refine Prs.ldN (by assumption) (by omega) ?_) | (refine Trs.ldN (by assumption) (by omega) ?_) | (refine At.ldN (Blk.at (by assumption)) rfl ?_) | (refine At.ld (Blk.at (by assumption)) rfl ?_) | (refine IxA.mk (by omega) ?_) | (refine Sl.ln (Own.sl (by assumption)) ?_) | (refine Ints.ix (Own.sl (by assumption)) (by omega) ?_) | (refine Ints.ixI (Own.sl (by assumption)) (by omega) ?_) | (refine Ints.ld (Own.sl (by assumption)) (by omega) ?_))
                  exact ⟨rfl, EE⟩
        · repeat' ((conv => whnf); first | (refine Dr.quiet tyOk (by kernel_rfl) ?_) | (refine At.ldN Hb rfl ?_) | (refine VC.pure alive25_pc ?_) | (refine VC.pure cg ?_) | (refine VCQ.pure cg ?_) | (refine VC.pure cc ?_) | (refine VCQ.pure cc ?_) | (refine Trs.ln HA ?_) | (refine Trs.ix HA (by omega) ?_) | (refine Trs.ld2 HA (by omega) rfl ?_) | (refine Rng.mk (by omega) ?_) | (refine Split.pos (by omega) ?_) | (refine Split.neg (by omega) ?_) | (refine Split.mk (fun h => ?_) (fun h => ?_)) | (refine Need.mk (by omega) ?_) | (refine Ints.ln (by assumption) ?_) | (refine Mat.ln (by assumption) ?_) | (refine Ints.ln (Mat.row (by assumption) _ (by omega)) ?_) | (refine Ints.ix (by assumption) (by omega) ?_) | (refine Mat.ix (by assumption) (by omega) ?_) | (refine Ints.ix (Mat.row (by assumption) _ (by omega)) (by omega) ?_) | (refine Ints.ix (c := 0) (by assumption) (by omega) ?_) | (refine Mat.ix (c := 0) (by assumption) (by omega) ?_) | (refine Ints.ix (c := 0) (Mat.row (by assumption) _ (by omega)) (by omega) ?_) | (refine Ints.ixI (by assumption) (by omega) ?_) | (refine Mat.ixI (by assumption) (by omega) ?_) | (refine Ints.ixI (Mat.row (by assumption) _ (by omega)) (by omega) ?_) | (refine Ints.ld (by assumption) (by omega) ?_) | (refine Mat.ld (by assumption) (by omega) ?_) | (refine Ints.ld (Mat.row (by assumption) _ (by omega)) (by omega) ?_) | (refine At.ld (by assumption) rfl ?_) | (refine At.ldN (by assumption) rfl ?_) | (refine Prs.ln (by assumption) ?_) | (refine Trs.ln (by assumption) ?_) | (refine Prs.ix (by assumption) (by omega) ?_) | (refine Trs.ix (by assumption) (by omega) ?_) | (refine Prs.ldN (by assumption) (by omega) ?_) | (refine Trs.ldN (by assumption) (by omega) ?_) | (refine At.ldN (Blk.at (by assumption)) rfl ?_) | (refine At.ld (Blk.at (by assumption)) rfl ?_) | (refine IxA.mk (by omega) ?_) | (refine Sl.ln (Own.sl (by assumption)) ?_) | (refine Ints.ix (Own.sl (by assumption)) (by omega) ?_) | (refine Ints.ixI (Own.sl (by assumption)) (by omega) ?_) | (refine Ints.ld (Own.sl (by assumption)) (by omega) ?_))
          exact ⟨rfl, EE⟩
    · repeat' ((conv => whnf); first | (refine Dr.quiet tyOk (by kernel_rfl) ?_) | (refine At.ldN Hb rfl ?_) | (refine VC.pure alive25_pc ?_) | (refine VC.pure cg ?_) | (refine VCQ.pure cg ?_) | (refine VC.pure cc ?_) | (refine VCQ.pure cc ?_) | (refine Trs.ln HA ?_) | (refine Trs.ix HA (by omega) ?_) | (refine Trs.ld2 HA (by omega) rfl ?_) | (refine Rng.mk (by omega) ?_) | (refine Split.pos (by omega) ?_) | (refine Split.neg (by omega) ?_) | (refine Split.mk (fun h => ?_) (fun h => ?_)) | (refine Need.mk (by omega) ?_) | (refine Ints.ln (by assumption) ?_) | (refine Mat.ln (by assumption) ?_) | (refine Ints.ln (Mat.row (by assumption) _ (by omega)) ?_) | (refine Ints.ix (by assumption) (by omega) ?_) | (refine Mat.ix (by assumption) (by omega) ?_) | (refine Ints.ix (Mat.row (by assumption) _ (by omega)) (by omega) ?_) | (refine Ints.ix (c := 0) (by assumption) (by omega) ?_) | (refine Mat.ix (c := 0) (by assumption) (by omega) ?_) | (refine Ints.ix (c := 0) (Mat.row (by assumption) _ (by omega)) (by omega) ?_) | (refine Ints.ixI (by assumption) (by omega) ?_) | (refine Mat.ixI (by assumption) (by omega) ?_) | (refine Ints.ixI (Mat.row (by assumption) _ (by omega)) (by omega) ?_) | (refine Ints.ld (by assumption) (by omega) ?_) | (refine Mat.ld (by assumption) (by omega) ?_) | (refine Ints.ld (Mat.row (by assumption) _ (by omega)) (by omega) ?_) | (refine At.ld (by assumption) rfl ?_) | (refine At.ldN (by assumption) rfl ?_) | (refine Prs.ln (by assumption) ?_) | (refine Trs.ln (by assumption) ?_) | (refine Prs.ix (by assumption) (by omega) ?_) | (refine Trs.ix (by assumption) (by omega) ?_) | (refine Prs.ldN (by assumption) (by omega) ?_) | (refine Trs.ldN (by assumption) (by omega) ?_) | (refine At.ldN (Blk.at (by assumption)) rfl ?_) | (refine At.ld (Blk.at (by assumption)) rfl ?_) | (refine IxA.mk (by omega) ?_) | (refine Sl.ln (Own.sl (by assumption)) ?_) | (refine Ints.ix (Own.sl (by assumption)) (by omega) ?_) | (refine Ints.ixI (Own.sl (by assumption)) (by omega) ?_) | (refine Ints.ld (Own.sl (by assumption)) (by omega) ?_))
      exact ⟨rfl, EE⟩

open Go.ChangeShapes Go.WideShapes Go.ChangeAt Go.RowKit Go.Eng in
theorem flowGrows_lifted (os : Os) (started : os.Started) (H : Type) (enc : TypeId × Value → H) :
    ReturnsInHanded {} Try.checked os 6 .any (Rows.flowGrowsSpec.pre6 enc Try.prog Try.f6 Rows.flowGrowsRow.domain false) (Rows.flowGrowsSpec.post enc Try.prog Try.f6 false true false false) := by
  refine returnsInHanded_of_change (C := Try.checked) own started (by kernel_rfl) Try.func6
    (ChangeSpec.witness6 (enc := enc) (C := Try.checked) false ⟨#[], #[.agg #[.int .i64 0, .slice none 0 0], .int .i64 0, .int .i64 0], []⟩ 8 (by kernel_rfl) (by kernel_rfl) (by kernel_rfl) (by kernel_rfl)) ?_
  intro W base args ds gs before hval0 hW hcnd _
  have hval : ∀ (j : Nat) t v, Try.f6.params[j]? = some t → args[j]? = some v → Value.okWide Try.prog W .any base t v := hval0
  have hW' := hW
  obtain ⟨p, q, hA0, hV, e0, hfz, hnd⟩ := hW
  have hA : DataW.TrodAll enc Try.prog W 0 (fun _ => true) true Try.f6.params.toList args.toList ds p := hA0
  rw [Try.params6] at hA hval
  clear hfz hnd hV e0 hval0
  obtain ⟨v0, vs0, d0, ds0, p0, q0, e0, rfl, f0, h0, t0⟩ := trodAll_cons hA
  obtain ⟨v1, vs1, d1, ds1, p1, q1, e1, rfl, f1, h1, t1⟩ := trodAll_cons t0
  subst e1
  obtain ⟨v2, vs2, d2, ds2, p2, q2, e2, rfl, f2, h2, t2⟩ := trodAll_cons t1
  subst e2
  obtain ⟨ee, rfl, _⟩ := trodAll_nil t2
  subst ee
  obtain rfl : args = #[v0, v1, v2] := Array.toList_inj.1 (by simpa using e0)
  obtain ⟨n0, g0, A0, rfl, R0, H0, S0⟩ := open_N (s := 0) Try.underlying24 ⟨rfl, rfl⟩ (by kernel_rfl) ⟨by kernel_rfl, by kernel_rfl⟩ (by kernel_rfl) Try.underlying22 Try.underlying56 ⟨rfl, rfl, rfl⟩ (by kernel_rfl) ⟨by kernel_rfl, by kernel_rfl, by kernel_rfl⟩ (by kernel_rfl) (by kernel_rfl) (by kernel_rfl) (hval 0 24 _ rfl rfl) h0
  obtain ⟨n1, rfl, R1⟩ := open_I Try.underlying3 (hval 1 3 _ rfl rfl) h1
  obtain ⟨n2, rfl, R2⟩ := open_I Try.underlying3 (hval 2 3 _ rfl rfl) h2
  exact law_calls laidOut (by rw [Try.params6]; intro t ht; revert t; decide +kernel) rfl Try.underlying4 rfl ⟨rfl, rfl, rfl⟩ hW' (flowgrows_pc H0 R1 R2)

theorem flowGrows_holds : Rows.FlowGrowsSaid :=
  OpenClaim.holds_of_wide 6 Try.f6 rfl rfl rfl rfl rfl rfl rfl ⟨rfl, rfl, rfl, rfl, rfl⟩ rfl rfl rfl rfl rfl (by kernel_rfl) Try.func6 (by kernel_rfl)
    (of_decide_eq_true (by kernel_rfl)) (by unfold Func.isWrapper; first | (rw [if_pos (by decide +kernel)]; kernel_rfl) | (rw [if_neg (by decide +kernel)]; exact ⟨rfl, rfl⟩))
    (fun os started H enc _ => flowGrows_lifted os started H enc)
end Go.Proofs.Ytpdldifklgpikaa
