/- Contract: better's Front. -/
import Derived.Test.YtebklnmafjbhcaaJ4
set_option linter.unusedVariables false
set_option linter.unusedSimpArgs false
namespace Go.Proofs.Ytebklnmafjbhcaa
open Go.Eng
set_option maxRecDepth 100000
set_option maxHeartbeats 4000000

/-- the first c elements, but those that p tells of -/
def keepN {α : Type} (p : Nat → Bool) (d : α) (l : List α) : Nat → List α
  | 0 => []
  | c + 1 => keepN p d l c ++ (if p c then [] else [l.getD c d])
theorem keepN_le {α : Type} (p : Nat → Bool) (d : α) (l : List α) : ∀ c, (keepN p d l c).length ≤ c
  | 0 => Nat.le_refl _
  | c + 1 => by
    have := keepN_le p d l c
    simp only [keepN, List.length_append]
    split <;> simp <;> omega
theorem keepN_len {α β : Type} (p : Nat → Bool) (d : α) (l : List α) (d' : β) (l' : List β) : ∀ c, (keepN p d l c).length = (keepN p d' l' c).length
  | 0 => rfl
  | c + 1 => by
    have := keepN_len p d l d' l' c
    simp only [keepN, List.length_append, this]
    split <;> simp
theorem keepN_all {α : Type} {p : Nat → Bool} {d : α} {l : List α} : ∀ {c : Nat}, c ≤ l.length → (∀ j, j < c → p j = false) → keepN p d l c = l.take c
  | 0, _, _ => rfl
  | c + 1, hc, h => by
    rw [take_snoc d l c (by omega), ← keepN_all (by omega) (fun j hj => h j (by omega))]
    simp only [keepN, h c (by omega)]; rfl
/-- what is kept, is there -/
theorem keepN_at {α β : Type} {p : Nat → Bool} {d : α} {l : List α} {d' : β} {l' : List β} : ∀ {c i : Nat}, i < (keepN p d l c).length → ∃ j, j < c ∧ p j = false ∧ (keepN p d l c).getD i d = l.getD j d ∧ (keepN p d' l' c).getD i d' = l'.getD j d'
  | 0, i, h => absurd h (Nat.not_lt_zero _)
  | c + 1, i, h => by
    have hl := keepN_len p d l d' l' c
    simp only [keepN] at h ⊢
    by_cases hp : p c = true
    · rw [if_pos hp] at h ⊢
      rw [if_pos hp]
      simp only [List.append_nil] at h ⊢
      obtain ⟨j, h1, h2⟩ := keepN_at h
      exact ⟨j, by omega, h2⟩
    · rw [if_neg hp] at h ⊢
      rw [if_neg hp]
      by_cases hi : i < (keepN p d l c).length
      · obtain ⟨j, h1, h2, h3, h4⟩ := keepN_at (d' := d') (l' := l') hi
        refine ⟨j, by omega, h2, ?_, ?_⟩
        · rw [List.getD_eq_getElem?_getD, List.getElem?_append_left hi, ← List.getD_eq_getElem?_getD]; exact h3
        · rw [List.getD_eq_getElem?_getD, List.getElem?_append_left (by omega), ← List.getD_eq_getElem?_getD]; exact h4
      · have e : i = (keepN p d l c).length := by simp at h; omega
        refine ⟨c, by omega, by simpa using hp, ?_, ?_⟩
        · subst e; simp [List.getD]
        · rw [e, hl]; simp [List.getD]

/-- what is left of a list of rows -/
theorem keepN_filter {α : Type} {p : Nat → Bool} {d : α} {l : List α} {q : α → Bool} : ∀ {c : Nat}, c ≤ l.length → (∀ i, i < c → p i = !q (l.getD i d)) → keepN p d l c = (l.take c).filter q
  | 0, _, _ => rfl
  | c + 1, hc, h => by
    rw [take_snoc d l c (by omega), List.filter_append, ← keepN_filter (p := p) (by omega) (fun i hi => h i (by omega))]
    have := h c (by omega)
    cases hq : q (l.getD c d)
    · rw [hq] at this
      simp only [keepN, this, hq, List.filter_cons, List.filter_nil]; rfl
    · rw [hq] at this
      simp only [keepN, this, hq, List.filter_cons, List.filter_nil]; rfl

theorem keepN_lt {α : Type} {p : Nat → Bool} {d : α} {l : List α} {k : Nat} (hp : p k = true) : ∀ {c : Nat}, k < c → (keepN p d l c).length < c
  | 0, h => absurd h (Nat.not_lt_zero _)
  | c + 1, h => by
    have h1 := keepN_le p d l c
    simp only [keepN, List.length_append]
    by_cases e : k = c
    · subst e; rw [hp]; simp; omega
    · have := keepN_lt (d := d) (l := l) hp (c := c) (by omega)
      split <;> simp <;> omega
theorem cut_blk {B s n h : Nat} {e : TypeId} {w : World} {v : Value} {xs : List Value} (H : Go.Eng.Own B e s w v n xs) : ∀ k, (view v s 0 h).ownBlock = some k → v.ownBlock = some k := by
  intro k hk
  rcases H.2 with ⟨rfl, rfl⟩ | ⟨g, cap, cur, rfl, _⟩
  · cases hk
  · have e0 : (⟨g, 0, none⟩ : Addr).add (0 * s) = ⟨g, 0, none⟩ := by rw [Nat.zero_mul]; rfl
    have e1 : view (.slice (some ⟨g, 0, none⟩) n cap) s 0 h = .slice (some ⟨g, 0, none⟩) h cap := by
      show sliced (some ⟨g, 0, none⟩) 0 h cap s = _
      unfold sliced
      simp only [Option.map_some, e0, Nat.sub_zero, ite_self]
    rw [e1] at hk
    exact hk

theorem delete_rc {w : World} {v : Value} {vs : List Value} {rr : List (List Int)} {g : FuncId} {cap : List Value} {p : Nat → Bool} {B : Nat} (Ho : OM B w v vs rr)
    (hf : ∀ w', Gr (fun k => v.ownBlock = some k) w w' → ∀ i, i < rr.length → PC Try.prog g (vs.getD i undef :: cap) w' (.bool (p i))) :
    RC Try.prog 82 [v, .func (.func g) #[] cap.toArray] w (fun k => v.ownBlock = some k) (fun u w' => OM B w' u (keepN p undef vs rr.length) (keepN p [] rr rr.length) ∧ (∀ k, u.ownBlock = some k → v.ownBlock = some k)) := by
  refine RC.mk tyOk Try.func82 rfl (by kernel_rfl) fun w1 E1 => ?_
  replace Ho := Ho.ext E1
  have EE := Ext.refl w1
  have hvl : vs.length = rr.length := by have := Own.len Ho.top; omega
  have hle := Ho.mat.top.le
  have hs := firstFrom_spec p rr.length 0
  have ci := indexfuncR_pc (p := p) Ho.mat.top (fun i hi => (hf _ (Gr.ofExt (Ext.refl w)) i hi).ext E1)
  have hgr0 : Gr (fun k => v.ownBlock = some k) w1 w1 := Gr.ofExt (Ext.refl _)
  rcases hs with ⟨k0, _, hk1, hk2, hk3, hk4⟩ | ⟨hk1, hk2⟩
  · rw [hk3] at ci
    have hk1 : k0 < rr.length := by omega
    have hkl : (keepN p undef vs (k0 + 1)).length = k0 := by
      simp only [keepN, hk2, if_true, List.append_nil]
      rw [keepN_all (by omega) (fun j hj => hk4 j (by omega) (by omega)), List.length_take]; omega
    have hk0 : vs.take (keepN p undef vs (k0 + 1)).length = keepN p undef vs (k0 + 1) := by
      rw [hkl]
      simp only [keepN, hk2, if_true, List.append_nil]
      rw [keepN_all (by omega) (fun j hj => hk4 j (by omega) (by omega))]
    have HO0 := Ho.top
    have hrow := Ho.row
    repeat' (conv => whnf
             first
             | (refine Dr.quiet tyOk (by kernel_rfl) ?_)
             | (refine VC.pure ci ?_)
             | (refine Rng.mk (by omega) ?_)
             | (refine Split.pos (by omega) ?_)
             | (refine Split.neg (by omega) ?_)
             | (refine Split.mk (fun h => ?_) (fun h => ?_))
             | (refine Need.mk (by omega) ?_)
             | (refine Ints.ln (by assumption) ?_)
             | (refine Mat.ln (by assumption) ?_)
             | (refine Ints.ln (Mat.row (by assumption) _ (by omega)) ?_)
             | (refine Ints.ix (by assumption) (by omega) ?_)
             | (refine Mat.ix (by assumption) (by omega) ?_)
             | (refine Ints.ix (Mat.row (by assumption) _ (by omega)) (by omega) ?_)
             | (refine Ints.ix (c := 0) (by assumption) (by omega) ?_)
             | (refine Mat.ix (c := 0) (by assumption) (by omega) ?_)
             | (refine Ints.ix (c := 0) (Mat.row (by assumption) _ (by omega)) (by omega) ?_)
             | (refine Ints.ixI (by assumption) (by omega) ?_)
             | (refine Mat.ixI (by assumption) (by omega) ?_)
             | (refine Ints.ixI (Mat.row (by assumption) _ (by omega)) (by omega) ?_)
             | (refine Ints.ld (by assumption) (by omega) ?_)
             | (refine Mat.ld (by assumption) (by omega) ?_)
             | (refine Ints.ld (Mat.row (by assumption) _ (by omega)) (by omega) ?_)
             | (refine At.ld (by assumption) rfl ?_)
             | (refine At.ldN (by assumption) rfl ?_)
             | (refine Prs.ln (by assumption) ?_)
             | (refine Trs.ln (by assumption) ?_)
             | (refine Prs.ix (by assumption) (by omega) ?_)
             | (refine Trs.ix (by assumption) (by omega) ?_)
             | (refine Prs.ldN (by assumption) (by omega) ?_)
             | (refine Trs.ldN (by assumption) (by omega) ?_)
             | (refine At.ldN (Blk.at (by assumption)) rfl ?_)
             | (refine At.ld (Blk.at (by assumption)) rfl ?_)
             | (refine IxA.mk (by omega) ?_)
             | (refine Sl.ln (Own.sl (by assumption)) ?_)
             | (refine Ints.ix (Own.sl (by assumption)) (by omega) ?_)
             | (refine Ints.ixI (Own.sl (by assumption)) (by omega) ?_)
             | (refine Ints.ld (Own.sl (by assumption)) (by omega) ?_))
    refine Lp.mk tyOk [false, false, false, false, false, true, true, true, false, false, false, false, false, false, false, false, true, true, true, true, true, true, true, true, true, true, true, true, true, true, true, true, true, true, true, true] (fun m fr wr => getK fr 6 fun j => getK fr 5 fun i => ∃ c : Nat, c ≤ (rr.length - (k0 + 1)) ∧ m = (rr.length - (k0 + 1)) - c ∧ j = .int .i64 ((k0 + 1 + c : Nat) : Int) ∧ i = .int .i64 (((keepN p undef vs (k0 + 1 + c)).length : Nat) : Int) ∧ ((∃ ys, Go.Eng.Own B 25 1 wr v rr.length ys ∧ ys.take (keepN p undef vs (k0 + 1 + c)).length = keepN p undef vs (k0 + 1 + c) ∧ ∀ q, k0 + 1 + c ≤ q → ys.getD q undef = vs.getD q undef)) ∧ (Gr (fun k => v.ownBlock = some k) w1 wr)) ((rr.length - (k0 + 1))) ?_ ?_
    · exact ⟨0, Nat.zero_le _, rfl, (by simp), (by rw [Nat.add_zero, hkl]), ⟨vs, HO0, hk0, fun _ _ => rfl⟩, hgr0⟩
    · intro m w2 u5 u6 u7 u16 u17 u18 u19 u20 u21 u22 u23 u24 u25 u26 u27 u28 u29 u30 u31 u32 u33 u34 u35 hR
      obtain ⟨c, hc, rfl, rfl, rfl, HO, HG⟩ := hR
      obtain ⟨ys, HO, hyt, hyq⟩ := HO
      have hkc := keepN_le p undef vs (k0 + 1 + c)
      have hyl : ys.length = rr.length := by have := Own.len HO; omega
      have HS := Own.sl HO
      by_cases hcl : c < rr.length - (k0 + 1)
      · have hpc := hf _ ((Gr.ofExt E1 : Gr _ w w1).trans HG) (k0 + 1 + c) (by omega)
        have eq1 : k0 + 1 + (c + 1) = k0 + 1 + c + 1 := by omega
        have hks : keepN p undef vs (k0 + 1 + c + 1) = keepN p undef vs (k0 + 1 + c) ++ (if p (k0 + 1 + c) then [] else [vs.getD (k0 + 1 + c) undef]) := rfl
        rw [← hyq (k0 + 1 + c) (Nat.le_refl _)] at hpc hks
        cases hp : p (k0 + 1 + c) with
        | true =>
          rw [hp] at hpc hks
          simp only [if_true, List.append_nil] at hks
          repeat' (conv => whnf
                   first
                   | (refine Dr.quiet tyOk (by kernel_rfl) ?_)
                   | (refine Sl.ix HS (by omega) ?_)
                   | (refine Sl.ld1 HS (by omega) ?_)
                   | (refine VC.pure hpc ?_)
                   | (refine Rng.mk (by omega) ?_)
                   | (refine Split.pos (by omega) ?_)
                   | (refine Split.neg (by omega) ?_)
                   | (refine Split.mk (fun h => ?_) (fun h => ?_))
                   | (refine Need.mk (by omega) ?_)
                   | (refine Ints.ln (by assumption) ?_)
                   | (refine Mat.ln (by assumption) ?_)
                   | (refine Ints.ln (Mat.row (by assumption) _ (by omega)) ?_)
                   | (refine Ints.ix (by assumption) (by omega) ?_)
                   | (refine Mat.ix (by assumption) (by omega) ?_)
                   | (refine Ints.ix (Mat.row (by assumption) _ (by omega)) (by omega) ?_)
                   | (refine Ints.ix (c := 0) (by assumption) (by omega) ?_)
                   | (refine Mat.ix (c := 0) (by assumption) (by omega) ?_)
                   | (refine Ints.ix (c := 0) (Mat.row (by assumption) _ (by omega)) (by omega) ?_)
                   | (refine Ints.ixI (by assumption) (by omega) ?_)
                   | (refine Mat.ixI (by assumption) (by omega) ?_)
                   | (refine Ints.ixI (Mat.row (by assumption) _ (by omega)) (by omega) ?_)
                   | (refine Ints.ld (by assumption) (by omega) ?_)
                   | (refine Mat.ld (by assumption) (by omega) ?_)
                   | (refine Ints.ld (Mat.row (by assumption) _ (by omega)) (by omega) ?_)
                   | (refine At.ld (by assumption) rfl ?_)
                   | (refine At.ldN (by assumption) rfl ?_)
                   | (refine Prs.ln (by assumption) ?_)
                   | (refine Trs.ln (by assumption) ?_)
                   | (refine Prs.ix (by assumption) (by omega) ?_)
                   | (refine Trs.ix (by assumption) (by omega) ?_)
                   | (refine Prs.ldN (by assumption) (by omega) ?_)
                   | (refine Trs.ldN (by assumption) (by omega) ?_)
                   | (refine At.ldN (Blk.at (by assumption)) rfl ?_)
                   | (refine At.ld (Blk.at (by assumption)) rfl ?_)
                   | (refine IxA.mk (by omega) ?_)
                   | (refine Sl.ln (Own.sl (by assumption)) ?_)
                   | (refine Ints.ix (Own.sl (by assumption)) (by omega) ?_)
                   | (refine Ints.ixI (Own.sl (by assumption)) (by omega) ?_)
                   | (refine Ints.ld (Own.sl (by assumption)) (by omega) ?_))
          refine ⟨_, (by omega : (rr.length - (k0 + 1)) - (c + 1) < (rr.length - (k0 + 1)) - c), rfl, c + 1, by omega, rfl, (congrArg (Value.int .i64) (by omega)), (by rw [eq1, hks]), ⟨ys, HO, by rw [eq1, hks]; exact hyt, fun q hq => hyq q (by omega)⟩, HG⟩
        | false =>
          rw [hp] at hpc hks
          simp only [Bool.false_eq_true, if_false] at hks
          have hkl2 : (keepN p undef vs (k0 + 1 + c + 1)).length = (keepN p undef vs (k0 + 1 + c)).length + 1 := by rw [hks]; simp
          have h1c : (ys.getD (k0 + 1 + c) undef).oneCell' = true := by rw [hyq _ (Nat.le_refl _)]; exact (Sl.cells (Own.sl (hrow (k0 + 1 + c) (by omega)))).2
          repeat' (conv => whnf
                   first
                   | (refine Dr.quiet tyOk (by kernel_rfl) ?_)
                   | (refine Sl.ix HS (by omega) ?_)
                   | (refine Sl.ld1 HS (by omega) ?_)
                   | (refine VC.pure hpc ?_)
                   | (refine Rng.mk (by omega) ?_)
                   | (refine Split.pos (by omega) ?_)
                   | (refine Split.neg (by omega) ?_)
                   | (refine Split.mk (fun h => ?_) (fun h => ?_))
                   | (refine Need.mk (by omega) ?_)
                   | (refine Ints.ln (by assumption) ?_)
                   | (refine Mat.ln (by assumption) ?_)
                   | (refine Ints.ln (Mat.row (by assumption) _ (by omega)) ?_)
                   | (refine Ints.ix (by assumption) (by omega) ?_)
                   | (refine Mat.ix (by assumption) (by omega) ?_)
                   | (refine Ints.ix (Mat.row (by assumption) _ (by omega)) (by omega) ?_)
                   | (refine Ints.ix (c := 0) (by assumption) (by omega) ?_)
                   | (refine Mat.ix (c := 0) (by assumption) (by omega) ?_)
                   | (refine Ints.ix (c := 0) (Mat.row (by assumption) _ (by omega)) (by omega) ?_)
                   | (refine Ints.ixI (by assumption) (by omega) ?_)
                   | (refine Mat.ixI (by assumption) (by omega) ?_)
                   | (refine Ints.ixI (Mat.row (by assumption) _ (by omega)) (by omega) ?_)
                   | (refine Ints.ld (by assumption) (by omega) ?_)
                   | (refine Mat.ld (by assumption) (by omega) ?_)
                   | (refine Ints.ld (Mat.row (by assumption) _ (by omega)) (by omega) ?_)
                   | (refine At.ld (by assumption) rfl ?_)
                   | (refine At.ldN (by assumption) rfl ?_)
                   | (refine Prs.ln (by assumption) ?_)
                   | (refine Trs.ln (by assumption) ?_)
                   | (refine Prs.ix (by assumption) (by omega) ?_)
                   | (refine Trs.ix (by assumption) (by omega) ?_)
                   | (refine Prs.ldN (by assumption) (by omega) ?_)
                   | (refine Trs.ldN (by assumption) (by omega) ?_)
                   | (refine At.ldN (Blk.at (by assumption)) rfl ?_)
                   | (refine At.ld (Blk.at (by assumption)) rfl ?_)
                   | (refine IxA.mk (by omega) ?_)
                   | (refine Sl.ln (Own.sl (by assumption)) ?_)
                   | (refine Ints.ix (Own.sl (by assumption)) (by omega) ?_)
                   | (refine Ints.ixI (Own.sl (by assumption)) (by omega) ?_)
                   | (refine Ints.ld (Own.sl (by assumption)) (by omega) ?_))
          refine Own.set HO (by omega) h1c fun w6 G6 H6 => ?_
          rw [Nat.mul_one] at H6
          repeat' (conv => whnf
                   first
                   | (refine Dr.quiet tyOk (by kernel_rfl) ?_)
                   | (refine Rng.mk (by omega) ?_)
                   | (refine Split.pos (by omega) ?_)
                   | (refine Split.neg (by omega) ?_)
                   | (refine Split.mk (fun h => ?_) (fun h => ?_))
                   | (refine Need.mk (by omega) ?_)
                   | (refine Ints.ln (by assumption) ?_)
                   | (refine Mat.ln (by assumption) ?_)
                   | (refine Ints.ln (Mat.row (by assumption) _ (by omega)) ?_)
                   | (refine Ints.ix (by assumption) (by omega) ?_)
                   | (refine Mat.ix (by assumption) (by omega) ?_)
                   | (refine Ints.ix (Mat.row (by assumption) _ (by omega)) (by omega) ?_)
                   | (refine Ints.ix (c := 0) (by assumption) (by omega) ?_)
                   | (refine Mat.ix (c := 0) (by assumption) (by omega) ?_)
                   | (refine Ints.ix (c := 0) (Mat.row (by assumption) _ (by omega)) (by omega) ?_)
                   | (refine Ints.ixI (by assumption) (by omega) ?_)
                   | (refine Mat.ixI (by assumption) (by omega) ?_)
                   | (refine Ints.ixI (Mat.row (by assumption) _ (by omega)) (by omega) ?_)
                   | (refine Ints.ld (by assumption) (by omega) ?_)
                   | (refine Mat.ld (by assumption) (by omega) ?_)
                   | (refine Ints.ld (Mat.row (by assumption) _ (by omega)) (by omega) ?_)
                   | (refine At.ld (by assumption) rfl ?_)
                   | (refine At.ldN (by assumption) rfl ?_)
                   | (refine Prs.ln (by assumption) ?_)
                   | (refine Trs.ln (by assumption) ?_)
                   | (refine Prs.ix (by assumption) (by omega) ?_)
                   | (refine Trs.ix (by assumption) (by omega) ?_)
                   | (refine Prs.ldN (by assumption) (by omega) ?_)
                   | (refine Trs.ldN (by assumption) (by omega) ?_)
                   | (refine At.ldN (Blk.at (by assumption)) rfl ?_)
                   | (refine At.ld (Blk.at (by assumption)) rfl ?_)
                   | (refine IxA.mk (by omega) ?_)
                   | (refine Sl.ln (Own.sl (by assumption)) ?_)
                   | (refine Ints.ix (Own.sl (by assumption)) (by omega) ?_)
                   | (refine Ints.ixI (Own.sl (by assumption)) (by omega) ?_)
                   | (refine Ints.ld (Own.sl (by assumption)) (by omega) ?_))
          refine ⟨_, (by omega : (rr.length - (k0 + 1)) - (c + 1) < (rr.length - (k0 + 1)) - c), rfl, c + 1, by omega, rfl, (congrArg (Value.int .i64) (by omega)), (congrArg (Value.int .i64) (by rw [eq1, hkl2]; omega)), ⟨_, H6, by rw [eq1, hkl2, hks, take_snoc undef _ _ (by rw [List.length_set]; omega), List.take_set_of_le (Nat.le_refl _), hyt]; simp [List.getD, show (keepN p undef vs (k0 + 1 + c)).length < ys.length by omega], fun q hq => by rw [← hyq q (by omega)]; simp only [List.getD]; rw [List.getElem?_set_ne (by omega)]⟩, HG.trans G6⟩
      · have hc2 : k0 + 1 + c = rr.length := by omega
        rw [hc2] at hyt hkc
        rw [hc2]
        have hkn : (keepN p undef vs rr.length).length < rr.length := keepN_lt hk2 (by omega)
        repeat' (conv => whnf
                 first
                 | (refine Dr.quiet tyOk (by kernel_rfl) ?_)
                 | (refine VS.cutL Try.underlying22 (by kernel_rfl) (by decide) HS (by omega) ?_)
                 | (refine Rng.mk (by omega) ?_)
                 | (refine Split.pos (by omega) ?_)
                 | (refine Split.neg (by omega) ?_)
                 | (refine Split.mk (fun h => ?_) (fun h => ?_))
                 | (refine Need.mk (by omega) ?_)
                 | (refine Ints.ln (by assumption) ?_)
                 | (refine Mat.ln (by assumption) ?_)
                 | (refine Ints.ln (Mat.row (by assumption) _ (by omega)) ?_)
                 | (refine Ints.ix (by assumption) (by omega) ?_)
                 | (refine Mat.ix (by assumption) (by omega) ?_)
                 | (refine Ints.ix (Mat.row (by assumption) _ (by omega)) (by omega) ?_)
                 | (refine Ints.ix (c := 0) (by assumption) (by omega) ?_)
                 | (refine Mat.ix (c := 0) (by assumption) (by omega) ?_)
                 | (refine Ints.ix (c := 0) (Mat.row (by assumption) _ (by omega)) (by omega) ?_)
                 | (refine Ints.ixI (by assumption) (by omega) ?_)
                 | (refine Mat.ixI (by assumption) (by omega) ?_)
                 | (refine Ints.ixI (Mat.row (by assumption) _ (by omega)) (by omega) ?_)
                 | (refine Ints.ld (by assumption) (by omega) ?_)
                 | (refine Mat.ld (by assumption) (by omega) ?_)
                 | (refine Ints.ld (Mat.row (by assumption) _ (by omega)) (by omega) ?_)
                 | (refine At.ld (by assumption) rfl ?_)
                 | (refine At.ldN (by assumption) rfl ?_)
                 | (refine Prs.ln (by assumption) ?_)
                 | (refine Trs.ln (by assumption) ?_)
                 | (refine Prs.ix (by assumption) (by omega) ?_)
                 | (refine Trs.ix (by assumption) (by omega) ?_)
                 | (refine Prs.ldN (by assumption) (by omega) ?_)
                 | (refine Trs.ldN (by assumption) (by omega) ?_)
                 | (refine At.ldN (Blk.at (by assumption)) rfl ?_)
                 | (refine At.ld (Blk.at (by assumption)) rfl ?_)
                 | (refine IxA.mk (by omega) ?_)
                 | (refine Sl.ln (Own.sl (by assumption)) ?_)
                 | (refine Ints.ix (Own.sl (by assumption)) (by omega) ?_)
                 | (refine Ints.ixI (Own.sl (by assumption)) (by omega) ?_)
                 | (refine Ints.ld (Own.sl (by assumption)) (by omega) ?_))
        refine VE.clear Try.underlying22 eRow rfl rfl HO hkn fun w7 ys7 G7 H7 ht7 => ?_
        repeat' (conv => whnf
                 first
                 | (refine Dr.quiet tyOk (by kernel_rfl) ?_)
                 | (refine VS.cutH Try.underlying22 (by kernel_rfl) (by decide) (Own.sl H7) (by omega) ?_)
                 | (refine Rng.mk (by omega) ?_)
                 | (refine Split.pos (by omega) ?_)
                 | (refine Split.neg (by omega) ?_)
                 | (refine Split.mk (fun h => ?_) (fun h => ?_))
                 | (refine Need.mk (by omega) ?_)
                 | (refine Ints.ln (by assumption) ?_)
                 | (refine Mat.ln (by assumption) ?_)
                 | (refine Ints.ln (Mat.row (by assumption) _ (by omega)) ?_)
                 | (refine Ints.ix (by assumption) (by omega) ?_)
                 | (refine Mat.ix (by assumption) (by omega) ?_)
                 | (refine Ints.ix (Mat.row (by assumption) _ (by omega)) (by omega) ?_)
                 | (refine Ints.ix (c := 0) (by assumption) (by omega) ?_)
                 | (refine Mat.ix (c := 0) (by assumption) (by omega) ?_)
                 | (refine Ints.ix (c := 0) (Mat.row (by assumption) _ (by omega)) (by omega) ?_)
                 | (refine Ints.ixI (by assumption) (by omega) ?_)
                 | (refine Mat.ixI (by assumption) (by omega) ?_)
                 | (refine Ints.ixI (Mat.row (by assumption) _ (by omega)) (by omega) ?_)
                 | (refine Ints.ld (by assumption) (by omega) ?_)
                 | (refine Mat.ld (by assumption) (by omega) ?_)
                 | (refine Ints.ld (Mat.row (by assumption) _ (by omega)) (by omega) ?_)
                 | (refine At.ld (by assumption) rfl ?_)
                 | (refine At.ldN (by assumption) rfl ?_)
                 | (refine Prs.ln (by assumption) ?_)
                 | (refine Trs.ln (by assumption) ?_)
                 | (refine Prs.ix (by assumption) (by omega) ?_)
                 | (refine Trs.ix (by assumption) (by omega) ?_)
                 | (refine Prs.ldN (by assumption) (by omega) ?_)
                 | (refine Trs.ldN (by assumption) (by omega) ?_)
                 | (refine At.ldN (Blk.at (by assumption)) rfl ?_)
                 | (refine At.ld (Blk.at (by assumption)) rfl ?_)
                 | (refine IxA.mk (by omega) ?_)
                 | (refine Sl.ln (Own.sl (by assumption)) ?_)
                 | (refine Ints.ix (Own.sl (by assumption)) (by omega) ?_)
                 | (refine Ints.ixI (Own.sl (by assumption)) (by omega) ?_)
                 | (refine Ints.ld (Own.sl (by assumption)) (by omega) ?_))
        have hgw := HG.trans G7
        refine ⟨hgw, ⟨?_, fun i hi => ?_⟩, cut_blk H7⟩
        · have hc := Own.cut H7 (Nat.le_of_lt hkn)
          rw [Nat.mul_one, ht7, hyt] at hc
          rw [← keepN_len p undef vs [] rr rr.length]
          exact hc
        · rw [← keepN_len p undef vs [] rr rr.length] at hi
          obtain ⟨j, h1, _, h3, h4⟩ := keepN_at (d' := []) (l' := rr) hi
          rw [h3, h4]
          exact Own.gr (hrow j h1) hgw (fun q hq hS => Own.ne HO0 (hrow j h1) (by decide) q hS hq)
  · rw [hk1] at ci
    have e1 : keepN p undef vs rr.length = vs := by rw [keepN_all (by omega) (fun j hj => hk2 j (by omega) (by omega)), List.take_of_length_le (by omega)]
    have e2 : keepN p [] rr rr.length = rr := by rw [keepN_all (by omega) (fun j hj => hk2 j (by omega) (by omega)), List.take_of_length_le (by omega)]
    have HO0 := Ho
    repeat' (conv => whnf
             first
             | (refine Dr.quiet tyOk (by kernel_rfl) ?_)
             | (refine VC.pure ci ?_)
             | (refine Rng.mk (by omega) ?_)
             | (refine Split.pos (by omega) ?_)
             | (refine Split.neg (by omega) ?_)
             | (refine Split.mk (fun h => ?_) (fun h => ?_))
             | (refine Need.mk (by omega) ?_)
             | (refine Ints.ln (by assumption) ?_)
             | (refine Mat.ln (by assumption) ?_)
             | (refine Ints.ln (Mat.row (by assumption) _ (by omega)) ?_)
             | (refine Ints.ix (by assumption) (by omega) ?_)
             | (refine Mat.ix (by assumption) (by omega) ?_)
             | (refine Ints.ix (Mat.row (by assumption) _ (by omega)) (by omega) ?_)
             | (refine Ints.ix (c := 0) (by assumption) (by omega) ?_)
             | (refine Mat.ix (c := 0) (by assumption) (by omega) ?_)
             | (refine Ints.ix (c := 0) (Mat.row (by assumption) _ (by omega)) (by omega) ?_)
             | (refine Ints.ixI (by assumption) (by omega) ?_)
             | (refine Mat.ixI (by assumption) (by omega) ?_)
             | (refine Ints.ixI (Mat.row (by assumption) _ (by omega)) (by omega) ?_)
             | (refine Ints.ld (by assumption) (by omega) ?_)
             | (refine Mat.ld (by assumption) (by omega) ?_)
             | (refine Ints.ld (Mat.row (by assumption) _ (by omega)) (by omega) ?_)
             | (refine At.ld (by assumption) rfl ?_)
             | (refine At.ldN (by assumption) rfl ?_)
             | (refine Prs.ln (by assumption) ?_)
             | (refine Trs.ln (by assumption) ?_)
             | (refine Prs.ix (by assumption) (by omega) ?_)
             | (refine Trs.ix (by assumption) (by omega) ?_)
             | (refine Prs.ldN (by assumption) (by omega) ?_)
             | (refine Trs.ldN (by assumption) (by omega) ?_)
             | (refine At.ldN (Blk.at (by assumption)) rfl ?_)
             | (refine At.ld (Blk.at (by assumption)) rfl ?_)
             | (refine IxA.mk (by omega) ?_)
             | (refine Sl.ln (Own.sl (by assumption)) ?_)
             | (refine Ints.ix (Own.sl (by assumption)) (by omega) ?_)
             | (refine Ints.ixI (Own.sl (by assumption)) (by omega) ?_)
             | (refine Ints.ld (Own.sl (by assumption)) (by omega) ?_))
    rw [e1, e2]
    exact ⟨(Gr.ofExt EE : Gr _ _ _), Ho, fun k hk => hk⟩
end Go.Proofs.Ytebklnmafjbhcaa
set_option linter.unusedVariables false
set_option linter.unusedSimpArgs false
namespace Go.Proofs.Ytebklnmafjbhcaa
open Go.Eng
set_option maxRecDepth 100000
set_option maxHeartbeats 4000000

def ablB (x y : List Int) : Bool := (List.range x.length).all (fun i => decide (x.getD i 0 ≤ y.getD i 0)) && (List.range x.length).any (fun i => decide (x.getD i 0 < y.getD i 0))
theorem ablB_iff {x y : List Int} : ablB x y = true ↔ abvV x.length (fun i => x.getD i 0) (fun i => y.getD i 0) := by
  unfold ablB abvV
  simp only [Bool.and_eq_true, List.all_eq_true, List.any_eq_true, List.mem_range, decide_eq_true_eq]
theorem ablB_tf (x y : List Int) : tf (abvV x.length (fun i => x.getD i 0) (fun i => y.getD i 0)) = ablB x y := by
  by_cases h : ablB x y = true
  · rw [h, tf_t (ablB_iff.1 h)]
  · rw [tf_f (fun h2 => h (ablB_iff.2 h2))]; simpa using h
theorem ablB_irr (x : List Int) : ablB x x = false := by
  refine Bool.eq_false_iff.2 fun h => ?_
  obtain ⟨i, _, h2⟩ := (ablB_iff.1 h).2
  exact absurd h2 (Int.lt_irrefl _)
theorem ablB_trans {x y z : List Int} (hl : x.length = y.length) (h1 : ablB x y = true) (h2 : ablB y z = true) : ablB x z = true := by
  have a := ablB_iff.1 h1
  have b := ablB_iff.1 h2
  rw [← hl] at b
  refine ablB_iff.2 ⟨fun i hi => Int.le_trans (a.1 i hi) (b.1 i hi), ?_⟩
  obtain ⟨i, hi, h⟩ := a.2
  exact ⟨i, hi, Int.lt_of_lt_of_le h (b.1 i hi)⟩

/-- one more vector -/
def stp (F : List (List Int)) (x : List Int) : List (List Int) := if F.any (fun y => decide (y = x) || ablB x y) then F else F.filter (fun y => !ablB y x) ++ [x]
def frL (l : List (List Int)) : List (List Int) := l.foldl stp []
theorem frL_snoc (l : List (List Int)) (x : List Int) : frL (l ++ [x]) = stp (frL l) x := by unfold frL; rw [List.foldl_append]; rfl

structure FrI (P F : List (List Int)) : Prop where
  nd : F.Nodup
  sub : ∀ y ∈ F, y ∈ P
  max : ∀ y ∈ F, ∀ z ∈ P, ablB y z = false
  cov : ∀ z ∈ P, ∃ y ∈ F, z = y ∨ ablB z y = true
theorem FrI.step {n : Nat} {P F : List (List Int)} {x : List Int} (h : FrI P F) (hn : ∀ y ∈ P, y.length = n) (hx : x.length = n) : FrI (P ++ [x]) (stp F x) := by
  unfold stp
  by_cases hc : F.any (fun y => decide (y = x) || ablB x y) = true
  · rw [if_pos hc]
    rw [List.any_eq_true] at hc
    obtain ⟨y, hy, hyx⟩ := hc
    simp only [Bool.or_eq_true, decide_eq_true_eq] at hyx
    have hyl := hn y (h.sub y hy)
    refine ⟨h.nd, fun y hy => List.mem_append_left _ (h.sub y hy), fun y' hy' z hz => ?_, fun z hz => ?_⟩
    · rcases List.mem_append.1 hz with hz | hz
      · exact h.max y' hy' z hz
      · rw [List.mem_singleton] at hz; subst hz
        refine Bool.eq_false_iff.2 fun hh => ?_
        have h3 := h.max y' hy' y (h.sub y hy)
        have hyl' := hn y' (h.sub y' hy')
        rcases hyx with e | e
        · subst e; rw [hh] at h3; cases h3
        · rw [ablB_trans (by omega) hh e] at h3; cases h3
    · rcases List.mem_append.1 hz with hz | hz
      · exact h.cov z hz
      · rw [List.mem_singleton] at hz; subst hz
        exact ⟨y, hy, hyx.imp (fun e => e.symm) id⟩
  · rw [if_neg hc]
    have hno : ∀ y ∈ F, y ≠ x ∧ ablB x y = false := fun y hy => by
      refine ⟨fun e => hc (List.any_eq_true.2 ⟨y, hy, by simp [e]⟩), Bool.eq_false_iff.2 fun e => hc (List.any_eq_true.2 ⟨y, hy, by simp [e]⟩)⟩
    refine ⟨?_, fun y hy => ?_, fun y hy z hz => ?_, fun z hz => ?_⟩
    · rw [List.nodup_append]
      refine ⟨h.nd.filter _, by simp, fun a ha b hb => ?_⟩
      rw [List.mem_singleton] at hb; subst hb
      exact (hno a (List.mem_filter.1 ha).1).1
    · rcases List.mem_append.1 hy with hy | hy
      · exact List.mem_append_left _ (h.sub y (List.mem_filter.1 hy).1)
      · exact List.mem_append_right _ hy
    · rcases List.mem_append.1 hy with hy | hy
      · obtain ⟨hy, hyx⟩ := List.mem_filter.1 hy
        rcases List.mem_append.1 hz with hz | hz
        · exact h.max y hy z hz
        · rw [List.mem_singleton] at hz; subst hz; simpa using hyx
      · rw [List.mem_singleton] at hy; subst hy
        rcases List.mem_append.1 hz with hz | hz
        · refine Bool.eq_false_iff.2 fun hh => ?_
          obtain ⟨y', hy', h4⟩ := h.cov z hz
          have := (hno y' hy').2
          rcases h4 with rfl | h4
          · rw [hh] at this; cases this
          · rw [ablB_trans (by have := hn z hz; omega) hh h4] at this; cases this
        · rw [List.mem_singleton] at hz; subst hz; exact ablB_irr _
    · rcases List.mem_append.1 hz with hz | hz
      · obtain ⟨y, hy, h4⟩ := h.cov z hz
        by_cases hyx : ablB y x = true
        · refine ⟨x, by simp, .inr ?_⟩
          rcases h4 with rfl | h4
          · exact hyx
          · exact ablB_trans (by have := hn z hz; have := hn y (h.sub y hy); omega) h4 hyx
        · exact ⟨y, List.mem_append_left _ (List.mem_filter.2 ⟨hy, by simpa using hyx⟩), h4⟩
      · rw [List.mem_singleton] at hz; subst hz; exact ⟨z, by simp, .inl rfl⟩
theorem FrI.nil : FrI [] [] := ⟨List.nodup_nil, fun _ h => (by cases h), fun _ h => (by cases h), fun _ h => (by cases h)⟩

theorem nodup_le {α : Type} : ∀ {l m : List α}, l.Nodup → (∀ x ∈ l, x ∈ m) → l.length ≤ m.length
  | [], _, _, _ => Nat.zero_le _
  | x :: l, m, h, hs => by
    classical
    rw [List.nodup_cons] at h
    have hx : x ∈ m := hs x (by simp)
    have := nodup_le (l := l) (m := m.erase x) h.2 fun y hy => (List.mem_erase_of_ne (fun e => h.1 (by rw [← e]; exact hy))).2 (hs y (by simp [hy]))
    have h2 := List.length_erase_of_mem hx
    have h3 := List.length_pos_of_mem hx
    simp only [List.length_cons]
    omega

/-- the vectors of the complete allocations -/
def vecs (rr : List (List Int)) : List (List Int) := (lists rr).map (ownV rr)
def frF (rr : List (List Int)) : List (List Int) := frL (vecs rr)
theorem vecs_len {rr : List (List Int)} {y : List Int} (h : y ∈ vecs rr) : y.length = rr.length := by
  obtain ⟨a, _, rfl⟩ := List.mem_map.1 h
  exact ownV_len _ _
theorem frL_inv {n : Nat} : ∀ (l : List (List Int)), (∀ y ∈ l, y.length = n) → ∀ (P F : List (List Int)), (∀ y ∈ P, y.length = n) → FrI P F → FrI (P ++ l) (l.foldl stp F)
  | [], _, P, F, _, hi => by rw [List.append_nil]; exact hi
  | x :: l, h, P, F, hP, hi => by
    have := frL_inv l (fun y hy => h y (by simp [hy])) (P ++ [x]) (stp F x) (fun y hy => by
      rcases List.mem_append.1 hy with hy | hy
      · exact hP y hy
      · exact h y (by rw [List.mem_singleton] at hy; simp [hy])) (hi.step hP (h x (by simp)))
    rwa [List.append_assoc] at this
theorem frF_inv (rr : List (List Int)) : FrI (vecs rr) (frF rr) := by
  have := frL_inv (n := rr.length) (vecs rr) (fun y hy => vecs_len hy) [] [] (fun _ h => (by cases h)) FrI.nil
  exact this

/-- what the reference gathers -/
noncomputable def stq (rr : List (List Int)) (S : List (List Int)) (a : List Int) : List (List Int) := if (imp rr a).isSome = true ∨ ownV rr a ∈ S then S else S ++ [ownV rr a]
noncomputable def seenL (rr : List (List Int)) (l : List (List Int)) : List (List Int) := l.foldl (stq rr) []
theorem seenL_snoc (rr : List (List Int)) (l : List (List Int)) (x : List Int) : seenL rr (l ++ [x]) = stq rr (seenL rr l) x := by unfold seenL; rw [List.foldl_append]; rfl
structure SeI (rr P S : List (List Int)) : Prop where
  nd : S.Nodup
  iff : ∀ y, y ∈ S ↔ ∃ a ∈ P, imp rr a = none ∧ y = ownV rr a
theorem SeI.step {rr P S : List (List Int)} {x : List Int} (h : SeI rr P S) : SeI rr (P ++ [x]) (stq rr S x) := by
  unfold stq
  by_cases hc : (imp rr x).isSome = true ∨ ownV rr x ∈ S
  · rw [if_pos hc]
    refine ⟨h.nd, fun y => ⟨fun hy => ?_, ?_⟩⟩
    · obtain ⟨a, ha, h2⟩ := (h.iff y).1 hy
      exact ⟨a, List.mem_append_left _ ha, h2⟩
    · rintro ⟨a, ha, h2, rfl⟩
      rcases List.mem_append.1 ha with ha | ha
      · exact (h.iff _).2 ⟨a, ha, h2, rfl⟩
      · rw [List.mem_singleton] at ha; subst ha
        rcases hc with hc | hc
        · rw [h2] at hc; cases hc
        · exact hc
  · rw [if_neg hc]
    have h1 : imp rr x = none := by
      cases hi : imp rr x with
      | none => rfl
      | some b => exact absurd (.inl (by rw [hi]; rfl)) hc
    refine ⟨?_, fun y => ⟨fun hy => ?_, ?_⟩⟩
    · rw [List.nodup_append]
      refine ⟨h.nd, by simp, fun a ha b hb => ?_⟩
      rw [List.mem_singleton] at hb; subst hb
      exact fun e => hc (.inr (e ▸ ha))
    · rcases List.mem_append.1 hy with hy | hy
      · obtain ⟨a, ha, h2⟩ := (h.iff y).1 hy
        exact ⟨a, List.mem_append_left _ ha, h2⟩
      · rw [List.mem_singleton] at hy; subst hy
        exact ⟨x, by simp, h1, rfl⟩
    · rintro ⟨a, ha, h2, rfl⟩
      rcases List.mem_append.1 ha with ha | ha
      · exact List.mem_append_left _ ((h.iff _).2 ⟨a, ha, h2, rfl⟩)
      · rw [List.mem_singleton] at ha; subst ha; simp
theorem seenL_inv {rr : List (List Int)} : ∀ (l P S : List (List Int)), SeI rr P S → SeI rr (P ++ l) (l.foldl (stq rr) S)
  | [], P, S, hi => by rw [List.append_nil]; exact hi
  | x :: l, P, S, hi => by
    have := seenL_inv l (P ++ [x]) (stq rr S x) hi.step
    rwa [List.append_assoc] at this
theorem seen_inv (rr : List (List Int)) : SeI rr (lists rr) (seenL rr (lists rr)) := by
  have := seenL_inv (rr := rr) (lists rr) [] [] ⟨List.nodup_nil, fun y => ⟨fun h => (by cases h), fun h => by obtain ⟨_, h, _⟩ := h; cases h⟩⟩
  exact this
theorem ablB_own {rr : List (List Int)} {a b : List Int} : ablB (ownV rr a) (ownV rr b) = true ↔ abv rr a b := by
  rw [ablB_iff, ownV_len]
  refine ⟨fun h => ⟨fun i hi => ?_, ?_⟩, fun h => ⟨fun i hi => ?_, ?_⟩⟩
  · have := h.1 i hi; dsimp only at this; rwa [ownV_get hi, ownV_get hi] at this
  · obtain ⟨i, hi, h2⟩ := h.2; dsimp only at h2; rw [ownV_get hi, ownV_get hi] at h2; exact ⟨i, hi, h2⟩
  · dsimp only; rw [ownV_get hi, ownV_get hi]; exact h.1 i hi
  · obtain ⟨i, hi, h2⟩ := h.2; refine ⟨i, hi, ?_⟩; dsimp only; rw [ownV_get hi, ownV_get hi]; exact h2
theorem imp_isNone {rr : List (List Int)} {a : List Int} : imp rr a = none ↔ ∀ b ∈ lists rr, ¬ abv rr a b := by
  refine ⟨fun h b hb => ?_, imp_none⟩
  unfold imp at h
  rw [List.find?_eq_none] at h
  simpa using h b hb
theorem front_seen (rr : List (List Int)) : (frF rr).length = (seenL rr (lists rr)).length := by
  have hF := frF_inv rr
  have hS := seen_inv rr
  have e : ∀ y, y ∈ frF rr ↔ y ∈ seenL rr (lists rr) := fun y => by
    rw [hS.iff]
    constructor
    · intro hy
      obtain ⟨a, ha, rfl⟩ := List.mem_map.1 (hF.sub y hy)
      refine ⟨a, ha, imp_isNone.2 fun b hb h => ?_, rfl⟩
      have := hF.max _ hy (ownV rr b) (List.mem_map.2 ⟨b, hb, rfl⟩)
      rw [ablB_own.2 h] at this; cases this
    · rintro ⟨a, ha, hn, rfl⟩
      obtain ⟨y, hy, h⟩ := hF.cov (ownV rr a) (List.mem_map.2 ⟨a, ha, rfl⟩)
      rcases h with h | h
      · rw [h]; exact hy
      · obtain ⟨b, hb, rfl⟩ := List.mem_map.1 (hF.sub y hy)
        exact absurd (ablB_own.1 h) (imp_isNone.1 hn b hb)
  have h1 := nodup_le hF.nd fun x hx => (e x).1 hx
  have h2 := nodup_le hS.nd fun x hx => (e x).2 hx
  omega
theorem lists_ne {rr : List (List Int)} (hc : chk rr = 0) : 1 ≤ (lists rr).length := by
  rw [lists_len]; exact tot_pos (gd_of_chk hc).n1
theorem frF_pos {rr : List (List Int)} (hc : chk rr = 0) : 1 ≤ (frF rr).length := by
  have h := lists_ne hc
  obtain ⟨y, hy, _⟩ := (frF_inv rr).cov ((vecs rr)[0]'(by unfold vecs; rw [List.length_map]; omega)) (List.getElem_mem _)
  exact List.length_pos_of_mem hy
end Go.Proofs.Ytebklnmafjbhcaa
set_option linter.unusedVariables false
set_option linter.unusedSimpArgs false
namespace Go.Proofs.Ytebklnmafjbhcaa
open Go.Eng
set_option maxRecDepth 100000
set_option maxHeartbeats 4000000

/-- rows' blocks from n on -/
def Hi (n : Nat) (us : List Value) : Prop := ∀ i, i < us.length → ∀ q, (us.getD i undef).ownBlock = some q → n ≤ q
structure FR (B n : Nat) (w : World) (v : Value) (us : List Value) (rr : List (List Int)) : Prop where
  om : OM B w v us rr
  hi : Hi n us
theorem OM.ulen {n : Nat} {w : World} {v : Value} {us : List Value} {rr : List (List Int)} (h : OM n w v us rr) : us.length = rr.length := by have := Own.len h.top; omega
theorem FR.gr {S : Nat → Prop} {B n : Nat} {w w' : World} {v : Value} {us : List Value} {rr : List (List Int)} (h : FR B n w v us rr) (hg : Gr S w w') (hv : ∀ k, v.ownBlock = some k → ¬ S k) (hs : ∀ k, n ≤ k → k < w.heap.size → ¬ S k) : FR B n w' v us rr :=
  ⟨⟨Own.gr h.om.top hg hv, fun i hi => Own.gr (h.om.row i hi) hg (fun q hq => hs q (h.hi i (by have := h.om.ulen; omega) q hq) (Own.lt (h.om.row i hi) q hq).2)⟩, h.hi⟩
theorem FR.ext {B n : Nat} {w w' : World} {v : Value} {us : List Value} {rr : List (List Int)} (h : FR B n w v us rr) (hg : Ext w w') : FR B n w' v us rr := ⟨h.om.ext hg, h.hi⟩
theorem FR.nil {B n : Nat} {w : World} : FR B n w (.slice none 0 0) [] [] := ⟨OM.nil, fun _ hi => absurd hi (Nat.not_lt_zero _)⟩
theorem FR.push {B B' n : Nat} {w w' : World} {v v' x : Value} {us : List Value} {rr : List (List Int)} {l : List Int} (h : FR B n w v us rr) (hr : OB n w x l) (hg : Gr (fun k => v.ownBlock = some k) w w') (ho : Go.Eng.Own B' 25 1 w' v' (rr.length + 1) (us ++ [x])) : FR B' n w' v' (us ++ [x]) (rr ++ [l]) := by
  have hl := h.om.ulen
  refine ⟨h.om.push (Own.base hr (Nat.zero_le _)) hg ho, fun i hi q hq => ?_⟩
  by_cases hlt : i < us.length
  · rw [List.getD_eq_getElem?_getD, List.getElem?_append_left hlt, ← List.getD_eq_getElem?_getD] at hq
    exact h.hi i hlt q hq
  · have e : i = us.length := by simp at hi; omega
    subst e
    have e2 : (us ++ [x]).getD us.length undef = x := by simp [List.getD]
    rw [e2] at hq
    exact (Own.lt hr q hq).1
theorem FR.keep {B n : Nat} {w : World} {u : Value} {us : List Value} {rr : List (List Int)} {p : Nat → Bool} (hl : us.length = rr.length) (h : Hi n us) (ho : OM B w u (keepN p undef us rr.length) (keepN p [] rr rr.length)) : FR B n w u (keepN p undef us rr.length) (keepN p [] rr rr.length) :=
  ⟨ho, fun i hi q hq => by
    obtain ⟨j, h1, _, h3, _⟩ := keepN_at (d' := undef) (l' := us) hi
    rw [h3] at hq
    exact h j (by omega) q hq⟩

theorem front1_pc {w : World} {xv ov : Value} {x o : List Int} {b : Nat} (Hx : Ints w xv x) (Ho : Ints w ov o) (hl : x.length = o.length) (Hb : At w ⟨b, 0, none⟩ [ov]) :
    PC Try.prog 80 [xv, .pointer (some ⟨b, 0, none⟩)] w (.bool (decide (x = o) || ablB o x)) := by
  refine PC.mk tyOk Try.func80 rfl (by kernel_rfl) fun w1 E1 => ?_
  replace Hx := Hx.ext E1
  replace Ho := Ho.ext E1
  replace Hb := Hb.ext E1
  have EE := Ext.refl w1
  have c1 := equalI_pc Hx Ho
  have c2 := above_pc Ho Hx hl.symm
  rw [ablB_tf] at c2
  by_cases e : x = o
  · rw [tf_t e] at c1
    repeat' (conv => whnf
             first
             | (refine Dr.quiet tyOk (by kernel_rfl) ?_)
             | (refine At.ld (i := 0) Hb rfl ?_)
             | (refine VC.pure c1 ?_)
             | (refine VCQ.pure c1 ?_)
             | (refine VCQ.pure c2 ?_)
             | (refine Rng.mk (by omega) ?_)
             | (refine Split.pos (by omega) ?_)
             | (refine Split.neg (by omega) ?_)
             | (refine Split.mk (fun h => ?_) (fun h => ?_))
             | (refine Need.mk (by omega) ?_)
             | (refine Ints.ln (by assumption) ?_)
             | (refine Mat.ln (by assumption) ?_)
             | (refine Ints.ln (Mat.row (by assumption) _ (by omega)) ?_)
             | (refine Ints.ix (by assumption) (by omega) ?_)
             | (refine Mat.ix (by assumption) (by omega) ?_)
             | (refine Ints.ix (Mat.row (by assumption) _ (by omega)) (by omega) ?_)
             | (refine Ints.ix (c := 0) (by assumption) (by omega) ?_)
             | (refine Mat.ix (c := 0) (by assumption) (by omega) ?_)
             | (refine Ints.ix (c := 0) (Mat.row (by assumption) _ (by omega)) (by omega) ?_)
             | (refine Ints.ixI (by assumption) (by omega) ?_)
             | (refine Mat.ixI (by assumption) (by omega) ?_)
             | (refine Ints.ixI (Mat.row (by assumption) _ (by omega)) (by omega) ?_)
             | (refine Ints.ld (by assumption) (by omega) ?_)
             | (refine Mat.ld (by assumption) (by omega) ?_)
             | (refine Ints.ld (Mat.row (by assumption) _ (by omega)) (by omega) ?_)
             | (refine At.ld (by assumption) rfl ?_)
             | (refine At.ldN (by assumption) rfl ?_)
             | (refine Prs.ln (by assumption) ?_)
             | (refine Trs.ln (by assumption) ?_)
             | (refine Prs.ix (by assumption) (by omega) ?_)
             | (refine Trs.ix (by assumption) (by omega) ?_)
             | (refine Prs.ldN (by assumption) (by omega) ?_)
             | (refine Trs.ldN (by assumption) (by omega) ?_)
             | (refine At.ldN (Blk.at (by assumption)) rfl ?_)
             | (refine At.ld (Blk.at (by assumption)) rfl ?_)
             | (refine IxA.mk (by omega) ?_)
             | (refine Sl.ln (Own.sl (by assumption)) ?_)
             | (refine Ints.ix (Own.sl (by assumption)) (by omega) ?_)
             | (refine Ints.ixI (Own.sl (by assumption)) (by omega) ?_)
             | (refine Ints.ld (Own.sl (by assumption)) (by omega) ?_))
    rw [decide_eq_true e]; exact ⟨rfl, EE⟩
  · rw [tf_f e] at c1
    repeat' (conv => whnf
             first
             | (refine Dr.quiet tyOk (by kernel_rfl) ?_)
             | (refine At.ld (i := 0) Hb rfl ?_)
             | (refine VC.pure c1 ?_)
             | (refine VC.pure c2 ?_)
             | (refine VCQ.pure c1 ?_)
             | (refine VCQ.pure c2 ?_)
             | (refine Rng.mk (by omega) ?_)
             | (refine Split.pos (by omega) ?_)
             | (refine Split.neg (by omega) ?_)
             | (refine Split.mk (fun h => ?_) (fun h => ?_))
             | (refine Need.mk (by omega) ?_)
             | (refine Ints.ln (by assumption) ?_)
             | (refine Mat.ln (by assumption) ?_)
             | (refine Ints.ln (Mat.row (by assumption) _ (by omega)) ?_)
             | (refine Ints.ix (by assumption) (by omega) ?_)
             | (refine Mat.ix (by assumption) (by omega) ?_)
             | (refine Ints.ix (Mat.row (by assumption) _ (by omega)) (by omega) ?_)
             | (refine Ints.ix (c := 0) (by assumption) (by omega) ?_)
             | (refine Mat.ix (c := 0) (by assumption) (by omega) ?_)
             | (refine Ints.ix (c := 0) (Mat.row (by assumption) _ (by omega)) (by omega) ?_)
             | (refine Ints.ixI (by assumption) (by omega) ?_)
             | (refine Mat.ixI (by assumption) (by omega) ?_)
             | (refine Ints.ixI (Mat.row (by assumption) _ (by omega)) (by omega) ?_)
             | (refine Ints.ld (by assumption) (by omega) ?_)
             | (refine Mat.ld (by assumption) (by omega) ?_)
             | (refine Ints.ld (Mat.row (by assumption) _ (by omega)) (by omega) ?_)
             | (refine At.ld (by assumption) rfl ?_)
             | (refine At.ldN (by assumption) rfl ?_)
             | (refine Prs.ln (by assumption) ?_)
             | (refine Trs.ln (by assumption) ?_)
             | (refine Prs.ix (by assumption) (by omega) ?_)
             | (refine Trs.ix (by assumption) (by omega) ?_)
             | (refine Prs.ldN (by assumption) (by omega) ?_)
             | (refine Trs.ldN (by assumption) (by omega) ?_)
             | (refine At.ldN (Blk.at (by assumption)) rfl ?_)
             | (refine At.ld (Blk.at (by assumption)) rfl ?_)
             | (refine IxA.mk (by omega) ?_)
             | (refine Sl.ln (Own.sl (by assumption)) ?_)
             | (refine Ints.ix (Own.sl (by assumption)) (by omega) ?_)
             | (refine Ints.ixI (Own.sl (by assumption)) (by omega) ?_)
             | (refine Ints.ld (Own.sl (by assumption)) (by omega) ?_))
    rw [decide_eq_false e]; exact ⟨rfl, EE⟩

theorem front2_pc {w : World} {xv ov : Value} {x o : List Int} {b : Nat} (Hx : Ints w xv x) (Ho : Ints w ov o) (hl : x.length = o.length) (Hb : At w ⟨b, 0, none⟩ [ov]) :
    PC Try.prog 83 [xv, .pointer (some ⟨b, 0, none⟩)] w (.bool (ablB x o)) := by
  refine PC.mk tyOk Try.func83 rfl (by kernel_rfl) fun w1 E1 => ?_
  replace Hx := Hx.ext E1
  replace Ho := Ho.ext E1
  replace Hb := Hb.ext E1
  have EE := Ext.refl w1
  have c2 := above_pc Hx Ho hl
  rw [ablB_tf] at c2
  repeat' (conv => whnf
           first
           | (refine Dr.quiet tyOk (by kernel_rfl) ?_)
           | (refine At.ld (i := 0) Hb rfl ?_)
           | (refine VC.pure c2 ?_)
           | (refine Rng.mk (by omega) ?_)
           | (refine Split.pos (by omega) ?_)
           | (refine Split.neg (by omega) ?_)
           | (refine Split.mk (fun h => ?_) (fun h => ?_))
           | (refine Need.mk (by omega) ?_)
           | (refine Ints.ln (by assumption) ?_)
           | (refine Mat.ln (by assumption) ?_)
           | (refine Ints.ln (Mat.row (by assumption) _ (by omega)) ?_)
           | (refine Ints.ix (by assumption) (by omega) ?_)
           | (refine Mat.ix (by assumption) (by omega) ?_)
           | (refine Ints.ix (Mat.row (by assumption) _ (by omega)) (by omega) ?_)
           | (refine Ints.ix (c := 0) (by assumption) (by omega) ?_)
           | (refine Mat.ix (c := 0) (by assumption) (by omega) ?_)
           | (refine Ints.ix (c := 0) (Mat.row (by assumption) _ (by omega)) (by omega) ?_)
           | (refine Ints.ixI (by assumption) (by omega) ?_)
           | (refine Mat.ixI (by assumption) (by omega) ?_)
           | (refine Ints.ixI (Mat.row (by assumption) _ (by omega)) (by omega) ?_)
           | (refine Ints.ld (by assumption) (by omega) ?_)
           | (refine Mat.ld (by assumption) (by omega) ?_)
           | (refine Ints.ld (Mat.row (by assumption) _ (by omega)) (by omega) ?_)
           | (refine At.ld (by assumption) rfl ?_)
           | (refine At.ldN (by assumption) rfl ?_)
           | (refine Prs.ln (by assumption) ?_)
           | (refine Trs.ln (by assumption) ?_)
           | (refine Prs.ix (by assumption) (by omega) ?_)
           | (refine Trs.ix (by assumption) (by omega) ?_)
           | (refine Prs.ldN (by assumption) (by omega) ?_)
           | (refine Trs.ldN (by assumption) (by omega) ?_)
           | (refine At.ldN (Blk.at (by assumption)) rfl ?_)
           | (refine At.ld (Blk.at (by assumption)) rfl ?_)
           | (refine IxA.mk (by omega) ?_)
           | (refine Sl.ln (Own.sl (by assumption)) ?_)
           | (refine Ints.ix (Own.sl (by assumption)) (by omega) ?_)
           | (refine Ints.ixI (Own.sl (by assumption)) (by omega) ?_)
           | (refine Ints.ld (Own.sl (by assumption)) (by omega) ?_))
  exact ⟨rfl, EE⟩

theorem rown_rc {w : World} {gv av : Value} {vs : List Value} {rr : List (List Int)} {a : List Int} (Hg : Mat w gv vs rr) (Ha : Ints w av a) (hv : vld rr a = 0) :
    RC Try.prog 85 [.agg #[gv], av] w NoB (fun u w' => OB w.heap.size w' u (ownV rr a)) := by
  refine RC.mk tyOk Try.func85 rfl (by kernel_rfl) fun w1 E1 => ?_
  replace Hg := Hg.ext E1
  replace Ha := Ha.ext E1
  have EE := Ext.refl w1
  refine Bx.agg fun b2 w2 E2 hb2 Hb _ => ?_
  replace Hg := Hg.ext E2
  replace Ha := Ha.ext E2
  replace EE := EE.ext E2
  have hz1 := EE.size
  have hz0 : w.heap.size ≤ w1.heap.size := by first | omega | exact E1.size
  have hal := al_of_vld hv
  have hn := hal.n6
  have hm := hal.m10
  have hlen := hal.len
  repeat' (conv => whnf
           first
           | (refine Dr.quiet tyOk (by kernel_rfl) ?_)
           | (refine Rng.mk (by omega) ?_)
           | (refine Split.pos (by omega) ?_)
           | (refine Split.neg (by omega) ?_)
           | (refine Split.mk (fun h => ?_) (fun h => ?_))
           | (refine Need.mk (by omega) ?_)
           | (refine Ints.ln (by assumption) ?_)
           | (refine Mat.ln (by assumption) ?_)
           | (refine Ints.ln (Mat.row (by assumption) _ (by omega)) ?_)
           | (refine Ints.ix (by assumption) (by omega) ?_)
           | (refine Mat.ix (by assumption) (by omega) ?_)
           | (refine Ints.ix (Mat.row (by assumption) _ (by omega)) (by omega) ?_)
           | (refine Ints.ix (c := 0) (by assumption) (by omega) ?_)
           | (refine Mat.ix (c := 0) (by assumption) (by omega) ?_)
           | (refine Ints.ix (c := 0) (Mat.row (by assumption) _ (by omega)) (by omega) ?_)
           | (refine Ints.ixI (by assumption) (by omega) ?_)
           | (refine Mat.ixI (by assumption) (by omega) ?_)
           | (refine Ints.ixI (Mat.row (by assumption) _ (by omega)) (by omega) ?_)
           | (refine Ints.ld (by assumption) (by omega) ?_)
           | (refine Mat.ld (by assumption) (by omega) ?_)
           | (refine Ints.ld (Mat.row (by assumption) _ (by omega)) (by omega) ?_)
           | (refine At.ld (by assumption) rfl ?_)
           | (refine At.ldN (by assumption) rfl ?_)
           | (refine Prs.ln (by assumption) ?_)
           | (refine Trs.ln (by assumption) ?_)
           | (refine Prs.ix (by assumption) (by omega) ?_)
           | (refine Trs.ix (by assumption) (by omega) ?_)
           | (refine Prs.ldN (by assumption) (by omega) ?_)
           | (refine Trs.ldN (by assumption) (by omega) ?_)
           | (refine At.ldN (Blk.at (by assumption)) rfl ?_)
           | (refine At.ld (Blk.at (by assumption)) rfl ?_)
           | (refine IxA.mk (by omega) ?_)
           | (refine Sl.ln (Own.sl (by assumption)) ?_)
           | (refine Ints.ix (Own.sl (by assumption)) (by omega) ?_)
           | (refine Ints.ixI (Own.sl (by assumption)) (by omega) ?_)
           | (refine Ints.ld (Own.sl (by assumption)) (by omega) ?_))
  have Hg__1 := Hg
  have Ha__1 := Ha
  have EE__1 := EE
  have Hb__1 := Hb
  have hz1 := Nat.le_trans E1.size EE.size
  refine Lp.mk tyOk [false, false, false, false, false, true, true, true, true, true, true, true, true, true, true, true, true, true, true, true, true, true] (fun m fr wr => getK fr 6 fun i => getK fr 5 fun o => ∃ c : Nat, c ≤ rr.length ∧ m = rr.length - c ∧ i = .int .i64 (c : Int) ∧ (Go.Eng.Own w2.heap.size 3 1 wr o c ((mk c (ownB rr a)).map i64v)) ∧ Ext w2 wr) (rr.length) ?_ ?_
  · exact ⟨0, Nat.zero_le _, rfl, rfl, Own.nil, Ext.refl _⟩
  · intro m w3 u5 u6 u7 u8 u9 u10 u11 u12 u13 u14 u15 u16 u17 u18 u19 u20 u21 hR
    obtain ⟨c, hc, rfl, rfl, HO, EL1⟩ := hR
    replace Hg := Hg__1.ext EL1
    replace Ha := Ha__1.ext EL1
    replace EE := EE__1.ext EL1
    replace Hb := Hb__1.ext EL1
    by_cases hcl : c < rr.length
    · have cw := worth_pc (k := (c : Int)) Hg Ha hcl (by have := hal.row c hcl; omega) hal.val (by omega)
      repeat' (conv => whnf
               first
               | (refine Dr.quiet tyOk (by kernel_rfl) ?_)
               | (refine VC.pure cw ?_)
               | (refine Rng.mk (by omega) ?_)
               | (refine Split.pos (by omega) ?_)
               | (refine Split.neg (by omega) ?_)
               | (refine Split.mk (fun h => ?_) (fun h => ?_))
               | (refine Need.mk (by omega) ?_)
               | (refine Ints.ln (by assumption) ?_)
               | (refine Mat.ln (by assumption) ?_)
               | (refine Ints.ln (Mat.row (by assumption) _ (by omega)) ?_)
               | (refine Ints.ix (by assumption) (by omega) ?_)
               | (refine Mat.ix (by assumption) (by omega) ?_)
               | (refine Ints.ix (Mat.row (by assumption) _ (by omega)) (by omega) ?_)
               | (refine Ints.ix (c := 0) (by assumption) (by omega) ?_)
               | (refine Mat.ix (c := 0) (by assumption) (by omega) ?_)
               | (refine Ints.ix (c := 0) (Mat.row (by assumption) _ (by omega)) (by omega) ?_)
               | (refine Ints.ixI (by assumption) (by omega) ?_)
               | (refine Mat.ixI (by assumption) (by omega) ?_)
               | (refine Ints.ixI (Mat.row (by assumption) _ (by omega)) (by omega) ?_)
               | (refine Ints.ld (by assumption) (by omega) ?_)
               | (refine Mat.ld (by assumption) (by omega) ?_)
               | (refine Ints.ld (Mat.row (by assumption) _ (by omega)) (by omega) ?_)
               | (refine At.ld (by assumption) rfl ?_)
               | (refine At.ldN (by assumption) rfl ?_)
               | (refine Prs.ln (by assumption) ?_)
               | (refine Trs.ln (by assumption) ?_)
               | (refine Prs.ix (by assumption) (by omega) ?_)
               | (refine Trs.ix (by assumption) (by omega) ?_)
               | (refine Prs.ldN (by assumption) (by omega) ?_)
               | (refine Trs.ldN (by assumption) (by omega) ?_)
               | (refine At.ldN (Blk.at (by assumption)) rfl ?_)
               | (refine At.ld (Blk.at (by assumption)) rfl ?_)
               | (refine IxA.mk (by omega) ?_)
               | (refine Sl.ln (Own.sl (by assumption)) ?_)
               | (refine Ints.ix (Own.sl (by assumption)) (by omega) ?_)
               | (refine Ints.ixI (Own.sl (by assumption)) (by omega) ?_)
               | (refine Ints.ld (Own.sl (by assumption)) (by omega) ?_))
      refine VE.lit1 Try.underlying25 eInt (rfl) fun lv w4 E4 Hl => ?_
      replace Hg := Hg.ext E4
      replace Ha := Ha.ext E4
      replace EE := EE.ext E4
      replace Hb := Hb.ext E4
      replace EL1 := EL1.ext E4
      replace HO := HO.ext E4
      conv => whnf
      refine VE.app Try.underlying25 eInt rfl (by omega) HO EL1 rfl Hl (by simp [Value.oneCell']) (by first | omega | (simp only [List.length_map, List.length_range]; omega) | (simp; omega)) (by first | omega | (simp only [List.length_map, List.length_range]; omega) | (simp; omega)) fun v8 w5 E5 G5 H8 => ?_
      replace Hg := Hg__1.ext E5
      replace Ha := Ha__1.ext E5
      replace EE := EE__1.ext E5
      replace Hb := Hb__1.ext E5
      replace EL1 := E5
      repeat' (conv => whnf
               first
               | (refine Dr.quiet tyOk (by kernel_rfl) ?_)
               | (refine Rng.mk (by omega) ?_)
               | (refine Split.pos (by omega) ?_)
               | (refine Split.neg (by omega) ?_)
               | (refine Split.mk (fun h => ?_) (fun h => ?_))
               | (refine Need.mk (by omega) ?_)
               | (refine Ints.ln (by assumption) ?_)
               | (refine Mat.ln (by assumption) ?_)
               | (refine Ints.ln (Mat.row (by assumption) _ (by omega)) ?_)
               | (refine Ints.ix (by assumption) (by omega) ?_)
               | (refine Mat.ix (by assumption) (by omega) ?_)
               | (refine Ints.ix (Mat.row (by assumption) _ (by omega)) (by omega) ?_)
               | (refine Ints.ix (c := 0) (by assumption) (by omega) ?_)
               | (refine Mat.ix (c := 0) (by assumption) (by omega) ?_)
               | (refine Ints.ix (c := 0) (Mat.row (by assumption) _ (by omega)) (by omega) ?_)
               | (refine Ints.ixI (by assumption) (by omega) ?_)
               | (refine Mat.ixI (by assumption) (by omega) ?_)
               | (refine Ints.ixI (Mat.row (by assumption) _ (by omega)) (by omega) ?_)
               | (refine Ints.ld (by assumption) (by omega) ?_)
               | (refine Mat.ld (by assumption) (by omega) ?_)
               | (refine Ints.ld (Mat.row (by assumption) _ (by omega)) (by omega) ?_)
               | (refine At.ld (by assumption) rfl ?_)
               | (refine At.ldN (by assumption) rfl ?_)
               | (refine Prs.ln (by assumption) ?_)
               | (refine Trs.ln (by assumption) ?_)
               | (refine Prs.ix (by assumption) (by omega) ?_)
               | (refine Trs.ix (by assumption) (by omega) ?_)
               | (refine Prs.ldN (by assumption) (by omega) ?_)
               | (refine Trs.ldN (by assumption) (by omega) ?_)
               | (refine At.ldN (Blk.at (by assumption)) rfl ?_)
               | (refine At.ld (Blk.at (by assumption)) rfl ?_)
               | (refine IxA.mk (by omega) ?_)
               | (refine Sl.ln (Own.sl (by assumption)) ?_)
               | (refine Ints.ix (Own.sl (by assumption)) (by omega) ?_)
               | (refine Ints.ixI (Own.sl (by assumption)) (by omega) ?_)
               | (refine Ints.ld (Own.sl (by assumption)) (by omega) ?_))
      refine ⟨_, (by omega : rr.length - (c + 1) < rr.length - c), rfl, c + 1, by omega, rfl, rfl, ?_, EL1⟩
      rw [mk_succ, List.map_append]
      exact H8
    · obtain rfl : c = rr.length := by omega
      repeat' (conv => whnf
               first
               | (refine Dr.quiet tyOk (by kernel_rfl) ?_)
               | (refine Rng.mk (by omega) ?_)
               | (refine Split.pos (by omega) ?_)
               | (refine Split.neg (by omega) ?_)
               | (refine Split.mk (fun h => ?_) (fun h => ?_))
               | (refine Need.mk (by omega) ?_)
               | (refine Ints.ln (by assumption) ?_)
               | (refine Mat.ln (by assumption) ?_)
               | (refine Ints.ln (Mat.row (by assumption) _ (by omega)) ?_)
               | (refine Ints.ix (by assumption) (by omega) ?_)
               | (refine Mat.ix (by assumption) (by omega) ?_)
               | (refine Ints.ix (Mat.row (by assumption) _ (by omega)) (by omega) ?_)
               | (refine Ints.ix (c := 0) (by assumption) (by omega) ?_)
               | (refine Mat.ix (c := 0) (by assumption) (by omega) ?_)
               | (refine Ints.ix (c := 0) (Mat.row (by assumption) _ (by omega)) (by omega) ?_)
               | (refine Ints.ixI (by assumption) (by omega) ?_)
               | (refine Mat.ixI (by assumption) (by omega) ?_)
               | (refine Ints.ixI (Mat.row (by assumption) _ (by omega)) (by omega) ?_)
               | (refine Ints.ld (by assumption) (by omega) ?_)
               | (refine Mat.ld (by assumption) (by omega) ?_)
               | (refine Ints.ld (Mat.row (by assumption) _ (by omega)) (by omega) ?_)
               | (refine At.ld (by assumption) rfl ?_)
               | (refine At.ldN (by assumption) rfl ?_)
               | (refine Prs.ln (by assumption) ?_)
               | (refine Trs.ln (by assumption) ?_)
               | (refine Prs.ix (by assumption) (by omega) ?_)
               | (refine Trs.ix (by assumption) (by omega) ?_)
               | (refine Prs.ldN (by assumption) (by omega) ?_)
               | (refine Trs.ldN (by assumption) (by omega) ?_)
               | (refine At.ldN (Blk.at (by assumption)) rfl ?_)
               | (refine At.ld (Blk.at (by assumption)) rfl ?_)
               | (refine IxA.mk (by omega) ?_)
               | (refine Sl.ln (Own.sl (by assumption)) ?_)
               | (refine Ints.ix (Own.sl (by assumption)) (by omega) ?_)
               | (refine Ints.ixI (Own.sl (by assumption)) (by omega) ?_)
               | (refine Ints.ld (Own.sl (by assumption)) (by omega) ?_))
      refine ⟨EE, ?_⟩
      show Go.Eng.Own _ _ _ _ _ (ownV rr a).length _
      rw [ownV_len]
      exact Own.base HO (by omega)

def great22 (rr : List (List Int)) (a : List Int) : Prop := great rr a ∨ chk rr = 0 ∧ (3 < rr.length ∨ 4 < mOf rr)
theorem great22_pc {w : World} {gv av : Value} {vs : List Value} {rr : List (List Int)} {a : List Int} (Hg : Mat w gv vs rr) (Ha : Ints w av a) :
    PC Try.prog 31 [.agg #[gv], av] w (.bool (tf (great22 rr a))) := by
  refine PC.mk tyOk Try.func31 rfl (by kernel_rfl) fun w1 E1 => ?_
  replace Hg := Hg.ext E1
  replace Ha := Ha.ext E1
  have EE := Ext.refl w1
  refine Bx.agg fun b2 w2 E2 hb2 Hb _ => ?_
  replace Hg := Hg.ext E2
  replace Ha := Ha.ext E2
  replace EE := EE.ext E2
  have c2 := rcheck_pc Hg
  have hc := great_pc Hg Ha
  have hmO : mOf rr = (rr.getD 0 []).length := rfl
  by_cases hgr : great rr a
  · rw [tf_t hgr] at hc
    rw [tf_t (p := great22 rr a) (.inl hgr)]
    repeat' (conv => whnf
             first
             | (refine Dr.quiet tyOk (by kernel_rfl) ?_)
             | (refine VC.pure hc ?_)
             | (refine Rng.mk (by omega) ?_)
             | (refine Split.pos (by omega) ?_)
             | (refine Split.neg (by omega) ?_)
             | (refine Split.mk (fun h => ?_) (fun h => ?_))
             | (refine Need.mk (by omega) ?_)
             | (refine Ints.ln (by assumption) ?_)
             | (refine Mat.ln (by assumption) ?_)
             | (refine Ints.ln (Mat.row (by assumption) _ (by omega)) ?_)
             | (refine Ints.ix (by assumption) (by omega) ?_)
             | (refine Mat.ix (by assumption) (by omega) ?_)
             | (refine Ints.ix (Mat.row (by assumption) _ (by omega)) (by omega) ?_)
             | (refine Ints.ix (c := 0) (by assumption) (by omega) ?_)
             | (refine Mat.ix (c := 0) (by assumption) (by omega) ?_)
             | (refine Ints.ix (c := 0) (Mat.row (by assumption) _ (by omega)) (by omega) ?_)
             | (refine Ints.ixI (by assumption) (by omega) ?_)
             | (refine Mat.ixI (by assumption) (by omega) ?_)
             | (refine Ints.ixI (Mat.row (by assumption) _ (by omega)) (by omega) ?_)
             | (refine Ints.ld (by assumption) (by omega) ?_)
             | (refine Mat.ld (by assumption) (by omega) ?_)
             | (refine Ints.ld (Mat.row (by assumption) _ (by omega)) (by omega) ?_)
             | (refine At.ld (by assumption) rfl ?_)
             | (refine At.ldN (by assumption) rfl ?_)
             | (refine Prs.ln (by assumption) ?_)
             | (refine Trs.ln (by assumption) ?_)
             | (refine Prs.ix (by assumption) (by omega) ?_)
             | (refine Trs.ix (by assumption) (by omega) ?_)
             | (refine Prs.ldN (by assumption) (by omega) ?_)
             | (refine Trs.ldN (by assumption) (by omega) ?_)
             | (refine At.ldN (Blk.at (by assumption)) rfl ?_)
             | (refine At.ld (Blk.at (by assumption)) rfl ?_)
             | (refine IxA.mk (by omega) ?_)
             | (refine Sl.ln (Own.sl (by assumption)) ?_)
             | (refine Ints.ix (Own.sl (by assumption)) (by omega) ?_)
             | (refine Ints.ixI (Own.sl (by assumption)) (by omega) ?_)
             | (refine Ints.ld (Own.sl (by assumption)) (by omega) ?_))
    exact ⟨rfl, EE⟩
  · rw [tf_f hgr] at hc
    by_cases hv : chk rr = 0
    · have hn1 := (gd_of_chk hv).n1
      rw [hv] at c2
      repeat' (conv => whnf
               first
               | (refine Dr.quiet tyOk (by kernel_rfl) ?_)
               | (refine VC.pure hc ?_)
               | (refine VC.pure c2 ?_)
               | (refine VCQ.pure c2 ?_)
               | (refine Rng.mk (by omega) ?_)
               | (refine Split.pos (by omega) ?_)
               | (refine Split.neg (by omega) ?_)
               | (refine Split.mk (fun h => ?_) (fun h => ?_))
               | (refine Need.mk (by omega) ?_)
               | (refine Ints.ln (by assumption) ?_)
               | (refine Mat.ln (by assumption) ?_)
               | (refine Ints.ln (Mat.row (by assumption) _ (by omega)) ?_)
               | (refine Ints.ix (by assumption) (by omega) ?_)
               | (refine Mat.ix (by assumption) (by omega) ?_)
               | (refine Ints.ix (Mat.row (by assumption) _ (by omega)) (by omega) ?_)
               | (refine Ints.ix (c := 0) (by assumption) (by omega) ?_)
               | (refine Mat.ix (c := 0) (by assumption) (by omega) ?_)
               | (refine Ints.ix (c := 0) (Mat.row (by assumption) _ (by omega)) (by omega) ?_)
               | (refine Ints.ixI (by assumption) (by omega) ?_)
               | (refine Mat.ixI (by assumption) (by omega) ?_)
               | (refine Ints.ixI (Mat.row (by assumption) _ (by omega)) (by omega) ?_)
               | (refine Ints.ld (by assumption) (by omega) ?_)
               | (refine Mat.ld (by assumption) (by omega) ?_)
               | (refine Ints.ld (Mat.row (by assumption) _ (by omega)) (by omega) ?_)
               | (refine At.ld (by assumption) rfl ?_)
               | (refine At.ldN (by assumption) rfl ?_)
               | (refine Prs.ln (by assumption) ?_)
               | (refine Trs.ln (by assumption) ?_)
               | (refine Prs.ix (by assumption) (by omega) ?_)
               | (refine Trs.ix (by assumption) (by omega) ?_)
               | (refine Prs.ldN (by assumption) (by omega) ?_)
               | (refine Trs.ldN (by assumption) (by omega) ?_)
               | (refine At.ldN (Blk.at (by assumption)) rfl ?_)
               | (refine At.ld (Blk.at (by assumption)) rfl ?_)
               | (refine IxA.mk (by omega) ?_)
               | (refine Sl.ln (Own.sl (by assumption)) ?_)
               | (refine Ints.ix (Own.sl (by assumption)) (by omega) ?_)
               | (refine Ints.ixI (Own.sl (by assumption)) (by omega) ?_)
               | (refine Ints.ld (Own.sl (by assumption)) (by omega) ?_))
      all_goals first
        | (rw [tf_t (p := great22 rr a) (.inr ⟨hv, by omega⟩)]; exact ⟨rfl, EE⟩)
        | (rw [tf_f (p := great22 rr a) (by rintro (h | h); exact hgr h; omega)]; exact ⟨rfl, EE⟩)
    · rw [tf_f (p := great22 rr a) (by rintro (h | h); exact hgr h; exact hv h.1)]
      repeat' (conv => whnf
               first
               | (refine Dr.quiet tyOk (by kernel_rfl) ?_)
               | (refine VC.pure hc ?_)
               | (refine VC.pure c2 ?_)
               | (refine VCQ.pure c2 ?_)
               | (refine Rng.mk (by omega) ?_)
               | (refine Split.pos (by omega) ?_)
               | (refine Split.neg (by omega) ?_)
               | (refine Split.mk (fun h => ?_) (fun h => ?_))
               | (refine Need.mk (by omega) ?_)
               | (refine Ints.ln (by assumption) ?_)
               | (refine Mat.ln (by assumption) ?_)
               | (refine Ints.ln (Mat.row (by assumption) _ (by omega)) ?_)
               | (refine Ints.ix (by assumption) (by omega) ?_)
               | (refine Mat.ix (by assumption) (by omega) ?_)
               | (refine Ints.ix (Mat.row (by assumption) _ (by omega)) (by omega) ?_)
               | (refine Ints.ix (c := 0) (by assumption) (by omega) ?_)
               | (refine Mat.ix (c := 0) (by assumption) (by omega) ?_)
               | (refine Ints.ix (c := 0) (Mat.row (by assumption) _ (by omega)) (by omega) ?_)
               | (refine Ints.ixI (by assumption) (by omega) ?_)
               | (refine Mat.ixI (by assumption) (by omega) ?_)
               | (refine Ints.ixI (Mat.row (by assumption) _ (by omega)) (by omega) ?_)
               | (refine Ints.ld (by assumption) (by omega) ?_)
               | (refine Mat.ld (by assumption) (by omega) ?_)
               | (refine Ints.ld (Mat.row (by assumption) _ (by omega)) (by omega) ?_)
               | (refine At.ld (by assumption) rfl ?_)
               | (refine At.ldN (by assumption) rfl ?_)
               | (refine Prs.ln (by assumption) ?_)
               | (refine Trs.ln (by assumption) ?_)
               | (refine Prs.ix (by assumption) (by omega) ?_)
               | (refine Trs.ix (by assumption) (by omega) ?_)
               | (refine Prs.ldN (by assumption) (by omega) ?_)
               | (refine Trs.ldN (by assumption) (by omega) ?_)
               | (refine At.ldN (Blk.at (by assumption)) rfl ?_)
               | (refine At.ld (Blk.at (by assumption)) rfl ?_)
               | (refine IxA.mk (by omega) ?_)
               | (refine Sl.ln (Own.sl (by assumption)) ?_)
               | (refine Ints.ix (Own.sl (by assumption)) (by omega) ?_)
               | (refine Ints.ixI (Own.sl (by assumption)) (by omega) ?_)
               | (refine Ints.ld (Own.sl (by assumption)) (by omega) ?_))
      exact ⟨rfl, EE⟩
end Go.Proofs.Ytebklnmafjbhcaa
set_option linter.unusedVariables false
set_option linter.unusedSimpArgs false
namespace Go.Proofs.Ytebklnmafjbhcaa
open Go.Eng
set_option maxRecDepth 100000
set_option maxHeartbeats 4000000

noncomputable def frE (rr : List (List Int)) : Int := if chk rr = 0 then (if 20000 < tot rr then 4 else 0) else chk rr
noncomputable def frN (rr : List (List Int)) : Int := if frE rr = 0 then ((frF rr).length : Int) else 0
theorem fr_err {rr : List (List Int)} (h : ¬ chk rr = 0) : frE rr = chk rr ∧ frN rr = 0 := by
  have e : frE rr = chk rr := by unfold frE; rw [if_neg h]
  exact ⟨e, by unfold frN; rw [e, if_neg h]⟩
theorem fr_many {rr : List (List Int)} (h : chk rr = 0) (ht : 20000 < tot rr) : frE rr = 4 ∧ frN rr = 0 := by
  have e : frE rr = 4 := by unfold frE; rw [if_pos h, if_pos ht]
  exact ⟨e, by unfold frN; rw [e, if_neg (by decide)]⟩
theorem fr_ok {rr : List (List Int)} (h : chk rr = 0) (ht : ¬ 20000 < tot rr) : frE rr = 0 ∧ frN rr = ((frF rr).length : Int) := by
  have e : frE rr = 0 := by unfold frE; rw [if_pos h, if_neg ht]
  exact ⟨e, by unfold frN; rw [if_pos e]⟩
theorem stq_le (rr S : List (List Int)) (a : List Int) : (stq rr S a).length ≤ S.length + 1 := by
  unfold stq; split
  · omega
  · simp
theorem seenL_le {rr : List (List Int)} : ∀ (c : Nat), (seenL rr ((lists rr).take c)).length ≤ c
  | 0 => Nat.le_refl _
  | c + 1 => by
    by_cases h : c < tot rr
    · rw [lists_snoc h, seenL_snoc]
      have := stq_le rr (seenL rr ((lists rr).take c)) (digs rr.length (mOf rr) c)
      have := seenL_le (rr := rr) c
      omega
    · have := seenL_le (rr := rr) c
      rw [List.take_of_length_le (by rw [lists_len]; omega)] at this ⊢
      omega
theorem mem_at {l : List (List Int)} {x : List Int} : x ∈ l ↔ ∃ i, i < l.length ∧ l.getD i [] = x := by
  constructor
  · intro h
    obtain ⟨i, hi, e⟩ := List.getElem_of_mem h
    exact ⟨i, hi, by rw [List.getD_eq_getElem?_getD, List.getElem?_eq_getElem hi, Option.getD_some, e]⟩
  · rintro ⟨i, hi, rfl⟩
    rw [List.getD_eq_getElem?_getD, List.getElem?_eq_getElem hi, Option.getD_some]
    exact List.getElem_mem _

theorem rfront_rc {w : World} {gv : Value} {vs : List Value} {rr : List (List Int)} (Hg : Mat w gv vs rr) :
    RC Try.prog 38 [.agg #[gv]] w NoB (fun u _ => u = .tuple #[.int .i64 (frN rr), .int .i64 (frE rr)]) := by
  refine RC.mk tyOk Try.func38 rfl (by kernel_rfl) fun w1 E1 => ?_
  replace Hg := Hg.ext E1
  have EE := Ext.refl w1
  refine Bx.agg fun b2 w2 E2 hb2 Hb _ => ?_
  replace Hg := Hg.ext E2
  replace EE := EE.ext E2
  have ca := rcheck_pc Hg
  by_cases hck : chk rr = 0
  · have ct := btries_pc Hg hck
    rw [hck] at ca
    by_cases ht : 20000 < tot rr
    · rw [tf_t ht] at ct
      obtain ⟨e1, e2⟩ := fr_many hck ht
      repeat' (conv => whnf
               first
               | (refine Dr.quiet tyOk (by kernel_rfl) ?_)
               | (refine VC.pure ca ?_)
               | (refine VC.pure ct ?_)
               | (refine Rng.mk (by omega) ?_)
               | (refine Split.pos (by omega) ?_)
               | (refine Split.neg (by omega) ?_)
               | (refine Split.mk (fun h => ?_) (fun h => ?_))
               | (refine Need.mk (by omega) ?_)
               | (refine Ints.ln (by assumption) ?_)
               | (refine Mat.ln (by assumption) ?_)
               | (refine Ints.ln (Mat.row (by assumption) _ (by omega)) ?_)
               | (refine Ints.ix (by assumption) (by omega) ?_)
               | (refine Mat.ix (by assumption) (by omega) ?_)
               | (refine Ints.ix (Mat.row (by assumption) _ (by omega)) (by omega) ?_)
               | (refine Ints.ix (c := 0) (by assumption) (by omega) ?_)
               | (refine Mat.ix (c := 0) (by assumption) (by omega) ?_)
               | (refine Ints.ix (c := 0) (Mat.row (by assumption) _ (by omega)) (by omega) ?_)
               | (refine Ints.ixI (by assumption) (by omega) ?_)
               | (refine Mat.ixI (by assumption) (by omega) ?_)
               | (refine Ints.ixI (Mat.row (by assumption) _ (by omega)) (by omega) ?_)
               | (refine Ints.ld (by assumption) (by omega) ?_)
               | (refine Mat.ld (by assumption) (by omega) ?_)
               | (refine Ints.ld (Mat.row (by assumption) _ (by omega)) (by omega) ?_)
               | (refine At.ld (by assumption) rfl ?_)
               | (refine At.ldN (by assumption) rfl ?_)
               | (refine Prs.ln (by assumption) ?_)
               | (refine Trs.ln (by assumption) ?_)
               | (refine Prs.ix (by assumption) (by omega) ?_)
               | (refine Trs.ix (by assumption) (by omega) ?_)
               | (refine Prs.ldN (by assumption) (by omega) ?_)
               | (refine Trs.ldN (by assumption) (by omega) ?_)
               | (refine At.ldN (Blk.at (by assumption)) rfl ?_)
               | (refine At.ld (Blk.at (by assumption)) rfl ?_)
               | (refine IxA.mk (by omega) ?_)
               | (refine Sl.ln (Own.sl (by assumption)) ?_)
               | (refine Ints.ix (Own.sl (by assumption)) (by omega) ?_)
               | (refine Ints.ixI (Own.sl (by assumption)) (by omega) ?_)
               | (refine Ints.ld (Own.sl (by assumption)) (by omega) ?_))
      rw [e1, e2]
      exact ⟨EE, rfl⟩
    · rw [tf_f ht] at ct
      obtain ⟨e1, e2⟩ := fr_ok hck ht
      have hgd := gd_of_chk hck
      have hn := hgd.n6
      have hn1 := hgd.n1
      have hm := hgd.m10
      have hmO : mOf rr = (rr.getD 0 []).length := rfl
      have hdl := digs_len rr.length (mOf rr)
      repeat' (conv => whnf
               first
               | (refine Dr.quiet tyOk (by kernel_rfl) ?_)
               | (refine VC.pure ca ?_)
               | (refine VC.pure ct ?_)
               | (refine Rng.mk (by omega) ?_)
               | (refine Split.pos (by omega) ?_)
               | (refine Split.neg (by omega) ?_)
               | (refine Split.mk (fun h => ?_) (fun h => ?_))
               | (refine Need.mk (by omega) ?_)
               | (refine Ints.ln (by assumption) ?_)
               | (refine Mat.ln (by assumption) ?_)
               | (refine Ints.ln (Mat.row (by assumption) _ (by omega)) ?_)
               | (refine Ints.ix (by assumption) (by omega) ?_)
               | (refine Mat.ix (by assumption) (by omega) ?_)
               | (refine Ints.ix (Mat.row (by assumption) _ (by omega)) (by omega) ?_)
               | (refine Ints.ix (c := 0) (by assumption) (by omega) ?_)
               | (refine Mat.ix (c := 0) (by assumption) (by omega) ?_)
               | (refine Ints.ix (c := 0) (Mat.row (by assumption) _ (by omega)) (by omega) ?_)
               | (refine Ints.ixI (by assumption) (by omega) ?_)
               | (refine Mat.ixI (by assumption) (by omega) ?_)
               | (refine Ints.ixI (Mat.row (by assumption) _ (by omega)) (by omega) ?_)
               | (refine Ints.ld (by assumption) (by omega) ?_)
               | (refine Mat.ld (by assumption) (by omega) ?_)
               | (refine Ints.ld (Mat.row (by assumption) _ (by omega)) (by omega) ?_)
               | (refine At.ld (by assumption) rfl ?_)
               | (refine At.ldN (by assumption) rfl ?_)
               | (refine Prs.ln (by assumption) ?_)
               | (refine Trs.ln (by assumption) ?_)
               | (refine Prs.ix (by assumption) (by omega) ?_)
               | (refine Trs.ix (by assumption) (by omega) ?_)
               | (refine Prs.ldN (by assumption) (by omega) ?_)
               | (refine Trs.ldN (by assumption) (by omega) ?_)
               | (refine At.ldN (Blk.at (by assumption)) rfl ?_)
               | (refine At.ld (Blk.at (by assumption)) rfl ?_)
               | (refine IxA.mk (by omega) ?_)
               | (refine Sl.ln (Own.sl (by assumption)) ?_)
               | (refine Ints.ix (Own.sl (by assumption)) (by omega) ?_)
               | (refine Ints.ixI (Own.sl (by assumption)) (by omega) ?_)
               | (refine Ints.ld (Own.sl (by assumption)) (by omega) ?_))
      have Hg__1 := Hg
      have EE__1 := EE
      have Hb__1 := Hb
      conv => whnf
      refine VE.made (n := (rr.getD 0 []).length) Try.underlying25 eInt rfl (by omega) (by omega) fun bv w3 E3 HB hb_bv => ?_
      replace Hg := Hg.ext E3
      replace EE := EE.ext E3
      replace Hb := Hb.ext E3
      replace HB := OB.made (HB _ (Nat.le_refl _))
      have EL1 := E3
      rw [← hmO, ← digs_zero rr.length] at HB
      have hl0 := hdl 0
      obtain ⟨n2, hn2⟩ : ∃ n2, n2 = w3.heap.size := ⟨_, rfl⟩
      have hbv : ∀ q, bv.ownBlock = some q → q < n2 := fun q hq => by rw [hn2]; exact (Own.lt HB q hq).2
      repeat' (conv => whnf
               first
               | (refine Dr.quiet tyOk (by kernel_rfl) ?_)
               | (refine Rng.mk (by omega) ?_)
               | (refine Split.pos (by omega) ?_)
               | (refine Split.neg (by omega) ?_)
               | (refine Split.mk (fun h => ?_) (fun h => ?_))
               | (refine Need.mk (by omega) ?_)
               | (refine Ints.ln (by assumption) ?_)
               | (refine Mat.ln (by assumption) ?_)
               | (refine Ints.ln (Mat.row (by assumption) _ (by omega)) ?_)
               | (refine Ints.ix (by assumption) (by omega) ?_)
               | (refine Mat.ix (by assumption) (by omega) ?_)
               | (refine Ints.ix (Mat.row (by assumption) _ (by omega)) (by omega) ?_)
               | (refine Ints.ix (c := 0) (by assumption) (by omega) ?_)
               | (refine Mat.ix (c := 0) (by assumption) (by omega) ?_)
               | (refine Ints.ix (c := 0) (Mat.row (by assumption) _ (by omega)) (by omega) ?_)
               | (refine Ints.ixI (by assumption) (by omega) ?_)
               | (refine Mat.ixI (by assumption) (by omega) ?_)
               | (refine Ints.ixI (Mat.row (by assumption) _ (by omega)) (by omega) ?_)
               | (refine Ints.ld (by assumption) (by omega) ?_)
               | (refine Mat.ld (by assumption) (by omega) ?_)
               | (refine Ints.ld (Mat.row (by assumption) _ (by omega)) (by omega) ?_)
               | (refine At.ld (by assumption) rfl ?_)
               | (refine At.ldN (by assumption) rfl ?_)
               | (refine Prs.ln (by assumption) ?_)
               | (refine Trs.ln (by assumption) ?_)
               | (refine Prs.ix (by assumption) (by omega) ?_)
               | (refine Trs.ix (by assumption) (by omega) ?_)
               | (refine Prs.ldN (by assumption) (by omega) ?_)
               | (refine Trs.ldN (by assumption) (by omega) ?_)
               | (refine At.ldN (Blk.at (by assumption)) rfl ?_)
               | (refine At.ld (Blk.at (by assumption)) rfl ?_)
               | (refine IxA.mk (by omega) ?_)
               | (refine Sl.ln (Own.sl (by assumption)) ?_)
               | (refine Ints.ix (Own.sl (by assumption)) (by omega) ?_)
               | (refine Ints.ixI (Own.sl (by assumption)) (by omega) ?_)
               | (refine Ints.ld (Own.sl (by assumption)) (by omega) ?_))
      refine Lp.mk tyOk [false, false, false, false, true, false, true, true, true, true, true, true, false, false, false, false, false, false, false, false, false, false, false, false, false, true, true, true, true, true, true, true, true, true, true, true, true, true, true, true, true, true, true, true, true, true, true, true, true, true, true, true, true, true, true, true, true, true, true, true, true, true, true, true, true] (fun m fr wr => getK fr 6 fun s => getK fr 4 fun sv => ∃ c : Nat, c ≤ (tot rr) ∧ m = (tot rr) - c ∧ s = .bool (decide (c < tot rr)) ∧ ((∃ A : List Int, A.length = mOf rr ∧ (c < tot rr → A = digs rr.length (mOf rr) c) ∧ OB w2.heap.size wr bv A)) ∧ ((∃ us, FR w2.heap.size n2 wr sv us (seenL rr ((lists rr).take c)))) ∧ (n2 ≤ wr.heap.size) ∧ Ext w2 wr) ((tot rr)) ?_ ?_
      · exact ⟨0, Nat.zero_le _, rfl, (by rw [decide_eq_true (show 0 < tot rr from tot_pos hn1)]), ⟨_, hl0, fun _ => rfl, HB⟩, ⟨_, FR.nil⟩, (by omega), EL1⟩
      · intro m w4 u4 u6 u7 u8 u9 u10 u11 u25 u26 u27 u28 u29 u30 u31 u32 u33 u34 u35 u36 u37 u38 u39 u40 u41 u42 u43 u44 u45 u46 u47 u48 u49 u50 u51 u52 u53 u54 u55 u56 u57 u58 u59 u60 u61 u62 u63 u64 hR
        obtain ⟨c, hc, rfl, rfl, HX, HS, hz, EL1⟩ := hR
        replace Hg := Hg__1.ext EL1
        replace EE := EE__1.ext EL1
        replace Hb := Hb__1.ext EL1
        obtain ⟨A, hAl, hAd, HA⟩ := HX
        obtain ⟨us, HS⟩ := HS
        have hsl := seenL_le (rr := rr) c
        by_cases hct : c < tot rr
        · obtain rfl := hAd hct
          have hv2 := (digs_ok hck hct).1
          have hnx := nxt_cb hn1 hct
          have hrg := digs_rng hn1 (j := mOf rr) hct
          rw [decide_eq_true hct]
          have hz1 : n2 ≤ w4.heap.size := hz
          repeat' (conv => whnf
                   first
                   | (refine Dr.quiet tyOk (by kernel_rfl) ?_)
                   | (refine Rng.mk (by omega) ?_)
                   | (refine Split.pos (by omega) ?_)
                   | (refine Split.neg (by omega) ?_)
                   | (refine Split.mk (fun h => ?_) (fun h => ?_))
                   | (refine Need.mk (by omega) ?_)
                   | (refine Ints.ln (by assumption) ?_)
                   | (refine Mat.ln (by assumption) ?_)
                   | (refine Ints.ln (Mat.row (by assumption) _ (by omega)) ?_)
                   | (refine Ints.ix (by assumption) (by omega) ?_)
                   | (refine Mat.ix (by assumption) (by omega) ?_)
                   | (refine Ints.ix (Mat.row (by assumption) _ (by omega)) (by omega) ?_)
                   | (refine Ints.ix (c := 0) (by assumption) (by omega) ?_)
                   | (refine Mat.ix (c := 0) (by assumption) (by omega) ?_)
                   | (refine Ints.ix (c := 0) (Mat.row (by assumption) _ (by omega)) (by omega) ?_)
                   | (refine Ints.ixI (by assumption) (by omega) ?_)
                   | (refine Mat.ixI (by assumption) (by omega) ?_)
                   | (refine Ints.ixI (Mat.row (by assumption) _ (by omega)) (by omega) ?_)
                   | (refine Ints.ld (by assumption) (by omega) ?_)
                   | (refine Mat.ld (by assumption) (by omega) ?_)
                   | (refine Ints.ld (Mat.row (by assumption) _ (by omega)) (by omega) ?_)
                   | (refine At.ld (by assumption) rfl ?_)
                   | (refine At.ldN (by assumption) rfl ?_)
                   | (refine Prs.ln (by assumption) ?_)
                   | (refine Trs.ln (by assumption) ?_)
                   | (refine Prs.ix (by assumption) (by omega) ?_)
                   | (refine Trs.ix (by assumption) (by omega) ?_)
                   | (refine Prs.ldN (by assumption) (by omega) ?_)
                   | (refine Trs.ldN (by assumption) (by omega) ?_)
                   | (refine At.ldN (Blk.at (by assumption)) rfl ?_)
                   | (refine At.ld (Blk.at (by assumption)) rfl ?_)
                   | (refine IxA.mk (by omega) ?_)
                   | (refine Sl.ln (Own.sl (by assumption)) ?_)
                   | (refine Ints.ix (Own.sl (by assumption)) (by omega) ?_)
                   | (refine Ints.ixI (Own.sl (by assumption)) (by omega) ?_)
                   | (refine Ints.ld (Own.sl (by assumption)) (by omega) ?_))
          conv => whnf
          refine VC.rc (rfirst_rc Hg (Own.sl HA) hv2) ?_
          rintro _ w5 E5 ⟨fv, rfl, HI⟩
          replace Hg := Hg.ext E5
          replace EE := EE.ext E5
          replace Hb := Hb.ext E5
          replace EL1 := EL1.ext E5
          replace HA := HA.ext E5
          replace HS := HS.ext E5
          repeat' (conv => whnf
                   first
                   | (refine Dr.quiet tyOk (by kernel_rfl) ?_)
                   | (refine Rng.mk (by omega) ?_)
                   | (refine Split.pos (by omega) ?_)
                   | (refine Split.neg (by omega) ?_)
                   | (refine Split.mk (fun h => ?_) (fun h => ?_))
                   | (refine Need.mk (by omega) ?_)
                   | (refine Ints.ln (by assumption) ?_)
                   | (refine Mat.ln (by assumption) ?_)
                   | (refine Ints.ln (Mat.row (by assumption) _ (by omega)) ?_)
                   | (refine Ints.ix (by assumption) (by omega) ?_)
                   | (refine Mat.ix (by assumption) (by omega) ?_)
                   | (refine Ints.ix (Mat.row (by assumption) _ (by omega)) (by omega) ?_)
                   | (refine Ints.ix (c := 0) (by assumption) (by omega) ?_)
                   | (refine Mat.ix (c := 0) (by assumption) (by omega) ?_)
                   | (refine Ints.ix (c := 0) (Mat.row (by assumption) _ (by omega)) (by omega) ?_)
                   | (refine Ints.ixI (by assumption) (by omega) ?_)
                   | (refine Mat.ixI (by assumption) (by omega) ?_)
                   | (refine Ints.ixI (Mat.row (by assumption) _ (by omega)) (by omega) ?_)
                   | (refine Ints.ld (by assumption) (by omega) ?_)
                   | (refine Mat.ld (by assumption) (by omega) ?_)
                   | (refine Ints.ld (Mat.row (by assumption) _ (by omega)) (by omega) ?_)
                   | (refine At.ld (by assumption) rfl ?_)
                   | (refine At.ldN (by assumption) rfl ?_)
                   | (refine Prs.ln (by assumption) ?_)
                   | (refine Trs.ln (by assumption) ?_)
                   | (refine Prs.ix (by assumption) (by omega) ?_)
                   | (refine Trs.ix (by assumption) (by omega) ?_)
                   | (refine Prs.ldN (by assumption) (by omega) ?_)
                   | (refine Trs.ldN (by assumption) (by omega) ?_)
                   | (refine At.ldN (Blk.at (by assumption)) rfl ?_)
                   | (refine At.ld (Blk.at (by assumption)) rfl ?_)
                   | (refine IxA.mk (by omega) ?_)
                   | (refine Sl.ln (Own.sl (by assumption)) ?_)
                   | (refine Ints.ix (Own.sl (by assumption)) (by omega) ?_)
                   | (refine Ints.ixI (Own.sl (by assumption)) (by omega) ?_)
                   | (refine Ints.ld (Own.sl (by assumption)) (by omega) ?_))
          conv => whnf
          refine VC.rc (rown_rc Hg (Own.sl HA) hv2) ?_
          rintro xv w6 E6 HO
          replace Hg := Hg.ext E6
          replace EE := EE.ext E6
          replace Hb := Hb.ext E6
          replace EL1 := EL1.ext E6
          replace HA := HA.ext E6
          replace HS := HS.ext E6
          replace HI := HI.ext E6
          have hz2 : n2 ≤ w6.heap.size := by have h1 := E5.size; have h2 := E6.size; omega
          have HSm := HS.om.mat
          have HOI := Own.sl HO
          have hst := lists_snoc hct
          have hst : seenL rr ((lists rr).take (c + 1)) = stq rr (seenL rr ((lists rr).take c)) (digs rr.length (mOf rr) c) := by rw [hst, seenL_snoc]
          generalize seenL rr ((lists rr).take c) = S at *
          repeat' (conv => whnf
                   first
                   | (refine Dr.quiet tyOk (by kernel_rfl) ?_)
                   | (refine Rng.mk (by omega) ?_)
                   | (refine Split.pos (by omega) ?_)
                   | (refine Split.neg (by omega) ?_)
                   | (refine Split.mk (fun h => ?_) (fun h => ?_))
                   | (refine Need.mk (by omega) ?_)
                   | (refine Ints.ln (by assumption) ?_)
                   | (refine Mat.ln (by assumption) ?_)
                   | (refine Ints.ln (Mat.row (by assumption) _ (by omega)) ?_)
                   | (refine Ints.ix (by assumption) (by omega) ?_)
                   | (refine Mat.ix (by assumption) (by omega) ?_)
                   | (refine Ints.ix (Mat.row (by assumption) _ (by omega)) (by omega) ?_)
                   | (refine Ints.ix (c := 0) (by assumption) (by omega) ?_)
                   | (refine Mat.ix (c := 0) (by assumption) (by omega) ?_)
                   | (refine Ints.ix (c := 0) (Mat.row (by assumption) _ (by omega)) (by omega) ?_)
                   | (refine Ints.ixI (by assumption) (by omega) ?_)
                   | (refine Mat.ixI (by assumption) (by omega) ?_)
                   | (refine Ints.ixI (Mat.row (by assumption) _ (by omega)) (by omega) ?_)
                   | (refine Ints.ld (by assumption) (by omega) ?_)
                   | (refine Mat.ld (by assumption) (by omega) ?_)
                   | (refine Ints.ld (Mat.row (by assumption) _ (by omega)) (by omega) ?_)
                   | (refine At.ld (by assumption) rfl ?_)
                   | (refine At.ldN (by assumption) rfl ?_)
                   | (refine Prs.ln (by assumption) ?_)
                   | (refine Trs.ln (by assumption) ?_)
                   | (refine Prs.ix (by assumption) (by omega) ?_)
                   | (refine Trs.ix (by assumption) (by omega) ?_)
                   | (refine Prs.ldN (by assumption) (by omega) ?_)
                   | (refine Trs.ldN (by assumption) (by omega) ?_)
                   | (refine At.ldN (Blk.at (by assumption)) rfl ?_)
                   | (refine At.ld (Blk.at (by assumption)) rfl ?_)
                   | (refine IxA.mk (by omega) ?_)
                   | (refine Sl.ln (Own.sl (by assumption)) ?_)
                   | (refine Ints.ix (Own.sl (by assumption)) (by omega) ?_)
                   | (refine Ints.ixI (Own.sl (by assumption)) (by omega) ?_)
                   | (refine Ints.ld (Own.sl (by assumption)) (by omega) ?_))
          refine Lp.mk tyOk [false, false, false, false, false, false, false, false, false, false, true, true, false, false, false, false, false, false, false, false, false, false, false, false, false, false, false, false, false, false, false, false, false, false, false, false, false, false, false, false, true, true, true, true, true, true, true, true, true, true, true, true, true, true, true] (fun m fr wr => getK fr 11 fun k => getK fr 10 fun old => ∃ d : Nat, d ≤ S.length ∧ m = S.length - d ∧ k = .int .i64 (d : Int) ∧ old = .bool (tf (∃ i, i < d ∧ S.getD i [] = ownV rr (digs rr.length (mOf rr) c))) ∧ wr = w6) (S.length) ?_ ?_
          · exact ⟨0, Nat.zero_le _, rfl, rfl, by rw [tf_f (by rintro ⟨i, h, _⟩; omega)], rfl⟩
          · intro m w7 u10 u11 u40 u41 u42 u43 u44 u45 u46 u47 u48 u49 u50 u51 u52 u53 u54 hR
            obtain ⟨d, hd, rfl, rfl, rfl, rfl⟩ := hR
            by_cases hdl2 : d < S.length
            · have cs := same_pc (HSm.row d hdl2) HOI
              by_cases hy : ∃ i, i < d ∧ S.getD i [] = ownV rr (digs rr.length (mOf rr) c)
              · rw [tf_t hy]
                repeat' (conv => whnf
                         first
                         | (refine Dr.quiet tyOk (by kernel_rfl) ?_)
                         | (refine VC.pure cs ?_)
                         | (refine VCQ.pure cs ?_)
                         | (refine Rng.mk (by omega) ?_)
                         | (refine Split.pos (by omega) ?_)
                         | (refine Split.neg (by omega) ?_)
                         | (refine Split.mk (fun h => ?_) (fun h => ?_))
                         | (refine Need.mk (by omega) ?_)
                         | (refine Ints.ln (by assumption) ?_)
                         | (refine Mat.ln (by assumption) ?_)
                         | (refine Ints.ln (Mat.row (by assumption) _ (by omega)) ?_)
                         | (refine Ints.ix (by assumption) (by omega) ?_)
                         | (refine Mat.ix (by assumption) (by omega) ?_)
                         | (refine Ints.ix (Mat.row (by assumption) _ (by omega)) (by omega) ?_)
                         | (refine Ints.ix (c := 0) (by assumption) (by omega) ?_)
                         | (refine Mat.ix (c := 0) (by assumption) (by omega) ?_)
                         | (refine Ints.ix (c := 0) (Mat.row (by assumption) _ (by omega)) (by omega) ?_)
                         | (refine Ints.ixI (by assumption) (by omega) ?_)
                         | (refine Mat.ixI (by assumption) (by omega) ?_)
                         | (refine Ints.ixI (Mat.row (by assumption) _ (by omega)) (by omega) ?_)
                         | (refine Ints.ld (by assumption) (by omega) ?_)
                         | (refine Mat.ld (by assumption) (by omega) ?_)
                         | (refine Ints.ld (Mat.row (by assumption) _ (by omega)) (by omega) ?_)
                         | (refine At.ld (by assumption) rfl ?_)
                         | (refine At.ldN (by assumption) rfl ?_)
                         | (refine Prs.ln (by assumption) ?_)
                         | (refine Trs.ln (by assumption) ?_)
                         | (refine Prs.ix (by assumption) (by omega) ?_)
                         | (refine Trs.ix (by assumption) (by omega) ?_)
                         | (refine Prs.ldN (by assumption) (by omega) ?_)
                         | (refine Trs.ldN (by assumption) (by omega) ?_)
                         | (refine At.ldN (Blk.at (by assumption)) rfl ?_)
                         | (refine At.ld (Blk.at (by assumption)) rfl ?_)
                         | (refine IxA.mk (by omega) ?_)
                         | (refine Sl.ln (Own.sl (by assumption)) ?_)
                         | (refine Ints.ix (Own.sl (by assumption)) (by omega) ?_)
                         | (refine Ints.ixI (Own.sl (by assumption)) (by omega) ?_)
                         | (refine Ints.ld (Own.sl (by assumption)) (by omega) ?_))
                refine ⟨_, (by omega : S.length - (d + 1) < S.length - d), rfl, d + 1, by omega, rfl, rfl, (congrArg Value.bool (tfb_old hy)), rfl⟩
              · rw [tf_f hy]
                by_cases e : S.getD d [] = ownV rr (digs rr.length (mOf rr) c)
                · rw [tf_t e] at cs
                  repeat' (conv => whnf
                           first
                           | (refine Dr.quiet tyOk (by kernel_rfl) ?_)
                           | (refine VC.pure cs ?_)
                           | (refine VCQ.pure cs ?_)
                           | (refine Rng.mk (by omega) ?_)
                           | (refine Split.pos (by omega) ?_)
                           | (refine Split.neg (by omega) ?_)
                           | (refine Split.mk (fun h => ?_) (fun h => ?_))
                           | (refine Need.mk (by omega) ?_)
                           | (refine Ints.ln (by assumption) ?_)
                           | (refine Mat.ln (by assumption) ?_)
                           | (refine Ints.ln (Mat.row (by assumption) _ (by omega)) ?_)
                           | (refine Ints.ix (by assumption) (by omega) ?_)
                           | (refine Mat.ix (by assumption) (by omega) ?_)
                           | (refine Ints.ix (Mat.row (by assumption) _ (by omega)) (by omega) ?_)
                           | (refine Ints.ix (c := 0) (by assumption) (by omega) ?_)
                           | (refine Mat.ix (c := 0) (by assumption) (by omega) ?_)
                           | (refine Ints.ix (c := 0) (Mat.row (by assumption) _ (by omega)) (by omega) ?_)
                           | (refine Ints.ixI (by assumption) (by omega) ?_)
                           | (refine Mat.ixI (by assumption) (by omega) ?_)
                           | (refine Ints.ixI (Mat.row (by assumption) _ (by omega)) (by omega) ?_)
                           | (refine Ints.ld (by assumption) (by omega) ?_)
                           | (refine Mat.ld (by assumption) (by omega) ?_)
                           | (refine Ints.ld (Mat.row (by assumption) _ (by omega)) (by omega) ?_)
                           | (refine At.ld (by assumption) rfl ?_)
                           | (refine At.ldN (by assumption) rfl ?_)
                           | (refine Prs.ln (by assumption) ?_)
                           | (refine Trs.ln (by assumption) ?_)
                           | (refine Prs.ix (by assumption) (by omega) ?_)
                           | (refine Trs.ix (by assumption) (by omega) ?_)
                           | (refine Prs.ldN (by assumption) (by omega) ?_)
                           | (refine Trs.ldN (by assumption) (by omega) ?_)
                           | (refine At.ldN (Blk.at (by assumption)) rfl ?_)
                           | (refine At.ld (Blk.at (by assumption)) rfl ?_)
                           | (refine IxA.mk (by omega) ?_)
                           | (refine Sl.ln (Own.sl (by assumption)) ?_)
                           | (refine Ints.ix (Own.sl (by assumption)) (by omega) ?_)
                           | (refine Ints.ixI (Own.sl (by assumption)) (by omega) ?_)
                           | (refine Ints.ld (Own.sl (by assumption)) (by omega) ?_))
                  refine ⟨_, (by omega : S.length - (d + 1) < S.length - d), rfl, d + 1, by omega, rfl, rfl, (congrArg Value.bool (tfb_new e)), rfl⟩
                · rw [tf_f e] at cs
                  repeat' (conv => whnf
                           first
                           | (refine Dr.quiet tyOk (by kernel_rfl) ?_)
                           | (refine VC.pure cs ?_)
                           | (refine VCQ.pure cs ?_)
                           | (refine Rng.mk (by omega) ?_)
                           | (refine Split.pos (by omega) ?_)
                           | (refine Split.neg (by omega) ?_)
                           | (refine Split.mk (fun h => ?_) (fun h => ?_))
                           | (refine Need.mk (by omega) ?_)
                           | (refine Ints.ln (by assumption) ?_)
                           | (refine Mat.ln (by assumption) ?_)
                           | (refine Ints.ln (Mat.row (by assumption) _ (by omega)) ?_)
                           | (refine Ints.ix (by assumption) (by omega) ?_)
                           | (refine Mat.ix (by assumption) (by omega) ?_)
                           | (refine Ints.ix (Mat.row (by assumption) _ (by omega)) (by omega) ?_)
                           | (refine Ints.ix (c := 0) (by assumption) (by omega) ?_)
                           | (refine Mat.ix (c := 0) (by assumption) (by omega) ?_)
                           | (refine Ints.ix (c := 0) (Mat.row (by assumption) _ (by omega)) (by omega) ?_)
                           | (refine Ints.ixI (by assumption) (by omega) ?_)
                           | (refine Mat.ixI (by assumption) (by omega) ?_)
                           | (refine Ints.ixI (Mat.row (by assumption) _ (by omega)) (by omega) ?_)
                           | (refine Ints.ld (by assumption) (by omega) ?_)
                           | (refine Mat.ld (by assumption) (by omega) ?_)
                           | (refine Ints.ld (Mat.row (by assumption) _ (by omega)) (by omega) ?_)
                           | (refine At.ld (by assumption) rfl ?_)
                           | (refine At.ldN (by assumption) rfl ?_)
                           | (refine Prs.ln (by assumption) ?_)
                           | (refine Trs.ln (by assumption) ?_)
                           | (refine Prs.ix (by assumption) (by omega) ?_)
                           | (refine Trs.ix (by assumption) (by omega) ?_)
                           | (refine Prs.ldN (by assumption) (by omega) ?_)
                           | (refine Trs.ldN (by assumption) (by omega) ?_)
                           | (refine At.ldN (Blk.at (by assumption)) rfl ?_)
                           | (refine At.ld (Blk.at (by assumption)) rfl ?_)
                           | (refine IxA.mk (by omega) ?_)
                           | (refine Sl.ln (Own.sl (by assumption)) ?_)
                           | (refine Ints.ix (Own.sl (by assumption)) (by omega) ?_)
                           | (refine Ints.ixI (Own.sl (by assumption)) (by omega) ?_)
                           | (refine Ints.ld (Own.sl (by assumption)) (by omega) ?_))
                  refine ⟨_, (by omega : S.length - (d + 1) < S.length - d), rfl, d + 1, by omega, rfl, rfl, (congrArg Value.bool (tfb_no hy e)), rfl⟩
            · obtain rfl : d = S.length := by omega
              unfold stq at hst
              by_cases hi : (imp rr (digs rr.length (mOf rr) c)).isSome = true
              · rw [if_pos (.inl hi)] at hst
                rw [hi]
                repeat' (conv => whnf
                         first
                         | (refine Dr.quiet tyOk (by kernel_rfl) ?_)
                         | (refine Rng.mk (by omega) ?_)
                         | (refine Split.pos (by omega) ?_)
                         | (refine Split.neg (by omega) ?_)
                         | (refine Split.mk (fun h => ?_) (fun h => ?_))
                         | (refine Need.mk (by omega) ?_)
                         | (refine Ints.ln (by assumption) ?_)
                         | (refine Mat.ln (by assumption) ?_)
                         | (refine Ints.ln (Mat.row (by assumption) _ (by omega)) ?_)
                         | (refine Ints.ix (by assumption) (by omega) ?_)
                         | (refine Mat.ix (by assumption) (by omega) ?_)
                         | (refine Ints.ix (Mat.row (by assumption) _ (by omega)) (by omega) ?_)
                         | (refine Ints.ix (c := 0) (by assumption) (by omega) ?_)
                         | (refine Mat.ix (c := 0) (by assumption) (by omega) ?_)
                         | (refine Ints.ix (c := 0) (Mat.row (by assumption) _ (by omega)) (by omega) ?_)
                         | (refine Ints.ixI (by assumption) (by omega) ?_)
                         | (refine Mat.ixI (by assumption) (by omega) ?_)
                         | (refine Ints.ixI (Mat.row (by assumption) _ (by omega)) (by omega) ?_)
                         | (refine Ints.ld (by assumption) (by omega) ?_)
                         | (refine Mat.ld (by assumption) (by omega) ?_)
                         | (refine Ints.ld (Mat.row (by assumption) _ (by omega)) (by omega) ?_)
                         | (refine At.ld (by assumption) rfl ?_)
                         | (refine At.ldN (by assumption) rfl ?_)
                         | (refine Prs.ln (by assumption) ?_)
                         | (refine Trs.ln (by assumption) ?_)
                         | (refine Prs.ix (by assumption) (by omega) ?_)
                         | (refine Trs.ix (by assumption) (by omega) ?_)
                         | (refine Prs.ldN (by assumption) (by omega) ?_)
                         | (refine Trs.ldN (by assumption) (by omega) ?_)
                         | (refine At.ldN (Blk.at (by assumption)) rfl ?_)
                         | (refine At.ld (Blk.at (by assumption)) rfl ?_)
                         | (refine IxA.mk (by omega) ?_)
                         | (refine Sl.ln (Own.sl (by assumption)) ?_)
                         | (refine Ints.ix (Own.sl (by assumption)) (by omega) ?_)
                         | (refine Ints.ixI (Own.sl (by assumption)) (by omega) ?_)
                         | (refine Ints.ld (Own.sl (by assumption)) (by omega) ?_))
                refine VC.rc (next_rc (n := rr.length) HA (fun i hi => hrg i (by rwa [hdl c] at hi)) (by omega)) ?_
                rintro _ w40 G40 ⟨rfl, HA40⟩
                have E40 := Own.keep HA EL1 (Nat.le_refl _) G40
                repeat' (conv => whnf
                         first
                         | (refine Dr.quiet tyOk (by kernel_rfl) ?_)
                         | (refine Rng.mk (by omega) ?_)
                         | (refine Split.pos (by omega) ?_)
                         | (refine Split.neg (by omega) ?_)
                         | (refine Split.mk (fun h => ?_) (fun h => ?_))
                         | (refine Need.mk (by omega) ?_)
                         | (refine Ints.ln (by assumption) ?_)
                         | (refine Mat.ln (by assumption) ?_)
                         | (refine Ints.ln (Mat.row (by assumption) _ (by omega)) ?_)
                         | (refine Ints.ix (by assumption) (by omega) ?_)
                         | (refine Mat.ix (by assumption) (by omega) ?_)
                         | (refine Ints.ix (Mat.row (by assumption) _ (by omega)) (by omega) ?_)
                         | (refine Ints.ix (c := 0) (by assumption) (by omega) ?_)
                         | (refine Mat.ix (c := 0) (by assumption) (by omega) ?_)
                         | (refine Ints.ix (c := 0) (Mat.row (by assumption) _ (by omega)) (by omega) ?_)
                         | (refine Ints.ixI (by assumption) (by omega) ?_)
                         | (refine Mat.ixI (by assumption) (by omega) ?_)
                         | (refine Ints.ixI (Mat.row (by assumption) _ (by omega)) (by omega) ?_)
                         | (refine Ints.ld (by assumption) (by omega) ?_)
                         | (refine Mat.ld (by assumption) (by omega) ?_)
                         | (refine Ints.ld (Mat.row (by assumption) _ (by omega)) (by omega) ?_)
                         | (refine At.ld (by assumption) rfl ?_)
                         | (refine At.ldN (by assumption) rfl ?_)
                         | (refine Prs.ln (by assumption) ?_)
                         | (refine Trs.ln (by assumption) ?_)
                         | (refine Prs.ix (by assumption) (by omega) ?_)
                         | (refine Trs.ix (by assumption) (by omega) ?_)
                         | (refine Prs.ldN (by assumption) (by omega) ?_)
                         | (refine Trs.ldN (by assumption) (by omega) ?_)
                         | (refine At.ldN (Blk.at (by assumption)) rfl ?_)
                         | (refine At.ld (Blk.at (by assumption)) rfl ?_)
                         | (refine IxA.mk (by omega) ?_)
                         | (refine Sl.ln (Own.sl (by assumption)) ?_)
                         | (refine Ints.ix (Own.sl (by assumption)) (by omega) ?_)
                         | (refine Ints.ixI (Own.sl (by assumption)) (by omega) ?_)
                         | (refine Ints.ld (Own.sl (by assumption)) (by omega) ?_))
                refine ⟨_, (by omega : (tot rr) - (c + 1) < (tot rr) - c), rfl, c + 1, by omega, rfl, (by rw [hnx.1]), ⟨(nxt rr.length (digs rr.length (mOf rr) c)).2, by rw [nxt_len, hdl], hnx.2, by show Go.Eng.Own _ 3 1 _ bv (nxt rr.length (digs rr.length (mOf rr) c)).2.length _; rw [nxt_len]; exact HA40⟩, ⟨us, by rw [hst]; exact HS.gr G40 (fun k h1 h3 => Own.ne HS.om.top HA (by decide) k h1 h3) (fun k h1 h2 h3 => by have := hbv k h3; omega)⟩, Nat.le_trans hz2 G40.size, E40⟩
              · rw [show (imp rr (digs rr.length (mOf rr) c)).isSome = false by simpa using hi]
                by_cases hm2 : ownV rr (digs rr.length (mOf rr) c) ∈ S
                · rw [if_pos (.inr hm2)] at hst
                  rw [tf_t (mem_at.1 hm2)]
                  repeat' (conv => whnf
                           first
                           | (refine Dr.quiet tyOk (by kernel_rfl) ?_)
                           | (refine Rng.mk (by omega) ?_)
                           | (refine Split.pos (by omega) ?_)
                           | (refine Split.neg (by omega) ?_)
                           | (refine Split.mk (fun h => ?_) (fun h => ?_))
                           | (refine Need.mk (by omega) ?_)
                           | (refine Ints.ln (by assumption) ?_)
                           | (refine Mat.ln (by assumption) ?_)
                           | (refine Ints.ln (Mat.row (by assumption) _ (by omega)) ?_)
                           | (refine Ints.ix (by assumption) (by omega) ?_)
                           | (refine Mat.ix (by assumption) (by omega) ?_)
                           | (refine Ints.ix (Mat.row (by assumption) _ (by omega)) (by omega) ?_)
                           | (refine Ints.ix (c := 0) (by assumption) (by omega) ?_)
                           | (refine Mat.ix (c := 0) (by assumption) (by omega) ?_)
                           | (refine Ints.ix (c := 0) (Mat.row (by assumption) _ (by omega)) (by omega) ?_)
                           | (refine Ints.ixI (by assumption) (by omega) ?_)
                           | (refine Mat.ixI (by assumption) (by omega) ?_)
                           | (refine Ints.ixI (Mat.row (by assumption) _ (by omega)) (by omega) ?_)
                           | (refine Ints.ld (by assumption) (by omega) ?_)
                           | (refine Mat.ld (by assumption) (by omega) ?_)
                           | (refine Ints.ld (Mat.row (by assumption) _ (by omega)) (by omega) ?_)
                           | (refine At.ld (by assumption) rfl ?_)
                           | (refine At.ldN (by assumption) rfl ?_)
                           | (refine Prs.ln (by assumption) ?_)
                           | (refine Trs.ln (by assumption) ?_)
                           | (refine Prs.ix (by assumption) (by omega) ?_)
                           | (refine Trs.ix (by assumption) (by omega) ?_)
                           | (refine Prs.ldN (by assumption) (by omega) ?_)
                           | (refine Trs.ldN (by assumption) (by omega) ?_)
                           | (refine At.ldN (Blk.at (by assumption)) rfl ?_)
                           | (refine At.ld (Blk.at (by assumption)) rfl ?_)
                           | (refine IxA.mk (by omega) ?_)
                           | (refine Sl.ln (Own.sl (by assumption)) ?_)
                           | (refine Ints.ix (Own.sl (by assumption)) (by omega) ?_)
                           | (refine Ints.ixI (Own.sl (by assumption)) (by omega) ?_)
                           | (refine Ints.ld (Own.sl (by assumption)) (by omega) ?_))
                  refine VC.rc (next_rc (n := rr.length) HA (fun i hi => hrg i (by rwa [hdl c] at hi)) (by omega)) ?_
                  rintro _ w40 G40 ⟨rfl, HA40⟩
                  have E40 := Own.keep HA EL1 (Nat.le_refl _) G40
                  repeat' (conv => whnf
                           first
                           | (refine Dr.quiet tyOk (by kernel_rfl) ?_)
                           | (refine Rng.mk (by omega) ?_)
                           | (refine Split.pos (by omega) ?_)
                           | (refine Split.neg (by omega) ?_)
                           | (refine Split.mk (fun h => ?_) (fun h => ?_))
                           | (refine Need.mk (by omega) ?_)
                           | (refine Ints.ln (by assumption) ?_)
                           | (refine Mat.ln (by assumption) ?_)
                           | (refine Ints.ln (Mat.row (by assumption) _ (by omega)) ?_)
                           | (refine Ints.ix (by assumption) (by omega) ?_)
                           | (refine Mat.ix (by assumption) (by omega) ?_)
                           | (refine Ints.ix (Mat.row (by assumption) _ (by omega)) (by omega) ?_)
                           | (refine Ints.ix (c := 0) (by assumption) (by omega) ?_)
                           | (refine Mat.ix (c := 0) (by assumption) (by omega) ?_)
                           | (refine Ints.ix (c := 0) (Mat.row (by assumption) _ (by omega)) (by omega) ?_)
                           | (refine Ints.ixI (by assumption) (by omega) ?_)
                           | (refine Mat.ixI (by assumption) (by omega) ?_)
                           | (refine Ints.ixI (Mat.row (by assumption) _ (by omega)) (by omega) ?_)
                           | (refine Ints.ld (by assumption) (by omega) ?_)
                           | (refine Mat.ld (by assumption) (by omega) ?_)
                           | (refine Ints.ld (Mat.row (by assumption) _ (by omega)) (by omega) ?_)
                           | (refine At.ld (by assumption) rfl ?_)
                           | (refine At.ldN (by assumption) rfl ?_)
                           | (refine Prs.ln (by assumption) ?_)
                           | (refine Trs.ln (by assumption) ?_)
                           | (refine Prs.ix (by assumption) (by omega) ?_)
                           | (refine Trs.ix (by assumption) (by omega) ?_)
                           | (refine Prs.ldN (by assumption) (by omega) ?_)
                           | (refine Trs.ldN (by assumption) (by omega) ?_)
                           | (refine At.ldN (Blk.at (by assumption)) rfl ?_)
                           | (refine At.ld (Blk.at (by assumption)) rfl ?_)
                           | (refine IxA.mk (by omega) ?_)
                           | (refine Sl.ln (Own.sl (by assumption)) ?_)
                           | (refine Ints.ix (Own.sl (by assumption)) (by omega) ?_)
                           | (refine Ints.ixI (Own.sl (by assumption)) (by omega) ?_)
                           | (refine Ints.ld (Own.sl (by assumption)) (by omega) ?_))
                  refine ⟨_, (by omega : (tot rr) - (c + 1) < (tot rr) - c), rfl, c + 1, by omega, rfl, (by rw [hnx.1]), ⟨(nxt rr.length (digs rr.length (mOf rr) c)).2, by rw [nxt_len, hdl], hnx.2, by show Go.Eng.Own _ 3 1 _ bv (nxt rr.length (digs rr.length (mOf rr) c)).2.length _; rw [nxt_len]; exact HA40⟩, ⟨us, by rw [hst]; exact HS.gr G40 (fun k h1 h3 => Own.ne HS.om.top HA (by decide) k h1 h3) (fun k h1 h2 h3 => by have := hbv k h3; omega)⟩, Nat.le_trans hz2 G40.size, E40⟩
                · rw [if_neg (by rintro (h | h); exact hi h; exact hm2 h)] at hst
                  rw [tf_f (fun h => hm2 (mem_at.2 h))]
                  repeat' (conv => whnf
                           first
                           | (refine Dr.quiet tyOk (by kernel_rfl) ?_)
                           | (refine Rng.mk (by omega) ?_)
                           | (refine Split.pos (by omega) ?_)
                           | (refine Split.neg (by omega) ?_)
                           | (refine Split.mk (fun h => ?_) (fun h => ?_))
                           | (refine Need.mk (by omega) ?_)
                           | (refine Ints.ln (by assumption) ?_)
                           | (refine Mat.ln (by assumption) ?_)
                           | (refine Ints.ln (Mat.row (by assumption) _ (by omega)) ?_)
                           | (refine Ints.ix (by assumption) (by omega) ?_)
                           | (refine Mat.ix (by assumption) (by omega) ?_)
                           | (refine Ints.ix (Mat.row (by assumption) _ (by omega)) (by omega) ?_)
                           | (refine Ints.ix (c := 0) (by assumption) (by omega) ?_)
                           | (refine Mat.ix (c := 0) (by assumption) (by omega) ?_)
                           | (refine Ints.ix (c := 0) (Mat.row (by assumption) _ (by omega)) (by omega) ?_)
                           | (refine Ints.ixI (by assumption) (by omega) ?_)
                           | (refine Mat.ixI (by assumption) (by omega) ?_)
                           | (refine Ints.ixI (Mat.row (by assumption) _ (by omega)) (by omega) ?_)
                           | (refine Ints.ld (by assumption) (by omega) ?_)
                           | (refine Mat.ld (by assumption) (by omega) ?_)
                           | (refine Ints.ld (Mat.row (by assumption) _ (by omega)) (by omega) ?_)
                           | (refine At.ld (by assumption) rfl ?_)
                           | (refine At.ldN (by assumption) rfl ?_)
                           | (refine Prs.ln (by assumption) ?_)
                           | (refine Trs.ln (by assumption) ?_)
                           | (refine Prs.ix (by assumption) (by omega) ?_)
                           | (refine Trs.ix (by assumption) (by omega) ?_)
                           | (refine Prs.ldN (by assumption) (by omega) ?_)
                           | (refine Trs.ldN (by assumption) (by omega) ?_)
                           | (refine At.ldN (Blk.at (by assumption)) rfl ?_)
                           | (refine At.ld (Blk.at (by assumption)) rfl ?_)
                           | (refine IxA.mk (by omega) ?_)
                           | (refine Sl.ln (Own.sl (by assumption)) ?_)
                           | (refine Ints.ix (Own.sl (by assumption)) (by omega) ?_)
                           | (refine Ints.ixI (Own.sl (by assumption)) (by omega) ?_)
                           | (refine Ints.ld (Own.sl (by assumption)) (by omega) ?_))
                  refine VE.lit1 Try.underlying22 eRow ((Sl.cells (Own.sl HO)).1) fun lv w8 E8 Hl => ?_
                  replace Hg := Hg.ext E8
                  replace EE := EE.ext E8
                  replace Hb := Hb.ext E8
                  replace EL1 := EL1.ext E8
                  replace HA := HA.ext E8
                  replace HS := HS.ext E8
                  replace HI := HI.ext E8
                  replace HO := HO.ext E8
                  replace HSm := HSm.ext E8
                  replace HOI := HOI.ext E8
                  conv => whnf
                  refine VE.app Try.underlying22 eRow rfl (by omega) HS.om.top EL1 rfl Hl (by intro u hu; simp only [List.mem_singleton] at hu; subst hu; exact (Sl.cells (Own.sl HO)).2) (by first | omega | (simp only [List.length_map, List.length_range]; omega) | (simp; omega)) (by first | omega | (simp only [List.length_map, List.length_range]; omega) | (simp; omega)) fun v8 w9 E9 G9 H8 => ?_
                  replace HA := Own.gr HA G9 (fun k hk hS => Own.ne HS.om.top HA (by decide) k hS hk)
                  replace Hg := Hg__1.ext E9
                  replace EE := EE__1.ext E9
                  replace Hb := Hb__1.ext E9
                  replace EL1 := E9
                  have HS8 := HS.push (Own.base HO (Nat.le_trans hz1 E5.size)) G9 H8
                  rw [← hst] at HS8
                  have hz3 : n2 ≤ w9.heap.size := Nat.le_trans hz2 (Nat.le_trans E8.size G9.size)
                  repeat' (conv => whnf
                           first
                           | (refine Dr.quiet tyOk (by kernel_rfl) ?_)
                           | (refine Rng.mk (by omega) ?_)
                           | (refine Split.pos (by omega) ?_)
                           | (refine Split.neg (by omega) ?_)
                           | (refine Split.mk (fun h => ?_) (fun h => ?_))
                           | (refine Need.mk (by omega) ?_)
                           | (refine Ints.ln (by assumption) ?_)
                           | (refine Mat.ln (by assumption) ?_)
                           | (refine Ints.ln (Mat.row (by assumption) _ (by omega)) ?_)
                           | (refine Ints.ix (by assumption) (by omega) ?_)
                           | (refine Mat.ix (by assumption) (by omega) ?_)
                           | (refine Ints.ix (Mat.row (by assumption) _ (by omega)) (by omega) ?_)
                           | (refine Ints.ix (c := 0) (by assumption) (by omega) ?_)
                           | (refine Mat.ix (c := 0) (by assumption) (by omega) ?_)
                           | (refine Ints.ix (c := 0) (Mat.row (by assumption) _ (by omega)) (by omega) ?_)
                           | (refine Ints.ixI (by assumption) (by omega) ?_)
                           | (refine Mat.ixI (by assumption) (by omega) ?_)
                           | (refine Ints.ixI (Mat.row (by assumption) _ (by omega)) (by omega) ?_)
                           | (refine Ints.ld (by assumption) (by omega) ?_)
                           | (refine Mat.ld (by assumption) (by omega) ?_)
                           | (refine Ints.ld (Mat.row (by assumption) _ (by omega)) (by omega) ?_)
                           | (refine At.ld (by assumption) rfl ?_)
                           | (refine At.ldN (by assumption) rfl ?_)
                           | (refine Prs.ln (by assumption) ?_)
                           | (refine Trs.ln (by assumption) ?_)
                           | (refine Prs.ix (by assumption) (by omega) ?_)
                           | (refine Trs.ix (by assumption) (by omega) ?_)
                           | (refine Prs.ldN (by assumption) (by omega) ?_)
                           | (refine Trs.ldN (by assumption) (by omega) ?_)
                           | (refine At.ldN (Blk.at (by assumption)) rfl ?_)
                           | (refine At.ld (Blk.at (by assumption)) rfl ?_)
                           | (refine IxA.mk (by omega) ?_)
                           | (refine Sl.ln (Own.sl (by assumption)) ?_)
                           | (refine Ints.ix (Own.sl (by assumption)) (by omega) ?_)
                           | (refine Ints.ixI (Own.sl (by assumption)) (by omega) ?_)
                           | (refine Ints.ld (Own.sl (by assumption)) (by omega) ?_))
                  refine VC.rc (next_rc (n := rr.length) HA (fun i hi => hrg i (by rwa [hdl c] at hi)) (by omega)) ?_
                  rintro _ w40 G40 ⟨rfl, HA40⟩
                  have E40 := Own.keep HA EL1 (Nat.le_refl _) G40
                  repeat' (conv => whnf
                           first
                           | (refine Dr.quiet tyOk (by kernel_rfl) ?_)
                           | (refine Rng.mk (by omega) ?_)
                           | (refine Split.pos (by omega) ?_)
                           | (refine Split.neg (by omega) ?_)
                           | (refine Split.mk (fun h => ?_) (fun h => ?_))
                           | (refine Need.mk (by omega) ?_)
                           | (refine Ints.ln (by assumption) ?_)
                           | (refine Mat.ln (by assumption) ?_)
                           | (refine Ints.ln (Mat.row (by assumption) _ (by omega)) ?_)
                           | (refine Ints.ix (by assumption) (by omega) ?_)
                           | (refine Mat.ix (by assumption) (by omega) ?_)
                           | (refine Ints.ix (Mat.row (by assumption) _ (by omega)) (by omega) ?_)
                           | (refine Ints.ix (c := 0) (by assumption) (by omega) ?_)
                           | (refine Mat.ix (c := 0) (by assumption) (by omega) ?_)
                           | (refine Ints.ix (c := 0) (Mat.row (by assumption) _ (by omega)) (by omega) ?_)
                           | (refine Ints.ixI (by assumption) (by omega) ?_)
                           | (refine Mat.ixI (by assumption) (by omega) ?_)
                           | (refine Ints.ixI (Mat.row (by assumption) _ (by omega)) (by omega) ?_)
                           | (refine Ints.ld (by assumption) (by omega) ?_)
                           | (refine Mat.ld (by assumption) (by omega) ?_)
                           | (refine Ints.ld (Mat.row (by assumption) _ (by omega)) (by omega) ?_)
                           | (refine At.ld (by assumption) rfl ?_)
                           | (refine At.ldN (by assumption) rfl ?_)
                           | (refine Prs.ln (by assumption) ?_)
                           | (refine Trs.ln (by assumption) ?_)
                           | (refine Prs.ix (by assumption) (by omega) ?_)
                           | (refine Trs.ix (by assumption) (by omega) ?_)
                           | (refine Prs.ldN (by assumption) (by omega) ?_)
                           | (refine Trs.ldN (by assumption) (by omega) ?_)
                           | (refine At.ldN (Blk.at (by assumption)) rfl ?_)
                           | (refine At.ld (Blk.at (by assumption)) rfl ?_)
                           | (refine IxA.mk (by omega) ?_)
                           | (refine Sl.ln (Own.sl (by assumption)) ?_)
                           | (refine Ints.ix (Own.sl (by assumption)) (by omega) ?_)
                           | (refine Ints.ixI (Own.sl (by assumption)) (by omega) ?_)
                           | (refine Ints.ld (Own.sl (by assumption)) (by omega) ?_))
                  refine ⟨_, (by omega : (tot rr) - (c + 1) < (tot rr) - c), rfl, c + 1, by omega, rfl, (by rw [hnx.1]), ⟨(nxt rr.length (digs rr.length (mOf rr) c)).2, by rw [nxt_len, hdl], hnx.2, by show Go.Eng.Own _ 3 1 _ bv (nxt rr.length (digs rr.length (mOf rr) c)).2.length _; rw [nxt_len]; exact HA40⟩, ⟨_, HS8.gr G40 (fun k h1 h3 => Own.ne HS8.om.top HA (by decide) k h1 h3) (fun k h1 h2 h3 => by have := hbv k h3; omega)⟩, Nat.le_trans hz3 G40.size, E40⟩
        · obtain rfl : c = tot rr := by omega
          rw [decide_eq_false (Nat.lt_irrefl _)]
          have HSm := HS.om.mat
          repeat' (conv => whnf
                   first
                   | (refine Dr.quiet tyOk (by kernel_rfl) ?_)
                   | (refine Rng.mk (by omega) ?_)
                   | (refine Split.pos (by omega) ?_)
                   | (refine Split.neg (by omega) ?_)
                   | (refine Split.mk (fun h => ?_) (fun h => ?_))
                   | (refine Need.mk (by omega) ?_)
                   | (refine Ints.ln (by assumption) ?_)
                   | (refine Mat.ln (by assumption) ?_)
                   | (refine Ints.ln (Mat.row (by assumption) _ (by omega)) ?_)
                   | (refine Ints.ix (by assumption) (by omega) ?_)
                   | (refine Mat.ix (by assumption) (by omega) ?_)
                   | (refine Ints.ix (Mat.row (by assumption) _ (by omega)) (by omega) ?_)
                   | (refine Ints.ix (c := 0) (by assumption) (by omega) ?_)
                   | (refine Mat.ix (c := 0) (by assumption) (by omega) ?_)
                   | (refine Ints.ix (c := 0) (Mat.row (by assumption) _ (by omega)) (by omega) ?_)
                   | (refine Ints.ixI (by assumption) (by omega) ?_)
                   | (refine Mat.ixI (by assumption) (by omega) ?_)
                   | (refine Ints.ixI (Mat.row (by assumption) _ (by omega)) (by omega) ?_)
                   | (refine Ints.ld (by assumption) (by omega) ?_)
                   | (refine Mat.ld (by assumption) (by omega) ?_)
                   | (refine Ints.ld (Mat.row (by assumption) _ (by omega)) (by omega) ?_)
                   | (refine At.ld (by assumption) rfl ?_)
                   | (refine At.ldN (by assumption) rfl ?_)
                   | (refine Prs.ln (by assumption) ?_)
                   | (refine Trs.ln (by assumption) ?_)
                   | (refine Prs.ix (by assumption) (by omega) ?_)
                   | (refine Trs.ix (by assumption) (by omega) ?_)
                   | (refine Prs.ldN (by assumption) (by omega) ?_)
                   | (refine Trs.ldN (by assumption) (by omega) ?_)
                   | (refine At.ldN (Blk.at (by assumption)) rfl ?_)
                   | (refine At.ld (Blk.at (by assumption)) rfl ?_)
                   | (refine IxA.mk (by omega) ?_)
                   | (refine Sl.ln (Own.sl (by assumption)) ?_)
                   | (refine Ints.ix (Own.sl (by assumption)) (by omega) ?_)
                   | (refine Ints.ixI (Own.sl (by assumption)) (by omega) ?_)
                   | (refine Ints.ld (Own.sl (by assumption)) (by omega) ?_))
          rw [e1, e2, front_seen]
          rw [List.take_of_length_le (by rw [lists_len]; omega)]
          exact ⟨EE, rfl⟩
  · obtain ⟨e1, e2⟩ := fr_err hck
    repeat' (conv => whnf
             first
             | (refine Dr.quiet tyOk (by kernel_rfl) ?_)
             | (refine VC.pure ca ?_)
             | (refine Rng.mk (by omega) ?_)
             | (refine Split.pos (by omega) ?_)
             | (refine Split.neg (by omega) ?_)
             | (refine Split.mk (fun h => ?_) (fun h => ?_))
             | (refine Need.mk (by omega) ?_)
             | (refine Ints.ln (by assumption) ?_)
             | (refine Mat.ln (by assumption) ?_)
             | (refine Ints.ln (Mat.row (by assumption) _ (by omega)) ?_)
             | (refine Ints.ix (by assumption) (by omega) ?_)
             | (refine Mat.ix (by assumption) (by omega) ?_)
             | (refine Ints.ix (Mat.row (by assumption) _ (by omega)) (by omega) ?_)
             | (refine Ints.ix (c := 0) (by assumption) (by omega) ?_)
             | (refine Mat.ix (c := 0) (by assumption) (by omega) ?_)
             | (refine Ints.ix (c := 0) (Mat.row (by assumption) _ (by omega)) (by omega) ?_)
             | (refine Ints.ixI (by assumption) (by omega) ?_)
             | (refine Mat.ixI (by assumption) (by omega) ?_)
             | (refine Ints.ixI (Mat.row (by assumption) _ (by omega)) (by omega) ?_)
             | (refine Ints.ld (by assumption) (by omega) ?_)
             | (refine Mat.ld (by assumption) (by omega) ?_)
             | (refine Ints.ld (Mat.row (by assumption) _ (by omega)) (by omega) ?_)
             | (refine At.ld (by assumption) rfl ?_)
             | (refine At.ldN (by assumption) rfl ?_)
             | (refine Prs.ln (by assumption) ?_)
             | (refine Trs.ln (by assumption) ?_)
             | (refine Prs.ix (by assumption) (by omega) ?_)
             | (refine Trs.ix (by assumption) (by omega) ?_)
             | (refine Prs.ldN (by assumption) (by omega) ?_)
             | (refine Trs.ldN (by assumption) (by omega) ?_)
             | (refine At.ldN (Blk.at (by assumption)) rfl ?_)
             | (refine At.ld (Blk.at (by assumption)) rfl ?_)
             | (refine IxA.mk (by omega) ?_)
             | (refine Sl.ln (Own.sl (by assumption)) ?_)
             | (refine Ints.ix (Own.sl (by assumption)) (by omega) ?_)
             | (refine Ints.ixI (Own.sl (by assumption)) (by omega) ?_)
             | (refine Ints.ld (Own.sl (by assumption)) (by omega) ?_))
    rw [e1, e2]
    exact ⟨EE, rfl⟩
end Go.Proofs.Ytebklnmafjbhcaa
set_option linter.unusedVariables false
set_option linter.unusedSimpArgs false
namespace Go.Proofs.Ytebklnmafjbhcaa
open Go.Eng
set_option maxRecDepth 100000
set_option maxHeartbeats 4000000

theorem eMat : Elem Try.prog 22 (.slice none 0 0) 1 24 := by unfold Elem; kernel_rfl
theorem stp_le (F : List (List Int)) (x : List Int) : (stp F x).length ≤ F.length + 1 := by
  unfold stp; split
  · omega
  · have := List.length_filter_le (fun y => !ablB y x) F
    simp; omega
theorem frL_le : ∀ (l : List (List Int)), (frL l).length ≤ l.length := by
  intro l
  suffices h : ∀ (l F : List (List Int)), (l.foldl stp F).length ≤ F.length + l.length by
    have := h l []; unfold frL; simpa using this
  intro l
  induction l with
  | nil => intro F; simp
  | cons x l ih =>
    intro F
    have h1 := ih (stp F x)
    have h2 := stp_le F x
    simp only [List.foldl_cons, List.length_cons]; omega

theorem gfront_rc {w : World} {gv : Value} {vs : List Value} {rr : List (List Int)} (Hg : Mat w gv vs rr) :
    RC Try.prog 37 [.agg #[gv]] w NoB (fun u _ => u = .tuple #[.int .i64 (frN rr), .int .i64 (frE rr)]) := by
  refine RCX.mk tyOk Try.func37 rfl (by kernel_rfl) fun w1 E1 => ?_
  replace Hg := Hg.ext E1
  have EE := Ext.refl w1
  have hgE := Hg
  refine Bx.agg fun b2 w2 E2 hb2 Hb _ => ?_
  replace Hg := Hg.ext E2
  replace EE := EE.ext E2
  have hb2l : b2 < w2.heap.size := by have := Hb 0 gv rfl; exact World.block_lt_of_cell? _ _ this
  have ca := gcheck_pc Hg
  by_cases hck : chk rr = 0
  · have ct := few_pc Hg hck
    rw [hck] at ca
    by_cases ht : 20000 < tot rr
    · rw [tf_f (fun h => h ht)] at ct
      obtain ⟨e1, e2⟩ := fr_many hck ht
      repeat' (conv => whnf
               first
               | (refine VC.pure ca ?_)
               | (refine VC.pure ct ?_)
               | (refine Rng.mk (by omega) ?_)
               | (refine Split.pos (by omega) ?_)
               | (refine Split.neg (by omega) ?_)
               | (refine Split.mk (fun h => ?_) (fun h => ?_))
               | (refine Need.mk (by omega) ?_)
               | (refine Ints.ln (by assumption) ?_)
               | (refine Mat.ln (by assumption) ?_)
               | (refine Ints.ln (Mat.row (by assumption) _ (by omega)) ?_)
               | (refine Ints.ix (by assumption) (by omega) ?_)
               | (refine Mat.ix (by assumption) (by omega) ?_)
               | (refine Ints.ix (Mat.row (by assumption) _ (by omega)) (by omega) ?_)
               | (refine Ints.ix (c := 0) (by assumption) (by omega) ?_)
               | (refine Mat.ix (c := 0) (by assumption) (by omega) ?_)
               | (refine Ints.ix (c := 0) (Mat.row (by assumption) _ (by omega)) (by omega) ?_)
               | (refine Ints.ixI (by assumption) (by omega) ?_)
               | (refine Mat.ixI (by assumption) (by omega) ?_)
               | (refine Ints.ixI (Mat.row (by assumption) _ (by omega)) (by omega) ?_)
               | (refine Ints.ld (by assumption) (by omega) ?_)
               | (refine Mat.ld (by assumption) (by omega) ?_)
               | (refine Ints.ld (Mat.row (by assumption) _ (by omega)) (by omega) ?_)
               | (refine At.ld (by assumption) rfl ?_)
               | (refine At.ldN (by assumption) rfl ?_)
               | (refine Prs.ln (by assumption) ?_)
               | (refine Trs.ln (by assumption) ?_)
               | (refine Prs.ix (by assumption) (by omega) ?_)
               | (refine Trs.ix (by assumption) (by omega) ?_)
               | (refine Prs.ldN (by assumption) (by omega) ?_)
               | (refine Trs.ldN (by assumption) (by omega) ?_)
               | (refine At.ldN (Blk.at (by assumption)) rfl ?_)
               | (refine At.ld (Blk.at (by assumption)) rfl ?_)
               | (refine IxA.mk (by omega) ?_)
               | (refine Sl.ln (Own.sl (by assumption)) ?_)
               | (refine Ints.ix (Own.sl (by assumption)) (by omega) ?_)
               | (refine Ints.ixI (Own.sl (by assumption)) (by omega) ?_)
               | (refine Ints.ld (Own.sl (by assumption)) (by omega) ?_))
      rw [e1, e2]
      exact ⟨EE, rfl⟩
    · rw [tf_t ht] at ct
      obtain ⟨e1, e2⟩ := fr_ok hck ht
      repeat' (conv => whnf
               first
               | (refine VC.pure ca ?_)
               | (refine VC.pure ct ?_)
               | (refine Rng.mk (by omega) ?_)
               | (refine Split.pos (by omega) ?_)
               | (refine Split.neg (by omega) ?_)
               | (refine Split.mk (fun h => ?_) (fun h => ?_))
               | (refine Need.mk (by omega) ?_)
               | (refine Ints.ln (by assumption) ?_)
               | (refine Mat.ln (by assumption) ?_)
               | (refine Ints.ln (Mat.row (by assumption) _ (by omega)) ?_)
               | (refine Ints.ix (by assumption) (by omega) ?_)
               | (refine Mat.ix (by assumption) (by omega) ?_)
               | (refine Ints.ix (Mat.row (by assumption) _ (by omega)) (by omega) ?_)
               | (refine Ints.ix (c := 0) (by assumption) (by omega) ?_)
               | (refine Mat.ix (c := 0) (by assumption) (by omega) ?_)
               | (refine Ints.ix (c := 0) (Mat.row (by assumption) _ (by omega)) (by omega) ?_)
               | (refine Ints.ixI (by assumption) (by omega) ?_)
               | (refine Mat.ixI (by assumption) (by omega) ?_)
               | (refine Ints.ixI (Mat.row (by assumption) _ (by omega)) (by omega) ?_)
               | (refine Ints.ld (by assumption) (by omega) ?_)
               | (refine Mat.ld (by assumption) (by omega) ?_)
               | (refine Ints.ld (Mat.row (by assumption) _ (by omega)) (by omega) ?_)
               | (refine At.ld (by assumption) rfl ?_)
               | (refine At.ldN (by assumption) rfl ?_)
               | (refine Prs.ln (by assumption) ?_)
               | (refine Trs.ln (by assumption) ?_)
               | (refine Prs.ix (by assumption) (by omega) ?_)
               | (refine Trs.ix (by assumption) (by omega) ?_)
               | (refine Prs.ldN (by assumption) (by omega) ?_)
               | (refine Trs.ldN (by assumption) (by omega) ?_)
               | (refine At.ldN (Blk.at (by assumption)) rfl ?_)
               | (refine At.ld (Blk.at (by assumption)) rfl ?_)
               | (refine IxA.mk (by omega) ?_)
               | (refine Sl.ln (Own.sl (by assumption)) ?_)
               | (refine Ints.ix (Own.sl (by assumption)) (by omega) ?_)
               | (refine Ints.ixI (Own.sl (by assumption)) (by omega) ?_)
               | (refine Ints.ld (Own.sl (by assumption)) (by omega) ?_))
      have Hg__1 := Hg
      have EE__1 := EE
      have Hb__1 := Hb
      conv => whnf
      refine VE.alloc eMat fun rb w3 E3 hb_rb Hr => ?_
      replace Hg := Hg.ext E3
      replace EE := EE.ext E3
      replace Hb := Hb.ext E3
      have EL1 := E3
      have hrb3 := Blk.lt Hr
      repeat' (conv => whnf
               first
               | (refine Rng.mk (by omega) ?_)
               | (refine Split.pos (by omega) ?_)
               | (refine Split.neg (by omega) ?_)
               | (refine Split.mk (fun h => ?_) (fun h => ?_))
               | (refine Need.mk (by omega) ?_)
               | (refine Ints.ln (by assumption) ?_)
               | (refine Mat.ln (by assumption) ?_)
               | (refine Ints.ln (Mat.row (by assumption) _ (by omega)) ?_)
               | (refine Ints.ix (by assumption) (by omega) ?_)
               | (refine Mat.ix (by assumption) (by omega) ?_)
               | (refine Ints.ix (Mat.row (by assumption) _ (by omega)) (by omega) ?_)
               | (refine Ints.ix (c := 0) (by assumption) (by omega) ?_)
               | (refine Mat.ix (c := 0) (by assumption) (by omega) ?_)
               | (refine Ints.ix (c := 0) (Mat.row (by assumption) _ (by omega)) (by omega) ?_)
               | (refine Ints.ixI (by assumption) (by omega) ?_)
               | (refine Mat.ixI (by assumption) (by omega) ?_)
               | (refine Ints.ixI (Mat.row (by assumption) _ (by omega)) (by omega) ?_)
               | (refine Ints.ld (by assumption) (by omega) ?_)
               | (refine Mat.ld (by assumption) (by omega) ?_)
               | (refine Ints.ld (Mat.row (by assumption) _ (by omega)) (by omega) ?_)
               | (refine At.ld (by assumption) rfl ?_)
               | (refine At.ldN (by assumption) rfl ?_)
               | (refine Prs.ln (by assumption) ?_)
               | (refine Trs.ln (by assumption) ?_)
               | (refine Prs.ix (by assumption) (by omega) ?_)
               | (refine Trs.ix (by assumption) (by omega) ?_)
               | (refine Prs.ldN (by assumption) (by omega) ?_)
               | (refine Trs.ldN (by assumption) (by omega) ?_)
               | (refine At.ldN (Blk.at (by assumption)) rfl ?_)
               | (refine At.ld (Blk.at (by assumption)) rfl ?_)
               | (refine IxA.mk (by omega) ?_)
               | (refine Sl.ln (Own.sl (by assumption)) ?_)
               | (refine Ints.ix (Own.sl (by assumption)) (by omega) ?_)
               | (refine Ints.ixI (Own.sl (by assumption)) (by omega) ?_)
               | (refine Ints.ld (Own.sl (by assumption)) (by omega) ?_))
      conv => whnf
      refine VC.rc (all_rc) ?_
      rintro _ w4 E4 ⟨bg, rfl, HB, hbg1, hbg2⟩
      replace Hg := Hg.ext E4
      replace EE := EE.ext E4
      replace Hb := Hb.ext E4
      replace EL1 := EL1.ext E4
      replace Hr := Hr.ext E4
      have hs2 := E2.size
      have hs3 := E3.size
      have hs4 := E4.size
      have hEs := EE.size
      obtain ⟨we, hwe⟩ : ∃ we, we = w4 := ⟨_, rfl⟩
      repeat' (conv => whnf
               first
               | (refine Rng.mk (by omega) ?_)
               | (refine Split.pos (by omega) ?_)
               | (refine Split.neg (by omega) ?_)
               | (refine Split.mk (fun h => ?_) (fun h => ?_))
               | (refine Need.mk (by omega) ?_)
               | (refine Ints.ln (by assumption) ?_)
               | (refine Mat.ln (by assumption) ?_)
               | (refine Ints.ln (Mat.row (by assumption) _ (by omega)) ?_)
               | (refine Ints.ix (by assumption) (by omega) ?_)
               | (refine Mat.ix (by assumption) (by omega) ?_)
               | (refine Ints.ix (Mat.row (by assumption) _ (by omega)) (by omega) ?_)
               | (refine Ints.ix (c := 0) (by assumption) (by omega) ?_)
               | (refine Mat.ix (c := 0) (by assumption) (by omega) ?_)
               | (refine Ints.ix (c := 0) (Mat.row (by assumption) _ (by omega)) (by omega) ?_)
               | (refine Ints.ixI (by assumption) (by omega) ?_)
               | (refine Mat.ixI (by assumption) (by omega) ?_)
               | (refine Ints.ixI (Mat.row (by assumption) _ (by omega)) (by omega) ?_)
               | (refine Ints.ld (by assumption) (by omega) ?_)
               | (refine Mat.ld (by assumption) (by omega) ?_)
               | (refine Ints.ld (Mat.row (by assumption) _ (by omega)) (by omega) ?_)
               | (refine At.ld (by assumption) rfl ?_)
               | (refine At.ldN (by assumption) rfl ?_)
               | (refine Prs.ln (by assumption) ?_)
               | (refine Trs.ln (by assumption) ?_)
               | (refine Prs.ix (by assumption) (by omega) ?_)
               | (refine Trs.ix (by assumption) (by omega) ?_)
               | (refine Prs.ldN (by assumption) (by omega) ?_)
               | (refine Trs.ldN (by assumption) (by omega) ?_)
               | (refine At.ldN (Blk.at (by assumption)) rfl ?_)
               | (refine At.ld (Blk.at (by assumption)) rfl ?_)
               | (refine IxA.mk (by omega) ?_)
               | (refine Sl.ln (Own.sl (by assumption)) ?_)
               | (refine Ints.ix (Own.sl (by assumption)) (by omega) ?_)
               | (refine Ints.ixI (Own.sl (by assumption)) (by omega) ?_)
               | (refine Ints.ld (Own.sl (by assumption)) (by omega) ?_))
      refine Rwx.range tyOk rfl (all_it hgE EE HB hbg2 hck) (fun k hk => by rcases hk with rfl | hk <;> omega) (fun k => k = rb) (fun k hk => ⟨fun hh => by rcases hh with h | h <;> omega, by omega⟩)
        (fun n1 pre W => ∃ fv us, Blk W rb 22 [fv] ∧ FR n1 n1 W fv us (frL (pre.map (ownV rr))))
        (fun n1 c pre W => False)
        (fun n1 pre A B h hg => ?_) (fun n1 c pre A B h hg => h.elim) (fun n1 _ => ⟨_, [], Hr, FR.nil⟩) ?round ?done ?stop
      · obtain ⟨fv, us, h1, h2⟩ := h
        exact ⟨fv, us, h1.gr hg (by omega), h2.gr hg (fun k hk hS => by have := (Own.lt h2.om.top k hk).1; omega) (fun k h1 h2 hS => by omega)⟩
      case round =>
        intro l v W0
        conv => whnf
        refine ⟨rfl, rfl, rfl, ?_⟩
        intro n1 pre x W hn1 hn2 hpre hI hG Hx
        obtain ⟨fv, us, HrW, HF⟩ := hI
        obtain ⟨hvx, hcx, hlx⟩ := lists_mem hck (mem_of_pre hpre)
        have HgW : Mat W gv vs rr := hgE.ext (EE.new hG (fun i hi hk => by omega))
        have HbW : At W ⟨b2, 0, none⟩ [gv] := Hb.gr hG (fun h => by have h : b2 = rb := h; omega)
        have hSl : (frL (pre.map (ownV rr))).length ≤ 20000 := by
          have h1 := frL_le (pre.map (ownV rr))
          obtain ⟨t, ht2⟩ := hpre
          have h2 := congrArg List.length ht2
          rw [lists_len] at h2
          simp at h2 h1; omega
        have hSn : ∀ y ∈ frL (pre.map (ownV rr)), y.length = rr.length := fun y hy => by
          have h0 := frL_inv (n := rr.length) (pre.map (ownV rr)) (fun y hy => by obtain ⟨a, _, rfl⟩ := List.mem_map.1 hy; exact ownV_len _ _) [] [] (fun _ h => (by cases h)) FrI.nil
          obtain ⟨a, _, rfl⟩ := List.mem_map.1 (h0.sub y hy)
          exact ownV_len _ _
        have hnew : frL ((pre ++ [x]).map (ownV rr)) = stp (frL (pre.map (ownV rr))) (ownV rr x) := by rw [List.map_append]; exact frL_snoc _ _
        rw [hnew]
        generalize frL (pre.map (ownV rr)) = S at *
        have hul := HF.om.ulen
        repeat' (conv => whnf
                 first
                 | (refine At.ldN HbW rfl ?_)
                 | (refine Rng.mk (by omega) ?_)
                 | (refine Split.pos (by omega) ?_)
                 | (refine Split.neg (by omega) ?_)
                 | (refine Split.mk (fun h => ?_) (fun h => ?_))
                 | (refine Need.mk (by omega) ?_)
                 | (refine Ints.ln (by assumption) ?_)
                 | (refine Mat.ln (by assumption) ?_)
                 | (refine Ints.ln (Mat.row (by assumption) _ (by omega)) ?_)
                 | (refine Ints.ix (by assumption) (by omega) ?_)
                 | (refine Mat.ix (by assumption) (by omega) ?_)
                 | (refine Ints.ix (Mat.row (by assumption) _ (by omega)) (by omega) ?_)
                 | (refine Ints.ix (c := 0) (by assumption) (by omega) ?_)
                 | (refine Mat.ix (c := 0) (by assumption) (by omega) ?_)
                 | (refine Ints.ix (c := 0) (Mat.row (by assumption) _ (by omega)) (by omega) ?_)
                 | (refine Ints.ixI (by assumption) (by omega) ?_)
                 | (refine Mat.ixI (by assumption) (by omega) ?_)
                 | (refine Ints.ixI (Mat.row (by assumption) _ (by omega)) (by omega) ?_)
                 | (refine Ints.ld (by assumption) (by omega) ?_)
                 | (refine Mat.ld (by assumption) (by omega) ?_)
                 | (refine Ints.ld (Mat.row (by assumption) _ (by omega)) (by omega) ?_)
                 | (refine At.ld (by assumption) rfl ?_)
                 | (refine At.ldN (by assumption) rfl ?_)
                 | (refine Prs.ln (by assumption) ?_)
                 | (refine Trs.ln (by assumption) ?_)
                 | (refine Prs.ix (by assumption) (by omega) ?_)
                 | (refine Trs.ix (by assumption) (by omega) ?_)
                 | (refine Prs.ldN (by assumption) (by omega) ?_)
                 | (refine Trs.ldN (by assumption) (by omega) ?_)
                 | (refine At.ldN (Blk.at (by assumption)) rfl ?_)
                 | (refine At.ld (Blk.at (by assumption)) rfl ?_)
                 | (refine IxA.mk (by omega) ?_)
                 | (refine Sl.ln (Own.sl (by assumption)) ?_)
                 | (refine Ints.ix (Own.sl (by assumption)) (by omega) ?_)
                 | (refine Ints.ixI (Own.sl (by assumption)) (by omega) ?_)
                 | (refine Ints.ld (Own.sl (by assumption)) (by omega) ?_))
        refine VC.rc (owns_rc HgW Hx hvx) ?_
        rintro ov w31 E31 HO31
        repeat' (conv => whnf
                 first
                 | (refine Rng.mk (by omega) ?_)
                 | (refine Split.pos (by omega) ?_)
                 | (refine Split.neg (by omega) ?_)
                 | (refine Split.mk (fun h => ?_) (fun h => ?_))
                 | (refine Need.mk (by omega) ?_)
                 | (refine Ints.ln (by assumption) ?_)
                 | (refine Mat.ln (by assumption) ?_)
                 | (refine Ints.ln (Mat.row (by assumption) _ (by omega)) ?_)
                 | (refine Ints.ix (by assumption) (by omega) ?_)
                 | (refine Mat.ix (by assumption) (by omega) ?_)
                 | (refine Ints.ix (Mat.row (by assumption) _ (by omega)) (by omega) ?_)
                 | (refine Ints.ix (c := 0) (by assumption) (by omega) ?_)
                 | (refine Mat.ix (c := 0) (by assumption) (by omega) ?_)
                 | (refine Ints.ix (c := 0) (Mat.row (by assumption) _ (by omega)) (by omega) ?_)
                 | (refine Ints.ixI (by assumption) (by omega) ?_)
                 | (refine Mat.ixI (by assumption) (by omega) ?_)
                 | (refine Ints.ixI (Mat.row (by assumption) _ (by omega)) (by omega) ?_)
                 | (refine Ints.ld (by assumption) (by omega) ?_)
                 | (refine Mat.ld (by assumption) (by omega) ?_)
                 | (refine Ints.ld (Mat.row (by assumption) _ (by omega)) (by omega) ?_)
                 | (refine At.ld (by assumption) rfl ?_)
                 | (refine At.ldN (by assumption) rfl ?_)
                 | (refine Prs.ln (by assumption) ?_)
                 | (refine Trs.ln (by assumption) ?_)
                 | (refine Prs.ix (by assumption) (by omega) ?_)
                 | (refine Trs.ix (by assumption) (by omega) ?_)
                 | (refine Prs.ldN (by assumption) (by omega) ?_)
                 | (refine Trs.ldN (by assumption) (by omega) ?_)
                 | (refine At.ldN (Blk.at (by assumption)) rfl ?_)
                 | (refine At.ld (Blk.at (by assumption)) rfl ?_)
                 | (refine IxA.mk (by omega) ?_)
                 | (refine Sl.ln (Own.sl (by assumption)) ?_)
                 | (refine Ints.ix (Own.sl (by assumption)) (by omega) ?_)
                 | (refine Ints.ixI (Own.sl (by assumption)) (by omega) ?_)
                 | (refine Ints.ld (Own.sl (by assumption)) (by omega) ?_))
        refine VE.alloc eRow fun ob w32 E32 hob Hob => ?_
        repeat' (conv => whnf
                 first
                 | (refine Rng.mk (by omega) ?_)
                 | (refine Split.pos (by omega) ?_)
                 | (refine Split.neg (by omega) ?_)
                 | (refine Split.mk (fun h => ?_) (fun h => ?_))
                 | (refine Need.mk (by omega) ?_)
                 | (refine Ints.ln (by assumption) ?_)
                 | (refine Mat.ln (by assumption) ?_)
                 | (refine Ints.ln (Mat.row (by assumption) _ (by omega)) ?_)
                 | (refine Ints.ix (by assumption) (by omega) ?_)
                 | (refine Mat.ix (by assumption) (by omega) ?_)
                 | (refine Ints.ix (Mat.row (by assumption) _ (by omega)) (by omega) ?_)
                 | (refine Ints.ix (c := 0) (by assumption) (by omega) ?_)
                 | (refine Mat.ix (c := 0) (by assumption) (by omega) ?_)
                 | (refine Ints.ix (c := 0) (Mat.row (by assumption) _ (by omega)) (by omega) ?_)
                 | (refine Ints.ixI (by assumption) (by omega) ?_)
                 | (refine Mat.ixI (by assumption) (by omega) ?_)
                 | (refine Ints.ixI (Mat.row (by assumption) _ (by omega)) (by omega) ?_)
                 | (refine Ints.ld (by assumption) (by omega) ?_)
                 | (refine Mat.ld (by assumption) (by omega) ?_)
                 | (refine Ints.ld (Mat.row (by assumption) _ (by omega)) (by omega) ?_)
                 | (refine At.ld (by assumption) rfl ?_)
                 | (refine At.ldN (by assumption) rfl ?_)
                 | (refine Prs.ln (by assumption) ?_)
                 | (refine Trs.ln (by assumption) ?_)
                 | (refine Prs.ix (by assumption) (by omega) ?_)
                 | (refine Trs.ix (by assumption) (by omega) ?_)
                 | (refine Prs.ldN (by assumption) (by omega) ?_)
                 | (refine Trs.ldN (by assumption) (by omega) ?_)
                 | (refine At.ldN (Blk.at (by assumption)) rfl ?_)
                 | (refine At.ld (Blk.at (by assumption)) rfl ?_)
                 | (refine IxA.mk (by omega) ?_)
                 | (refine Sl.ln (Own.sl (by assumption)) ?_)
                 | (refine Ints.ix (Own.sl (by assumption)) (by omega) ?_)
                 | (refine Ints.ixI (Own.sl (by assumption)) (by omega) ?_)
                 | (refine Ints.ld (Own.sl (by assumption)) (by omega) ?_))
        refine Blk.set0 Hob (by decide) (Sl.cells (Own.sl HO31)).2 fun w33 G33 Hob3 => ?_
        have hsz31 := E31.size
        have hsz32 := E32.size
        have hsz33 := G33.size
        have E33 : Ext W w33 := (E31.trans E32).new G33 (fun i hi hk => by omega)
        have Hr33 := HrW.ext E33
        have HF33 := HF.ext E33
        have HO33 : OB n1 w33 ov (ownV rr x) := Own.base (Own.gr (Own.ext HO31 E32) G33 (fun q hq hS => by have := (Own.lt HO31 q hq).2; omega)) hn2
        have hfb : ∀ k, fv.ownBlock = some k → n1 ≤ k ∧ k < W.heap.size := Own.lt HF.om.top
        have hrl : ∀ i, i < S.length → (S.getD i []).length = (ownV rr x).length := fun i hi => by rw [ownV_len]; exact hSn _ (mem_at.2 ⟨i, hi, rfl⟩)
        have cc := containsfuncR_pc (g := 80) (cap := [.pointer (some ⟨ob, 0, none⟩)]) (p := fun i => decide (S.getD i [] = ownV rr x) || ablB (ownV rr x) (S.getD i [])) (Own.sl HF33.om.top) (fun i hi => front1_pc (HF33.om.mat.row i hi) (Own.sl HO33) (hrl i hi) (Blk.at Hob3))
        have hany : (∃ i, i < S.length ∧ (decide (S.getD i [] = ownV rr x) || ablB (ownV rr x) (S.getD i [])) = true) ↔ S.any (fun y => decide (y = ownV rr x) || ablB (ownV rr x) y) = true := by
          rw [List.any_eq_true]
          constructor
          · rintro ⟨i, hi, h⟩; exact ⟨_, mem_at.2 ⟨i, hi, rfl⟩, h⟩
          · rintro ⟨y, hy, h⟩; obtain ⟨i, hi, rfl⟩ := mem_at.1 hy; exact ⟨i, hi, h⟩
        by_cases hc : S.any (fun y => decide (y = ownV rr x) || ablB (ownV rr x) y) = true
        · rw [tf_t (hany.2 hc)] at cc
          have hst : stp S (ownV rr x) = S := by unfold stp; rw [if_pos hc]
          rw [hst]
          repeat' (conv => whnf
                   first
                   | (refine At.ld (i := 0) (Blk.at Hr33) rfl ?_)
                   | (refine VC.pure cc ?_)
                   | (refine Rng.mk (by omega) ?_)
                   | (refine Split.pos (by omega) ?_)
                   | (refine Split.neg (by omega) ?_)
                   | (refine Split.mk (fun h => ?_) (fun h => ?_))
                   | (refine Need.mk (by omega) ?_)
                   | (refine Ints.ln (by assumption) ?_)
                   | (refine Mat.ln (by assumption) ?_)
                   | (refine Ints.ln (Mat.row (by assumption) _ (by omega)) ?_)
                   | (refine Ints.ix (by assumption) (by omega) ?_)
                   | (refine Mat.ix (by assumption) (by omega) ?_)
                   | (refine Ints.ix (Mat.row (by assumption) _ (by omega)) (by omega) ?_)
                   | (refine Ints.ix (c := 0) (by assumption) (by omega) ?_)
                   | (refine Mat.ix (c := 0) (by assumption) (by omega) ?_)
                   | (refine Ints.ix (c := 0) (Mat.row (by assumption) _ (by omega)) (by omega) ?_)
                   | (refine Ints.ixI (by assumption) (by omega) ?_)
                   | (refine Mat.ixI (by assumption) (by omega) ?_)
                   | (refine Ints.ixI (Mat.row (by assumption) _ (by omega)) (by omega) ?_)
                   | (refine Ints.ld (by assumption) (by omega) ?_)
                   | (refine Mat.ld (by assumption) (by omega) ?_)
                   | (refine Ints.ld (Mat.row (by assumption) _ (by omega)) (by omega) ?_)
                   | (refine At.ld (by assumption) rfl ?_)
                   | (refine At.ldN (by assumption) rfl ?_)
                   | (refine Prs.ln (by assumption) ?_)
                   | (refine Trs.ln (by assumption) ?_)
                   | (refine Prs.ix (by assumption) (by omega) ?_)
                   | (refine Trs.ix (by assumption) (by omega) ?_)
                   | (refine Prs.ldN (by assumption) (by omega) ?_)
                   | (refine Trs.ldN (by assumption) (by omega) ?_)
                   | (refine At.ldN (Blk.at (by assumption)) rfl ?_)
                   | (refine At.ld (Blk.at (by assumption)) rfl ?_)
                   | (refine IxA.mk (by omega) ?_)
                   | (refine Sl.ln (Own.sl (by assumption)) ?_)
                   | (refine Ints.ix (Own.sl (by assumption)) (by omega) ?_)
                   | (refine Ints.ixI (Own.sl (by assumption)) (by omega) ?_)
                   | (refine Ints.ld (Own.sl (by assumption)) (by omega) ?_))
          exact ⟨⟨fv, us, Hr33, HF33⟩, Gr.ofExt E33⟩
        · rw [tf_f (fun h => hc (hany.1 h))] at cc
          have hst : stp S (ownV rr x) = keepN (fun i => ablB (S.getD i []) (ownV rr x)) [] S S.length ++ [ownV rr x] := by
            unfold stp; rw [if_neg hc, keepN_filter (q := fun y => !ablB y (ownV rr x)) (Nat.le_refl _) (fun i hi => by simp), List.take_of_length_le (Nat.le_refl _)]
          rw [hst]
          have cd := delete_rc (g := 83) (cap := [.pointer (some ⟨ob, 0, none⟩)]) (p := fun i => ablB (S.getD i []) (ownV rr x)) HF33.om (fun w' G i hi => front2_pc (Own.sl (Own.gr (HF33.om.row i hi) G (fun q hq hS => Own.ne HF33.om.top (HF33.om.row i hi) (by decide) q hS hq))) (Own.sl (Own.gr HO33 G (fun q hq hS => Own.ne HF33.om.top HO33 (by decide) q hS hq))) (hrl i hi) (Blk.at (Hob3.gr G (fun h => by have := hfb _ h; omega))))
          repeat' (conv => whnf
                   first
                   | (refine At.ld (i := 0) (Blk.at Hr33) rfl ?_)
                   | (refine VC.pure cc ?_)
                   | (refine Rng.mk (by omega) ?_)
                   | (refine Split.pos (by omega) ?_)
                   | (refine Split.neg (by omega) ?_)
                   | (refine Split.mk (fun h => ?_) (fun h => ?_))
                   | (refine Need.mk (by omega) ?_)
                   | (refine Ints.ln (by assumption) ?_)
                   | (refine Mat.ln (by assumption) ?_)
                   | (refine Ints.ln (Mat.row (by assumption) _ (by omega)) ?_)
                   | (refine Ints.ix (by assumption) (by omega) ?_)
                   | (refine Mat.ix (by assumption) (by omega) ?_)
                   | (refine Ints.ix (Mat.row (by assumption) _ (by omega)) (by omega) ?_)
                   | (refine Ints.ix (c := 0) (by assumption) (by omega) ?_)
                   | (refine Mat.ix (c := 0) (by assumption) (by omega) ?_)
                   | (refine Ints.ix (c := 0) (Mat.row (by assumption) _ (by omega)) (by omega) ?_)
                   | (refine Ints.ixI (by assumption) (by omega) ?_)
                   | (refine Mat.ixI (by assumption) (by omega) ?_)
                   | (refine Ints.ixI (Mat.row (by assumption) _ (by omega)) (by omega) ?_)
                   | (refine Ints.ld (by assumption) (by omega) ?_)
                   | (refine Mat.ld (by assumption) (by omega) ?_)
                   | (refine Ints.ld (Mat.row (by assumption) _ (by omega)) (by omega) ?_)
                   | (refine At.ld (by assumption) rfl ?_)
                   | (refine At.ldN (by assumption) rfl ?_)
                   | (refine Prs.ln (by assumption) ?_)
                   | (refine Trs.ln (by assumption) ?_)
                   | (refine Prs.ix (by assumption) (by omega) ?_)
                   | (refine Trs.ix (by assumption) (by omega) ?_)
                   | (refine Prs.ldN (by assumption) (by omega) ?_)
                   | (refine Trs.ldN (by assumption) (by omega) ?_)
                   | (refine At.ldN (Blk.at (by assumption)) rfl ?_)
                   | (refine At.ld (Blk.at (by assumption)) rfl ?_)
                   | (refine IxA.mk (by omega) ?_)
                   | (refine Sl.ln (Own.sl (by assumption)) ?_)
                   | (refine Ints.ix (Own.sl (by assumption)) (by omega) ?_)
                   | (refine Ints.ixI (Own.sl (by assumption)) (by omega) ?_)
                   | (refine Ints.ld (Own.sl (by assumption)) (by omega) ?_))
          refine VC.rc cd ?_
          rintro u w34 G34 ⟨HD, hub⟩
          have Hr34 := Hr33.gr G34 (fun h => by have := hfb _ h; omega)
          have HO34 : OB n1 w34 ov (ownV rr x) := Own.gr HO33 G34 (fun q hq hS => Own.ne HF33.om.top HO33 (by decide) q hS hq)
          have Hob4 := Hob3.gr G34 (fun h => by have := hfb _ h; omega)
          have HF34 := FR.keep hul HF.hi HD
          repeat' (conv => whnf
                   first
                   | (refine Rng.mk (by omega) ?_)
                   | (refine Split.pos (by omega) ?_)
                   | (refine Split.neg (by omega) ?_)
                   | (refine Split.mk (fun h => ?_) (fun h => ?_))
                   | (refine Need.mk (by omega) ?_)
                   | (refine Ints.ln (by assumption) ?_)
                   | (refine Mat.ln (by assumption) ?_)
                   | (refine Ints.ln (Mat.row (by assumption) _ (by omega)) ?_)
                   | (refine Ints.ix (by assumption) (by omega) ?_)
                   | (refine Mat.ix (by assumption) (by omega) ?_)
                   | (refine Ints.ix (Mat.row (by assumption) _ (by omega)) (by omega) ?_)
                   | (refine Ints.ix (c := 0) (by assumption) (by omega) ?_)
                   | (refine Mat.ix (c := 0) (by assumption) (by omega) ?_)
                   | (refine Ints.ix (c := 0) (Mat.row (by assumption) _ (by omega)) (by omega) ?_)
                   | (refine Ints.ixI (by assumption) (by omega) ?_)
                   | (refine Mat.ixI (by assumption) (by omega) ?_)
                   | (refine Ints.ixI (Mat.row (by assumption) _ (by omega)) (by omega) ?_)
                   | (refine Ints.ld (by assumption) (by omega) ?_)
                   | (refine Mat.ld (by assumption) (by omega) ?_)
                   | (refine Ints.ld (Mat.row (by assumption) _ (by omega)) (by omega) ?_)
                   | (refine At.ld (by assumption) rfl ?_)
                   | (refine At.ldN (by assumption) rfl ?_)
                   | (refine Prs.ln (by assumption) ?_)
                   | (refine Trs.ln (by assumption) ?_)
                   | (refine Prs.ix (by assumption) (by omega) ?_)
                   | (refine Trs.ix (by assumption) (by omega) ?_)
                   | (refine Prs.ldN (by assumption) (by omega) ?_)
                   | (refine Trs.ldN (by assumption) (by omega) ?_)
                   | (refine At.ldN (Blk.at (by assumption)) rfl ?_)
                   | (refine At.ld (Blk.at (by assumption)) rfl ?_)
                   | (refine IxA.mk (by omega) ?_)
                   | (refine Sl.ln (Own.sl (by assumption)) ?_)
                   | (refine Ints.ix (Own.sl (by assumption)) (by omega) ?_)
                   | (refine Ints.ixI (Own.sl (by assumption)) (by omega) ?_)
                   | (refine Ints.ld (Own.sl (by assumption)) (by omega) ?_))
          refine Blk.set0 Hr34 (by simp) (Sl.cells (Own.sl HD.top)).2 fun w35 G35 Hr35 => ?_
          have HF35 := HF34.gr G35 (fun k hk hS => by have := hfb k (hub k hk); omega) (fun k h1 h2 hS => by omega)
          have HO35 : OB n1 w35 ov (ownV rr x) := Own.gr HO34 G35 (fun q hq hS => by have := (Own.lt HO34 q hq).1; omega)
          have Hob5 := Hob4.gr G35 (by omega)
          have hkl := keepN_le (fun i => ablB (S.getD i []) (ownV rr x)) [] S S.length
          repeat' (conv => whnf
                   first
                   | (refine At.ld (i := 0) (Blk.at Hr35) rfl ?_)
                   | (refine At.ld (i := 0) (Blk.at Hob5) rfl ?_)
                   | (refine Rng.mk (by omega) ?_)
                   | (refine Split.pos (by omega) ?_)
                   | (refine Split.neg (by omega) ?_)
                   | (refine Split.mk (fun h => ?_) (fun h => ?_))
                   | (refine Need.mk (by omega) ?_)
                   | (refine Ints.ln (by assumption) ?_)
                   | (refine Mat.ln (by assumption) ?_)
                   | (refine Ints.ln (Mat.row (by assumption) _ (by omega)) ?_)
                   | (refine Ints.ix (by assumption) (by omega) ?_)
                   | (refine Mat.ix (by assumption) (by omega) ?_)
                   | (refine Ints.ix (Mat.row (by assumption) _ (by omega)) (by omega) ?_)
                   | (refine Ints.ix (c := 0) (by assumption) (by omega) ?_)
                   | (refine Mat.ix (c := 0) (by assumption) (by omega) ?_)
                   | (refine Ints.ix (c := 0) (Mat.row (by assumption) _ (by omega)) (by omega) ?_)
                   | (refine Ints.ixI (by assumption) (by omega) ?_)
                   | (refine Mat.ixI (by assumption) (by omega) ?_)
                   | (refine Ints.ixI (Mat.row (by assumption) _ (by omega)) (by omega) ?_)
                   | (refine Ints.ld (by assumption) (by omega) ?_)
                   | (refine Mat.ld (by assumption) (by omega) ?_)
                   | (refine Ints.ld (Mat.row (by assumption) _ (by omega)) (by omega) ?_)
                   | (refine At.ld (by assumption) rfl ?_)
                   | (refine At.ldN (by assumption) rfl ?_)
                   | (refine Prs.ln (by assumption) ?_)
                   | (refine Trs.ln (by assumption) ?_)
                   | (refine Prs.ix (by assumption) (by omega) ?_)
                   | (refine Trs.ix (by assumption) (by omega) ?_)
                   | (refine Prs.ldN (by assumption) (by omega) ?_)
                   | (refine Trs.ldN (by assumption) (by omega) ?_)
                   | (refine At.ldN (Blk.at (by assumption)) rfl ?_)
                   | (refine At.ld (Blk.at (by assumption)) rfl ?_)
                   | (refine IxA.mk (by omega) ?_)
                   | (refine Sl.ln (Own.sl (by assumption)) ?_)
                   | (refine Ints.ix (Own.sl (by assumption)) (by omega) ?_)
                   | (refine Ints.ixI (Own.sl (by assumption)) (by omega) ?_)
                   | (refine Ints.ld (Own.sl (by assumption)) (by omega) ?_))
          refine VE.lit1 Try.underlying22 eRow (Sl.cells (Own.sl HO35)).1 fun lv w36 E36 Hl => ?_
          conv => whnf
          have hsz34 := G34.size
          have hsz35 := G35.size
          have hsz36 := E36.size
          refine VE.append Try.underlying22 eRow rfl (by omega) (HF35.ext E36).om.top Hl (by intro u hu; simp only [List.mem_singleton] at hu; subst hu; exact (Sl.cells (Own.sl HO35)).2) (by omega) (by omega) (by omega) fun v8 w37 G37 H8 => ?_
          have HF37 := (HF35.ext E36).push (Own.ext HO35 E36) G37 H8
          have hub2 : ∀ k, u.ownBlock = some k → n1 ≤ k := fun k hk => (hfb k (hub k hk)).1
          have Hr37 := (Hr35.ext E36).gr G37 (fun h => by have := hub2 _ h; omega)
          repeat' (conv => whnf
                   first
                   | (refine Rng.mk (by omega) ?_)
                   | (refine Split.pos (by omega) ?_)
                   | (refine Split.neg (by omega) ?_)
                   | (refine Split.mk (fun h => ?_) (fun h => ?_))
                   | (refine Need.mk (by omega) ?_)
                   | (refine Ints.ln (by assumption) ?_)
                   | (refine Mat.ln (by assumption) ?_)
                   | (refine Ints.ln (Mat.row (by assumption) _ (by omega)) ?_)
                   | (refine Ints.ix (by assumption) (by omega) ?_)
                   | (refine Mat.ix (by assumption) (by omega) ?_)
                   | (refine Ints.ix (Mat.row (by assumption) _ (by omega)) (by omega) ?_)
                   | (refine Ints.ix (c := 0) (by assumption) (by omega) ?_)
                   | (refine Mat.ix (c := 0) (by assumption) (by omega) ?_)
                   | (refine Ints.ix (c := 0) (Mat.row (by assumption) _ (by omega)) (by omega) ?_)
                   | (refine Ints.ixI (by assumption) (by omega) ?_)
                   | (refine Mat.ixI (by assumption) (by omega) ?_)
                   | (refine Ints.ixI (Mat.row (by assumption) _ (by omega)) (by omega) ?_)
                   | (refine Ints.ld (by assumption) (by omega) ?_)
                   | (refine Mat.ld (by assumption) (by omega) ?_)
                   | (refine Ints.ld (Mat.row (by assumption) _ (by omega)) (by omega) ?_)
                   | (refine At.ld (by assumption) rfl ?_)
                   | (refine At.ldN (by assumption) rfl ?_)
                   | (refine Prs.ln (by assumption) ?_)
                   | (refine Trs.ln (by assumption) ?_)
                   | (refine Prs.ix (by assumption) (by omega) ?_)
                   | (refine Trs.ix (by assumption) (by omega) ?_)
                   | (refine Prs.ldN (by assumption) (by omega) ?_)
                   | (refine Trs.ldN (by assumption) (by omega) ?_)
                   | (refine At.ldN (Blk.at (by assumption)) rfl ?_)
                   | (refine At.ld (Blk.at (by assumption)) rfl ?_)
                   | (refine IxA.mk (by omega) ?_)
                   | (refine Sl.ln (Own.sl (by assumption)) ?_)
                   | (refine Ints.ix (Own.sl (by assumption)) (by omega) ?_)
                   | (refine Ints.ixI (Own.sl (by assumption)) (by omega) ?_)
                   | (refine Ints.ld (Own.sl (by assumption)) (by omega) ?_))
          refine Blk.set0 Hr37 (by simp) (Sl.cells (Own.sl H8)).2 fun w38 G38 Hr38 => ?_
          have HF38 := HF37.gr G38 (fun k hk hS => by have := (Own.lt H8 k hk).1; omega) (fun k h1 h2 hS => by omega)
          repeat' (conv => whnf
                   first
                   | (refine Rng.mk (by omega) ?_)
                   | (refine Split.pos (by omega) ?_)
                   | (refine Split.neg (by omega) ?_)
                   | (refine Split.mk (fun h => ?_) (fun h => ?_))
                   | (refine Need.mk (by omega) ?_)
                   | (refine Ints.ln (by assumption) ?_)
                   | (refine Mat.ln (by assumption) ?_)
                   | (refine Ints.ln (Mat.row (by assumption) _ (by omega)) ?_)
                   | (refine Ints.ix (by assumption) (by omega) ?_)
                   | (refine Mat.ix (by assumption) (by omega) ?_)
                   | (refine Ints.ix (Mat.row (by assumption) _ (by omega)) (by omega) ?_)
                   | (refine Ints.ix (c := 0) (by assumption) (by omega) ?_)
                   | (refine Mat.ix (c := 0) (by assumption) (by omega) ?_)
                   | (refine Ints.ix (c := 0) (Mat.row (by assumption) _ (by omega)) (by omega) ?_)
                   | (refine Ints.ixI (by assumption) (by omega) ?_)
                   | (refine Mat.ixI (by assumption) (by omega) ?_)
                   | (refine Ints.ixI (Mat.row (by assumption) _ (by omega)) (by omega) ?_)
                   | (refine Ints.ld (by assumption) (by omega) ?_)
                   | (refine Mat.ld (by assumption) (by omega) ?_)
                   | (refine Ints.ld (Mat.row (by assumption) _ (by omega)) (by omega) ?_)
                   | (refine At.ld (by assumption) rfl ?_)
                   | (refine At.ldN (by assumption) rfl ?_)
                   | (refine Prs.ln (by assumption) ?_)
                   | (refine Trs.ln (by assumption) ?_)
                   | (refine Prs.ix (by assumption) (by omega) ?_)
                   | (refine Trs.ix (by assumption) (by omega) ?_)
                   | (refine Prs.ldN (by assumption) (by omega) ?_)
                   | (refine Trs.ldN (by assumption) (by omega) ?_)
                   | (refine At.ldN (Blk.at (by assumption)) rfl ?_)
                   | (refine At.ld (Blk.at (by assumption)) rfl ?_)
                   | (refine IxA.mk (by omega) ?_)
                   | (refine Sl.ln (Own.sl (by assumption)) ?_)
                   | (refine Ints.ix (Own.sl (by assumption)) (by omega) ?_)
                   | (refine Ints.ixI (Own.sl (by assumption)) (by omega) ?_)
                   | (refine Ints.ld (Own.sl (by assumption)) (by omega) ?_))
          refine ⟨⟨v8, _, Hr38, HF38⟩, ?_⟩
          exact (((((Gr.ofExt E33 : Gr _ W w33).trans (G34.mono fun k _ h => .inr (hfb k h).1)).trans (G35.mono fun k _ h => .inl h)).trans (Gr.ofExt E36)).trans (G37.mono fun k _ h => .inr (hub2 k h))).trans (G38.mono fun k _ h => .inl h)
      case done =>
        intro D n1 W hD hDn hI hG hdf
        obtain ⟨fv, us, HrW, HF⟩ := hI
        have EW : Ext w1 W := EE.new hG (fun i hi hk => by omega)
        repeat' (conv => whnf
                 first
                 | (refine At.ld (i := 0) (Blk.at HrW) rfl ?_)
                 | (refine Sl.ln (Own.sl HF.om.top) ?_)
                 | (refine Rng.mk (by omega) ?_)
                 | (refine Split.pos (by omega) ?_)
                 | (refine Split.neg (by omega) ?_)
                 | (refine Split.mk (fun h => ?_) (fun h => ?_))
                 | (refine Need.mk (by omega) ?_)
                 | (refine Ints.ln (by assumption) ?_)
                 | (refine Mat.ln (by assumption) ?_)
                 | (refine Ints.ln (Mat.row (by assumption) _ (by omega)) ?_)
                 | (refine Ints.ix (by assumption) (by omega) ?_)
                 | (refine Mat.ix (by assumption) (by omega) ?_)
                 | (refine Ints.ix (Mat.row (by assumption) _ (by omega)) (by omega) ?_)
                 | (refine Ints.ix (c := 0) (by assumption) (by omega) ?_)
                 | (refine Mat.ix (c := 0) (by assumption) (by omega) ?_)
                 | (refine Ints.ix (c := 0) (Mat.row (by assumption) _ (by omega)) (by omega) ?_)
                 | (refine Ints.ixI (by assumption) (by omega) ?_)
                 | (refine Mat.ixI (by assumption) (by omega) ?_)
                 | (refine Ints.ixI (Mat.row (by assumption) _ (by omega)) (by omega) ?_)
                 | (refine Ints.ld (by assumption) (by omega) ?_)
                 | (refine Mat.ld (by assumption) (by omega) ?_)
                 | (refine Ints.ld (Mat.row (by assumption) _ (by omega)) (by omega) ?_)
                 | (refine At.ld (by assumption) rfl ?_)
                 | (refine At.ldN (by assumption) rfl ?_)
                 | (refine Prs.ln (by assumption) ?_)
                 | (refine Trs.ln (by assumption) ?_)
                 | (refine Prs.ix (by assumption) (by omega) ?_)
                 | (refine Trs.ix (by assumption) (by omega) ?_)
                 | (refine Prs.ldN (by assumption) (by omega) ?_)
                 | (refine Trs.ldN (by assumption) (by omega) ?_)
                 | (refine At.ldN (Blk.at (by assumption)) rfl ?_)
                 | (refine At.ld (Blk.at (by assumption)) rfl ?_)
                 | (refine IxA.mk (by omega) ?_)
                 | (refine Sl.ln (Own.sl (by assumption)) ?_)
                 | (refine Ints.ix (Own.sl (by assumption)) (by omega) ?_)
                 | (refine Ints.ixI (Own.sl (by assumption)) (by omega) ?_)
                 | (refine Ints.ld (Own.sl (by assumption)) (by omega) ?_))
        rw [e1, e2]
        refine ⟨hdf, fun w33 G33 => ?_⟩
        conv => whnf
        exact ⟨EW.new G33 (fun i hi hk => by omega), rfl⟩
      case stop =>
        intro D n1 c pre W hD hDn hpre hI hG hdf
        exact hI.elim
  · obtain ⟨e1, e2⟩ := fr_err hck
    repeat' (conv => whnf
             first
             | (refine VC.pure ca ?_)
             | (refine Rng.mk (by omega) ?_)
             | (refine Split.pos (by omega) ?_)
             | (refine Split.neg (by omega) ?_)
             | (refine Split.mk (fun h => ?_) (fun h => ?_))
             | (refine Need.mk (by omega) ?_)
             | (refine Ints.ln (by assumption) ?_)
             | (refine Mat.ln (by assumption) ?_)
             | (refine Ints.ln (Mat.row (by assumption) _ (by omega)) ?_)
             | (refine Ints.ix (by assumption) (by omega) ?_)
             | (refine Mat.ix (by assumption) (by omega) ?_)
             | (refine Ints.ix (Mat.row (by assumption) _ (by omega)) (by omega) ?_)
             | (refine Ints.ix (c := 0) (by assumption) (by omega) ?_)
             | (refine Mat.ix (c := 0) (by assumption) (by omega) ?_)
             | (refine Ints.ix (c := 0) (Mat.row (by assumption) _ (by omega)) (by omega) ?_)
             | (refine Ints.ixI (by assumption) (by omega) ?_)
             | (refine Mat.ixI (by assumption) (by omega) ?_)
             | (refine Ints.ixI (Mat.row (by assumption) _ (by omega)) (by omega) ?_)
             | (refine Ints.ld (by assumption) (by omega) ?_)
             | (refine Mat.ld (by assumption) (by omega) ?_)
             | (refine Ints.ld (Mat.row (by assumption) _ (by omega)) (by omega) ?_)
             | (refine At.ld (by assumption) rfl ?_)
             | (refine At.ldN (by assumption) rfl ?_)
             | (refine Prs.ln (by assumption) ?_)
             | (refine Trs.ln (by assumption) ?_)
             | (refine Prs.ix (by assumption) (by omega) ?_)
             | (refine Trs.ix (by assumption) (by omega) ?_)
             | (refine Prs.ldN (by assumption) (by omega) ?_)
             | (refine Trs.ldN (by assumption) (by omega) ?_)
             | (refine At.ldN (Blk.at (by assumption)) rfl ?_)
             | (refine At.ld (Blk.at (by assumption)) rfl ?_)
             | (refine IxA.mk (by omega) ?_)
             | (refine Sl.ln (Own.sl (by assumption)) ?_)
             | (refine Ints.ix (Own.sl (by assumption)) (by omega) ?_)
             | (refine Ints.ixI (Own.sl (by assumption)) (by omega) ?_)
             | (refine Ints.ld (Own.sl (by assumption)) (by omega) ?_))
    rw [e1, e2]
    exact ⟨EE, rfl⟩
end Go.Proofs.Ytebklnmafjbhcaa
