/- The chapter's goods of layer 22 and their checks. -/
import Derived.Test.YtebklnmafjbhcaaJ5
set_option linter.unusedVariables false
set_option linter.unusedSimpArgs false
namespace Go.Proofs.Ytebklnmafjbhcaa
open Go.Eng
set_option maxRecDepth 100000
set_option maxHeartbeats 4000000

def wtd (l : List Int) (n : Nat) : Prop := (∀ i, i < l.length → 1 ≤ l.getD i 0 ∧ l.getD i 0 ≤ 1000000) ∧ l.length = n
theorem weighted_pc {w : World} {wv : Value} {l : List Int} {n : Nat} (Hl : Ints w wv l) : PC Try.prog 43 [wv, .int .i64 (n : Int)] w (.bool (tf (wtd l n))) := by
  refine PC.mk tyOk Try.func43 rfl (by kernel_rfl) fun w1 E1 => ?_
  replace Hl := Hl.ext E1
  have EE := Ext.refl w1
  have hle := Hl.le
  repeat' (conv => whnf
           first
           | (refine Dr.quiet tyOk (by kernel_rfl) ?_)
           | (refine Rng.mk (by omega) ?_)
           | (refine Split.pos (by omega) ?_)
           | (refine Split.neg (by omega) ?_)
           | (refine Split.mk (fun h => ?_) (fun h => ?_))
           | (refine Need.mk (by omega) ?_)
           | (refine Ints.ln (by assumption) ?_)
           | (refine Mat.ln (by assumption) ?_)
           | (refine Ints.ln (Mat.row (by assumption) _ (by omega)) ?_)
           | (refine Ints.ix (by assumption) (by omega) ?_)
           | (refine Mat.ix (by assumption) (by omega) ?_)
           | (refine Ints.ix (Mat.row (by assumption) _ (by omega)) (by omega) ?_)
           | (refine Ints.ix (c := 0) (by assumption) (by omega) ?_)
           | (refine Mat.ix (c := 0) (by assumption) (by omega) ?_)
           | (refine Ints.ix (c := 0) (Mat.row (by assumption) _ (by omega)) (by omega) ?_)
           | (refine Ints.ixI (by assumption) (by omega) ?_)
           | (refine Mat.ixI (by assumption) (by omega) ?_)
           | (refine Ints.ixI (Mat.row (by assumption) _ (by omega)) (by omega) ?_)
           | (refine Ints.ld (by assumption) (by omega) ?_)
           | (refine Mat.ld (by assumption) (by omega) ?_)
           | (refine Ints.ld (Mat.row (by assumption) _ (by omega)) (by omega) ?_)
           | (refine At.ld (by assumption) rfl ?_)
           | (refine At.ldN (by assumption) rfl ?_)
           | (refine Prs.ln (by assumption) ?_)
           | (refine Trs.ln (by assumption) ?_)
           | (refine Prs.ix (by assumption) (by omega) ?_)
           | (refine Trs.ix (by assumption) (by omega) ?_)
           | (refine Prs.ldN (by assumption) (by omega) ?_)
           | (refine Trs.ldN (by assumption) (by omega) ?_)
           | (refine At.ldN (Blk.at (by assumption)) rfl ?_)
           | (refine At.ld (Blk.at (by assumption)) rfl ?_)
           | (refine IxA.mk (by omega) ?_)
           | (refine Sl.ln (Own.sl (by assumption)) ?_)
           | (refine Ints.ix (Own.sl (by assumption)) (by omega) ?_)
           | (refine Ints.ixI (Own.sl (by assumption)) (by omega) ?_)
           | (refine Ints.ld (Own.sl (by assumption)) (by omega) ?_))
  refine Lp.mk tyOk [false, false, false, false, true, true, true, true, true, true, true, true, true, true, true, true, true, true, true, true, true, true, true, true] (fun m fr wr => getK fr 5 fun j => ∃ c : Nat, c ≤ l.length ∧ m = l.length - c ∧ j = .int .i64 (c : Int) ∧ (∀ i, i < c → 1 ≤ l.getD i 0 ∧ l.getD i 0 ≤ 1000000) ∧ wr = w1) (l.length) ?_ ?_
  · exact ⟨0, Nat.zero_le _, rfl, rfl, (by first | exact fun _ hi => absurd hi (Nat.not_lt_zero _) | exact fun _ _ hi => absurd hi (Nat.not_lt_zero _) | assumption | exact Own.nil | omega | simp), rfl⟩
  · intro m w2 u4 u5 u6 u7 u8 u9 u10 u11 u12 u13 u14 u15 u16 u17 u18 u19 u20 u21 u22 u23 hR
    obtain ⟨c, hc, rfl, rfl, hv, rfl⟩ := hR
    by_cases hcl : c < l.length
    · repeat' (conv => whnf
               first
               | (refine Dr.quiet tyOk (by kernel_rfl) ?_)
               | (refine Rng.mk (by omega) ?_)
               | (refine Split.pos (by omega) ?_)
               | (refine Split.neg (by omega) ?_)
               | (refine Split.mk (fun h => ?_) (fun h => ?_))
               | (refine Need.mk (by omega) ?_)
               | (refine Ints.ln (by assumption) ?_)
               | (refine Mat.ln (by assumption) ?_)
               | (refine Ints.ln (Mat.row (by assumption) _ (by omega)) ?_)
               | (refine Ints.ix (by assumption) (by omega) ?_)
               | (refine Mat.ix (by assumption) (by omega) ?_)
               | (refine Ints.ix (Mat.row (by assumption) _ (by omega)) (by omega) ?_)
               | (refine Ints.ix (c := 0) (by assumption) (by omega) ?_)
               | (refine Mat.ix (c := 0) (by assumption) (by omega) ?_)
               | (refine Ints.ix (c := 0) (Mat.row (by assumption) _ (by omega)) (by omega) ?_)
               | (refine Ints.ixI (by assumption) (by omega) ?_)
               | (refine Mat.ixI (by assumption) (by omega) ?_)
               | (refine Ints.ixI (Mat.row (by assumption) _ (by omega)) (by omega) ?_)
               | (refine Ints.ld (by assumption) (by omega) ?_)
               | (refine Mat.ld (by assumption) (by omega) ?_)
               | (refine Ints.ld (Mat.row (by assumption) _ (by omega)) (by omega) ?_)
               | (refine At.ld (by assumption) rfl ?_)
               | (refine At.ldN (by assumption) rfl ?_)
               | (refine Prs.ln (by assumption) ?_)
               | (refine Trs.ln (by assumption) ?_)
               | (refine Prs.ix (by assumption) (by omega) ?_)
               | (refine Trs.ix (by assumption) (by omega) ?_)
               | (refine Prs.ldN (by assumption) (by omega) ?_)
               | (refine Trs.ldN (by assumption) (by omega) ?_)
               | (refine At.ldN (Blk.at (by assumption)) rfl ?_)
               | (refine At.ld (Blk.at (by assumption)) rfl ?_)
               | (refine IxA.mk (by omega) ?_)
               | (refine Sl.ln (Own.sl (by assumption)) ?_)
               | (refine Ints.ix (Own.sl (by assumption)) (by omega) ?_)
               | (refine Ints.ixI (Own.sl (by assumption)) (by omega) ?_)
               | (refine Ints.ld (Own.sl (by assumption)) (by omega) ?_))
      · rw [tf_f (p := wtd l n) (fun h => by have := h.1 c (by omega); omega)]; exact ⟨rfl, EE⟩
      · rw [tf_f (p := wtd l n) (fun h => by have := h.1 c (by omega); omega)]; exact ⟨rfl, EE⟩
      · refine ⟨_, (by omega : l.length - (c + 1) < l.length - c), rfl, c + 1, by omega, rfl, rfl, all_succ hv (by omega), rfl⟩
    · obtain rfl : c = l.length := by omega
      by_cases e : l.length = n
      · rw [tf_t (p := wtd l n) ⟨fun i hi => hv i (by omega), e⟩]
        repeat' (conv => whnf
                 first
                 | (refine Dr.quiet tyOk (by kernel_rfl) ?_)
                 | (refine Rng.mk (by omega) ?_)
                 | (refine Split.pos (by omega) ?_)
                 | (refine Split.neg (by omega) ?_)
                 | (refine Split.mk (fun h => ?_) (fun h => ?_))
                 | (refine Need.mk (by omega) ?_)
                 | (refine Ints.ln (by assumption) ?_)
                 | (refine Mat.ln (by assumption) ?_)
                 | (refine Ints.ln (Mat.row (by assumption) _ (by omega)) ?_)
                 | (refine Ints.ix (by assumption) (by omega) ?_)
                 | (refine Mat.ix (by assumption) (by omega) ?_)
                 | (refine Ints.ix (Mat.row (by assumption) _ (by omega)) (by omega) ?_)
                 | (refine Ints.ix (c := 0) (by assumption) (by omega) ?_)
                 | (refine Mat.ix (c := 0) (by assumption) (by omega) ?_)
                 | (refine Ints.ix (c := 0) (Mat.row (by assumption) _ (by omega)) (by omega) ?_)
                 | (refine Ints.ixI (by assumption) (by omega) ?_)
                 | (refine Mat.ixI (by assumption) (by omega) ?_)
                 | (refine Ints.ixI (Mat.row (by assumption) _ (by omega)) (by omega) ?_)
                 | (refine Ints.ld (by assumption) (by omega) ?_)
                 | (refine Mat.ld (by assumption) (by omega) ?_)
                 | (refine Ints.ld (Mat.row (by assumption) _ (by omega)) (by omega) ?_)
                 | (refine At.ld (by assumption) rfl ?_)
                 | (refine At.ldN (by assumption) rfl ?_)
                 | (refine Prs.ln (by assumption) ?_)
                 | (refine Trs.ln (by assumption) ?_)
                 | (refine Prs.ix (by assumption) (by omega) ?_)
                 | (refine Trs.ix (by assumption) (by omega) ?_)
                 | (refine Prs.ldN (by assumption) (by omega) ?_)
                 | (refine Trs.ldN (by assumption) (by omega) ?_)
                 | (refine At.ldN (Blk.at (by assumption)) rfl ?_)
                 | (refine At.ld (Blk.at (by assumption)) rfl ?_)
                 | (refine IxA.mk (by omega) ?_)
                 | (refine Sl.ln (Own.sl (by assumption)) ?_)
                 | (refine Ints.ix (Own.sl (by assumption)) (by omega) ?_)
                 | (refine Ints.ixI (Own.sl (by assumption)) (by omega) ?_)
                 | (refine Ints.ld (Own.sl (by assumption)) (by omega) ?_))
        exact ⟨rfl, EE⟩
      · rw [tf_f (p := wtd l n) (fun h => e h.2)]
        repeat' (conv => whnf
                 first
                 | (refine Dr.quiet tyOk (by kernel_rfl) ?_)
                 | (refine Rng.mk (by omega) ?_)
                 | (refine Split.pos (by omega) ?_)
                 | (refine Split.neg (by omega) ?_)
                 | (refine Split.mk (fun h => ?_) (fun h => ?_))
                 | (refine Need.mk (by omega) ?_)
                 | (refine Ints.ln (by assumption) ?_)
                 | (refine Mat.ln (by assumption) ?_)
                 | (refine Ints.ln (Mat.row (by assumption) _ (by omega)) ?_)
                 | (refine Ints.ix (by assumption) (by omega) ?_)
                 | (refine Mat.ix (by assumption) (by omega) ?_)
                 | (refine Ints.ix (Mat.row (by assumption) _ (by omega)) (by omega) ?_)
                 | (refine Ints.ix (c := 0) (by assumption) (by omega) ?_)
                 | (refine Mat.ix (c := 0) (by assumption) (by omega) ?_)
                 | (refine Ints.ix (c := 0) (Mat.row (by assumption) _ (by omega)) (by omega) ?_)
                 | (refine Ints.ixI (by assumption) (by omega) ?_)
                 | (refine Mat.ixI (by assumption) (by omega) ?_)
                 | (refine Ints.ixI (Mat.row (by assumption) _ (by omega)) (by omega) ?_)
                 | (refine Ints.ld (by assumption) (by omega) ?_)
                 | (refine Mat.ld (by assumption) (by omega) ?_)
                 | (refine Ints.ld (Mat.row (by assumption) _ (by omega)) (by omega) ?_)
                 | (refine At.ld (by assumption) rfl ?_)
                 | (refine At.ldN (by assumption) rfl ?_)
                 | (refine Prs.ln (by assumption) ?_)
                 | (refine Trs.ln (by assumption) ?_)
                 | (refine Prs.ix (by assumption) (by omega) ?_)
                 | (refine Trs.ix (by assumption) (by omega) ?_)
                 | (refine Prs.ldN (by assumption) (by omega) ?_)
                 | (refine Trs.ldN (by assumption) (by omega) ?_)
                 | (refine At.ldN (Blk.at (by assumption)) rfl ?_)
                 | (refine At.ld (Blk.at (by assumption)) rfl ?_)
                 | (refine IxA.mk (by omega) ?_)
                 | (refine Sl.ln (Own.sl (by assumption)) ?_)
                 | (refine Ints.ix (Own.sl (by assumption)) (by omega) ?_)
                 | (refine Ints.ixI (Own.sl (by assumption)) (by omega) ?_)
                 | (refine Ints.ld (Own.sl (by assumption)) (by omega) ?_))
        exact ⟨rfl, EE⟩

def oddw (x : Int) : Bool := decide (x < 1) || decide (1000000 < x)
theorem oddw_pc {w : World} {x : Int} : PC Try.prog 61 [.int .i64 x] w (.bool (oddw x)) := by
  refine PC.mk tyOk Try.func61 rfl (by kernel_rfl) fun w1 E1 => ?_
  unfold oddw
  repeat' (conv => whnf
           first
           | (refine Dr.quiet tyOk (by kernel_rfl) ?_)
           | (refine Rng.mk (by omega) ?_)
           | (refine Split.pos (by omega) ?_)
           | (refine Split.neg (by omega) ?_)
           | (refine Split.mk (fun h => ?_) (fun h => ?_))
           | (refine Need.mk (by omega) ?_)
           | (refine Ints.ln (by assumption) ?_)
           | (refine Mat.ln (by assumption) ?_)
           | (refine Ints.ln (Mat.row (by assumption) _ (by omega)) ?_)
           | (refine Ints.ix (by assumption) (by omega) ?_)
           | (refine Mat.ix (by assumption) (by omega) ?_)
           | (refine Ints.ix (Mat.row (by assumption) _ (by omega)) (by omega) ?_)
           | (refine Ints.ix (c := 0) (by assumption) (by omega) ?_)
           | (refine Mat.ix (c := 0) (by assumption) (by omega) ?_)
           | (refine Ints.ix (c := 0) (Mat.row (by assumption) _ (by omega)) (by omega) ?_)
           | (refine Ints.ixI (by assumption) (by omega) ?_)
           | (refine Mat.ixI (by assumption) (by omega) ?_)
           | (refine Ints.ixI (Mat.row (by assumption) _ (by omega)) (by omega) ?_)
           | (refine Ints.ld (by assumption) (by omega) ?_)
           | (refine Mat.ld (by assumption) (by omega) ?_)
           | (refine Ints.ld (Mat.row (by assumption) _ (by omega)) (by omega) ?_)
           | (refine At.ld (by assumption) rfl ?_)
           | (refine At.ldN (by assumption) rfl ?_))
  · rw [decide_eq_true (by omega)]; exact ⟨rfl, Ext.refl _⟩
  · rw [decide_eq_false (by omega), decide_eq_true (by omega)]; exact ⟨rfl, Ext.refl _⟩
  · rw [decide_eq_false (by omega), decide_eq_false (by omega)]; exact ⟨rfl, Ext.refl _⟩

/-- the weighted value of good k for agent i -/
def wvl (rr : List (List Int)) (l : List Int) (i k : Nat) : Int := l.getD i 0 * val rr i k
theorem wvl_bd {rr : List (List Int)} {l : List Int} {n i k : Nat} (hw : wtd l n) (hi : i < n) (hv : 0 ≤ val rr i k ∧ val rr i k ≤ 1000) : 0 ≤ wvl rr l i k ∧ wvl rr l i k ≤ 1000000000 := by
  have h := hw.1 i (by rw [hw.2]; exact hi)
  have h1 : 0 ≤ l.getD i 0 * val rr i k := Int.mul_nonneg (by omega) hv.1
  have h2 : l.getD i 0 * val rr i k ≤ 1000000 * val rr i k := Int.mul_le_mul_of_nonneg_right h.2 hv.1
  unfold wvl
  exact ⟨h1, by omega⟩
def pvd (rr : List (List Int)) (a l : List Int) : Prop := ∀ k, k < a.length → ∀ i, i < rr.length → wvl rr l i k ≤ wvl rr l (a.getD k 0).toNat k
open Classical in noncomputable def prB (rr : List (List Int)) (a l : List Int) : Bool := if vld rr a = 0 ∧ compl a ∧ wtd l rr.length then tf (pvd rr a l) else false
open Classical in noncomputable def prE (rr : List (List Int)) (a l : List Int) : Int := if vld rr a = 0 then (if compl a ∧ wtd l rr.length then 0 else 8) else vld rr a

/-- the greatest of the first c numbers, or 0 -/
def mxTo (f : Nat → Int) : Nat → Int
  | 0 => 0
  | c + 1 => max (mxTo f c) (f c)
theorem mxTo_bd {f : Nat → Int} {n : Nat} (h : ∀ i, i < n → 0 ≤ f i ∧ f i ≤ 1000000000) : ∀ c, c ≤ n → 0 ≤ mxTo f c ∧ mxTo f c ≤ 1000000000
  | 0, _ => ⟨Int.le_refl 0, by show (0:Int) ≤ _; decide⟩
  | c + 1, hc => by
    have h1 := mxTo_bd h c (by omega)
    have h2 := h c (by omega)
    show 0 ≤ max (mxTo f c) (f c) ∧ max (mxTo f c) (f c) ≤ _
    omega
theorem mxTo_le {f : Nat → Int} : ∀ c i, i < c → f i ≤ mxTo f c
  | 0, i, hi => absurd hi (Nat.not_lt_zero _)
  | c + 1, i, hi => by
    show f i ≤ max (mxTo f c) (f c)
    by_cases e : i = c
    · subst e; omega
    · have := mxTo_le (f := f) c i (by omega); omega
theorem mxTo_is {f : Nat → Int} : ∀ c, mxTo f c = 0 ∨ ∃ i, i < c ∧ mxTo f c = f i
  | 0 => .inl rfl
  | c + 1 => by
    have e : mxTo f (c + 1) = max (mxTo f c) (f c) := rfl
    by_cases h : mxTo f c ≤ f c
    · exact .inr ⟨c, by omega, by omega⟩
    · rcases mxTo_is (f := f) c with h1 | ⟨i, hi, h1⟩
      · exact .inl (by omega)
      · exact .inr ⟨i, by omega, by omega⟩

theorem prE_ok {rr : List (List Int)} {a l : List Int} (h1 : vld rr a = 0) (h2 : compl a) (h3 : wtd l rr.length) : prE rr a l = 0 := by unfold prE; rw [if_pos h1, if_pos ⟨h2, h3⟩]
theorem prE_bad {rr : List (List Int)} {a l : List Int} (h1 : vld rr a = 0) (h2 : ¬ (compl a ∧ wtd l rr.length)) : prE rr a l = 8 := by unfold prE; rw [if_pos h1, if_neg h2]
theorem prE_vld {rr : List (List Int)} {a l : List Int} (h1 : ¬ vld rr a = 0) : prE rr a l = vld rr a := by unfold prE; rw [if_neg h1]
theorem prB_ok {rr : List (List Int)} {a l : List Int} (h1 : vld rr a = 0) (h2 : compl a) (h3 : wtd l rr.length) : prB rr a l = tf (pvd rr a l) := by unfold prB; rw [if_pos ⟨h1, h2, h3⟩]
theorem prB_no {rr : List (List Int)} {a l : List Int} (h : ¬ (vld rr a = 0 ∧ compl a ∧ wtd l rr.length)) : prB rr a l = false := by unfold prB; rw [if_neg h]

theorem gproves_pc {w : World} {gv av lv : Value} {vs : List Value} {rr : List (List Int)} {a l : List Int} (Hg : Mat w gv vs rr) (Ha : Ints w av a) (Hl : Ints w lv l) :
    PC Try.prog 18 [.agg #[gv], av, lv] w (.tuple #[.bool (prB rr a l), .int .i64 (prE rr a l)]) := by
  refine PC.mk tyOk Try.func18 rfl (by kernel_rfl) fun w1 E1 => ?_
  replace Hg := Hg.ext E1
  replace Ha := Ha.ext E1
  replace Hl := Hl.ext E1
  have EE := Ext.refl w1
  refine Bx.agg fun b2 w2 E2 hb2 Hx _ => ?_
  replace Hg := Hg.ext E2
  replace Ha := Ha.ext E2
  replace Hl := Hl.ext E2
  replace EE := EE.ext E2
  have ca := gvalid_pc Hg Ha
  have hll := Hl.le
  by_cases h1 : vld rr a = 0
  · rw [h1] at ca
    have hal := al_of_vld h1
    have hn := hal.n6
    have hm := hal.m10
    have hlen := hal.len
    have cc := contains_pc (x := -1) Ha
    have co := containsfuncI_pc (g := 61) (cap := []) (p := fun j => oddw (l.getD j 0)) Hl (fun j hj => by rw [Ints.elem (w := w2) (v := lv) hj]; exact oddw_pc)
    by_cases hcm : compl a
    · rw [tf_f (p := (-1 : Int) ∈ a) (fun h => by
        obtain ⟨j, hj, ej⟩ := mem_getD.1 h
        have := hcm j hj; omega)] at cc
      by_cases hw : wtd l rr.length
      · rw [tf_f (fun h => by
          obtain ⟨i, hi, hp⟩ := h
          have := hw.1 i hi
          simp only [oddw, Bool.or_eq_true, decide_eq_true_eq] at hp; omega)] at co
        have eE : prE rr a l = 0 := prE_ok h1 hcm hw
        have eB : prB rr a l = tf (pvd rr a l) := prB_ok h1 hcm hw
        have hwl := hw.2
        rw [eE, eB]
        repeat' (conv => whnf
                 first
                 | (refine Dr.quiet tyOk (by kernel_rfl) ?_)
                 | (refine VC.pure ca ?_)
                 | (refine VC.pure cc ?_)
                 | (refine VC.pure co ?_)
                 | (refine Rng.mk (by omega) ?_)
                 | (refine Split.pos (by omega) ?_)
                 | (refine Split.neg (by omega) ?_)
                 | (refine Split.mk (fun h => ?_) (fun h => ?_))
                 | (refine Need.mk (by omega) ?_)
                 | (refine Ints.ln (by assumption) ?_)
                 | (refine Mat.ln (by assumption) ?_)
                 | (refine Ints.ln (Mat.row (by assumption) _ (by omega)) ?_)
                 | (refine Ints.ix (by assumption) (by omega) ?_)
                 | (refine Mat.ix (by assumption) (by omega) ?_)
                 | (refine Ints.ix (Mat.row (by assumption) _ (by omega)) (by omega) ?_)
                 | (refine Ints.ix (c := 0) (by assumption) (by omega) ?_)
                 | (refine Mat.ix (c := 0) (by assumption) (by omega) ?_)
                 | (refine Ints.ix (c := 0) (Mat.row (by assumption) _ (by omega)) (by omega) ?_)
                 | (refine Ints.ixI (by assumption) (by omega) ?_)
                 | (refine Mat.ixI (by assumption) (by omega) ?_)
                 | (refine Ints.ixI (Mat.row (by assumption) _ (by omega)) (by omega) ?_)
                 | (refine Ints.ld (by assumption) (by omega) ?_)
                 | (refine Mat.ld (by assumption) (by omega) ?_)
                 | (refine Ints.ld (Mat.row (by assumption) _ (by omega)) (by omega) ?_)
                 | (refine At.ld (by assumption) rfl ?_)
                 | (refine At.ldN (by assumption) rfl ?_)
                 | (refine Prs.ln (by assumption) ?_)
                 | (refine Trs.ln (by assumption) ?_)
                 | (refine Prs.ix (by assumption) (by omega) ?_)
                 | (refine Trs.ix (by assumption) (by omega) ?_)
                 | (refine Prs.ldN (by assumption) (by omega) ?_)
                 | (refine Trs.ldN (by assumption) (by omega) ?_)
                 | (refine At.ldN (Blk.at (by assumption)) rfl ?_)
                 | (refine At.ld (Blk.at (by assumption)) rfl ?_)
                 | (refine IxA.mk (by omega) ?_)
                 | (refine Sl.ln (Own.sl (by assumption)) ?_)
                 | (refine Ints.ix (Own.sl (by assumption)) (by omega) ?_)
                 | (refine Ints.ixI (Own.sl (by assumption)) (by omega) ?_)
                 | (refine Ints.ld (Own.sl (by assumption)) (by omega) ?_))
        refine Lp.mk tyOk [false, false, false, false, false, false, true, true, false, false, true, true, true, true, false, false, false, false, false, false, false, false, false, false, false, false, false, false, false, false, false, false, false, false, false, false, false, true, true, true, true, true, true, true, true, true, true, true, true, true, true, true, true, true, true, true, true, true, true, true, true, true, true, true, true, true, true, true, true, true, true, true, true, true, true] (fun m fr wr => getK fr 37 fun j => ∃ c : Nat, c ≤ a.length ∧ m = a.length - c ∧ j = .int .i64 (c : Int) ∧ (∀ k, k < c → ∀ i, i < rr.length → wvl rr l i k ≤ wvl rr l (a.getD k 0).toNat k) ∧ wr = w2) (a.length) ?_ ?_
        · exact ⟨0, Nat.zero_le _, rfl, rfl, (by first | exact fun _ hi => absurd hi (Nat.not_lt_zero _) | exact fun _ _ hi => absurd hi (Nat.not_lt_zero _) | assumption | exact Own.nil | omega | simp), rfl⟩
        · intro m w3 u6 u7 u10 u11 u12 u13 u37 u38 u39 u40 u41 u42 u43 u44 u45 u46 u47 u48 u49 u50 u51 u52 u53 u54 u55 u56 u57 u58 u59 u60 u61 u62 u63 u64 u65 u66 u67 u68 u69 u70 u71 u72 u73 u74 hR
          obtain ⟨c, hc, rfl, rfl, hp, rfl⟩ := hR
          by_cases hcl : c < a.length
          · have h0 := hcm c hcl
            have hrg := hal.rng c (by omega)
            have hrc := hal.row (a.getD c 0).toNat (by omega)
            have hb0 := wvl_bd (k := c) hw (i := (a.getD c 0).toNat) (by omega) (hal.val _ _)
            have wd0 : wvl rr l (a.getD c 0).toNat c = l.getD (a.getD c 0).toNat 0 * (rr.getD (a.getD c 0).toNat []).getD c 0 := rfl
            repeat' (conv => whnf
                     first
                     | (refine Dr.quiet tyOk (by kernel_rfl) ?_)
                     | (refine Rng.mk (by omega) ?_)
                     | (refine Split.pos (by omega) ?_)
                     | (refine Split.neg (by omega) ?_)
                     | (refine Split.mk (fun h => ?_) (fun h => ?_))
                     | (refine Need.mk (by omega) ?_)
                     | (refine Ints.ln (by assumption) ?_)
                     | (refine Mat.ln (by assumption) ?_)
                     | (refine Ints.ln (Mat.row (by assumption) _ (by omega)) ?_)
                     | (refine Ints.ix (by assumption) (by omega) ?_)
                     | (refine Mat.ix (by assumption) (by omega) ?_)
                     | (refine Ints.ix (Mat.row (by assumption) _ (by omega)) (by omega) ?_)
                     | (refine Ints.ix (c := 0) (by assumption) (by omega) ?_)
                     | (refine Mat.ix (c := 0) (by assumption) (by omega) ?_)
                     | (refine Ints.ix (c := 0) (Mat.row (by assumption) _ (by omega)) (by omega) ?_)
                     | (refine Ints.ixI (by assumption) (by omega) ?_)
                     | (refine Mat.ixI (by assumption) (by omega) ?_)
                     | (refine Ints.ixI (Mat.row (by assumption) _ (by omega)) (by omega) ?_)
                     | (refine Ints.ld (by assumption) (by omega) ?_)
                     | (refine Mat.ld (by assumption) (by omega) ?_)
                     | (refine Ints.ld (Mat.row (by assumption) _ (by omega)) (by omega) ?_)
                     | (refine At.ld (by assumption) rfl ?_)
                     | (refine At.ldN (by assumption) rfl ?_)
                     | (refine Prs.ln (by assumption) ?_)
                     | (refine Trs.ln (by assumption) ?_)
                     | (refine Prs.ix (by assumption) (by omega) ?_)
                     | (refine Trs.ix (by assumption) (by omega) ?_)
                     | (refine Prs.ldN (by assumption) (by omega) ?_)
                     | (refine Trs.ldN (by assumption) (by omega) ?_)
                     | (refine At.ldN (Blk.at (by assumption)) rfl ?_)
                     | (refine At.ld (Blk.at (by assumption)) rfl ?_)
                     | (refine IxA.mk (by omega) ?_)
                     | (refine Sl.ln (Own.sl (by assumption)) ?_)
                     | (refine Ints.ix (Own.sl (by assumption)) (by omega) ?_)
                     | (refine Ints.ixI (Own.sl (by assumption)) (by omega) ?_)
                     | (refine Ints.ld (Own.sl (by assumption)) (by omega) ?_))
            refine Lp.mk tyOk [false, false, false, false, false, false, true, true, false, false, false, false, true, true, false, false, false, false, false, false, false, false, false, false, false, false, false, false, false, false, false, false, false, false, false, false, false, false, false, false, false, false, false, false, false, true, true, true, true, true, true, true, true, true, true, true, true, true, true, true, true, true, true, true, true, true, true, true, true, true, true, true, true, true] (fun m fr wr => getK fr 45 fun j2 => ∃ d : Nat, d ≤ rr.length ∧ m = rr.length - d ∧ j2 = .int .i64 (d : Int) ∧ (∀ i, i < d → wvl rr l i c ≤ wvl rr l (a.getD c 0).toNat c) ∧ wr = w3) (rr.length) ?_ ?_
            · exact ⟨0, Nat.zero_le _, rfl, rfl, (by first | exact fun _ hi => absurd hi (Nat.not_lt_zero _) | exact fun _ _ hi => absurd hi (Nat.not_lt_zero _) | assumption | exact Own.nil | omega | simp), rfl⟩
            · intro m w4 u6 u7 u12 u13 u45 u46 u47 u48 u49 u50 u51 u52 u53 u54 u55 u56 u57 u58 u59 u60 u61 u62 u63 u64 u65 u66 u67 u68 u69 u70 u71 u72 u73 hR
              obtain ⟨d, hd, rfl, rfl, hq, rfl⟩ := hR
              by_cases hdl : d < rr.length
              · have hrd := hal.row d hdl
                have hb1 := wvl_bd (k := c) hw (i := d) hdl (hal.val _ _)
                have wd1 : wvl rr l d c = l.getD d 0 * (rr.getD d []).getD c 0 := rfl
                repeat' (conv => whnf
                         first
                         | (refine Dr.quiet tyOk (by kernel_rfl) ?_)
                         | (refine Rng.mk (by omega) ?_)
                         | (refine Split.pos (by omega) ?_)
                         | (refine Split.neg (by omega) ?_)
                         | (refine Split.mk (fun h => ?_) (fun h => ?_))
                         | (refine Need.mk (by omega) ?_)
                         | (refine Ints.ln (by assumption) ?_)
                         | (refine Mat.ln (by assumption) ?_)
                         | (refine Ints.ln (Mat.row (by assumption) _ (by omega)) ?_)
                         | (refine Ints.ix (by assumption) (by omega) ?_)
                         | (refine Mat.ix (by assumption) (by omega) ?_)
                         | (refine Ints.ix (Mat.row (by assumption) _ (by omega)) (by omega) ?_)
                         | (refine Ints.ix (c := 0) (by assumption) (by omega) ?_)
                         | (refine Mat.ix (c := 0) (by assumption) (by omega) ?_)
                         | (refine Ints.ix (c := 0) (Mat.row (by assumption) _ (by omega)) (by omega) ?_)
                         | (refine Ints.ixI (by assumption) (by omega) ?_)
                         | (refine Mat.ixI (by assumption) (by omega) ?_)
                         | (refine Ints.ixI (Mat.row (by assumption) _ (by omega)) (by omega) ?_)
                         | (refine Ints.ld (by assumption) (by omega) ?_)
                         | (refine Mat.ld (by assumption) (by omega) ?_)
                         | (refine Ints.ld (Mat.row (by assumption) _ (by omega)) (by omega) ?_)
                         | (refine At.ld (by assumption) rfl ?_)
                         | (refine At.ldN (by assumption) rfl ?_)
                         | (refine Prs.ln (by assumption) ?_)
                         | (refine Trs.ln (by assumption) ?_)
                         | (refine Prs.ix (by assumption) (by omega) ?_)
                         | (refine Trs.ix (by assumption) (by omega) ?_)
                         | (refine Prs.ldN (by assumption) (by omega) ?_)
                         | (refine Trs.ldN (by assumption) (by omega) ?_)
                         | (refine At.ldN (Blk.at (by assumption)) rfl ?_)
                         | (refine At.ld (Blk.at (by assumption)) rfl ?_)
                         | (refine IxA.mk (by omega) ?_)
                         | (refine Sl.ln (Own.sl (by assumption)) ?_)
                         | (refine Ints.ix (Own.sl (by assumption)) (by omega) ?_)
                         | (refine Ints.ixI (Own.sl (by assumption)) (by omega) ?_)
                         | (refine Ints.ld (Own.sl (by assumption)) (by omega) ?_))
                · rw [tf_f (p := pvd rr a l) (fun h => by have := h c hcl d hdl; omega)]; exact ⟨rfl, EE⟩
                · refine ⟨_, (by omega : rr.length - (d + 1) < rr.length - d), rfl, d + 1, by omega, rfl, rfl, all_succ hq (by omega), rfl⟩
              · obtain rfl : d = rr.length := by omega
                repeat' (conv => whnf
                         first
                         | (refine Dr.quiet tyOk (by kernel_rfl) ?_)
                         | (refine Rng.mk (by omega) ?_)
                         | (refine Split.pos (by omega) ?_)
                         | (refine Split.neg (by omega) ?_)
                         | (refine Split.mk (fun h => ?_) (fun h => ?_))
                         | (refine Need.mk (by omega) ?_)
                         | (refine Ints.ln (by assumption) ?_)
                         | (refine Mat.ln (by assumption) ?_)
                         | (refine Ints.ln (Mat.row (by assumption) _ (by omega)) ?_)
                         | (refine Ints.ix (by assumption) (by omega) ?_)
                         | (refine Mat.ix (by assumption) (by omega) ?_)
                         | (refine Ints.ix (Mat.row (by assumption) _ (by omega)) (by omega) ?_)
                         | (refine Ints.ix (c := 0) (by assumption) (by omega) ?_)
                         | (refine Mat.ix (c := 0) (by assumption) (by omega) ?_)
                         | (refine Ints.ix (c := 0) (Mat.row (by assumption) _ (by omega)) (by omega) ?_)
                         | (refine Ints.ixI (by assumption) (by omega) ?_)
                         | (refine Mat.ixI (by assumption) (by omega) ?_)
                         | (refine Ints.ixI (Mat.row (by assumption) _ (by omega)) (by omega) ?_)
                         | (refine Ints.ld (by assumption) (by omega) ?_)
                         | (refine Mat.ld (by assumption) (by omega) ?_)
                         | (refine Ints.ld (Mat.row (by assumption) _ (by omega)) (by omega) ?_)
                         | (refine At.ld (by assumption) rfl ?_)
                         | (refine At.ldN (by assumption) rfl ?_)
                         | (refine Prs.ln (by assumption) ?_)
                         | (refine Trs.ln (by assumption) ?_)
                         | (refine Prs.ix (by assumption) (by omega) ?_)
                         | (refine Trs.ix (by assumption) (by omega) ?_)
                         | (refine Prs.ldN (by assumption) (by omega) ?_)
                         | (refine Trs.ldN (by assumption) (by omega) ?_)
                         | (refine At.ldN (Blk.at (by assumption)) rfl ?_)
                         | (refine At.ld (Blk.at (by assumption)) rfl ?_)
                         | (refine IxA.mk (by omega) ?_)
                         | (refine Sl.ln (Own.sl (by assumption)) ?_)
                         | (refine Ints.ix (Own.sl (by assumption)) (by omega) ?_)
                         | (refine Ints.ixI (Own.sl (by assumption)) (by omega) ?_)
                         | (refine Ints.ld (Own.sl (by assumption)) (by omega) ?_))
                refine ⟨_, (by omega : a.length - (c + 1) < a.length - c), rfl, c + 1, by omega, rfl, rfl, all_succ hp hq, rfl⟩
          · obtain rfl : c = a.length := by omega
            repeat' (conv => whnf
                     first
                     | (refine Dr.quiet tyOk (by kernel_rfl) ?_)
                     | (refine Rng.mk (by omega) ?_)
                     | (refine Split.pos (by omega) ?_)
                     | (refine Split.neg (by omega) ?_)
                     | (refine Split.mk (fun h => ?_) (fun h => ?_))
                     | (refine Need.mk (by omega) ?_)
                     | (refine Ints.ln (by assumption) ?_)
                     | (refine Mat.ln (by assumption) ?_)
                     | (refine Ints.ln (Mat.row (by assumption) _ (by omega)) ?_)
                     | (refine Ints.ix (by assumption) (by omega) ?_)
                     | (refine Mat.ix (by assumption) (by omega) ?_)
                     | (refine Ints.ix (Mat.row (by assumption) _ (by omega)) (by omega) ?_)
                     | (refine Ints.ix (c := 0) (by assumption) (by omega) ?_)
                     | (refine Mat.ix (c := 0) (by assumption) (by omega) ?_)
                     | (refine Ints.ix (c := 0) (Mat.row (by assumption) _ (by omega)) (by omega) ?_)
                     | (refine Ints.ixI (by assumption) (by omega) ?_)
                     | (refine Mat.ixI (by assumption) (by omega) ?_)
                     | (refine Ints.ixI (Mat.row (by assumption) _ (by omega)) (by omega) ?_)
                     | (refine Ints.ld (by assumption) (by omega) ?_)
                     | (refine Mat.ld (by assumption) (by omega) ?_)
                     | (refine Ints.ld (Mat.row (by assumption) _ (by omega)) (by omega) ?_)
                     | (refine At.ld (by assumption) rfl ?_)
                     | (refine At.ldN (by assumption) rfl ?_)
                     | (refine Prs.ln (by assumption) ?_)
                     | (refine Trs.ln (by assumption) ?_)
                     | (refine Prs.ix (by assumption) (by omega) ?_)
                     | (refine Trs.ix (by assumption) (by omega) ?_)
                     | (refine Prs.ldN (by assumption) (by omega) ?_)
                     | (refine Trs.ldN (by assumption) (by omega) ?_)
                     | (refine At.ldN (Blk.at (by assumption)) rfl ?_)
                     | (refine At.ld (Blk.at (by assumption)) rfl ?_)
                     | (refine IxA.mk (by omega) ?_)
                     | (refine Sl.ln (Own.sl (by assumption)) ?_)
                     | (refine Ints.ix (Own.sl (by assumption)) (by omega) ?_)
                     | (refine Ints.ixI (Own.sl (by assumption)) (by omega) ?_)
                     | (refine Ints.ld (Own.sl (by assumption)) (by omega) ?_))
            rw [tf_t (p := pvd rr a l) (fun k hk i hi => hp k hk i hi)]; exact ⟨rfl, EE⟩
      · have eE : prE rr a l = 8 := prE_bad h1 (fun h => hw h.2)
        have eB : prB rr a l = false := prB_no (fun h => hw h.2.2)
        rw [eE, eB]
        by_cases hwl : l.length = rr.length
        · rw [tf_t (by
            refine Classical.byContradiction fun hn => hw ⟨fun i hi => ?_, hwl⟩
            refine Classical.byContradiction fun hh => hn ⟨i, hi, ?_⟩
            simp only [oddw, Bool.or_eq_true, decide_eq_true_eq]; omega)] at co
          repeat' (conv => whnf
                   first
                   | (refine Dr.quiet tyOk (by kernel_rfl) ?_)
                   | (refine VC.pure ca ?_)
                   | (refine VC.pure cc ?_)
                   | (refine VC.pure co ?_)
                   | (refine Rng.mk (by omega) ?_)
                   | (refine Split.pos (by omega) ?_)
                   | (refine Split.neg (by omega) ?_)
                   | (refine Split.mk (fun h => ?_) (fun h => ?_))
                   | (refine Need.mk (by omega) ?_)
                   | (refine Ints.ln (by assumption) ?_)
                   | (refine Mat.ln (by assumption) ?_)
                   | (refine Ints.ln (Mat.row (by assumption) _ (by omega)) ?_)
                   | (refine Ints.ix (by assumption) (by omega) ?_)
                   | (refine Mat.ix (by assumption) (by omega) ?_)
                   | (refine Ints.ix (Mat.row (by assumption) _ (by omega)) (by omega) ?_)
                   | (refine Ints.ix (c := 0) (by assumption) (by omega) ?_)
                   | (refine Mat.ix (c := 0) (by assumption) (by omega) ?_)
                   | (refine Ints.ix (c := 0) (Mat.row (by assumption) _ (by omega)) (by omega) ?_)
                   | (refine Ints.ixI (by assumption) (by omega) ?_)
                   | (refine Mat.ixI (by assumption) (by omega) ?_)
                   | (refine Ints.ixI (Mat.row (by assumption) _ (by omega)) (by omega) ?_)
                   | (refine Ints.ld (by assumption) (by omega) ?_)
                   | (refine Mat.ld (by assumption) (by omega) ?_)
                   | (refine Ints.ld (Mat.row (by assumption) _ (by omega)) (by omega) ?_)
                   | (refine At.ld (by assumption) rfl ?_)
                   | (refine At.ldN (by assumption) rfl ?_)
                   | (refine Prs.ln (by assumption) ?_)
                   | (refine Trs.ln (by assumption) ?_)
                   | (refine Prs.ix (by assumption) (by omega) ?_)
                   | (refine Trs.ix (by assumption) (by omega) ?_)
                   | (refine Prs.ldN (by assumption) (by omega) ?_)
                   | (refine Trs.ldN (by assumption) (by omega) ?_)
                   | (refine At.ldN (Blk.at (by assumption)) rfl ?_)
                   | (refine At.ld (Blk.at (by assumption)) rfl ?_)
                   | (refine IxA.mk (by omega) ?_)
                   | (refine Sl.ln (Own.sl (by assumption)) ?_)
                   | (refine Ints.ix (Own.sl (by assumption)) (by omega) ?_)
                   | (refine Ints.ixI (Own.sl (by assumption)) (by omega) ?_)
                   | (refine Ints.ld (Own.sl (by assumption)) (by omega) ?_))
          exact ⟨rfl, EE⟩
        · repeat' (conv => whnf
                   first
                   | (refine Dr.quiet tyOk (by kernel_rfl) ?_)
                   | (refine VC.pure ca ?_)
                   | (refine VC.pure cc ?_)
                   | (refine VC.pure co ?_)
                   | (refine Rng.mk (by omega) ?_)
                   | (refine Split.pos (by omega) ?_)
                   | (refine Split.neg (by omega) ?_)
                   | (refine Split.mk (fun h => ?_) (fun h => ?_))
                   | (refine Need.mk (by omega) ?_)
                   | (refine Ints.ln (by assumption) ?_)
                   | (refine Mat.ln (by assumption) ?_)
                   | (refine Ints.ln (Mat.row (by assumption) _ (by omega)) ?_)
                   | (refine Ints.ix (by assumption) (by omega) ?_)
                   | (refine Mat.ix (by assumption) (by omega) ?_)
                   | (refine Ints.ix (Mat.row (by assumption) _ (by omega)) (by omega) ?_)
                   | (refine Ints.ix (c := 0) (by assumption) (by omega) ?_)
                   | (refine Mat.ix (c := 0) (by assumption) (by omega) ?_)
                   | (refine Ints.ix (c := 0) (Mat.row (by assumption) _ (by omega)) (by omega) ?_)
                   | (refine Ints.ixI (by assumption) (by omega) ?_)
                   | (refine Mat.ixI (by assumption) (by omega) ?_)
                   | (refine Ints.ixI (Mat.row (by assumption) _ (by omega)) (by omega) ?_)
                   | (refine Ints.ld (by assumption) (by omega) ?_)
                   | (refine Mat.ld (by assumption) (by omega) ?_)
                   | (refine Ints.ld (Mat.row (by assumption) _ (by omega)) (by omega) ?_)
                   | (refine At.ld (by assumption) rfl ?_)
                   | (refine At.ldN (by assumption) rfl ?_)
                   | (refine Prs.ln (by assumption) ?_)
                   | (refine Trs.ln (by assumption) ?_)
                   | (refine Prs.ix (by assumption) (by omega) ?_)
                   | (refine Trs.ix (by assumption) (by omega) ?_)
                   | (refine Prs.ldN (by assumption) (by omega) ?_)
                   | (refine Trs.ldN (by assumption) (by omega) ?_)
                   | (refine At.ldN (Blk.at (by assumption)) rfl ?_)
                   | (refine At.ld (Blk.at (by assumption)) rfl ?_)
                   | (refine IxA.mk (by omega) ?_)
                   | (refine Sl.ln (Own.sl (by assumption)) ?_)
                   | (refine Ints.ix (Own.sl (by assumption)) (by omega) ?_)
                   | (refine Ints.ixI (Own.sl (by assumption)) (by omega) ?_)
                   | (refine Ints.ld (Own.sl (by assumption)) (by omega) ?_))
          exact ⟨rfl, EE⟩
    · have eE : prE rr a l = 8 := prE_bad h1 (fun h => hcm h.1)
      have eB : prB rr a l = false := prB_no (fun h => hcm h.2.1)
      rw [eE, eB]
      rw [tf_t (p := (-1 : Int) ∈ a) (by
        refine Classical.byContradiction fun hn => hcm fun j hj => ?_
        have h2 := hal.rng j (by omega)
        refine Classical.byContradiction fun hh => hn (mem_getD.2 ⟨j, hj, by omega⟩))] at cc
      repeat' (conv => whnf
               first
               | (refine Dr.quiet tyOk (by kernel_rfl) ?_)
               | (refine VC.pure ca ?_)
               | (refine VC.pure cc ?_)
               | (refine VC.pure co ?_)
               | (refine Rng.mk (by omega) ?_)
               | (refine Split.pos (by omega) ?_)
               | (refine Split.neg (by omega) ?_)
               | (refine Split.mk (fun h => ?_) (fun h => ?_))
               | (refine Need.mk (by omega) ?_)
               | (refine Ints.ln (by assumption) ?_)
               | (refine Mat.ln (by assumption) ?_)
               | (refine Ints.ln (Mat.row (by assumption) _ (by omega)) ?_)
               | (refine Ints.ix (by assumption) (by omega) ?_)
               | (refine Mat.ix (by assumption) (by omega) ?_)
               | (refine Ints.ix (Mat.row (by assumption) _ (by omega)) (by omega) ?_)
               | (refine Ints.ix (c := 0) (by assumption) (by omega) ?_)
               | (refine Mat.ix (c := 0) (by assumption) (by omega) ?_)
               | (refine Ints.ix (c := 0) (Mat.row (by assumption) _ (by omega)) (by omega) ?_)
               | (refine Ints.ixI (by assumption) (by omega) ?_)
               | (refine Mat.ixI (by assumption) (by omega) ?_)
               | (refine Ints.ixI (Mat.row (by assumption) _ (by omega)) (by omega) ?_)
               | (refine Ints.ld (by assumption) (by omega) ?_)
               | (refine Mat.ld (by assumption) (by omega) ?_)
               | (refine Ints.ld (Mat.row (by assumption) _ (by omega)) (by omega) ?_)
               | (refine At.ld (by assumption) rfl ?_)
               | (refine At.ldN (by assumption) rfl ?_)
               | (refine Prs.ln (by assumption) ?_)
               | (refine Trs.ln (by assumption) ?_)
               | (refine Prs.ix (by assumption) (by omega) ?_)
               | (refine Trs.ix (by assumption) (by omega) ?_)
               | (refine Prs.ldN (by assumption) (by omega) ?_)
               | (refine Trs.ldN (by assumption) (by omega) ?_)
               | (refine At.ldN (Blk.at (by assumption)) rfl ?_)
               | (refine At.ld (Blk.at (by assumption)) rfl ?_)
               | (refine IxA.mk (by omega) ?_)
               | (refine Sl.ln (Own.sl (by assumption)) ?_)
               | (refine Ints.ix (Own.sl (by assumption)) (by omega) ?_)
               | (refine Ints.ixI (Own.sl (by assumption)) (by omega) ?_)
               | (refine Ints.ld (Own.sl (by assumption)) (by omega) ?_))
      exact ⟨rfl, EE⟩
  · have eE : prE rr a l = vld rr a := prE_vld h1
    have eB : prB rr a l = false := prB_no (fun h => h1 h.1)
    rw [eE, eB]
    repeat' (conv => whnf
             first
             | (refine Dr.quiet tyOk (by kernel_rfl) ?_)
             | (refine VC.pure ca ?_)
             | (refine Rng.mk (by omega) ?_)
             | (refine Split.pos (by omega) ?_)
             | (refine Split.neg (by omega) ?_)
             | (refine Split.mk (fun h => ?_) (fun h => ?_))
             | (refine Need.mk (by omega) ?_)
             | (refine Ints.ln (by assumption) ?_)
             | (refine Mat.ln (by assumption) ?_)
             | (refine Ints.ln (Mat.row (by assumption) _ (by omega)) ?_)
             | (refine Ints.ix (by assumption) (by omega) ?_)
             | (refine Mat.ix (by assumption) (by omega) ?_)
             | (refine Ints.ix (Mat.row (by assumption) _ (by omega)) (by omega) ?_)
             | (refine Ints.ix (c := 0) (by assumption) (by omega) ?_)
             | (refine Mat.ix (c := 0) (by assumption) (by omega) ?_)
             | (refine Ints.ix (c := 0) (Mat.row (by assumption) _ (by omega)) (by omega) ?_)
             | (refine Ints.ixI (by assumption) (by omega) ?_)
             | (refine Mat.ixI (by assumption) (by omega) ?_)
             | (refine Ints.ixI (Mat.row (by assumption) _ (by omega)) (by omega) ?_)
             | (refine Ints.ld (by assumption) (by omega) ?_)
             | (refine Mat.ld (by assumption) (by omega) ?_)
             | (refine Ints.ld (Mat.row (by assumption) _ (by omega)) (by omega) ?_)
             | (refine At.ld (by assumption) rfl ?_)
             | (refine At.ldN (by assumption) rfl ?_)
             | (refine Prs.ln (by assumption) ?_)
             | (refine Trs.ln (by assumption) ?_)
             | (refine Prs.ix (by assumption) (by omega) ?_)
             | (refine Trs.ix (by assumption) (by omega) ?_)
             | (refine Prs.ldN (by assumption) (by omega) ?_)
             | (refine Trs.ldN (by assumption) (by omega) ?_)
             | (refine At.ldN (Blk.at (by assumption)) rfl ?_)
             | (refine At.ld (Blk.at (by assumption)) rfl ?_)
             | (refine IxA.mk (by omega) ?_)
             | (refine Sl.ln (Own.sl (by assumption)) ?_)
             | (refine Ints.ix (Own.sl (by assumption)) (by omega) ?_)
             | (refine Ints.ixI (Own.sl (by assumption)) (by omega) ?_)
             | (refine Ints.ld (Own.sl (by assumption)) (by omega) ?_))
    exact ⟨rfl, EE⟩

theorem rproves_pc {w : World} {gv av lv : Value} {vs : List Value} {rr : List (List Int)} {a l : List Int} (Hg : Mat w gv vs rr) (Ha : Ints w av a) (Hl : Ints w lv l) :
    PC Try.prog 19 [.agg #[gv], av, lv] w (.tuple #[.bool (prB rr a l), .int .i64 (prE rr a l)]) := by
  refine PC.mk tyOk Try.func19 rfl (by kernel_rfl) fun w1 E1 => ?_
  replace Hg := Hg.ext E1
  replace Ha := Ha.ext E1
  replace Hl := Hl.ext E1
  have EE := Ext.refl w1
  refine Bx.agg fun b2 w2 E2 hb2 Hx _ => ?_
  replace Hg := Hg.ext E2
  replace Ha := Ha.ext E2
  replace Hl := Hl.ext E2
  replace EE := EE.ext E2
  have ca := rvalid_pc Hg Ha
  have hll := Hl.le
  by_cases h1 : vld rr a = 0
  · rw [h1] at ca
    have hal := al_of_vld h1
    have hn := hal.n6
    have hm := hal.m10
    have hlen := hal.len
    have cc := complete_pc Ha
    have cw := weighted_pc (n := rr.length) Hl
    by_cases hcm : compl a
    · rw [tf_t hcm] at cc
      by_cases hw : wtd l rr.length
      · rw [tf_t hw] at cw
        have eE : prE rr a l = 0 := prE_ok h1 hcm hw
        have eB : prB rr a l = tf (pvd rr a l) := prB_ok h1 hcm hw
        have hwl := hw.2
        rw [eE, eB]
        repeat' (conv => whnf
                 first
                 | (refine Dr.quiet tyOk (by kernel_rfl) ?_)
                 | (refine VC.pure ca ?_)
                 | (refine VC.pure cc ?_)
                 | (refine VC.pure cw ?_)
                 | (refine Rng.mk (by omega) ?_)
                 | (refine Split.pos (by omega) ?_)
                 | (refine Split.neg (by omega) ?_)
                 | (refine Split.mk (fun h => ?_) (fun h => ?_))
                 | (refine Need.mk (by omega) ?_)
                 | (refine Ints.ln (by assumption) ?_)
                 | (refine Mat.ln (by assumption) ?_)
                 | (refine Ints.ln (Mat.row (by assumption) _ (by omega)) ?_)
                 | (refine Ints.ix (by assumption) (by omega) ?_)
                 | (refine Mat.ix (by assumption) (by omega) ?_)
                 | (refine Ints.ix (Mat.row (by assumption) _ (by omega)) (by omega) ?_)
                 | (refine Ints.ix (c := 0) (by assumption) (by omega) ?_)
                 | (refine Mat.ix (c := 0) (by assumption) (by omega) ?_)
                 | (refine Ints.ix (c := 0) (Mat.row (by assumption) _ (by omega)) (by omega) ?_)
                 | (refine Ints.ixI (by assumption) (by omega) ?_)
                 | (refine Mat.ixI (by assumption) (by omega) ?_)
                 | (refine Ints.ixI (Mat.row (by assumption) _ (by omega)) (by omega) ?_)
                 | (refine Ints.ld (by assumption) (by omega) ?_)
                 | (refine Mat.ld (by assumption) (by omega) ?_)
                 | (refine Ints.ld (Mat.row (by assumption) _ (by omega)) (by omega) ?_)
                 | (refine At.ld (by assumption) rfl ?_)
                 | (refine At.ldN (by assumption) rfl ?_)
                 | (refine Prs.ln (by assumption) ?_)
                 | (refine Trs.ln (by assumption) ?_)
                 | (refine Prs.ix (by assumption) (by omega) ?_)
                 | (refine Trs.ix (by assumption) (by omega) ?_)
                 | (refine Prs.ldN (by assumption) (by omega) ?_)
                 | (refine Trs.ldN (by assumption) (by omega) ?_)
                 | (refine At.ldN (Blk.at (by assumption)) rfl ?_)
                 | (refine At.ld (Blk.at (by assumption)) rfl ?_)
                 | (refine IxA.mk (by omega) ?_)
                 | (refine Sl.ln (Own.sl (by assumption)) ?_)
                 | (refine Ints.ix (Own.sl (by assumption)) (by omega) ?_)
                 | (refine Ints.ixI (Own.sl (by assumption)) (by omega) ?_)
                 | (refine Ints.ld (Own.sl (by assumption)) (by omega) ?_))
        refine Lp.mk tyOk [false, false, false, false, false, false, true, true, true, true, true, false, false, false, false, false, false, false, false, false, false, false, false, false, false, false, false, false, false, true, true, true, true, true, true, true, true, true, true, true, true, true, true, true, true, true, true, true, true, true, true, true, true, true, true, true, true, true, true, true, true, true, true, true, true, true, true, true, true, true, true, true, true, true, true, true, true, true] (fun m fr wr => getK fr 8 fun j => ∃ c : Nat, c ≤ a.length ∧ m = a.length - c ∧ j = .int .i64 (c : Int) ∧ (∀ k, k < c → ∀ i, i < rr.length → wvl rr l i k ≤ wvl rr l (a.getD k 0).toNat k) ∧ wr = w2) (a.length) ?_ ?_
        · exact ⟨0, Nat.zero_le _, rfl, rfl, (by first | exact fun _ hi => absurd hi (Nat.not_lt_zero _) | exact fun _ _ hi => absurd hi (Nat.not_lt_zero _) | assumption | exact Own.nil | omega | simp), rfl⟩
        · intro m w3 u6 u7 u8 u9 u10 u29 u30 u31 u32 u33 u34 u35 u36 u37 u38 u39 u40 u41 u42 u43 u44 u45 u46 u47 u48 u49 u50 u51 u52 u53 u54 u55 u56 u57 u58 u59 u60 u61 u62 u63 u64 u65 u66 u67 u68 u69 u70 u71 u72 u73 u74 u75 u76 u77 hR
          obtain ⟨c, hc, rfl, rfl, hp, rfl⟩ := hR
          by_cases hcl : c < a.length
          · have h0 := hcm c hcl
            have hrg := hal.rng c (by omega)
            have hrc := hal.row (a.getD c 0).toNat (by omega)
            have hb0 := wvl_bd (k := c) hw (i := (a.getD c 0).toNat) (by omega) (hal.val _ _)
            have wd0 : wvl rr l (a.getD c 0).toNat c = l.getD (a.getD c 0).toNat 0 * (rr.getD (a.getD c 0).toNat []).getD c 0 := rfl
            repeat' (conv => whnf
                     first
                     | (refine Dr.quiet tyOk (by kernel_rfl) ?_)
                     | (refine Rng.mk (by omega) ?_)
                     | (refine Split.pos (by omega) ?_)
                     | (refine Split.neg (by omega) ?_)
                     | (refine Split.mk (fun h => ?_) (fun h => ?_))
                     | (refine Need.mk (by omega) ?_)
                     | (refine Ints.ln (by assumption) ?_)
                     | (refine Mat.ln (by assumption) ?_)
                     | (refine Ints.ln (Mat.row (by assumption) _ (by omega)) ?_)
                     | (refine Ints.ix (by assumption) (by omega) ?_)
                     | (refine Mat.ix (by assumption) (by omega) ?_)
                     | (refine Ints.ix (Mat.row (by assumption) _ (by omega)) (by omega) ?_)
                     | (refine Ints.ix (c := 0) (by assumption) (by omega) ?_)
                     | (refine Mat.ix (c := 0) (by assumption) (by omega) ?_)
                     | (refine Ints.ix (c := 0) (Mat.row (by assumption) _ (by omega)) (by omega) ?_)
                     | (refine Ints.ixI (by assumption) (by omega) ?_)
                     | (refine Mat.ixI (by assumption) (by omega) ?_)
                     | (refine Ints.ixI (Mat.row (by assumption) _ (by omega)) (by omega) ?_)
                     | (refine Ints.ld (by assumption) (by omega) ?_)
                     | (refine Mat.ld (by assumption) (by omega) ?_)
                     | (refine Ints.ld (Mat.row (by assumption) _ (by omega)) (by omega) ?_)
                     | (refine At.ld (by assumption) rfl ?_)
                     | (refine At.ldN (by assumption) rfl ?_)
                     | (refine Prs.ln (by assumption) ?_)
                     | (refine Trs.ln (by assumption) ?_)
                     | (refine Prs.ix (by assumption) (by omega) ?_)
                     | (refine Trs.ix (by assumption) (by omega) ?_)
                     | (refine Prs.ldN (by assumption) (by omega) ?_)
                     | (refine Trs.ldN (by assumption) (by omega) ?_)
                     | (refine At.ldN (Blk.at (by assumption)) rfl ?_)
                     | (refine At.ld (Blk.at (by assumption)) rfl ?_)
                     | (refine IxA.mk (by omega) ?_)
                     | (refine Sl.ln (Own.sl (by assumption)) ?_)
                     | (refine Ints.ix (Own.sl (by assumption)) (by omega) ?_)
                     | (refine Ints.ixI (Own.sl (by assumption)) (by omega) ?_)
                     | (refine Ints.ld (Own.sl (by assumption)) (by omega) ?_))
            refine Lp.mk tyOk [false, false, false, false, false, false, false, false, false, true, true, false, false, false, false, false, false, false, false, false, false, false, false, false, false, false, false, false, false, false, false, false, false, false, false, true, true, true, true, true, true, true, true, true, true, true, true, true, true, true, true, true, true, true, true, true, true] (fun m fr wr => getK fr 10 fun j2 => getK fr 9 fun most => ∃ d : Nat, d ≤ rr.length ∧ m = rr.length - d ∧ j2 = .int .i64 (d : Int) ∧ most = .int .i64 (mxTo (fun i => wvl rr l i c) d) ∧ wr = w3) (rr.length) ?_ ?_
            · exact ⟨0, Nat.zero_le _, rfl, rfl, rfl, rfl⟩
            · intro m w4 u9 u10 u35 u36 u37 u38 u39 u40 u41 u42 u43 u44 u45 u46 u47 u48 u49 u50 u51 u52 u53 u54 u55 u56 hR
              obtain ⟨d, hd, rfl, rfl, rfl, rfl⟩ := hR
              have hmb := mxTo_bd (f := fun i => wvl rr l i c) (n := rr.length) (fun i hi => wvl_bd (k := c) hw (i := i) hi (hal.val _ _)) d hd
              by_cases hdl : d < rr.length
              · have hrd := hal.row d hdl
                have hb1 := wvl_bd (k := c) hw (i := d) hdl (hal.val _ _)
                have wd1 : wvl rr l d c = l.getD d 0 * (rr.getD d []).getD c 0 := rfl
                repeat' (conv => whnf
                         first
                         | (refine Dr.quiet tyOk (by kernel_rfl) ?_)
                         | (refine Rng.mk (by omega) ?_)
                         | (refine Split.pos (by omega) ?_)
                         | (refine Split.neg (by omega) ?_)
                         | (refine Split.mk (fun h => ?_) (fun h => ?_))
                         | (refine Need.mk (by omega) ?_)
                         | (refine Ints.ln (by assumption) ?_)
                         | (refine Mat.ln (by assumption) ?_)
                         | (refine Ints.ln (Mat.row (by assumption) _ (by omega)) ?_)
                         | (refine Ints.ix (by assumption) (by omega) ?_)
                         | (refine Mat.ix (by assumption) (by omega) ?_)
                         | (refine Ints.ix (Mat.row (by assumption) _ (by omega)) (by omega) ?_)
                         | (refine Ints.ix (c := 0) (by assumption) (by omega) ?_)
                         | (refine Mat.ix (c := 0) (by assumption) (by omega) ?_)
                         | (refine Ints.ix (c := 0) (Mat.row (by assumption) _ (by omega)) (by omega) ?_)
                         | (refine Ints.ixI (by assumption) (by omega) ?_)
                         | (refine Mat.ixI (by assumption) (by omega) ?_)
                         | (refine Ints.ixI (Mat.row (by assumption) _ (by omega)) (by omega) ?_)
                         | (refine Ints.ld (by assumption) (by omega) ?_)
                         | (refine Mat.ld (by assumption) (by omega) ?_)
                         | (refine Ints.ld (Mat.row (by assumption) _ (by omega)) (by omega) ?_)
                         | (refine At.ld (by assumption) rfl ?_)
                         | (refine At.ldN (by assumption) rfl ?_)
                         | (refine Prs.ln (by assumption) ?_)
                         | (refine Trs.ln (by assumption) ?_)
                         | (refine Prs.ix (by assumption) (by omega) ?_)
                         | (refine Trs.ix (by assumption) (by omega) ?_)
                         | (refine Prs.ldN (by assumption) (by omega) ?_)
                         | (refine Trs.ldN (by assumption) (by omega) ?_)
                         | (refine At.ldN (Blk.at (by assumption)) rfl ?_)
                         | (refine At.ld (Blk.at (by assumption)) rfl ?_)
                         | (refine IxA.mk (by omega) ?_)
                         | (refine Sl.ln (Own.sl (by assumption)) ?_)
                         | (refine Ints.ix (Own.sl (by assumption)) (by omega) ?_)
                         | (refine Ints.ixI (Own.sl (by assumption)) (by omega) ?_)
                         | (refine Ints.ld (Own.sl (by assumption)) (by omega) ?_))
                all_goals (refine ⟨_, (by omega : rr.length - (d + 1) < rr.length - d), rfl, d + 1, by omega, rfl, rfl, (congrArg (Value.int .i64) (show _ = max _ (wvl rr l d c) by rw [wd1]; omega)), rfl⟩)
              · obtain rfl : d = rr.length := by omega
                have hml := mxTo_le (f := fun i => wvl rr l i c) rr.length
                repeat' (conv => whnf
                         first
                         | (refine Dr.quiet tyOk (by kernel_rfl) ?_)
                         | (refine Rng.mk (by omega) ?_)
                         | (refine Split.pos (by omega) ?_)
                         | (refine Split.neg (by omega) ?_)
                         | (refine Split.mk (fun h => ?_) (fun h => ?_))
                         | (refine Need.mk (by omega) ?_)
                         | (refine Ints.ln (by assumption) ?_)
                         | (refine Mat.ln (by assumption) ?_)
                         | (refine Ints.ln (Mat.row (by assumption) _ (by omega)) ?_)
                         | (refine Ints.ix (by assumption) (by omega) ?_)
                         | (refine Mat.ix (by assumption) (by omega) ?_)
                         | (refine Ints.ix (Mat.row (by assumption) _ (by omega)) (by omega) ?_)
                         | (refine Ints.ix (c := 0) (by assumption) (by omega) ?_)
                         | (refine Mat.ix (c := 0) (by assumption) (by omega) ?_)
                         | (refine Ints.ix (c := 0) (Mat.row (by assumption) _ (by omega)) (by omega) ?_)
                         | (refine Ints.ixI (by assumption) (by omega) ?_)
                         | (refine Mat.ixI (by assumption) (by omega) ?_)
                         | (refine Ints.ixI (Mat.row (by assumption) _ (by omega)) (by omega) ?_)
                         | (refine Ints.ld (by assumption) (by omega) ?_)
                         | (refine Mat.ld (by assumption) (by omega) ?_)
                         | (refine Ints.ld (Mat.row (by assumption) _ (by omega)) (by omega) ?_)
                         | (refine At.ld (by assumption) rfl ?_)
                         | (refine At.ldN (by assumption) rfl ?_)
                         | (refine Prs.ln (by assumption) ?_)
                         | (refine Trs.ln (by assumption) ?_)
                         | (refine Prs.ix (by assumption) (by omega) ?_)
                         | (refine Trs.ix (by assumption) (by omega) ?_)
                         | (refine Prs.ldN (by assumption) (by omega) ?_)
                         | (refine Trs.ldN (by assumption) (by omega) ?_)
                         | (refine At.ldN (Blk.at (by assumption)) rfl ?_)
                         | (refine At.ld (Blk.at (by assumption)) rfl ?_)
                         | (refine IxA.mk (by omega) ?_)
                         | (refine Sl.ln (Own.sl (by assumption)) ?_)
                         | (refine Ints.ix (Own.sl (by assumption)) (by omega) ?_)
                         | (refine Ints.ixI (Own.sl (by assumption)) (by omega) ?_)
                         | (refine Ints.ld (Own.sl (by assumption)) (by omega) ?_))
                · rw [tf_f (p := pvd rr a l) (fun h => by
                    rcases mxTo_is (f := fun i => wvl rr l i c) rr.length with h2 | ⟨i, hi, h2⟩
                    · omega
                    · have := h c hcl i hi; omega)]; exact ⟨rfl, EE⟩
                · refine ⟨_, (by omega : a.length - (c + 1) < a.length - c), rfl, c + 1, by omega, rfl, rfl, all_succ hp (fun i hi => by have : wvl rr l i c ≤ mxTo (fun i => wvl rr l i c) rr.length := hml i hi; omega), rfl⟩
          · obtain rfl : c = a.length := by omega
            repeat' (conv => whnf
                     first
                     | (refine Dr.quiet tyOk (by kernel_rfl) ?_)
                     | (refine Rng.mk (by omega) ?_)
                     | (refine Split.pos (by omega) ?_)
                     | (refine Split.neg (by omega) ?_)
                     | (refine Split.mk (fun h => ?_) (fun h => ?_))
                     | (refine Need.mk (by omega) ?_)
                     | (refine Ints.ln (by assumption) ?_)
                     | (refine Mat.ln (by assumption) ?_)
                     | (refine Ints.ln (Mat.row (by assumption) _ (by omega)) ?_)
                     | (refine Ints.ix (by assumption) (by omega) ?_)
                     | (refine Mat.ix (by assumption) (by omega) ?_)
                     | (refine Ints.ix (Mat.row (by assumption) _ (by omega)) (by omega) ?_)
                     | (refine Ints.ix (c := 0) (by assumption) (by omega) ?_)
                     | (refine Mat.ix (c := 0) (by assumption) (by omega) ?_)
                     | (refine Ints.ix (c := 0) (Mat.row (by assumption) _ (by omega)) (by omega) ?_)
                     | (refine Ints.ixI (by assumption) (by omega) ?_)
                     | (refine Mat.ixI (by assumption) (by omega) ?_)
                     | (refine Ints.ixI (Mat.row (by assumption) _ (by omega)) (by omega) ?_)
                     | (refine Ints.ld (by assumption) (by omega) ?_)
                     | (refine Mat.ld (by assumption) (by omega) ?_)
                     | (refine Ints.ld (Mat.row (by assumption) _ (by omega)) (by omega) ?_)
                     | (refine At.ld (by assumption) rfl ?_)
                     | (refine At.ldN (by assumption) rfl ?_)
                     | (refine Prs.ln (by assumption) ?_)
                     | (refine Trs.ln (by assumption) ?_)
                     | (refine Prs.ix (by assumption) (by omega) ?_)
                     | (refine Trs.ix (by assumption) (by omega) ?_)
                     | (refine Prs.ldN (by assumption) (by omega) ?_)
                     | (refine Trs.ldN (by assumption) (by omega) ?_)
                     | (refine At.ldN (Blk.at (by assumption)) rfl ?_)
                     | (refine At.ld (Blk.at (by assumption)) rfl ?_)
                     | (refine IxA.mk (by omega) ?_)
                     | (refine Sl.ln (Own.sl (by assumption)) ?_)
                     | (refine Ints.ix (Own.sl (by assumption)) (by omega) ?_)
                     | (refine Ints.ixI (Own.sl (by assumption)) (by omega) ?_)
                     | (refine Ints.ld (Own.sl (by assumption)) (by omega) ?_))
            rw [tf_t (p := pvd rr a l) (fun k hk i hi => hp k hk i hi)]; exact ⟨rfl, EE⟩
      · have eE : prE rr a l = 8 := prE_bad h1 (fun h => hw h.2)
        have eB : prB rr a l = false := prB_no (fun h => hw h.2.2)
        rw [eE, eB]
        rw [tf_f hw] at cw
        repeat' (conv => whnf
                 first
                 | (refine Dr.quiet tyOk (by kernel_rfl) ?_)
                 | (refine VC.pure ca ?_)
                 | (refine VC.pure cc ?_)
                 | (refine VC.pure cw ?_)
                 | (refine Rng.mk (by omega) ?_)
                 | (refine Split.pos (by omega) ?_)
                 | (refine Split.neg (by omega) ?_)
                 | (refine Split.mk (fun h => ?_) (fun h => ?_))
                 | (refine Need.mk (by omega) ?_)
                 | (refine Ints.ln (by assumption) ?_)
                 | (refine Mat.ln (by assumption) ?_)
                 | (refine Ints.ln (Mat.row (by assumption) _ (by omega)) ?_)
                 | (refine Ints.ix (by assumption) (by omega) ?_)
                 | (refine Mat.ix (by assumption) (by omega) ?_)
                 | (refine Ints.ix (Mat.row (by assumption) _ (by omega)) (by omega) ?_)
                 | (refine Ints.ix (c := 0) (by assumption) (by omega) ?_)
                 | (refine Mat.ix (c := 0) (by assumption) (by omega) ?_)
                 | (refine Ints.ix (c := 0) (Mat.row (by assumption) _ (by omega)) (by omega) ?_)
                 | (refine Ints.ixI (by assumption) (by omega) ?_)
                 | (refine Mat.ixI (by assumption) (by omega) ?_)
                 | (refine Ints.ixI (Mat.row (by assumption) _ (by omega)) (by omega) ?_)
                 | (refine Ints.ld (by assumption) (by omega) ?_)
                 | (refine Mat.ld (by assumption) (by omega) ?_)
                 | (refine Ints.ld (Mat.row (by assumption) _ (by omega)) (by omega) ?_)
                 | (refine At.ld (by assumption) rfl ?_)
                 | (refine At.ldN (by assumption) rfl ?_)
                 | (refine Prs.ln (by assumption) ?_)
                 | (refine Trs.ln (by assumption) ?_)
                 | (refine Prs.ix (by assumption) (by omega) ?_)
                 | (refine Trs.ix (by assumption) (by omega) ?_)
                 | (refine Prs.ldN (by assumption) (by omega) ?_)
                 | (refine Trs.ldN (by assumption) (by omega) ?_)
                 | (refine At.ldN (Blk.at (by assumption)) rfl ?_)
                 | (refine At.ld (Blk.at (by assumption)) rfl ?_)
                 | (refine IxA.mk (by omega) ?_)
                 | (refine Sl.ln (Own.sl (by assumption)) ?_)
                 | (refine Ints.ix (Own.sl (by assumption)) (by omega) ?_)
                 | (refine Ints.ixI (Own.sl (by assumption)) (by omega) ?_)
                 | (refine Ints.ld (Own.sl (by assumption)) (by omega) ?_))
        exact ⟨rfl, EE⟩
    · have eE : prE rr a l = 8 := prE_bad h1 (fun h => hcm h.1)
      have eB : prB rr a l = false := prB_no (fun h => hcm h.2.1)
      rw [eE, eB]
      rw [tf_f hcm] at cc
      repeat' (conv => whnf
               first
               | (refine Dr.quiet tyOk (by kernel_rfl) ?_)
               | (refine VC.pure ca ?_)
               | (refine VC.pure cc ?_)
               | (refine Rng.mk (by omega) ?_)
               | (refine Split.pos (by omega) ?_)
               | (refine Split.neg (by omega) ?_)
               | (refine Split.mk (fun h => ?_) (fun h => ?_))
               | (refine Need.mk (by omega) ?_)
               | (refine Ints.ln (by assumption) ?_)
               | (refine Mat.ln (by assumption) ?_)
               | (refine Ints.ln (Mat.row (by assumption) _ (by omega)) ?_)
               | (refine Ints.ix (by assumption) (by omega) ?_)
               | (refine Mat.ix (by assumption) (by omega) ?_)
               | (refine Ints.ix (Mat.row (by assumption) _ (by omega)) (by omega) ?_)
               | (refine Ints.ix (c := 0) (by assumption) (by omega) ?_)
               | (refine Mat.ix (c := 0) (by assumption) (by omega) ?_)
               | (refine Ints.ix (c := 0) (Mat.row (by assumption) _ (by omega)) (by omega) ?_)
               | (refine Ints.ixI (by assumption) (by omega) ?_)
               | (refine Mat.ixI (by assumption) (by omega) ?_)
               | (refine Ints.ixI (Mat.row (by assumption) _ (by omega)) (by omega) ?_)
               | (refine Ints.ld (by assumption) (by omega) ?_)
               | (refine Mat.ld (by assumption) (by omega) ?_)
               | (refine Ints.ld (Mat.row (by assumption) _ (by omega)) (by omega) ?_)
               | (refine At.ld (by assumption) rfl ?_)
               | (refine At.ldN (by assumption) rfl ?_)
               | (refine Prs.ln (by assumption) ?_)
               | (refine Trs.ln (by assumption) ?_)
               | (refine Prs.ix (by assumption) (by omega) ?_)
               | (refine Trs.ix (by assumption) (by omega) ?_)
               | (refine Prs.ldN (by assumption) (by omega) ?_)
               | (refine Trs.ldN (by assumption) (by omega) ?_)
               | (refine At.ldN (Blk.at (by assumption)) rfl ?_)
               | (refine At.ld (Blk.at (by assumption)) rfl ?_)
               | (refine IxA.mk (by omega) ?_)
               | (refine Sl.ln (Own.sl (by assumption)) ?_)
               | (refine Ints.ix (Own.sl (by assumption)) (by omega) ?_)
               | (refine Ints.ixI (Own.sl (by assumption)) (by omega) ?_)
               | (refine Ints.ld (Own.sl (by assumption)) (by omega) ?_))
      exact ⟨rfl, EE⟩
  · have eE : prE rr a l = vld rr a := prE_vld h1
    have eB : prB rr a l = false := prB_no (fun h => h1 h.1)
    rw [eE, eB]
    repeat' (conv => whnf
             first
             | (refine Dr.quiet tyOk (by kernel_rfl) ?_)
             | (refine VC.pure ca ?_)
             | (refine Rng.mk (by omega) ?_)
             | (refine Split.pos (by omega) ?_)
             | (refine Split.neg (by omega) ?_)
             | (refine Split.mk (fun h => ?_) (fun h => ?_))
             | (refine Need.mk (by omega) ?_)
             | (refine Ints.ln (by assumption) ?_)
             | (refine Mat.ln (by assumption) ?_)
             | (refine Ints.ln (Mat.row (by assumption) _ (by omega)) ?_)
             | (refine Ints.ix (by assumption) (by omega) ?_)
             | (refine Mat.ix (by assumption) (by omega) ?_)
             | (refine Ints.ix (Mat.row (by assumption) _ (by omega)) (by omega) ?_)
             | (refine Ints.ix (c := 0) (by assumption) (by omega) ?_)
             | (refine Mat.ix (c := 0) (by assumption) (by omega) ?_)
             | (refine Ints.ix (c := 0) (Mat.row (by assumption) _ (by omega)) (by omega) ?_)
             | (refine Ints.ixI (by assumption) (by omega) ?_)
             | (refine Mat.ixI (by assumption) (by omega) ?_)
             | (refine Ints.ixI (Mat.row (by assumption) _ (by omega)) (by omega) ?_)
             | (refine Ints.ld (by assumption) (by omega) ?_)
             | (refine Mat.ld (by assumption) (by omega) ?_)
             | (refine Ints.ld (Mat.row (by assumption) _ (by omega)) (by omega) ?_)
             | (refine At.ld (by assumption) rfl ?_)
             | (refine At.ldN (by assumption) rfl ?_)
             | (refine Prs.ln (by assumption) ?_)
             | (refine Trs.ln (by assumption) ?_)
             | (refine Prs.ix (by assumption) (by omega) ?_)
             | (refine Trs.ix (by assumption) (by omega) ?_)
             | (refine Prs.ldN (by assumption) (by omega) ?_)
             | (refine Trs.ldN (by assumption) (by omega) ?_)
             | (refine At.ldN (Blk.at (by assumption)) rfl ?_)
             | (refine At.ld (Blk.at (by assumption)) rfl ?_)
             | (refine IxA.mk (by omega) ?_)
             | (refine Sl.ln (Own.sl (by assumption)) ?_)
             | (refine Ints.ix (Own.sl (by assumption)) (by omega) ?_)
             | (refine Ints.ixI (Own.sl (by assumption)) (by omega) ?_)
             | (refine Ints.ld (Own.sl (by assumption)) (by omega) ?_))
    exact ⟨rfl, EE⟩
end Go.Proofs.Ytebklnmafjbhcaa
set_option linter.unusedVariables false
set_option linter.unusedSimpArgs false
namespace Go.Proofs.Ytebklnmafjbhcaa
open Go.Eng
set_option maxRecDepth 100000
set_option maxHeartbeats 4000000

theorem abv_trans {rr : List (List Int)} {a b c : List Int} (h1 : abv rr a b) (h2 : abv rr b c) : abv rr a c := by
  refine ⟨fun i hi => Int.le_trans (h1.1 i hi) (h2.1 i hi), ?_⟩
  obtain ⟨i, hi, h⟩ := h1.2
  exact ⟨i, hi, Int.lt_of_lt_of_le h (h2.1 i hi)⟩
theorem fillZ_ok {rr : List (List Int)} {l : List Int} (hv : vld rr l = 0) : vld rr (fillZ l) = 0 ∧ compl (fillZ l) ∧ ∀ j, ownB rr l j ≤ ownB rr (fillZ l) j := by
  have hal := al_of_vld hv
  refine ⟨vld_of hv (by simp [fillZ]) fun k hk => ?_, fun k hk => by rw [fillZ_get]; split <;> omega, fun j => ?_⟩
  · have hk2 : k < l.length := by simpa [fillZ] using hk
    have := hal.rng k (by rw [← hal.len]; exact hk2)
    have := hal.n1
    rw [fillZ_get]; split <;> omega
  · unfold ownB wth
    have : (fillZ l).length = l.length := by simp [fillZ]
    rw [this]
    exact worth_fill (fun q => (hal.val j q).1) _
theorem in_lists {rr : List (List Int)} {l : List Int} (hv : vld rr l = 0) (hc : compl l) : l ∈ lists rr := by
  obtain ⟨k, hk, e⟩ := compl_digs hv hc
  rw [e, ← lists_get hk, List.getD_eq_getElem?_getD, List.getElem?_eq_getElem (by rw [lists_len]; exact hk), Option.getD_some]
  exact List.getElem_mem _
theorem none_above {rr : List (List Int)} {a l : List Int} (hi : imp rr a = none) (hv : vld rr l = 0) : ¬ abv rr a l := fun h => by
  obtain ⟨h1, h2, h3⟩ := fillZ_ok hv
  refine imp_isNone.1 hi _ (in_lists h1 h2) ⟨fun i hi => Int.le_trans (h.1 i hi) (h3 i), ?_⟩
  obtain ⟨i, hi, h4⟩ := h.2
  exact ⟨i, hi, Int.lt_of_lt_of_le h4 (h3 i)⟩
theorem imp_lex {rr : List (List Int)} {a b l : List Int} (hi : imp rr a = some b) (hv : vld rr l = 0) (hc : compl l) (ha : abv rr a l) : l = b ∨ lexlt b l := by
  have hck := chk_of_vld hv
  obtain ⟨k, hk, rfl⟩ := compl_digs hv hc
  have hf := hi
  unfold imp at hf
  rw [List.find?_eq_some_iff_append] at hf
  obtain ⟨h1, pre, t, h2, h3⟩ := hf
  have hb : pre.length < tot rr := by
    have := congrArg List.length h2
    rw [lists_len] at this
    simp at this; omega
  have hbd : b = digs rr.length (mOf rr) pre.length := by
    rw [← lists_get hb, h2]; simp [List.getD]
  by_cases hlt : k < pre.length
  · have hm : digs rr.length (mOf rr) k ∈ pre := by
      have e : (lists rr).getD k [] = pre.getD k [] := by rw [h2]; simp only [List.getD_eq_getElem?_getD]; rw [List.getElem?_append_left hlt]
      rw [lists_get hk] at e
      rw [e, List.getD_eq_getElem?_getD, List.getElem?_eq_getElem hlt, Option.getD_some]
      exact List.getElem_mem _
    have := h3 _ hm
    simp at this
    exact absurd ha this
  · by_cases e : k = pre.length
    · left; rw [hbd, e]
    · right; rw [hbd]; exact digs_lt (gd_of_chk hck).n1 hb hk (by omega)
theorem lexlt_pl : ∀ {b l : List Int} {k : Nat}, lexlt b l → k < b.length → b.length = l.length → (∀ j, j < k → b.getD j 0 = l.getD j 0) → b.getD k 0 ≠ l.getD k 0 → b.getD k 0 < l.getD k 0
  | [], _, _, h, _, _, _, _ => by simp [lexlt] at h
  | x :: b, [], _, h, _, _, _, _ => by simp [lexlt] at h
  | x :: b, y :: l, 0, h, _, _, _, hn => by
    rcases h with h | h
    · exact h
    · exact absurd h.1 hn
  | x :: b, y :: l, k + 1, h, hk, hl, he, hn => by
    rcases h with h | h
    · have := he 0 (by omega)
      simp at this; omega
    · have := lexlt_pl (k := k) h.2 (by simpa using hk) (by simpa using hl) (fun j hj => by have := he (j + 1) (by omega); simpa using this) (by simpa using hn)
      simpa using this
/-- the first of two lists, place by place -/
theorem imp_first {rr : List (List Int)} {a b l : List Int} (hi : imp rr a = some b) (hv : vld rr l = 0) (hc : compl l) (ha : abv rr a l) {k : Nat} (hk : k < b.length) (he : ∀ j, j < k → b.getD j 0 = l.getD j 0) (hn : b.getD k 0 ≠ l.getD k 0) : b.getD k 0 < l.getD k 0 := by
  have hck := chk_of_vld hv
  rcases imp_lex hi hv hc ha with rfl | h
  · exact absurd rfl hn
  · have h1 := (lists_mem hck (imp_abv hi).2).2.2
    have h2 := (al_of_vld hv).len
    exact lexlt_pl h hk (by rw [h1, h2]; rfl) he hn

/-! ### weights -/
theorem sumN_add (f g : Nat → Int) : ∀ n, sumN (fun k => f k + g k) n = sumN f n + sumN g n
  | 0 => rfl
  | n + 1 => by simp only [sumN, sumN_add f g n]; omega
theorem sumN_congr {f g : Nat → Int} : ∀ {n : Nat}, (∀ k, k < n → f k = g k) → sumN f n = sumN g n
  | 0, _ => rfl
  | n + 1, h => by simp only [sumN]; rw [sumN_congr (fun k hk => h k (by omega)), h n (by omega)]
theorem sumN_ind (v : Int) (f : Nat → Int) : ∀ n : Nat, sumN (fun k : Nat => if v = (k : Int) then f k else 0) n = if 0 ≤ v ∧ v < n then f v.toNat else 0
  | 0 => by simp only [sumN]; rw [if_neg (by omega)]
  | n + 1 => by
    simp only [sumN, sumN_ind v f n]
    by_cases h : v = (n : Int)
    · rw [if_pos h, if_neg (by omega), if_pos (by omega), show v.toNat = n by omega]; omega
    · by_cases h2 : 0 ≤ v ∧ v < n
      · rw [if_neg h, if_pos h2, if_pos (by omega)]; omega
      · rw [if_neg h, if_neg h2, if_neg (by omega)]; omega
theorem wsum_succ (rr : List (List Int)) (w l : List Int) (c : Nat) : sumN (fun i => w.getD i 0 * worth l (rr.getD i []) i (c + 1)) rr.length = sumN (fun i => w.getD i 0 * worth l (rr.getD i []) i c) rr.length + (if 0 ≤ l.getD c 0 ∧ l.getD c 0 < rr.length then wvl rr w (l.getD c 0).toNat c else 0) := by
  rw [← sumN_ind (l.getD c 0) (fun i => wvl rr w i c), ← sumN_add]
  refine sumN_congr fun i hi => ?_
  simp only [worth]
  by_cases h : l.getD c 0 = (i : Int)
  · rw [if_pos h, if_pos h, Int.mul_add]; rfl
  · rw [if_neg h, if_neg h, Int.add_zero, Int.add_zero]
theorem wsum_le {rr : List (List Int)} {w a l : List Int} (hw : wtd w rr.length) (hp : pvd rr a w) (hc : compl a) (hra : ∀ k, k < a.length → a.getD k 0 < rr.length) (hval : ∀ i j, 0 ≤ val rr i j ∧ val rr i j ≤ 1000) : ∀ {c : Nat}, c ≤ a.length → sumN (fun i => w.getD i 0 * worth l (rr.getD i []) i c) rr.length ≤ sumN (fun i => w.getD i 0 * worth a (rr.getD i []) i c) rr.length
  | 0, _ => Int.le_refl _
  | c + 1, h => by
    have ih := wsum_le (l := l) hw hp hc hra hval (c := c) (by omega)
    rw [wsum_succ, wsum_succ]
    have h0 := hc c (by omega)
    have h1 := hra c (by omega)
    rw [if_pos (⟨h0, h1⟩ : 0 ≤ a.getD c 0 ∧ a.getD c 0 < rr.length)]
    have h2 := (wvl_bd hw (i := (a.getD c 0).toNat) (k := c) (by omega) (hval _ _)).1
    split
    · have := hp c (by omega) (l.getD c 0).toNat (by omega)
      omega
    · omega
theorem proved_top {rr : List (List Int)} {w a l : List Int} (hv : vld rr a = 0) (hc : compl a) (hw : wtd w rr.length) (hp : pvd rr a w) (hvl : vld rr l = 0) : ¬ abv rr a l := fun h => by
  have hal := al_of_vld hv
  have hll := al_of_vld hvl
  have hm : l.length = a.length := by rw [hal.len, hll.len]
  have h1 := wsum_le (l := l) hw hp hc (fun k hk => (hal.rng k (by rw [← hal.len]; exact hk)).2) hal.val (Nat.le_refl _)
  have hpos : ∀ i, i < rr.length → 1 ≤ w.getD i 0 := fun i hi => (hw.1 i (by rw [hw.2]; exact hi)).1
  have h2 := sumN_lt (f := fun i => w.getD i 0 * ownB rr a i) (g := fun i => w.getD i 0 * ownB rr l i) (n := rr.length) ⟨fun i hi => by
      have := hpos i hi
      exact Int.mul_le_mul_of_nonneg_left (h.1 i hi) (by omega), by
      obtain ⟨i, hi, h3⟩ := h.2
      have := hpos i hi
      exact ⟨i, hi, Int.mul_lt_mul_of_pos_left h3 (by omega)⟩⟩
  unfold ownB wth at h2
  rw [hm] at h2
  exact absurd (Int.lt_of_lt_of_le h2 h1) (Int.lt_irrefl _)

/-! ### chains -/
theorem chain_all {rr : List (List Int)} {a : List Int} (hv : vld rr a = 0) : ∃ c, IsCh rr a c := by
  refine Classical.byContradiction fun hn => ?_
  have hall : ∀ c, ∀ j, j < c → (imp rr (itr rr a j)).isSome := by
    intro c
    induction c with
    | zero => intro j hj; omega
    | succ c ih =>
      intro j hj
      by_cases e : j = c
      · subst e
        cases hi : imp rr (itr rr a j) with
        | none => exact absurd ⟨j, ih, hi⟩ hn
        | some b => rfl
      · exact ih j (by omega)
  have := itr_bd hv (hall 60001)
  omega
theorem chL_is {rr : List (List Int)} {a : List Int} (h : lkE rr a = 0) : ∃ c, IsCh rr a c ∧ chL rr a = chP rr a c := by
  obtain ⟨c, hc⟩ := chain_all (lkE_zero h).1
  exact ⟨c, hc, chL_ok h hc⟩
theorem chP_get {rr : List (List Int)} {a : List Int} {c k : Nat} (h : k < c) : (chP rr a c).getD k [] = itr rr a (k + 1) := mk_get [] h
theorem itr_step {rr : List (List Int)} {a : List Int} {c k : Nat} (hv : vld rr a = 0) (h : IsCh rr a c) (hk : k < c) : vld rr (itr rr a (k + 1)) = 0 ∧ compl (itr rr a (k + 1)) ∧ abv rr (itr rr a k) (itr rr a (k + 1)) ∧ abv rr a (itr rr a (k + 1)) := by
  induction k with
  | zero =>
    obtain ⟨b, hb⟩ := Option.isSome_iff_exists.1 (h.1 0 hk)
    have e : itr rr a 1 = b := by show (imp rr (itr rr a 0)).getD [] = b; rw [hb]; rfl
    have h1 := imp_abv hb
    have h2 := lists_mem (chk_of_vld hv) h1.2
    show vld rr (itr rr a 1) = 0 ∧ compl (itr rr a 1) ∧ abv rr a (itr rr a 1) ∧ abv rr a (itr rr a 1)
    rw [e]
    exact ⟨h2.1, h2.2.1, h1.1, h1.1⟩
  | succ k ih =>
    obtain ⟨_, _, _, i4⟩ := ih (by omega)
    obtain ⟨b, hb⟩ := Option.isSome_iff_exists.1 (h.1 (k + 1) hk)
    have e : itr rr a (k + 1 + 1) = b := by show (imp rr (itr rr a (k + 1))).getD [] = b; rw [hb]; rfl
    have h1 := imp_abv hb
    have h2 := lists_mem (chk_of_vld hv) h1.2
    rw [e]
    exact ⟨h2.1, h2.2.1, h1.1, abv_trans i4 h1.1⟩
end Go.Proofs.Ytebklnmafjbhcaa
set_option linter.unusedVariables false
set_option linter.unusedSimpArgs false
namespace Go.Proofs.Ytebklnmafjbhcaa
open Go.Eng
set_option maxRecDepth 100000
set_option maxHeartbeats 4000000

theorem OM.blk {B : Nat} {T : TypeId} {b : Nat} {w w' : World} {v : Value} {vs ys : List Value} {rr : List (List Int)} (h : OM B w v vs rr) (hk : Blk w b T ys) (h1 : 25 ≠ T) (h2 : 3 ≠ T) (hg : Gr (fun j => j = b) w w') : OM B w' v vs rr :=
  ⟨Own.blk h.top hk h1 hg, fun i hi => Own.blk (h.row i hi) hk h2 hg⟩

end Go.Proofs.Ytebklnmafjbhcaa
set_option linter.unusedVariables false
set_option linter.unusedSimpArgs false
namespace Go.Proofs.Ytebklnmafjbhcaa
open Go.Eng
set_option maxRecDepth 100000

def chkB (rr : List (List Int)) : Int :=
  if decide (6 < rr.length) || (List.range rr.length).any (fun i => decide (10 < (rr.getD i []).length)) then 4
  else if decide (rr.length = 0) || (List.range rr.length).any (fun i => !decide ((rr.getD i []).length = (rr.getD 0 []).length) || (List.range (rr.getD i []).length).any fun j => decide (val rr i j < 0) || decide (1000 < val rr i j)) then 8 else 0
theorem chk_eq (rr : List (List Int)) : chk rr = chkB rr := by
  have h1 : bigP rr ↔ (decide (6 < rr.length) || (List.range rr.length).any (fun i => decide (10 < (rr.getD i []).length))) = true := by
    unfold bigP; simp only [Bool.or_eq_true, decide_eq_true_eq, List.any_eq_true, List.mem_range]
  have h2 : badP rr ↔ (decide (rr.length = 0) || (List.range rr.length).any (fun i => !decide ((rr.getD i []).length = (rr.getD 0 []).length) || (List.range (rr.getD i []).length).any fun j => decide (val rr i j < 0) || decide (1000 < val rr i j))) = true := by
    unfold badP; simp only [Bool.or_eq_true, decide_eq_true_eq, List.any_eq_true, List.mem_range, Bool.not_eq_true', decide_eq_false_iff_not, ne_eq]
  unfold chkB
  by_cases p : bigP rr
  · rw [if_pos (h1.1 p)]; exact chk_big p
  · rw [if_neg (fun h => p (h1.2 h))]
    by_cases q : badP rr
    · rw [if_pos (h2.1 q)]; exact chk_bad p q
    · rw [if_neg (fun h => q (h2.2 h))]; exact chk_ok p q
def vldB (rr : List (List Int)) (a : List Int) : Int :=
  if chkB rr ≠ 0 then chkB rr else if !decide (a.length = (rr.getD 0 []).length) || (List.range a.length).any (fun k => decide (a.getD k 0 < -1) || decide ((rr.length : Int) ≤ a.getD k 0)) then 8 else 0
theorem vld_eq (rr : List (List Int)) (a : List Int) : vld rr a = vldB rr a := by
  have h1 : badA rr a ↔ (!decide (a.length = (rr.getD 0 []).length) || (List.range a.length).any (fun k => decide (a.getD k 0 < -1) || decide ((rr.length : Int) ≤ a.getD k 0))) = true := by
    unfold badA; simp only [Bool.or_eq_true, decide_eq_true_eq, List.any_eq_true, List.mem_range, Bool.not_eq_true', decide_eq_false_iff_not, ne_eq]
  unfold vldB
  by_cases c : chk rr = 0
  · rw [if_neg (by rw [← chk_eq]; omega)]
    by_cases q : badA rr a
    · rw [if_pos (h1.1 q)]; exact vld_bad c q
    · rw [if_neg (fun h => q (h1.2 h))]; exact vld_ok c q
  · rw [if_pos (by rw [← chk_eq]; exact c), ← chk_eq]; exact vld_chk c

theorem OM.made {B n : Nat} {w : World} {v : Value} (h : Go.Eng.Own B 25 1 w v n (List.replicate n (.slice none 0 0))) : OM B w v (List.replicate n (.slice none 0 0)) (List.replicate n []) := by
  refine ⟨by rw [List.length_replicate]; exact h, fun i hi => ?_⟩
  rw [List.length_replicate] at hi
  have e1 : (List.replicate n (Value.slice none 0 0)).getD i undef = .slice none 0 0 := by simp [List.getD, hi]
  have e2 : (List.replicate n ([] : List Int)).getD i [] = [] := by simp [List.getD, hi]
  rw [e1, e2]
  exact Own.nil
theorem OI.made {n : Nat} {w : World} {v : Value} (h : Go.Eng.Own 0 3 1 w v n (List.replicate n (.int .i64 0))) : OI w v (List.replicate n 0) := by
  have e : (List.replicate n (0 : Int)).map i64v = List.replicate n (.int .i64 0) := by simp [i64v]
  rw [← e] at h; exact OI.of h
/-- rows as they are, given one by one -/
theorem OM.push0 {w : World} {v : Value} {vs : List Value} {rr : List (List Int)} (h : Go.Eng.Own 0 25 1 w v rr.length vs) (hr : ∀ i, i < rr.length → OI w (vs.getD i undef) (rr.getD i [])) : OM 0 w v vs rr := ⟨h, hr⟩
end Go.Proofs.Ytebklnmafjbhcaa
set_option linter.unusedVariables false
set_option linter.unusedSimpArgs false
namespace Go.Proofs.Ytebklnmafjbhcaa
open Go.Eng
set_option maxRecDepth 100000
set_option maxHeartbeats 4000000

def impB (rr : List (List Int)) (a : List Int) : Option (List Int) := (lists rr).find? fun b => ablB (ownV rr a) (ownV rr b)
open Classical in theorem imp_eq (rr : List (List Int)) (a : List Int) : imp rr a = impB rr a := by
  unfold imp impB
  have e : ∀ b, decide (abv rr a b) = ablB (ownV rr a) (ownV rr b) := fun b => by
    by_cases h : abv rr a b
    · rw [decide_eq_true h, ablB_own.2 h]
    · rw [decide_eq_false h]
      cases hb : ablB (ownV rr a) (ownV rr b) with
      | false => rfl
      | true => exact absurd (ablB_own.1 hb) h
  congr 1
  funext b
  exact e b

theorem OM.blk22 {B : Nat} {T : TypeId} {b : Nat} {w w' : World} {v : Value} {vs ys : List Value} {rr : List (List Int)} (h : OM B w v vs rr) (hk : Blk w b T ys) (h1 : 25 ≠ T) (h2 : 3 ≠ T) (hg : Gr (fun j => j = b) w w') : OM B w' v vs rr :=
  ⟨Own.blk h.top hk h1 hg, fun i hi => Own.blk (h.row i hi) hk h2 hg⟩

theorem given22_rc {w : World} : RC Try.prog 46 [] w NoB (fun u w' => ∃ gv us, u = .agg #[gv] ∧ OM 0 w' gv us gvn) := by
  refine RC.mk tyOk Try.func46 rfl (by kernel_rfl) fun w1 E1 => ?_
  have EE := Ext.refl w1
  have EE__1 := EE
  conv => whnf
  refine VE.alloc eGoods fun b w2 E2 hb_b Hk => ?_
  replace EE := EE.ext E2
  have EL1 := E2
  conv => whnf
  refine VE.litI [5, 3, 1] Try.underlying25 eInt (by decide) fun gv_0 w3 E3 HO_0 _ => ?_
  replace HO_0 := HO_0 0 (Nat.zero_le _)
  replace EE := EE.ext E3
  replace EL1 := EL1.ext E3
  replace Hk := Hk.ext E3
  conv => whnf
  refine VE.litI [2, 2, 2] Try.underlying25 eInt (by decide) fun gv_1 w4 E4 HO_1 _ => ?_
  replace HO_1 := HO_1 0 (Nat.zero_le _)
  replace EE := EE.ext E4
  replace EL1 := EL1.ext E4
  replace Hk := Hk.ext E4
  replace HO_0 := HO_0.ext E4
  conv => whnf
  refine VE.litV [gv_0, gv_1] Try.underlying22 eRow (by intro v hv; simp at hv; rcases hv with rfl | rfl <;> first | exact (Sl.cells (Own.sl HO_0)).1 | exact (Sl.cells (Own.sl HO_1)).1) (by simp) fun gv w5 E5 HO _ => ?_
  replace EE := EE.ext E5
  replace EL1 := EL1.ext E5
  replace Hk := Hk.ext E5
  replace HO_0 := HO_0.ext E5
  replace HO_1 := HO_1.ext E5
  replace HO : OM 0 w5 gv [gv_0, gv_1] [[5, 3, 1], [2, 2, 2]] := by
    refine ⟨HO _ (Nat.zero_le _), fun i hi => ?_⟩
    match i, hi with
    | 0, _ => exact HO_0
    | 1, _ => exact HO_1
  conv => whnf
  refine VS.field1 Try.underlying24 eGoods (by kernel_rfl) rfl (Sl.cells (Own.sl HO.top)).1 ?_
  conv => whnf
  refine Blk.all Hk (by kernel_rfl) (by decide) rfl rfl (by intro v hv; simp at hv; subst hv; exact (Sl.cells (Own.sl HO.top)).2) fun w6 G6 Hk6 => ?_
  have EE6 := EL1.new G6 fun i hi hk => by omega
  replace HO := OM.blk22 HO Hk (by decide) (by decide) G6
  repeat' (conv => whnf
           first
           | (refine Dr.quiet tyOk (by kernel_rfl) ?_)
           | (refine Rng.mk (by omega) ?_)
           | (refine Split.pos (by omega) ?_)
           | (refine Split.neg (by omega) ?_)
           | (refine Split.mk (fun h => ?_) (fun h => ?_))
           | (refine Need.mk (by omega) ?_)
           | (refine Ints.ln (by assumption) ?_)
           | (refine Mat.ln (by assumption) ?_)
           | (refine Ints.ln (Mat.row (by assumption) _ (by omega)) ?_)
           | (refine Ints.ix (by assumption) (by omega) ?_)
           | (refine Mat.ix (by assumption) (by omega) ?_)
           | (refine Ints.ix (Mat.row (by assumption) _ (by omega)) (by omega) ?_)
           | (refine Ints.ix (c := 0) (by assumption) (by omega) ?_)
           | (refine Mat.ix (c := 0) (by assumption) (by omega) ?_)
           | (refine Ints.ix (c := 0) (Mat.row (by assumption) _ (by omega)) (by omega) ?_)
           | (refine Ints.ixI (by assumption) (by omega) ?_)
           | (refine Mat.ixI (by assumption) (by omega) ?_)
           | (refine Ints.ixI (Mat.row (by assumption) _ (by omega)) (by omega) ?_)
           | (refine Ints.ld (by assumption) (by omega) ?_)
           | (refine Mat.ld (by assumption) (by omega) ?_)
           | (refine Ints.ld (Mat.row (by assumption) _ (by omega)) (by omega) ?_)
           | (refine At.ld (by assumption) rfl ?_)
           | (refine At.ldN (by assumption) rfl ?_)
           | (refine Prs.ln (by assumption) ?_)
           | (refine Trs.ln (by assumption) ?_)
           | (refine Prs.ix (by assumption) (by omega) ?_)
           | (refine Trs.ix (by assumption) (by omega) ?_)
           | (refine Prs.ldN (by assumption) (by omega) ?_)
           | (refine Trs.ldN (by assumption) (by omega) ?_)
           | (refine At.ldN (Blk.at (by assumption)) rfl ?_)
           | (refine At.ld (Blk.at (by assumption)) rfl ?_)
           | (refine IxA.mk (by omega) ?_)
           | (refine Sl.ln (Own.sl (by assumption)) ?_)
           | (refine Ints.ix (Own.sl (by assumption)) (by omega) ?_)
           | (refine Ints.ixI (Own.sl (by assumption)) (by omega) ?_)
           | (refine Ints.ld (Own.sl (by assumption)) (by omega) ?_))

  exact ⟨EE__1.ext EE6, gv, _, rfl, HO⟩

theorem fit22_pc {w : World} {gv av : Value} {vs : List Value} {rr : List (List Int)} {a : List Int} (Hg : Mat w gv vs rr) (Ha : Ints w av a) :
    PC Try.prog 41 [.agg #[gv], av] w (.bool (tf (¬ great rr a ∧ vld rr a = 0))) := by
  refine PC.mk tyOk Try.func41 rfl (by kernel_rfl) fun w1 E1 => ?_
  replace Hg := Hg.ext E1
  replace Ha := Ha.ext E1
  have EE := Ext.refl w1
  refine Bx.agg fun b2 w2 E2 hb2 Hb _ => ?_
  replace Hg := Hg.ext E2
  replace Ha := Ha.ext E2
  replace EE := EE.ext E2
  have c2 := rvalid_pc Hg Ha
  have hc := great_pc Hg Ha
  by_cases hgr : great rr a
  · rw [tf_t hgr] at hc
    rw [tf_f (p := ¬ great rr a ∧ vld rr a = 0) (fun h => h.1 hgr)]
    repeat' (conv => whnf
             first
             | (refine Dr.quiet tyOk (by kernel_rfl) ?_)
             | (refine VC.pure hc ?_)
             | (refine Rng.mk (by omega) ?_)
             | (refine Split.pos (by omega) ?_)
             | (refine Split.neg (by omega) ?_)
             | (refine Split.mk (fun h => ?_) (fun h => ?_))
             | (refine Need.mk (by omega) ?_)
             | (refine Ints.ln (by assumption) ?_)
             | (refine Mat.ln (by assumption) ?_)
             | (refine Ints.ln (Mat.row (by assumption) _ (by omega)) ?_)
             | (refine Ints.ix (by assumption) (by omega) ?_)
             | (refine Mat.ix (by assumption) (by omega) ?_)
             | (refine Ints.ix (Mat.row (by assumption) _ (by omega)) (by omega) ?_)
             | (refine Ints.ix (c := 0) (by assumption) (by omega) ?_)
             | (refine Mat.ix (c := 0) (by assumption) (by omega) ?_)
             | (refine Ints.ix (c := 0) (Mat.row (by assumption) _ (by omega)) (by omega) ?_)
             | (refine Ints.ixI (by assumption) (by omega) ?_)
             | (refine Mat.ixI (by assumption) (by omega) ?_)
             | (refine Ints.ixI (Mat.row (by assumption) _ (by omega)) (by omega) ?_)
             | (refine Ints.ld (by assumption) (by omega) ?_)
             | (refine Mat.ld (by assumption) (by omega) ?_)
             | (refine Ints.ld (Mat.row (by assumption) _ (by omega)) (by omega) ?_)
             | (refine At.ld (by assumption) rfl ?_)
             | (refine At.ldN (by assumption) rfl ?_)
             | (refine Prs.ln (by assumption) ?_)
             | (refine Trs.ln (by assumption) ?_)
             | (refine Prs.ix (by assumption) (by omega) ?_)
             | (refine Trs.ix (by assumption) (by omega) ?_)
             | (refine Prs.ldN (by assumption) (by omega) ?_)
             | (refine Trs.ldN (by assumption) (by omega) ?_)
             | (refine At.ldN (Blk.at (by assumption)) rfl ?_)
             | (refine At.ld (Blk.at (by assumption)) rfl ?_)
             | (refine IxA.mk (by omega) ?_)
             | (refine Sl.ln (Own.sl (by assumption)) ?_)
             | (refine Ints.ix (Own.sl (by assumption)) (by omega) ?_)
             | (refine Ints.ixI (Own.sl (by assumption)) (by omega) ?_)
             | (refine Ints.ld (Own.sl (by assumption)) (by omega) ?_))
    exact ⟨rfl, EE⟩
  · rw [tf_f hgr] at hc
    by_cases hv : vld rr a = 0
    · rw [tf_t (p := ¬ great rr a ∧ vld rr a = 0) ⟨hgr, hv⟩]
      repeat' (conv => whnf
               first
               | (refine Dr.quiet tyOk (by kernel_rfl) ?_)
               | (refine VC.pure hc ?_)
               | (refine VC.pure c2 ?_)
               | (refine Rng.mk (by omega) ?_)
               | (refine Split.pos (by omega) ?_)
               | (refine Split.neg (by omega) ?_)
               | (refine Split.mk (fun h => ?_) (fun h => ?_))
               | (refine Need.mk (by omega) ?_)
               | (refine Ints.ln (by assumption) ?_)
               | (refine Mat.ln (by assumption) ?_)
               | (refine Ints.ln (Mat.row (by assumption) _ (by omega)) ?_)
               | (refine Ints.ix (by assumption) (by omega) ?_)
               | (refine Mat.ix (by assumption) (by omega) ?_)
               | (refine Ints.ix (Mat.row (by assumption) _ (by omega)) (by omega) ?_)
               | (refine Ints.ix (c := 0) (by assumption) (by omega) ?_)
               | (refine Mat.ix (c := 0) (by assumption) (by omega) ?_)
               | (refine Ints.ix (c := 0) (Mat.row (by assumption) _ (by omega)) (by omega) ?_)
               | (refine Ints.ixI (by assumption) (by omega) ?_)
               | (refine Mat.ixI (by assumption) (by omega) ?_)
               | (refine Ints.ixI (Mat.row (by assumption) _ (by omega)) (by omega) ?_)
               | (refine Ints.ld (by assumption) (by omega) ?_)
               | (refine Mat.ld (by assumption) (by omega) ?_)
               | (refine Ints.ld (Mat.row (by assumption) _ (by omega)) (by omega) ?_)
               | (refine At.ld (by assumption) rfl ?_)
               | (refine At.ldN (by assumption) rfl ?_)
               | (refine Prs.ln (by assumption) ?_)
               | (refine Trs.ln (by assumption) ?_)
               | (refine Prs.ix (by assumption) (by omega) ?_)
               | (refine Trs.ix (by assumption) (by omega) ?_)
               | (refine Prs.ldN (by assumption) (by omega) ?_)
               | (refine Trs.ldN (by assumption) (by omega) ?_)
               | (refine At.ldN (Blk.at (by assumption)) rfl ?_)
               | (refine At.ld (Blk.at (by assumption)) rfl ?_)
               | (refine IxA.mk (by omega) ?_)
               | (refine Sl.ln (Own.sl (by assumption)) ?_)
               | (refine Ints.ix (Own.sl (by assumption)) (by omega) ?_)
               | (refine Ints.ixI (Own.sl (by assumption)) (by omega) ?_)
               | (refine Ints.ld (Own.sl (by assumption)) (by omega) ?_))
      exact ⟨rfl, EE⟩
    · rw [tf_f (p := ¬ great rr a ∧ vld rr a = 0) (fun h => hv h.2)]
      repeat' (conv => whnf
               first
               | (refine Dr.quiet tyOk (by kernel_rfl) ?_)
               | (refine VC.pure hc ?_)
               | (refine VC.pure c2 ?_)
               | (refine Rng.mk (by omega) ?_)
               | (refine Split.pos (by omega) ?_)
               | (refine Split.neg (by omega) ?_)
               | (refine Split.mk (fun h => ?_) (fun h => ?_))
               | (refine Need.mk (by omega) ?_)
               | (refine Ints.ln (by assumption) ?_)
               | (refine Mat.ln (by assumption) ?_)
               | (refine Ints.ln (Mat.row (by assumption) _ (by omega)) ?_)
               | (refine Ints.ix (by assumption) (by omega) ?_)
               | (refine Mat.ix (by assumption) (by omega) ?_)
               | (refine Ints.ix (Mat.row (by assumption) _ (by omega)) (by omega) ?_)
               | (refine Ints.ix (c := 0) (by assumption) (by omega) ?_)
               | (refine Mat.ix (c := 0) (by assumption) (by omega) ?_)
               | (refine Ints.ix (c := 0) (Mat.row (by assumption) _ (by omega)) (by omega) ?_)
               | (refine Ints.ixI (by assumption) (by omega) ?_)
               | (refine Mat.ixI (by assumption) (by omega) ?_)
               | (refine Ints.ixI (Mat.row (by assumption) _ (by omega)) (by omega) ?_)
               | (refine Ints.ld (by assumption) (by omega) ?_)
               | (refine Mat.ld (by assumption) (by omega) ?_)
               | (refine Ints.ld (Mat.row (by assumption) _ (by omega)) (by omega) ?_)
               | (refine At.ld (by assumption) rfl ?_)
               | (refine At.ldN (by assumption) rfl ?_)
               | (refine Prs.ln (by assumption) ?_)
               | (refine Trs.ln (by assumption) ?_)
               | (refine Prs.ix (by assumption) (by omega) ?_)
               | (refine Trs.ix (by assumption) (by omega) ?_)
               | (refine Prs.ldN (by assumption) (by omega) ?_)
               | (refine Trs.ldN (by assumption) (by omega) ?_)
               | (refine At.ldN (Blk.at (by assumption)) rfl ?_)
               | (refine At.ld (Blk.at (by assumption)) rfl ?_)
               | (refine IxA.mk (by omega) ?_)
               | (refine Sl.ln (Own.sl (by assumption)) ?_)
               | (refine Ints.ix (Own.sl (by assumption)) (by omega) ?_)
               | (refine Ints.ixI (Own.sl (by assumption)) (by omega) ?_)
               | (refine Ints.ld (Own.sl (by assumption)) (by omega) ?_))
      exact ⟨rfl, EE⟩

theorem gvn_few : ¬ 20000 < tot gvn := by decide +kernel
theorem gvn_lk {x y z : Int} (hx : -1 ≤ x ∧ x < 2) (hy : -1 ≤ y ∧ y < 2) (hz : -1 ≤ z ∧ z < 2) : lkE gvn [x, y, z] = 0 := lkE_ok (gvn_vld hx hy hz) gvn_few
theorem gvn_imp1 : imp gvn [0, 1, 1] = none := (imp_eq _ _).trans (by decide +kernel)
theorem gvn_imp2 : imp gvn [1, 1, 0] = some [0, 1, 1] := (imp_eq _ _).trans (by decide +kernel)
theorem prB_t {rr : List (List Int)} {a l : List Int} (h1 : vld rr a = 0) (h2 : compl a) (h3 : wtd l rr.length) (h4 : pvd rr a l) : prB rr a l = true ∧ prE rr a l = 0 := by
  unfold prB prE
  rw [if_pos ⟨h1, h2, h3⟩, if_pos h1, if_pos ⟨h2, h3⟩, tf_t h4]; exact ⟨rfl, rfl⟩
theorem prB_f {rr : List (List Int)} {a l : List Int} (h1 : vld rr a = 0) (h2 : compl a) (h3 : wtd l rr.length) (h4 : ¬ pvd rr a l) : prB rr a l = false ∧ prE rr a l = 0 := by
  unfold prB prE
  rw [if_pos ⟨h1, h2, h3⟩, if_pos h1, if_pos ⟨h2, h3⟩, tf_f h4]; exact ⟨rfl, rfl⟩

theorem alive22_pc {w : World} : PC Try.prog 40 [] w (.bool true) := by
  refine PC.mk tyOk Try.func40 rfl (by kernel_rfl) fun w1 E1 => ?_
  have EE := Ext.refl w1
  have v1 : vld gvn [0, 1, 1] = 0 := gvn_vld (by decide) (by decide) (by decide)
  have k1 : lkE gvn [0, 1, 1] = 0 := gvn_lk (by decide) (by decide) (by decide)
  have k2 : lkE gvn [1, 1, 0] = 0 := gvn_lk (by decide) (by decide) (by decide)
  have cm1 : compl [0, 1, 1] := by unfold compl; decide
  conv => whnf
  refine VC.rc (given22_rc) ?_
  rintro _ w2 E2 ⟨g1, _, rfl, HG⟩
  replace EE := EE.ext E2
  conv => whnf
  refine VE.litI [0, 1, 1] Try.underlying25 eInt (by decide) fun l1 w3 E3 H1 _ => ?_
  replace H1 := H1 0 (Nat.zero_le _)
  replace EE := EE.ext E3
  replace HG := HG.ext E3
  conv => whnf
  refine VC.rc (gfind_rc HG.mat (Own.sl H1)) ?_
  rintro _ w4 E4 ⟨xv, rfl, HX⟩
  replace EE := EE.ext E4
  replace HG := HG.ext E4
  replace H1 := H1.ext E4
  rw [(fd_none k1 gvn_imp1).1]
  repeat' (conv => whnf
           first
           | (refine Dr.quiet tyOk (by kernel_rfl) ?_)
           | (refine Rng.mk (by omega) ?_)
           | (refine Split.pos (by omega) ?_)
           | (refine Split.neg (by omega) ?_)
           | (refine Split.mk (fun h => ?_) (fun h => ?_))
           | (refine Need.mk (by omega) ?_)
           | (refine Ints.ln (by assumption) ?_)
           | (refine Mat.ln (by assumption) ?_)
           | (refine Ints.ln (Mat.row (by assumption) _ (by omega)) ?_)
           | (refine Ints.ix (by assumption) (by omega) ?_)
           | (refine Mat.ix (by assumption) (by omega) ?_)
           | (refine Ints.ix (Mat.row (by assumption) _ (by omega)) (by omega) ?_)
           | (refine Ints.ix (c := 0) (by assumption) (by omega) ?_)
           | (refine Mat.ix (c := 0) (by assumption) (by omega) ?_)
           | (refine Ints.ix (c := 0) (Mat.row (by assumption) _ (by omega)) (by omega) ?_)
           | (refine Ints.ixI (by assumption) (by omega) ?_)
           | (refine Mat.ixI (by assumption) (by omega) ?_)
           | (refine Ints.ixI (Mat.row (by assumption) _ (by omega)) (by omega) ?_)
           | (refine Ints.ld (by assumption) (by omega) ?_)
           | (refine Mat.ld (by assumption) (by omega) ?_)
           | (refine Ints.ld (Mat.row (by assumption) _ (by omega)) (by omega) ?_)
           | (refine At.ld (by assumption) rfl ?_)
           | (refine At.ldN (by assumption) rfl ?_)
           | (refine Prs.ln (by assumption) ?_)
           | (refine Trs.ln (by assumption) ?_)
           | (refine Prs.ix (by assumption) (by omega) ?_)
           | (refine Trs.ix (by assumption) (by omega) ?_)
           | (refine Prs.ldN (by assumption) (by omega) ?_)
           | (refine Trs.ldN (by assumption) (by omega) ?_)
           | (refine At.ldN (Blk.at (by assumption)) rfl ?_)
           | (refine At.ld (Blk.at (by assumption)) rfl ?_)
           | (refine IxA.mk (by omega) ?_)
           | (refine Sl.ln (Own.sl (by assumption)) ?_)
           | (refine Ints.ix (Own.sl (by assumption)) (by omega) ?_)
           | (refine Ints.ixI (Own.sl (by assumption)) (by omega) ?_)
           | (refine Ints.ld (Own.sl (by assumption)) (by omega) ?_))
  conv => whnf
  refine VC.rc (given22_rc) ?_
  rintro _ w5 E5 ⟨g1, _, rfl, HG⟩
  replace EE := EE.ext E5
  replace H1 := H1.ext E5
  replace HX := HX.ext E5
  conv => whnf
  refine VE.litI [0, 1, 1] Try.underlying25 eInt (by decide) fun l1 w6 E6 H1 _ => ?_
  replace H1 := H1 0 (Nat.zero_le _)
  replace EE := EE.ext E6
  replace HX := HX.ext E6
  replace HG := HG.ext E6
  conv => whnf
  refine VE.litI [2, 3] Try.underlying25 eInt (by decide) fun l2 w7 E7 H2 _ => ?_
  replace H2 := H2 0 (Nat.zero_le _)
  replace EE := EE.ext E7
  replace HX := HX.ext E7
  replace HG := HG.ext E7
  replace H1 := H1.ext E7
  have cp := gproves_pc HG.mat (Own.sl H1) (Own.sl H2)
  have p1 := prB_t (l := [2, 3]) v1 cm1 (by unfold wtd; decide +kernel) (by unfold pvd wvl; decide +kernel)
  rw [p1.1, p1.2] at cp
  conv => whnf
  refine VC.pure cp ?_
  repeat' (conv => whnf
           first
           | (refine Dr.quiet tyOk (by kernel_rfl) ?_)
           | (refine Rng.mk (by omega) ?_)
           | (refine Split.pos (by omega) ?_)
           | (refine Split.neg (by omega) ?_)
           | (refine Split.mk (fun h => ?_) (fun h => ?_))
           | (refine Need.mk (by omega) ?_)
           | (refine Ints.ln (by assumption) ?_)
           | (refine Mat.ln (by assumption) ?_)
           | (refine Ints.ln (Mat.row (by assumption) _ (by omega)) ?_)
           | (refine Ints.ix (by assumption) (by omega) ?_)
           | (refine Mat.ix (by assumption) (by omega) ?_)
           | (refine Ints.ix (Mat.row (by assumption) _ (by omega)) (by omega) ?_)
           | (refine Ints.ix (c := 0) (by assumption) (by omega) ?_)
           | (refine Mat.ix (c := 0) (by assumption) (by omega) ?_)
           | (refine Ints.ix (c := 0) (Mat.row (by assumption) _ (by omega)) (by omega) ?_)
           | (refine Ints.ixI (by assumption) (by omega) ?_)
           | (refine Mat.ixI (by assumption) (by omega) ?_)
           | (refine Ints.ixI (Mat.row (by assumption) _ (by omega)) (by omega) ?_)
           | (refine Ints.ld (by assumption) (by omega) ?_)
           | (refine Mat.ld (by assumption) (by omega) ?_)
           | (refine Ints.ld (Mat.row (by assumption) _ (by omega)) (by omega) ?_)
           | (refine At.ld (by assumption) rfl ?_)
           | (refine At.ldN (by assumption) rfl ?_)
           | (refine Prs.ln (by assumption) ?_)
           | (refine Trs.ln (by assumption) ?_)
           | (refine Prs.ix (by assumption) (by omega) ?_)
           | (refine Trs.ix (by assumption) (by omega) ?_)
           | (refine Prs.ldN (by assumption) (by omega) ?_)
           | (refine Trs.ldN (by assumption) (by omega) ?_)
           | (refine At.ldN (Blk.at (by assumption)) rfl ?_)
           | (refine At.ld (Blk.at (by assumption)) rfl ?_)
           | (refine IxA.mk (by omega) ?_)
           | (refine Sl.ln (Own.sl (by assumption)) ?_)
           | (refine Ints.ix (Own.sl (by assumption)) (by omega) ?_)
           | (refine Ints.ixI (Own.sl (by assumption)) (by omega) ?_)
           | (refine Ints.ld (Own.sl (by assumption)) (by omega) ?_))
  conv => whnf
  refine VC.rc (given22_rc) ?_
  rintro _ w8 E8 ⟨g1, _, rfl, HG⟩
  replace EE := EE.ext E8
  replace HX := HX.ext E8
  replace H1 := H1.ext E8
  replace H2 := H2.ext E8
  conv => whnf
  refine VE.litI [0, 1, 1] Try.underlying25 eInt (by decide) fun l1 w9 E9 H1 _ => ?_
  replace H1 := H1 0 (Nat.zero_le _)
  replace EE := EE.ext E9
  replace HX := HX.ext E9
  replace H2 := H2.ext E9
  replace HG := HG.ext E9
  conv => whnf
  refine VE.litI [1, 1] Try.underlying25 eInt (by decide) fun l2 w10 E10 H2 _ => ?_
  replace H2 := H2 0 (Nat.zero_le _)
  replace EE := EE.ext E10
  replace HX := HX.ext E10
  replace HG := HG.ext E10
  replace H1 := H1.ext E10
  have cp := gproves_pc HG.mat (Own.sl H1) (Own.sl H2)
  have p2 := prB_f (l := [1, 1]) v1 cm1 (by unfold wtd; decide +kernel) (by unfold pvd wvl; decide +kernel)
  rw [p2.1, p2.2] at cp
  conv => whnf
  refine VC.pure cp ?_
  repeat' (conv => whnf
           first
           | (refine Dr.quiet tyOk (by kernel_rfl) ?_)
           | (refine Rng.mk (by omega) ?_)
           | (refine Split.pos (by omega) ?_)
           | (refine Split.neg (by omega) ?_)
           | (refine Split.mk (fun h => ?_) (fun h => ?_))
           | (refine Need.mk (by omega) ?_)
           | (refine Ints.ln (by assumption) ?_)
           | (refine Mat.ln (by assumption) ?_)
           | (refine Ints.ln (Mat.row (by assumption) _ (by omega)) ?_)
           | (refine Ints.ix (by assumption) (by omega) ?_)
           | (refine Mat.ix (by assumption) (by omega) ?_)
           | (refine Ints.ix (Mat.row (by assumption) _ (by omega)) (by omega) ?_)
           | (refine Ints.ix (c := 0) (by assumption) (by omega) ?_)
           | (refine Mat.ix (c := 0) (by assumption) (by omega) ?_)
           | (refine Ints.ix (c := 0) (Mat.row (by assumption) _ (by omega)) (by omega) ?_)
           | (refine Ints.ixI (by assumption) (by omega) ?_)
           | (refine Mat.ixI (by assumption) (by omega) ?_)
           | (refine Ints.ixI (Mat.row (by assumption) _ (by omega)) (by omega) ?_)
           | (refine Ints.ld (by assumption) (by omega) ?_)
           | (refine Mat.ld (by assumption) (by omega) ?_)
           | (refine Ints.ld (Mat.row (by assumption) _ (by omega)) (by omega) ?_)
           | (refine At.ld (by assumption) rfl ?_)
           | (refine At.ldN (by assumption) rfl ?_)
           | (refine Prs.ln (by assumption) ?_)
           | (refine Trs.ln (by assumption) ?_)
           | (refine Prs.ix (by assumption) (by omega) ?_)
           | (refine Trs.ix (by assumption) (by omega) ?_)
           | (refine Prs.ldN (by assumption) (by omega) ?_)
           | (refine Trs.ldN (by assumption) (by omega) ?_)
           | (refine At.ldN (Blk.at (by assumption)) rfl ?_)
           | (refine At.ld (Blk.at (by assumption)) rfl ?_)
           | (refine IxA.mk (by omega) ?_)
           | (refine Sl.ln (Own.sl (by assumption)) ?_)
           | (refine Ints.ix (Own.sl (by assumption)) (by omega) ?_)
           | (refine Ints.ixI (Own.sl (by assumption)) (by omega) ?_)
           | (refine Ints.ld (Own.sl (by assumption)) (by omega) ?_))
  conv => whnf
  refine VC.rc (given22_rc) ?_
  rintro _ w11 E11 ⟨g1, _, rfl, HG⟩
  replace EE := EE.ext E11
  replace HX := HX.ext E11
  replace H1 := H1.ext E11
  replace H2 := H2.ext E11
  conv => whnf
  refine VE.litI [1, 1, 0] Try.underlying25 eInt (by decide) fun l1 w12 E12 H1 _ => ?_
  replace H1 := H1 0 (Nat.zero_le _)
  replace EE := EE.ext E12
  replace HX := HX.ext E12
  replace H2 := H2.ext E12
  replace HG := HG.ext E12
  conv => whnf
  refine VC.rc (gfind_rc HG.mat (Own.sl H1)) ?_
  rintro _ w13 E13 ⟨bv, rfl, HB⟩
  replace EE := EE.ext E13
  replace HX := HX.ext E13
  replace H2 := H2.ext E13
  replace HG := HG.ext E13
  replace H1 := H1.ext E13
  rw [(fd_some k2 gvn_imp2).1]
  rw [(fd_some k2 gvn_imp2).2] at HB
  repeat' (conv => whnf
           first
           | (refine Dr.quiet tyOk (by kernel_rfl) ?_)
           | (refine Rng.mk (by omega) ?_)
           | (refine Split.pos (by omega) ?_)
           | (refine Split.neg (by omega) ?_)
           | (refine Split.mk (fun h => ?_) (fun h => ?_))
           | (refine Need.mk (by omega) ?_)
           | (refine Ints.ln (by assumption) ?_)
           | (refine Mat.ln (by assumption) ?_)
           | (refine Ints.ln (Mat.row (by assumption) _ (by omega)) ?_)
           | (refine Ints.ix (by assumption) (by omega) ?_)
           | (refine Mat.ix (by assumption) (by omega) ?_)
           | (refine Ints.ix (Mat.row (by assumption) _ (by omega)) (by omega) ?_)
           | (refine Ints.ix (c := 0) (by assumption) (by omega) ?_)
           | (refine Mat.ix (c := 0) (by assumption) (by omega) ?_)
           | (refine Ints.ix (c := 0) (Mat.row (by assumption) _ (by omega)) (by omega) ?_)
           | (refine Ints.ixI (by assumption) (by omega) ?_)
           | (refine Mat.ixI (by assumption) (by omega) ?_)
           | (refine Ints.ixI (Mat.row (by assumption) _ (by omega)) (by omega) ?_)
           | (refine Ints.ld (by assumption) (by omega) ?_)
           | (refine Mat.ld (by assumption) (by omega) ?_)
           | (refine Ints.ld (Mat.row (by assumption) _ (by omega)) (by omega) ?_)
           | (refine At.ld (by assumption) rfl ?_)
           | (refine At.ldN (by assumption) rfl ?_)
           | (refine Prs.ln (by assumption) ?_)
           | (refine Trs.ln (by assumption) ?_)
           | (refine Prs.ix (by assumption) (by omega) ?_)
           | (refine Trs.ix (by assumption) (by omega) ?_)
           | (refine Prs.ldN (by assumption) (by omega) ?_)
           | (refine Trs.ldN (by assumption) (by omega) ?_)
           | (refine At.ldN (Blk.at (by assumption)) rfl ?_)
           | (refine At.ld (Blk.at (by assumption)) rfl ?_)
           | (refine IxA.mk (by omega) ?_)
           | (refine Sl.ln (Own.sl (by assumption)) ?_)
           | (refine Ints.ix (Own.sl (by assumption)) (by omega) ?_)
           | (refine Ints.ixI (Own.sl (by assumption)) (by omega) ?_)
           | (refine Ints.ld (Own.sl (by assumption)) (by omega) ?_))
  conv => whnf
  refine VC.rc (given22_rc) ?_
  rintro _ w14 E14 ⟨g1, _, rfl, HG⟩
  replace EE := EE.ext E14
  replace HX := HX.ext E14
  replace H2 := H2.ext E14
  replace H1 := H1.ext E14
  replace HB := HB.ext E14
  conv => whnf
  refine VC.rc (gfront_rc HG.mat) ?_
  rintro _ w15 E15 rfl
  replace EE := EE.ext E15
  replace HX := HX.ext E15
  replace H2 := H2.ext E15
  replace H1 := H1.ext E15
  replace HB := HB.ext E15
  replace HG := HG.ext E15
  rw [(fr_ok gvn_chk gvn_few).1, (fr_ok gvn_chk gvn_few).2, show (frF gvn).length = 4 by decide +kernel]
  repeat' (conv => whnf
           first
           | (refine Dr.quiet tyOk (by kernel_rfl) ?_)
           | (refine Rng.mk (by omega) ?_)
           | (refine Split.pos (by omega) ?_)
           | (refine Split.neg (by omega) ?_)
           | (refine Split.mk (fun h => ?_) (fun h => ?_))
           | (refine Need.mk (by omega) ?_)
           | (refine Ints.ln (by assumption) ?_)
           | (refine Mat.ln (by assumption) ?_)
           | (refine Ints.ln (Mat.row (by assumption) _ (by omega)) ?_)
           | (refine Ints.ix (by assumption) (by omega) ?_)
           | (refine Mat.ix (by assumption) (by omega) ?_)
           | (refine Ints.ix (Mat.row (by assumption) _ (by omega)) (by omega) ?_)
           | (refine Ints.ix (c := 0) (by assumption) (by omega) ?_)
           | (refine Mat.ix (c := 0) (by assumption) (by omega) ?_)
           | (refine Ints.ix (c := 0) (Mat.row (by assumption) _ (by omega)) (by omega) ?_)
           | (refine Ints.ixI (by assumption) (by omega) ?_)
           | (refine Mat.ixI (by assumption) (by omega) ?_)
           | (refine Ints.ixI (Mat.row (by assumption) _ (by omega)) (by omega) ?_)
           | (refine Ints.ld (by assumption) (by omega) ?_)
           | (refine Mat.ld (by assumption) (by omega) ?_)
           | (refine Ints.ld (Mat.row (by assumption) _ (by omega)) (by omega) ?_)
           | (refine At.ld (by assumption) rfl ?_)
           | (refine At.ldN (by assumption) rfl ?_)
           | (refine Prs.ln (by assumption) ?_)
           | (refine Trs.ln (by assumption) ?_)
           | (refine Prs.ix (by assumption) (by omega) ?_)
           | (refine Trs.ix (by assumption) (by omega) ?_)
           | (refine Prs.ldN (by assumption) (by omega) ?_)
           | (refine Trs.ldN (by assumption) (by omega) ?_)
           | (refine At.ldN (Blk.at (by assumption)) rfl ?_)
           | (refine At.ld (Blk.at (by assumption)) rfl ?_)
           | (refine IxA.mk (by omega) ?_)
           | (refine Sl.ln (Own.sl (by assumption)) ?_)
           | (refine Ints.ix (Own.sl (by assumption)) (by omega) ?_)
           | (refine Ints.ixI (Own.sl (by assumption)) (by omega) ?_)
           | (refine Ints.ld (Own.sl (by assumption)) (by omega) ?_))
  conv => whnf
  refine VE.litI [0, 1, 1] Try.underlying25 eInt (by decide) fun x1 w16 E16 X1 _ => ?_
  replace X1 := X1 0 (Nat.zero_le _)
  replace EE := EE.ext E16
  replace HX := HX.ext E16
  replace H2 := H2.ext E16
  replace H1 := H1.ext E16
  replace HB := HB.ext E16
  replace HG := HG.ext E16
  have c1 := same_pc (Own.sl HB.1) (Own.sl X1)
  rw [tf_t rfl] at c1
  conv => whnf
  refine VC.pure c1 ?_
  repeat' (conv => whnf
           first
           | (refine Dr.quiet tyOk (by kernel_rfl) ?_)
           | (refine Rng.mk (by omega) ?_)
           | (refine Split.pos (by omega) ?_)
           | (refine Split.neg (by omega) ?_)
           | (refine Split.mk (fun h => ?_) (fun h => ?_))
           | (refine Need.mk (by omega) ?_)
           | (refine Ints.ln (by assumption) ?_)
           | (refine Mat.ln (by assumption) ?_)
           | (refine Ints.ln (Mat.row (by assumption) _ (by omega)) ?_)
           | (refine Ints.ix (by assumption) (by omega) ?_)
           | (refine Mat.ix (by assumption) (by omega) ?_)
           | (refine Ints.ix (Mat.row (by assumption) _ (by omega)) (by omega) ?_)
           | (refine Ints.ix (c := 0) (by assumption) (by omega) ?_)
           | (refine Mat.ix (c := 0) (by assumption) (by omega) ?_)
           | (refine Ints.ix (c := 0) (Mat.row (by assumption) _ (by omega)) (by omega) ?_)
           | (refine Ints.ixI (by assumption) (by omega) ?_)
           | (refine Mat.ixI (by assumption) (by omega) ?_)
           | (refine Ints.ixI (Mat.row (by assumption) _ (by omega)) (by omega) ?_)
           | (refine Ints.ld (by assumption) (by omega) ?_)
           | (refine Mat.ld (by assumption) (by omega) ?_)
           | (refine Ints.ld (Mat.row (by assumption) _ (by omega)) (by omega) ?_)
           | (refine At.ld (by assumption) rfl ?_)
           | (refine At.ldN (by assumption) rfl ?_)
           | (refine Prs.ln (by assumption) ?_)
           | (refine Trs.ln (by assumption) ?_)
           | (refine Prs.ix (by assumption) (by omega) ?_)
           | (refine Trs.ix (by assumption) (by omega) ?_)
           | (refine Prs.ldN (by assumption) (by omega) ?_)
           | (refine Trs.ldN (by assumption) (by omega) ?_)
           | (refine At.ldN (Blk.at (by assumption)) rfl ?_)
           | (refine At.ld (Blk.at (by assumption)) rfl ?_)
           | (refine IxA.mk (by omega) ?_)
           | (refine Sl.ln (Own.sl (by assumption)) ?_)
           | (refine Ints.ix (Own.sl (by assumption)) (by omega) ?_)
           | (refine Ints.ixI (Own.sl (by assumption)) (by omega) ?_)
           | (refine Ints.ld (Own.sl (by assumption)) (by omega) ?_))
  exact ⟨rfl, EE⟩
end Go.Proofs.Ytebklnmafjbhcaa
