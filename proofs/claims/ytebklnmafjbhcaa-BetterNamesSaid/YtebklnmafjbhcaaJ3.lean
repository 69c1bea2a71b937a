/- Contracts: better's few, looked and the closure of improve; the reference's Tries, first and Find. -/
import Derived.Test.YtebklnmafjbhcaaJ2
set_option linter.unusedVariables false
set_option linter.unusedSimpArgs false
namespace Go.Proofs.Ytebklnmafjbhcaa
open Go.Eng
set_option maxRecDepth 100000
set_option maxHeartbeats 4000000

/-- The own bundle's worth. -/
def ownB (rr : List (List Int)) (a : List Int) (i : Nat) : Int := wth rr a i i
def ownV (rr : List (List Int)) (a : List Int) : List Int := mk rr.length (ownB rr a)
/-- `y` is better than `x` at the first n places. -/
def abvV (n : Nat) (x y : Nat → Int) : Prop := (∀ i, i < n → x i ≤ y i) ∧ ∃ i, i < n ∧ x i < y i
def abv (rr : List (List Int)) (a b : List Int) : Prop := abvV rr.length (ownB rr a) (ownB rr b)
theorem ownV_len (rr : List (List Int)) (a : List Int) : (ownV rr a).length = rr.length := mk_len _ _
theorem ownV_get {rr : List (List Int)} {a : List Int} {i : Nat} (h : i < rr.length) : (ownV rr a).getD i 0 = ownB rr a i := mk_get 0 h

theorem tfb_old {p : Nat → Prop} {c : Nat} (h : ∃ i, i < c ∧ p i) : true = tf (∃ i, i < c + 1 ∧ p i) := by
  obtain ⟨i, h1, h2⟩ := h
  rw [tf_t ⟨i, by omega, h2⟩]
theorem tfb_new {p : Nat → Prop} {c : Nat} (h : p c) : true = tf (∃ i, i < c + 1 ∧ p i) := by rw [tf_t ⟨c, by omega, h⟩]
theorem tfb_no {p : Nat → Prop} {c : Nat} (h : ¬ ∃ i, i < c ∧ p i) (h1 : ¬ p c) : false = tf (∃ i, i < c + 1 ∧ p i) := by
  rw [tf_f]
  rintro ⟨i, hi, hp⟩
  by_cases e : i = c
  · subst e; exact h1 hp
  · exact h ⟨i, by omega, hp⟩

theorem equalI_pc {w : World} {av bv : Value} {a b : List Int} (Ha : Ints w av a) (Hb : Ints w bv b) : PC Try.prog 81 [av, bv] w (.bool (tf (a = b))) := by
  refine PC.mk tyOk Try.func81 rfl (by kernel_rfl) fun w1 E1 => ?_
  replace Ha := Ha.ext E1
  replace Hb := Hb.ext E1
  have EE := Ext.refl w1
  have hle := Ha.le
  have hle2 := Hb.le
  repeat' (conv => whnf
           first
           | (refine Dr.quiet tyOk (by kernel_rfl) ?_)
           | (refine Rng.mk (by omega) ?_)
           | (refine Split.pos (by omega) ?_)
           | (refine Split.neg (by omega) ?_)
           | (refine Split.mk (fun h => ?_) (fun h => ?_))
           | (refine Need.mk (by omega) ?_)
           | (refine Ints.ln (by assumption) ?_)
           | (refine Mat.ln (by assumption) ?_)
           | (refine Ints.ln (Mat.row (by assumption) _ (by omega)) ?_)
           | (refine Ints.ix (by assumption) (by omega) ?_)
           | (refine Mat.ix (by assumption) (by omega) ?_)
           | (refine Ints.ix (Mat.row (by assumption) _ (by omega)) (by omega) ?_)
           | (refine Ints.ix (c := 0) (by assumption) (by omega) ?_)
           | (refine Mat.ix (c := 0) (by assumption) (by omega) ?_)
           | (refine Ints.ix (c := 0) (Mat.row (by assumption) _ (by omega)) (by omega) ?_)
           | (refine Ints.ixI (by assumption) (by omega) ?_)
           | (refine Mat.ixI (by assumption) (by omega) ?_)
           | (refine Ints.ixI (Mat.row (by assumption) _ (by omega)) (by omega) ?_)
           | (refine Ints.ld (by assumption) (by omega) ?_)
           | (refine Mat.ld (by assumption) (by omega) ?_)
           | (refine Ints.ld (Mat.row (by assumption) _ (by omega)) (by omega) ?_)
           | (refine At.ld (by assumption) rfl ?_)
           | (refine At.ldN (by assumption) rfl ?_))
  · refine Lp.mk tyOk [false, false, false, false, true, true, false, false, false, false, false, false, false, true, true, true, true, true, true, true, true, true, true, true, true, true] (fun m fr wr => getK fr 13 fun j => ∃ c : Nat, c ≤ a.length ∧ m = a.length - c ∧ j = .int .i64 (c : Int) ∧ (∀ i, i < c → a.getD i 0 = b.getD i 0) ∧ wr = w1) (a.length) ?_ ?_
    · exact ⟨0, Nat.zero_le _, rfl, rfl, (by first | exact fun _ hi => absurd hi (Nat.not_lt_zero _) | exact fun _ _ hi => absurd hi (Nat.not_lt_zero _) | assumption | exact Own.nil | omega | simp), rfl⟩
    · intro m w2 u4 u5 u13 u14 u15 u16 u17 u18 u19 u20 u21 u22 u23 u24 u25 hR
      obtain ⟨c, hc, rfl, rfl, hv, rfl⟩ := hR
      repeat' (conv => whnf
               first
               | (refine Dr.quiet tyOk (by kernel_rfl) ?_)
               | (refine Rng.mk (by omega) ?_)
               | (refine Split.pos (by omega) ?_)
               | (refine Split.neg (by omega) ?_)
               | (refine Split.mk (fun h => ?_) (fun h => ?_))
               | (refine Need.mk (by omega) ?_)
               | (refine Ints.ln (by assumption) ?_)
               | (refine Mat.ln (by assumption) ?_)
               | (refine Ints.ln (Mat.row (by assumption) _ (by omega)) ?_)
               | (refine Ints.ix (by assumption) (by omega) ?_)
               | (refine Mat.ix (by assumption) (by omega) ?_)
               | (refine Ints.ix (Mat.row (by assumption) _ (by omega)) (by omega) ?_)
               | (refine Ints.ix (c := 0) (by assumption) (by omega) ?_)
               | (refine Mat.ix (c := 0) (by assumption) (by omega) ?_)
               | (refine Ints.ix (c := 0) (Mat.row (by assumption) _ (by omega)) (by omega) ?_)
               | (refine Ints.ixI (by assumption) (by omega) ?_)
               | (refine Mat.ixI (by assumption) (by omega) ?_)
               | (refine Ints.ixI (Mat.row (by assumption) _ (by omega)) (by omega) ?_)
               | (refine Ints.ld (by assumption) (by omega) ?_)
               | (refine Mat.ld (by assumption) (by omega) ?_)
               | (refine Ints.ld (Mat.row (by assumption) _ (by omega)) (by omega) ?_)
               | (refine At.ld (by assumption) rfl ?_)
               | (refine At.ldN (by assumption) rfl ?_))
      · refine ⟨_, (by omega : a.length - (c + 1) < a.length - c), rfl, c + 1, by omega, rfl, rfl, all_succ hv (by omega), rfl⟩
      · rw [tf_f (p := a = b) (by rintro rfl; omega)]; exact ⟨rfl, EE⟩
      · rw [tf_t (p := a = b) (ext_getD 0 (by omega) fun i hi => hv i (by omega))]; exact ⟨rfl, EE⟩
  · rw [tf_f (p := a = b) (by rintro rfl; omega)]; exact ⟨rfl, EE⟩

theorem above_pc {w : World} {av bv : Value} {a b : List Int} (Ha : Ints w av a) (Hb : Ints w bv b) (hl : a.length = b.length) : PC Try.prog 59 [av, bv] w (.bool (tf (abvV a.length (fun i => a.getD i 0) (fun i => b.getD i 0)))) := by
  refine PC.mk tyOk Try.func59 rfl (by kernel_rfl) fun w1 E1 => ?_
  replace Ha := Ha.ext E1
  replace Hb := Hb.ext E1
  have EE := Ext.refl w1
  have hle := Ha.le
  have ce := equalI_pc Ha Hb
  repeat' (conv => whnf
           first
           | (refine Dr.quiet tyOk (by kernel_rfl) ?_)
           | (refine Rng.mk (by omega) ?_)
           | (refine Split.pos (by omega) ?_)
           | (refine Split.neg (by omega) ?_)
           | (refine Split.mk (fun h => ?_) (fun h => ?_))
           | (refine Need.mk (by omega) ?_)
           | (refine Ints.ln (by assumption) ?_)
           | (refine Mat.ln (by assumption) ?_)
           | (refine Ints.ln (Mat.row (by assumption) _ (by omega)) ?_)
           | (refine Ints.ix (by assumption) (by omega) ?_)
           | (refine Mat.ix (by assumption) (by omega) ?_)
           | (refine Ints.ix (Mat.row (by assumption) _ (by omega)) (by omega) ?_)
           | (refine Ints.ix (c := 0) (by assumption) (by omega) ?_)
           | (refine Mat.ix (c := 0) (by assumption) (by omega) ?_)
           | (refine Ints.ix (c := 0) (Mat.row (by assumption) _ (by omega)) (by omega) ?_)
           | (refine Ints.ixI (by assumption) (by omega) ?_)
           | (refine Mat.ixI (by assumption) (by omega) ?_)
           | (refine Ints.ixI (Mat.row (by assumption) _ (by omega)) (by omega) ?_)
           | (refine Ints.ld (by assumption) (by omega) ?_)
           | (refine Mat.ld (by assumption) (by omega) ?_)
           | (refine Ints.ld (Mat.row (by assumption) _ (by omega)) (by omega) ?_)
           | (refine At.ld (by assumption) rfl ?_)
           | (refine At.ldN (by assumption) rfl ?_))
  refine Lp.mk tyOk [false, false, false, false, true, true, true, false, false, true, true, true, true, true, true, true, true, true, true, true, true] (fun m fr wr => getK fr 9 fun j => ∃ c : Nat, c ≤ a.length ∧ m = a.length - c ∧ j = .int .i64 (c : Int) ∧ (∀ i, i < c → a.getD i 0 ≤ b.getD i 0) ∧ wr = w1) (a.length) ?_ ?_
  · exact ⟨0, Nat.zero_le _, rfl, rfl, (by first | exact fun _ hi => absurd hi (Nat.not_lt_zero _) | exact fun _ _ hi => absurd hi (Nat.not_lt_zero _) | assumption | exact Own.nil | omega | simp), rfl⟩
  · intro m w2 u4 u5 u6 u9 u10 u11 u12 u13 u14 u15 u16 u17 u18 u19 u20 hR
    obtain ⟨c, hc, rfl, rfl, hv, rfl⟩ := hR
    repeat' (conv => whnf
             first
             | (refine Dr.quiet tyOk (by kernel_rfl) ?_)
             | (refine VC.pure ce ?_)
             | (refine Rng.mk (by omega) ?_)
             | (refine Split.pos (by omega) ?_)
             | (refine Split.neg (by omega) ?_)
             | (refine Split.mk (fun h => ?_) (fun h => ?_))
             | (refine Need.mk (by omega) ?_)
             | (refine Ints.ln (by assumption) ?_)
             | (refine Mat.ln (by assumption) ?_)
             | (refine Ints.ln (Mat.row (by assumption) _ (by omega)) ?_)
             | (refine Ints.ix (by assumption) (by omega) ?_)
             | (refine Mat.ix (by assumption) (by omega) ?_)
             | (refine Ints.ix (Mat.row (by assumption) _ (by omega)) (by omega) ?_)
             | (refine Ints.ix (c := 0) (by assumption) (by omega) ?_)
             | (refine Mat.ix (c := 0) (by assumption) (by omega) ?_)
             | (refine Ints.ix (c := 0) (Mat.row (by assumption) _ (by omega)) (by omega) ?_)
             | (refine Ints.ixI (by assumption) (by omega) ?_)
             | (refine Mat.ixI (by assumption) (by omega) ?_)
             | (refine Ints.ixI (Mat.row (by assumption) _ (by omega)) (by omega) ?_)
             | (refine Ints.ld (by assumption) (by omega) ?_)
             | (refine Mat.ld (by assumption) (by omega) ?_)
             | (refine Ints.ld (Mat.row (by assumption) _ (by omega)) (by omega) ?_)
             | (refine At.ld (by assumption) rfl ?_)
             | (refine At.ldN (by assumption) rfl ?_))
    · rw [tf_f (p := abvV _ _ _) (fun h => by have : a.getD c 0 ≤ b.getD c 0 := h.1 c (by omega); omega)]; exact ⟨rfl, EE⟩
    · refine ⟨_, (by omega : a.length - (c + 1) < a.length - c), rfl, c + 1, by omega, rfl, rfl, all_succ hv (by omega), rfl⟩
    · by_cases e : a = b
      · rw [tf_f (p := abvV _ _ _) (fun h => by obtain ⟨i, _, h2⟩ := h.2; rw [e] at h2; omega)]
        simp only [tf_t e, Bool.not_true]; exact ⟨rfl, EE⟩
      · rw [tf_t (p := abvV _ _ _) ⟨fun i hi => hv i (by omega), Classical.byContradiction fun hn => e (ext_getD 0 hl fun i hi => by
          have h1 := hv i (by omega)
          have h2 : ¬ a.getD i 0 < b.getD i 0 := fun h => hn ⟨i, hi, h⟩
          omega)⟩]
        simp only [tf_f e, Bool.not_false]; exact ⟨rfl, EE⟩

theorem rabove_pc {w : World} {gv av bv : Value} {vs : List Value} {rr : List (List Int)} {a b : List Int} (Hg : Mat w gv vs rr) (Ha : Ints w av a) (Hb : Ints w bv b) (h1 : vld rr a = 0) (h2 : vld rr b = 0) :
    PC Try.prog 45 [.agg #[gv], av, bv] w (.bool (tf (abv rr a b))) := by
  refine PC.mk tyOk Try.func45 rfl (by kernel_rfl) fun w1 E1 => ?_
  replace Hg := Hg.ext E1
  replace Ha := Ha.ext E1
  replace Hb := Hb.ext E1
  have EE := Ext.refl w1
  have hal := al_of_vld h1
  have hbl := al_of_vld h2
  have hla := hal.len
  have hlb := hbl.len
  have hm := hal.m10
  have hn := hal.n6
  refine Bx.agg fun b2 w2 E2 hb2 Hx _ => ?_
  replace Hg := Hg.ext E2
  replace Ha := Ha.ext E2
  replace Hb := Hb.ext E2
  replace EE := EE.ext E2
  refine Lp.mk tyOk [false, false, false, false, false, false, true, true, true, true, true, true, true, true, true, true, true, true, true, true, true, true, true, true, true, true, true, true, true, true, true, true, true, true, true, true, true] (fun m fr wr => getK fr 8 fun i => getK fr 7 fun q => ∃ c : Nat, c ≤ rr.length ∧ m = rr.length - c ∧ i = .int .i64 (c : Int) ∧ q = .bool (tf (∃ i, i < c ∧ ownB rr a i < ownB rr b i)) ∧ (∀ i, i < c → ownB rr a i ≤ ownB rr b i) ∧ wr = w2) (rr.length) ?_ ?_
  · exact ⟨0, Nat.zero_le _, rfl, rfl, by rw [tf_f (by rintro ⟨i, h, _⟩; omega)], (by first | exact fun _ hi => absurd hi (Nat.not_lt_zero _) | exact fun _ _ hi => absurd hi (Nat.not_lt_zero _) | assumption | exact Own.nil | omega | simp), rfl⟩
  · intro m w3 u6 u7 u8 u9 u10 u11 u12 u13 u14 u15 u16 u17 u18 u19 u20 u21 u22 u23 u24 u25 u26 u27 u28 u29 u30 u31 u32 u33 u34 u35 u36 hR
    obtain ⟨c, hc, rfl, rfl, rfl, hv, rfl⟩ := hR
    by_cases hc2 : c < rr.length
    · have hrc := hal.row c hc2
      have ca := worth_pc (k := (c : Int)) Hg Ha hc2 (by omega) hal.val (by omega)
      have cb := worth_pc (k := (c : Int)) Hg Hb hc2 (by omega) hal.val (by omega)
      by_cases hy : ∃ i, i < c ∧ ownB rr a i < ownB rr b i
      · rw [tf_t hy]
        repeat' (conv => whnf
                 first
                 | (refine Dr.quiet tyOk (by kernel_rfl) ?_)
                 | (refine VC.pure ca ?_)
                 | (refine VC.pure cb ?_)
                 | (refine VCQ.pure ca ?_)
                 | (refine VCQ.pure cb ?_)
                 | (refine Rng.mk (by omega) ?_)
                 | (refine Split.pos (by omega) ?_)
                 | (refine Split.neg (by omega) ?_)
                 | (refine Split.mk (fun h => ?_) (fun h => ?_))
                 | (refine Need.mk (by omega) ?_)
                 | (refine Ints.ln (by assumption) ?_)
                 | (refine Mat.ln (by assumption) ?_)
                 | (refine Ints.ln (Mat.row (by assumption) _ (by omega)) ?_)
                 | (refine Ints.ix (by assumption) (by omega) ?_)
                 | (refine Mat.ix (by assumption) (by omega) ?_)
                 | (refine Ints.ix (Mat.row (by assumption) _ (by omega)) (by omega) ?_)
                 | (refine Ints.ix (c := 0) (by assumption) (by omega) ?_)
                 | (refine Mat.ix (c := 0) (by assumption) (by omega) ?_)
                 | (refine Ints.ix (c := 0) (Mat.row (by assumption) _ (by omega)) (by omega) ?_)
                 | (refine Ints.ixI (by assumption) (by omega) ?_)
                 | (refine Mat.ixI (by assumption) (by omega) ?_)
                 | (refine Ints.ixI (Mat.row (by assumption) _ (by omega)) (by omega) ?_)
                 | (refine Ints.ld (by assumption) (by omega) ?_)
                 | (refine Mat.ld (by assumption) (by omega) ?_)
                 | (refine Ints.ld (Mat.row (by assumption) _ (by omega)) (by omega) ?_)
                 | (refine At.ld (by assumption) rfl ?_)
                 | (refine At.ldN (by assumption) rfl ?_)
                 | (refine Prs.ln (by assumption) ?_)
                 | (refine Trs.ln (by assumption) ?_)
                 | (refine Prs.ix (by assumption) (by omega) ?_)
                 | (refine Trs.ix (by assumption) (by omega) ?_)
                 | (refine Prs.ldN (by assumption) (by omega) ?_)
                 | (refine Trs.ldN (by assumption) (by omega) ?_)
                 | (refine At.ldN (Blk.at (by assumption)) rfl ?_)
                 | (refine At.ld (Blk.at (by assumption)) rfl ?_)
                 | (refine IxA.mk (by omega) ?_)
                 | (refine Sl.ln (Own.sl (by assumption)) ?_)
                 | (refine Ints.ix (Own.sl (by assumption)) (by omega) ?_)
                 | (refine Ints.ixI (Own.sl (by assumption)) (by omega) ?_)
                 | (refine Ints.ld (Own.sl (by assumption)) (by omega) ?_))
        all_goals first
          | (rw [tf_f (p := abv rr a b) (fun h => by have := h.1 c (by omega); unfold ownB at this; omega)]; exact ⟨rfl, EE⟩)
          | (refine ⟨_, (by omega : rr.length - (c + 1) < rr.length - c), rfl, c + 1, by omega, rfl, rfl, (congrArg Value.bool (tfb_old hy)), all_succ hv (by unfold ownB; omega), rfl⟩)
      · rw [tf_f hy]
        repeat' (conv => whnf
                 first
                 | (refine Dr.quiet tyOk (by kernel_rfl) ?_)
                 | (refine VC.pure ca ?_)
                 | (refine VC.pure cb ?_)
                 | (refine VCQ.pure ca ?_)
                 | (refine VCQ.pure cb ?_)
                 | (refine Rng.mk (by omega) ?_)
                 | (refine Split.pos (by omega) ?_)
                 | (refine Split.neg (by omega) ?_)
                 | (refine Split.mk (fun h => ?_) (fun h => ?_))
                 | (refine Need.mk (by omega) ?_)
                 | (refine Ints.ln (by assumption) ?_)
                 | (refine Mat.ln (by assumption) ?_)
                 | (refine Ints.ln (Mat.row (by assumption) _ (by omega)) ?_)
                 | (refine Ints.ix (by assumption) (by omega) ?_)
                 | (refine Mat.ix (by assumption) (by omega) ?_)
                 | (refine Ints.ix (Mat.row (by assumption) _ (by omega)) (by omega) ?_)
                 | (refine Ints.ix (c := 0) (by assumption) (by omega) ?_)
                 | (refine Mat.ix (c := 0) (by assumption) (by omega) ?_)
                 | (refine Ints.ix (c := 0) (Mat.row (by assumption) _ (by omega)) (by omega) ?_)
                 | (refine Ints.ixI (by assumption) (by omega) ?_)
                 | (refine Mat.ixI (by assumption) (by omega) ?_)
                 | (refine Ints.ixI (Mat.row (by assumption) _ (by omega)) (by omega) ?_)
                 | (refine Ints.ld (by assumption) (by omega) ?_)
                 | (refine Mat.ld (by assumption) (by omega) ?_)
                 | (refine Ints.ld (Mat.row (by assumption) _ (by omega)) (by omega) ?_)
                 | (refine At.ld (by assumption) rfl ?_)
                 | (refine At.ldN (by assumption) rfl ?_)
                 | (refine Prs.ln (by assumption) ?_)
                 | (refine Trs.ln (by assumption) ?_)
                 | (refine Prs.ix (by assumption) (by omega) ?_)
                 | (refine Trs.ix (by assumption) (by omega) ?_)
                 | (refine Prs.ldN (by assumption) (by omega) ?_)
                 | (refine Trs.ldN (by assumption) (by omega) ?_)
                 | (refine At.ldN (Blk.at (by assumption)) rfl ?_)
                 | (refine At.ld (Blk.at (by assumption)) rfl ?_)
                 | (refine IxA.mk (by omega) ?_)
                 | (refine Sl.ln (Own.sl (by assumption)) ?_)
                 | (refine Ints.ix (Own.sl (by assumption)) (by omega) ?_)
                 | (refine Ints.ixI (Own.sl (by assumption)) (by omega) ?_)
                 | (refine Ints.ld (Own.sl (by assumption)) (by omega) ?_))
        all_goals first
          | (rw [tf_f (p := abv rr a b) (fun h => by have := h.1 c (by omega); unfold ownB at this; omega)]; exact ⟨rfl, EE⟩)
          | (refine ⟨_, (by omega : rr.length - (c + 1) < rr.length - c), rfl, c + 1, by omega, rfl, rfl, (congrArg Value.bool (tfb_new (by unfold ownB; omega))), all_succ hv (by unfold ownB; omega), rfl⟩)
          | (refine ⟨_, (by omega : rr.length - (c + 1) < rr.length - c), rfl, c + 1, by omega, rfl, rfl, (congrArg Value.bool (tfb_no hy (by unfold ownB; omega))), all_succ hv (by unfold ownB; omega), rfl⟩)
    · obtain rfl : c = rr.length := by omega
      repeat' (conv => whnf
               first
               | (refine Dr.quiet tyOk (by kernel_rfl) ?_)
               | (refine Rng.mk (by omega) ?_)
               | (refine Split.pos (by omega) ?_)
               | (refine Split.neg (by omega) ?_)
               | (refine Split.mk (fun h => ?_) (fun h => ?_))
               | (refine Need.mk (by omega) ?_)
               | (refine Ints.ln (by assumption) ?_)
               | (refine Mat.ln (by assumption) ?_)
               | (refine Ints.ln (Mat.row (by assumption) _ (by omega)) ?_)
               | (refine Ints.ix (by assumption) (by omega) ?_)
               | (refine Mat.ix (by assumption) (by omega) ?_)
               | (refine Ints.ix (Mat.row (by assumption) _ (by omega)) (by omega) ?_)
               | (refine Ints.ix (c := 0) (by assumption) (by omega) ?_)
               | (refine Mat.ix (c := 0) (by assumption) (by omega) ?_)
               | (refine Ints.ix (c := 0) (Mat.row (by assumption) _ (by omega)) (by omega) ?_)
               | (refine Ints.ixI (by assumption) (by omega) ?_)
               | (refine Mat.ixI (by assumption) (by omega) ?_)
               | (refine Ints.ixI (Mat.row (by assumption) _ (by omega)) (by omega) ?_)
               | (refine Ints.ld (by assumption) (by omega) ?_)
               | (refine Mat.ld (by assumption) (by omega) ?_)
               | (refine Ints.ld (Mat.row (by assumption) _ (by omega)) (by omega) ?_)
               | (refine At.ld (by assumption) rfl ?_)
               | (refine At.ldN (by assumption) rfl ?_))
      rw [show abv rr a b ↔ (∃ i, i < rr.length ∧ ownB rr a i < ownB rr b i) from ⟨fun h => h.2, fun h => ⟨fun i hi => hv i hi, h⟩⟩]
      exact ⟨rfl, EE⟩
end Go.Proofs.Ytebklnmafjbhcaa
set_option linter.unusedVariables false
set_option linter.unusedSimpArgs false
namespace Go.Proofs.Ytebklnmafjbhcaa
open Go.Eng
set_option maxRecDepth 100000
set_option maxHeartbeats 4000000

def ownTo (rr : List (List Int)) (a : List Int) (c : Nat) : List Int := mk rr.length fun i => worth a (rr.getD i []) i c
theorem ownTo_len (rr : List (List Int)) (a : List Int) (c : Nat) : (ownTo rr a c).length = rr.length := mk_len _ _
theorem ownTo_get {rr : List (List Int)} {a : List Int} {c i : Nat} (h : i < rr.length) : (ownTo rr a c).getD i 0 = worth a (rr.getD i []) i c := mk_get 0 h
theorem ownTo_set {rr : List (List Int)} {a : List Int} {c i : Nat} (h : i < rr.length) (e : a.getD c 0 = i) : (ownTo rr a c).set i ((ownTo rr a c).getD i 0 + (rr.getD i []).getD c 0) = ownTo rr a (c + 1) := by
  refine ext_getD 0 (by rw [List.length_set, ownTo_len, ownTo_len]) fun k hk => ?_
  rw [List.length_set, ownTo_len] at hk
  rw [ownTo_get hk, ownTo_get h]
  by_cases ek : k = i
  · subst ek
    simp [List.getD, ownTo_len, h, worth] at e ⊢
    simp [e]
  · have : ((ownTo rr a c).set i (worth a (rr.getD i []) i c + (rr.getD i []).getD c 0)).getD k 0 = (ownTo rr a c).getD k 0 := by
      simp [List.getD, List.getElem?_set, Ne.symm ek]
    rw [this, ownTo_get hk]
    show _ = worth a (rr.getD k []) k c + if a.getD c 0 = k then _ else 0
    rw [if_neg (by omega), Int.add_zero]
theorem ownTo_skip {rr : List (List Int)} {a : List Int} {c : Nat} (h : a.getD c 0 < 0) : ownTo rr a (c + 1) = ownTo rr a c := by
  refine ext_getD 0 (by rw [ownTo_len, ownTo_len]) fun k hk => ?_
  rw [ownTo_len] at hk
  rw [ownTo_get hk, ownTo_get hk]
  show worth a (rr.getD k []) k c + (if a.getD c 0 = k then _ else 0) = _
  rw [if_neg (by omega), Int.add_zero]
theorem ownTo_zero (rr : List (List Int)) (a : List Int) : List.replicate rr.length 0 = ownTo rr a 0 := by
  refine ext_getD 0 (by rw [ownTo_len, List.length_replicate]) fun k hk => ?_
  rw [List.length_replicate] at hk
  rw [ownTo_get hk]
  simp [List.getD, hk, worth]
theorem ownTo_full (rr : List (List Int)) (a : List Int) : ownTo rr a a.length = ownV rr a := rfl

theorem ris_pc {w : World} {gv av bv : Value} {vs : List Value} {rr : List (List Int)} {a b : List Int} (Hg : Mat w gv vs rr) (Ha : Ints w av a) (Hb : Ints w bv b) :
    PC Try.prog 17 [.agg #[gv], av, bv] w (.tuple #[.bool (if vld rr a = 0 ∧ vld rr b = 0 then tf (abv rr a b) else false), .int .i64 (if vld rr a = 0 then vld rr b else vld rr a)]) := by
  refine PC.mk tyOk Try.func17 rfl (by kernel_rfl) fun w1 E1 => ?_
  replace Hg := Hg.ext E1
  replace Ha := Ha.ext E1
  replace Hb := Hb.ext E1
  have EE := Ext.refl w1
  refine Bx.agg fun b2 w2 E2 hb2 Hx _ => ?_
  replace Hg := Hg.ext E2
  replace Ha := Ha.ext E2
  replace Hb := Hb.ext E2
  replace EE := EE.ext E2
  have ca := rvalid_pc Hg Ha
  have cb := rvalid_pc Hg Hb
  by_cases h1 : vld rr a = 0
  · rw [h1] at ca
    by_cases h2 : vld rr b = 0
    · rw [h2] at cb
      have cc := rabove_pc Hg Ha Hb h1 h2
      repeat' (conv => whnf
               first
               | (refine Dr.quiet tyOk (by kernel_rfl) ?_)
               | (refine VC.pure ca ?_)
               | (refine VC.pure cb ?_)
               | (refine VC.pure cc ?_)
               | (refine Rng.mk (by omega) ?_)
               | (refine Split.pos (by omega) ?_)
               | (refine Split.neg (by omega) ?_)
               | (refine Split.mk (fun h => ?_) (fun h => ?_))
               | (refine Need.mk (by omega) ?_)
               | (refine Ints.ln (by assumption) ?_)
               | (refine Mat.ln (by assumption) ?_)
               | (refine Ints.ln (Mat.row (by assumption) _ (by omega)) ?_)
               | (refine Ints.ix (by assumption) (by omega) ?_)
               | (refine Mat.ix (by assumption) (by omega) ?_)
               | (refine Ints.ix (Mat.row (by assumption) _ (by omega)) (by omega) ?_)
               | (refine Ints.ix (c := 0) (by assumption) (by omega) ?_)
               | (refine Mat.ix (c := 0) (by assumption) (by omega) ?_)
               | (refine Ints.ix (c := 0) (Mat.row (by assumption) _ (by omega)) (by omega) ?_)
               | (refine Ints.ixI (by assumption) (by omega) ?_)
               | (refine Mat.ixI (by assumption) (by omega) ?_)
               | (refine Ints.ixI (Mat.row (by assumption) _ (by omega)) (by omega) ?_)
               | (refine Ints.ld (by assumption) (by omega) ?_)
               | (refine Mat.ld (by assumption) (by omega) ?_)
               | (refine Ints.ld (Mat.row (by assumption) _ (by omega)) (by omega) ?_)
               | (refine At.ld (by assumption) rfl ?_)
               | (refine At.ldN (by assumption) rfl ?_)
               | (refine Prs.ln (by assumption) ?_)
               | (refine Trs.ln (by assumption) ?_)
               | (refine Prs.ix (by assumption) (by omega) ?_)
               | (refine Trs.ix (by assumption) (by omega) ?_)
               | (refine Prs.ldN (by assumption) (by omega) ?_)
               | (refine Trs.ldN (by assumption) (by omega) ?_)
               | (refine At.ldN (Blk.at (by assumption)) rfl ?_)
               | (refine At.ld (Blk.at (by assumption)) rfl ?_)
               | (refine IxA.mk (by omega) ?_)
               | (refine Sl.ln (Own.sl (by assumption)) ?_)
               | (refine Ints.ix (Own.sl (by assumption)) (by omega) ?_)
               | (refine Ints.ixI (Own.sl (by assumption)) (by omega) ?_)
               | (refine Ints.ld (Own.sl (by assumption)) (by omega) ?_))
      rw [if_pos ⟨h1, h2⟩, if_pos h1, h2]; exact ⟨rfl, EE⟩
    · repeat' (conv => whnf
               first
               | (refine Dr.quiet tyOk (by kernel_rfl) ?_)
               | (refine VC.pure ca ?_)
               | (refine VC.pure cb ?_)
               | (refine Rng.mk (by omega) ?_)
               | (refine Split.pos (by omega) ?_)
               | (refine Split.neg (by omega) ?_)
               | (refine Split.mk (fun h => ?_) (fun h => ?_))
               | (refine Need.mk (by omega) ?_)
               | (refine Ints.ln (by assumption) ?_)
               | (refine Mat.ln (by assumption) ?_)
               | (refine Ints.ln (Mat.row (by assumption) _ (by omega)) ?_)
               | (refine Ints.ix (by assumption) (by omega) ?_)
               | (refine Mat.ix (by assumption) (by omega) ?_)
               | (refine Ints.ix (Mat.row (by assumption) _ (by omega)) (by omega) ?_)
               | (refine Ints.ix (c := 0) (by assumption) (by omega) ?_)
               | (refine Mat.ix (c := 0) (by assumption) (by omega) ?_)
               | (refine Ints.ix (c := 0) (Mat.row (by assumption) _ (by omega)) (by omega) ?_)
               | (refine Ints.ixI (by assumption) (by omega) ?_)
               | (refine Mat.ixI (by assumption) (by omega) ?_)
               | (refine Ints.ixI (Mat.row (by assumption) _ (by omega)) (by omega) ?_)
               | (refine Ints.ld (by assumption) (by omega) ?_)
               | (refine Mat.ld (by assumption) (by omega) ?_)
               | (refine Ints.ld (Mat.row (by assumption) _ (by omega)) (by omega) ?_)
               | (refine At.ld (by assumption) rfl ?_)
               | (refine At.ldN (by assumption) rfl ?_)
               | (refine Prs.ln (by assumption) ?_)
               | (refine Trs.ln (by assumption) ?_)
               | (refine Prs.ix (by assumption) (by omega) ?_)
               | (refine Trs.ix (by assumption) (by omega) ?_)
               | (refine Prs.ldN (by assumption) (by omega) ?_)
               | (refine Trs.ldN (by assumption) (by omega) ?_)
               | (refine At.ldN (Blk.at (by assumption)) rfl ?_)
               | (refine At.ld (Blk.at (by assumption)) rfl ?_)
               | (refine IxA.mk (by omega) ?_)
               | (refine Sl.ln (Own.sl (by assumption)) ?_)
               | (refine Ints.ix (Own.sl (by assumption)) (by omega) ?_)
               | (refine Ints.ixI (Own.sl (by assumption)) (by omega) ?_)
               | (refine Ints.ld (Own.sl (by assumption)) (by omega) ?_))
      rw [if_neg (fun h => h2 h.2), if_pos h1]; exact ⟨rfl, EE⟩
  · repeat' (conv => whnf
             first
             | (refine Dr.quiet tyOk (by kernel_rfl) ?_)
             | (refine VC.pure ca ?_)
             | (refine Rng.mk (by omega) ?_)
             | (refine Split.pos (by omega) ?_)
             | (refine Split.neg (by omega) ?_)
             | (refine Split.mk (fun h => ?_) (fun h => ?_))
             | (refine Need.mk (by omega) ?_)
             | (refine Ints.ln (by assumption) ?_)
             | (refine Mat.ln (by assumption) ?_)
             | (refine Ints.ln (Mat.row (by assumption) _ (by omega)) ?_)
             | (refine Ints.ix (by assumption) (by omega) ?_)
             | (refine Mat.ix (by assumption) (by omega) ?_)
             | (refine Ints.ix (Mat.row (by assumption) _ (by omega)) (by omega) ?_)
             | (refine Ints.ix (c := 0) (by assumption) (by omega) ?_)
             | (refine Mat.ix (c := 0) (by assumption) (by omega) ?_)
             | (refine Ints.ix (c := 0) (Mat.row (by assumption) _ (by omega)) (by omega) ?_)
             | (refine Ints.ixI (by assumption) (by omega) ?_)
             | (refine Mat.ixI (by assumption) (by omega) ?_)
             | (refine Ints.ixI (Mat.row (by assumption) _ (by omega)) (by omega) ?_)
             | (refine Ints.ld (by assumption) (by omega) ?_)
             | (refine Mat.ld (by assumption) (by omega) ?_)
             | (refine Ints.ld (Mat.row (by assumption) _ (by omega)) (by omega) ?_)
             | (refine At.ld (by assumption) rfl ?_)
             | (refine At.ldN (by assumption) rfl ?_)
             | (refine Prs.ln (by assumption) ?_)
             | (refine Trs.ln (by assumption) ?_)
             | (refine Prs.ix (by assumption) (by omega) ?_)
             | (refine Trs.ix (by assumption) (by omega) ?_)
             | (refine Prs.ldN (by assumption) (by omega) ?_)
             | (refine Trs.ldN (by assumption) (by omega) ?_)
             | (refine At.ldN (Blk.at (by assumption)) rfl ?_)
             | (refine At.ld (Blk.at (by assumption)) rfl ?_)
             | (refine IxA.mk (by omega) ?_)
             | (refine Sl.ln (Own.sl (by assumption)) ?_)
             | (refine Ints.ix (Own.sl (by assumption)) (by omega) ?_)
             | (refine Ints.ixI (Own.sl (by assumption)) (by omega) ?_)
             | (refine Ints.ld (Own.sl (by assumption)) (by omega) ?_))
    rw [if_neg (fun h => h1 h.1), if_neg h1]; exact ⟨rfl, EE⟩

theorem owns_rc {w : World} {gv av : Value} {vs : List Value} {rr : List (List Int)} {a : List Int} (Hg : Mat w gv vs rr) (Ha : Ints w av a) (hv : vld rr a = 0) :
    RC Try.prog 60 [.agg #[gv], av] w NoB (fun u w' => OB w.heap.size w' u (ownV rr a)) := by
  refine RC.mk tyOk Try.func60 rfl (by kernel_rfl) fun w1 E1 => ?_
  replace Hg := Hg.ext E1
  replace Ha := Ha.ext E1
  have EE := Ext.refl w1
  have hal := al_of_vld hv
  have hn := hal.n6
  have hm := hal.m10
  have hlen := hal.len
  refine Bx.agg fun b2 w2 E2 hb2 Hb _ => ?_
  replace Hg := Hg.ext E2
  replace Ha := Ha.ext E2
  replace EE := EE.ext E2
  have hz1 := EE.size
  have hz0 : w.heap.size ≤ w1.heap.size := by first | omega | exact E1.size
  repeat' (conv => whnf
           first
           | (refine Dr.quiet tyOk (by kernel_rfl) ?_)
           | (refine Rng.mk (by omega) ?_)
           | (refine Split.pos (by omega) ?_)
           | (refine Split.neg (by omega) ?_)
           | (refine Split.mk (fun h => ?_) (fun h => ?_))
           | (refine Need.mk (by omega) ?_)
           | (refine Ints.ln (by assumption) ?_)
           | (refine Mat.ln (by assumption) ?_)
           | (refine Ints.ln (Mat.row (by assumption) _ (by omega)) ?_)
           | (refine Ints.ix (by assumption) (by omega) ?_)
           | (refine Mat.ix (by assumption) (by omega) ?_)
           | (refine Ints.ix (Mat.row (by assumption) _ (by omega)) (by omega) ?_)
           | (refine Ints.ix (c := 0) (by assumption) (by omega) ?_)
           | (refine Mat.ix (c := 0) (by assumption) (by omega) ?_)
           | (refine Ints.ix (c := 0) (Mat.row (by assumption) _ (by omega)) (by omega) ?_)
           | (refine Ints.ixI (by assumption) (by omega) ?_)
           | (refine Mat.ixI (by assumption) (by omega) ?_)
           | (refine Ints.ixI (Mat.row (by assumption) _ (by omega)) (by omega) ?_)
           | (refine Ints.ld (by assumption) (by omega) ?_)
           | (refine Mat.ld (by assumption) (by omega) ?_)
           | (refine Ints.ld (Mat.row (by assumption) _ (by omega)) (by omega) ?_)
           | (refine At.ld (by assumption) rfl ?_)
           | (refine At.ldN (by assumption) rfl ?_)
           | (refine Prs.ln (by assumption) ?_)
           | (refine Trs.ln (by assumption) ?_)
           | (refine Prs.ix (by assumption) (by omega) ?_)
           | (refine Trs.ix (by assumption) (by omega) ?_)
           | (refine Prs.ldN (by assumption) (by omega) ?_)
           | (refine Trs.ldN (by assumption) (by omega) ?_)
           | (refine At.ldN (Blk.at (by assumption)) rfl ?_)
           | (refine At.ld (Blk.at (by assumption)) rfl ?_)
           | (refine IxA.mk (by omega) ?_)
           | (refine Sl.ln (Own.sl (by assumption)) ?_)
           | (refine Ints.ix (Own.sl (by assumption)) (by omega) ?_)
           | (refine Ints.ixI (Own.sl (by assumption)) (by omega) ?_)
           | (refine Ints.ld (Own.sl (by assumption)) (by omega) ?_))
  have Hg__1 := Hg
  have Ha__1 := Ha
  have EE__1 := EE
  have Hb__1 := Hb
  conv => whnf
  refine VE.made (n := rr.length) Try.underlying25 eInt rfl (by omega) (by omega) fun rv w3 E3 Ho hb_rv => ?_
  replace Hg := Hg.ext E3
  replace Ha := Ha.ext E3
  replace EE := EE.ext E3
  replace Hb := Hb.ext E3
  replace Ho := OB.made (Ho _ (Nat.le_refl _))
  have EL1 := E3
  rw [ownTo_zero rr a] at Ho
  repeat' (conv => whnf
           first
           | (refine Dr.quiet tyOk (by kernel_rfl) ?_)
           | (refine Rng.mk (by omega) ?_)
           | (refine Split.pos (by omega) ?_)
           | (refine Split.neg (by omega) ?_)
           | (refine Split.mk (fun h => ?_) (fun h => ?_))
           | (refine Need.mk (by omega) ?_)
           | (refine Ints.ln (by assumption) ?_)
           | (refine Mat.ln (by assumption) ?_)
           | (refine Ints.ln (Mat.row (by assumption) _ (by omega)) ?_)
           | (refine Ints.ix (by assumption) (by omega) ?_)
           | (refine Mat.ix (by assumption) (by omega) ?_)
           | (refine Ints.ix (Mat.row (by assumption) _ (by omega)) (by omega) ?_)
           | (refine Ints.ix (c := 0) (by assumption) (by omega) ?_)
           | (refine Mat.ix (c := 0) (by assumption) (by omega) ?_)
           | (refine Ints.ix (c := 0) (Mat.row (by assumption) _ (by omega)) (by omega) ?_)
           | (refine Ints.ixI (by assumption) (by omega) ?_)
           | (refine Mat.ixI (by assumption) (by omega) ?_)
           | (refine Ints.ixI (Mat.row (by assumption) _ (by omega)) (by omega) ?_)
           | (refine Ints.ld (by assumption) (by omega) ?_)
           | (refine Mat.ld (by assumption) (by omega) ?_)
           | (refine Ints.ld (Mat.row (by assumption) _ (by omega)) (by omega) ?_)
           | (refine At.ld (by assumption) rfl ?_)
           | (refine At.ldN (by assumption) rfl ?_)
           | (refine Prs.ln (by assumption) ?_)
           | (refine Trs.ln (by assumption) ?_)
           | (refine Prs.ix (by assumption) (by omega) ?_)
           | (refine Trs.ix (by assumption) (by omega) ?_)
           | (refine Prs.ldN (by assumption) (by omega) ?_)
           | (refine Trs.ldN (by assumption) (by omega) ?_)
           | (refine At.ldN (Blk.at (by assumption)) rfl ?_)
           | (refine At.ld (Blk.at (by assumption)) rfl ?_)
           | (refine IxA.mk (by omega) ?_)
           | (refine Sl.ln (Own.sl (by assumption)) ?_)
           | (refine Ints.ix (Own.sl (by assumption)) (by omega) ?_)
           | (refine Ints.ixI (Own.sl (by assumption)) (by omega) ?_)
           | (refine Ints.ld (Own.sl (by assumption)) (by omega) ?_))
  refine Lp.mk tyOk [false, false, false, false, false, false, true, true, false, false, false, false, false, false, true, true, true, true, true, true, true, true, true, true, true, true, true, true, true, true, true, true, true, true, true, true] (fun m fr wr => getK fr 14 fun j => ∃ c : Nat, c ≤ a.length ∧ m = a.length - c ∧ j = .int .i64 (c : Int) ∧ (OB w2.heap.size wr rv (ownTo rr a c)) ∧ Ext w2 wr) (a.length) ?_ ?_
  · exact ⟨0, Nat.zero_le _, rfl, rfl, Ho, EL1⟩
  · intro m w4 u6 u7 u14 u15 u16 u17 u18 u19 u20 u21 u22 u23 u24 u25 u26 u27 u28 u29 u30 u31 u32 u33 u34 u35 hR
    obtain ⟨c, hc, rfl, rfl, Ho, EL1⟩ := hR
    replace Hg := Hg__1.ext EL1
    replace Ha := Ha__1.ext EL1
    replace EE := EE__1.ext EL1
    replace Hb := Hb__1.ext EL1
    have hchk := hal.rng c
    have hol := ownTo_len rr a c
    by_cases hcl : c < a.length
    · have hck := hchk (by omega)
      by_cases h0 : 0 ≤ a.getD c 0
      · have hi : a.getD c 0 = ((a.getD c 0).toNat : Int) := by omega
        have hil : (a.getD c 0).toNat < rr.length := by omega
        have hval := hal.val (a.getD c 0).toNat c
        have hrc := hal.row (a.getD c 0).toNat hil
        have hvd : (rr.getD (a.getD c 0).toNat []).getD c 0 = val rr (a.getD c 0).toNat c := rfl
        have hob := ownTo_get (rr := rr) (a := a) (c := c) hil
        have hbd := worth_bd (a := a) (k := ((a.getD c 0).toNat : Int)) (fun j => hal.val (a.getD c 0).toNat j) c
        repeat' (conv => whnf
                 first
                 | (refine Dr.tail 12 tyOk (by kernel_rfl) ?_)
                 | (refine Rng.mk (by omega) ?_)
                 | (refine Split.pos (by omega) ?_)
                 | (refine Split.neg (by omega) ?_)
                 | (refine Split.mk (fun h => ?_) (fun h => ?_))
                 | (refine Need.mk (by omega) ?_)
                 | (refine Ints.ln (by assumption) ?_)
                 | (refine Mat.ln (by assumption) ?_)
                 | (refine Ints.ln (Mat.row (by assumption) _ (by omega)) ?_)
                 | (refine Ints.ix (by assumption) (by omega) ?_)
                 | (refine Mat.ix (by assumption) (by omega) ?_)
                 | (refine Ints.ix (Mat.row (by assumption) _ (by omega)) (by omega) ?_)
                 | (refine Ints.ix (c := 0) (by assumption) (by omega) ?_)
                 | (refine Mat.ix (c := 0) (by assumption) (by omega) ?_)
                 | (refine Ints.ix (c := 0) (Mat.row (by assumption) _ (by omega)) (by omega) ?_)
                 | (refine Ints.ixI (by assumption) (by omega) ?_)
                 | (refine Mat.ixI (by assumption) (by omega) ?_)
                 | (refine Ints.ixI (Mat.row (by assumption) _ (by omega)) (by omega) ?_)
                 | (refine Ints.ld (by assumption) (by omega) ?_)
                 | (refine Mat.ld (by assumption) (by omega) ?_)
                 | (refine Ints.ld (Mat.row (by assumption) _ (by omega)) (by omega) ?_)
                 | (refine At.ld (by assumption) rfl ?_)
                 | (refine At.ldN (by assumption) rfl ?_)
                 | (refine Prs.ln (by assumption) ?_)
                 | (refine Trs.ln (by assumption) ?_)
                 | (refine Prs.ix (by assumption) (by omega) ?_)
                 | (refine Trs.ix (by assumption) (by omega) ?_)
                 | (refine Prs.ldN (by assumption) (by omega) ?_)
                 | (refine Trs.ldN (by assumption) (by omega) ?_)
                 | (refine At.ldN (Blk.at (by assumption)) rfl ?_)
                 | (refine At.ld (Blk.at (by assumption)) rfl ?_)
                 | (refine IxA.mk (by omega) ?_)
                 | (refine Sl.ln (Own.sl (by assumption)) ?_)
                 | (refine Ints.ix (Own.sl (by assumption)) (by omega) ?_)
                 | (refine Ints.ixI (Own.sl (by assumption)) (by omega) ?_)
                 | (refine Ints.ld (Own.sl (by assumption)) (by omega) ?_))
        refine OB.set Ho (by omega) fun w5 G5 Ho' => ?_
        have E5 : Ext w2 w5 := Own.keep Ho EL1 (Nat.le_refl _) G5
        replace Ho := Ho'
        replace Hg := Hg__1.ext E5
        replace Ha := Ha__1.ext E5
        replace EE := EE__1.ext E5
        replace Hb := Hb__1.ext E5
        replace EL1 := E5
        repeat' (conv => whnf
                 first
                 | (refine Dr.quiet tyOk (by kernel_rfl) ?_)
                 | (refine Rng.mk (by omega) ?_)
                 | (refine Split.pos (by omega) ?_)
                 | (refine Split.neg (by omega) ?_)
                 | (refine Split.mk (fun h => ?_) (fun h => ?_))
                 | (refine Need.mk (by omega) ?_)
                 | (refine Ints.ln (by assumption) ?_)
                 | (refine Mat.ln (by assumption) ?_)
                 | (refine Ints.ln (Mat.row (by assumption) _ (by omega)) ?_)
                 | (refine Ints.ix (by assumption) (by omega) ?_)
                 | (refine Mat.ix (by assumption) (by omega) ?_)
                 | (refine Ints.ix (Mat.row (by assumption) _ (by omega)) (by omega) ?_)
                 | (refine Ints.ix (c := 0) (by assumption) (by omega) ?_)
                 | (refine Mat.ix (c := 0) (by assumption) (by omega) ?_)
                 | (refine Ints.ix (c := 0) (Mat.row (by assumption) _ (by omega)) (by omega) ?_)
                 | (refine Ints.ixI (by assumption) (by omega) ?_)
                 | (refine Mat.ixI (by assumption) (by omega) ?_)
                 | (refine Ints.ixI (Mat.row (by assumption) _ (by omega)) (by omega) ?_)
                 | (refine Ints.ld (by assumption) (by omega) ?_)
                 | (refine Mat.ld (by assumption) (by omega) ?_)
                 | (refine Ints.ld (Mat.row (by assumption) _ (by omega)) (by omega) ?_)
                 | (refine At.ld (by assumption) rfl ?_)
                 | (refine At.ldN (by assumption) rfl ?_)
                 | (refine Prs.ln (by assumption) ?_)
                 | (refine Trs.ln (by assumption) ?_)
                 | (refine Prs.ix (by assumption) (by omega) ?_)
                 | (refine Trs.ix (by assumption) (by omega) ?_)
                 | (refine Prs.ldN (by assumption) (by omega) ?_)
                 | (refine Trs.ldN (by assumption) (by omega) ?_)
                 | (refine At.ldN (Blk.at (by assumption)) rfl ?_)
                 | (refine At.ld (Blk.at (by assumption)) rfl ?_)
                 | (refine IxA.mk (by omega) ?_)
                 | (refine Sl.ln (Own.sl (by assumption)) ?_)
                 | (refine Ints.ix (Own.sl (by assumption)) (by omega) ?_)
                 | (refine Ints.ixI (Own.sl (by assumption)) (by omega) ?_)
                 | (refine Ints.ld (Own.sl (by assumption)) (by omega) ?_))
        rw [ownTo_set hil hi] at Ho
        refine ⟨_, (by omega : a.length - (c + 1) < a.length - c), rfl, c + 1, by omega, rfl, rfl, Ho, EL1⟩
      · repeat' (conv => whnf
                 first
                 | (refine Dr.quiet tyOk (by kernel_rfl) ?_)
                 | (refine Rng.mk (by omega) ?_)
                 | (refine Split.pos (by omega) ?_)
                 | (refine Split.neg (by omega) ?_)
                 | (refine Split.mk (fun h => ?_) (fun h => ?_))
                 | (refine Need.mk (by omega) ?_)
                 | (refine Ints.ln (by assumption) ?_)
                 | (refine Mat.ln (by assumption) ?_)
                 | (refine Ints.ln (Mat.row (by assumption) _ (by omega)) ?_)
                 | (refine Ints.ix (by assumption) (by omega) ?_)
                 | (refine Mat.ix (by assumption) (by omega) ?_)
                 | (refine Ints.ix (Mat.row (by assumption) _ (by omega)) (by omega) ?_)
                 | (refine Ints.ix (c := 0) (by assumption) (by omega) ?_)
                 | (refine Mat.ix (c := 0) (by assumption) (by omega) ?_)
                 | (refine Ints.ix (c := 0) (Mat.row (by assumption) _ (by omega)) (by omega) ?_)
                 | (refine Ints.ixI (by assumption) (by omega) ?_)
                 | (refine Mat.ixI (by assumption) (by omega) ?_)
                 | (refine Ints.ixI (Mat.row (by assumption) _ (by omega)) (by omega) ?_)
                 | (refine Ints.ld (by assumption) (by omega) ?_)
                 | (refine Mat.ld (by assumption) (by omega) ?_)
                 | (refine Ints.ld (Mat.row (by assumption) _ (by omega)) (by omega) ?_)
                 | (refine At.ld (by assumption) rfl ?_)
                 | (refine At.ldN (by assumption) rfl ?_)
                 | (refine Prs.ln (by assumption) ?_)
                 | (refine Trs.ln (by assumption) ?_)
                 | (refine Prs.ix (by assumption) (by omega) ?_)
                 | (refine Trs.ix (by assumption) (by omega) ?_)
                 | (refine Prs.ldN (by assumption) (by omega) ?_)
                 | (refine Trs.ldN (by assumption) (by omega) ?_)
                 | (refine At.ldN (Blk.at (by assumption)) rfl ?_)
                 | (refine At.ld (Blk.at (by assumption)) rfl ?_)
                 | (refine IxA.mk (by omega) ?_)
                 | (refine Sl.ln (Own.sl (by assumption)) ?_)
                 | (refine Ints.ix (Own.sl (by assumption)) (by omega) ?_)
                 | (refine Ints.ixI (Own.sl (by assumption)) (by omega) ?_)
                 | (refine Ints.ld (Own.sl (by assumption)) (by omega) ?_))
        refine ⟨_, (by omega : a.length - (c + 1) < a.length - c), rfl, c + 1, by omega, rfl, rfl, (by rw [ownTo_skip (by omega)]; exact Ho), EL1⟩
    · obtain rfl : c = a.length := by omega
      repeat' (conv => whnf
               first
               | (refine Dr.quiet tyOk (by kernel_rfl) ?_)
               | (refine Rng.mk (by omega) ?_)
               | (refine Split.pos (by omega) ?_)
               | (refine Split.neg (by omega) ?_)
               | (refine Split.mk (fun h => ?_) (fun h => ?_))
               | (refine Need.mk (by omega) ?_)
               | (refine Ints.ln (by assumption) ?_)
               | (refine Mat.ln (by assumption) ?_)
               | (refine Ints.ln (Mat.row (by assumption) _ (by omega)) ?_)
               | (refine Ints.ix (by assumption) (by omega) ?_)
               | (refine Mat.ix (by assumption) (by omega) ?_)
               | (refine Ints.ix (Mat.row (by assumption) _ (by omega)) (by omega) ?_)
               | (refine Ints.ix (c := 0) (by assumption) (by omega) ?_)
               | (refine Mat.ix (c := 0) (by assumption) (by omega) ?_)
               | (refine Ints.ix (c := 0) (Mat.row (by assumption) _ (by omega)) (by omega) ?_)
               | (refine Ints.ixI (by assumption) (by omega) ?_)
               | (refine Mat.ixI (by assumption) (by omega) ?_)
               | (refine Ints.ixI (Mat.row (by assumption) _ (by omega)) (by omega) ?_)
               | (refine Ints.ld (by assumption) (by omega) ?_)
               | (refine Mat.ld (by assumption) (by omega) ?_)
               | (refine Ints.ld (Mat.row (by assumption) _ (by omega)) (by omega) ?_)
               | (refine At.ld (by assumption) rfl ?_)
               | (refine At.ldN (by assumption) rfl ?_)
               | (refine Prs.ln (by assumption) ?_)
               | (refine Trs.ln (by assumption) ?_)
               | (refine Prs.ix (by assumption) (by omega) ?_)
               | (refine Trs.ix (by assumption) (by omega) ?_)
               | (refine Prs.ldN (by assumption) (by omega) ?_)
               | (refine Trs.ldN (by assumption) (by omega) ?_)
               | (refine At.ldN (Blk.at (by assumption)) rfl ?_)
               | (refine At.ld (Blk.at (by assumption)) rfl ?_)
               | (refine IxA.mk (by omega) ?_)
               | (refine Sl.ln (Own.sl (by assumption)) ?_)
               | (refine Ints.ix (Own.sl (by assumption)) (by omega) ?_)
               | (refine Ints.ixI (Own.sl (by assumption)) (by omega) ?_)
               | (refine Ints.ld (Own.sl (by assumption)) (by omega) ?_))
      exact ⟨EE, Own.base Ho (Nat.le_trans hz0 hz1)⟩
end Go.Proofs.Ytebklnmafjbhcaa
set_option linter.unusedVariables false
set_option linter.unusedSimpArgs false
namespace Go.Proofs.Ytebklnmafjbhcaa
open Go.Eng
set_option maxRecDepth 100000
set_option maxHeartbeats 4000000

theorem abvV_own {rr : List (List Int)} {a b : List Int} : abvV (ownV rr a).length (fun i => (ownV rr a).getD i 0) (fun i => (ownV rr b).getD i 0) = abv rr a b := by
  have e : ∀ i, i < rr.length → (ownV rr a).getD i 0 = ownB rr a i ∧ (ownV rr b).getD i 0 = ownB rr b i := fun i hi => ⟨ownV_get hi, ownV_get hi⟩
  refine propext ⟨fun h => ⟨fun i hi => ?_, ?_⟩, fun h => ⟨fun i hi => ?_, ?_⟩⟩
  · have := h.1 i (by rw [ownV_len]; exact hi)
    dsimp only at this; rw [(e i hi).1, (e i hi).2] at this; exact this
  · obtain ⟨i, hi, h2⟩ := h.2
    rw [ownV_len] at hi
    dsimp only at h2; rw [(e i hi).1, (e i hi).2] at h2
    exact ⟨i, hi, h2⟩
  · rw [ownV_len] at hi
    dsimp only; rw [(e i hi).1, (e i hi).2]; exact h.1 i hi
  · obtain ⟨i, hi, h2⟩ := h.2
    refine ⟨i, by rw [ownV_len]; exact hi, ?_⟩
    dsimp only; rw [(e i hi).1, (e i hi).2]; exact h2
theorem is_pc {w : World} {gv av bv : Value} {vs : List Value} {rr : List (List Int)} {a b : List Int} (Hg : Mat w gv vs rr) (Ha : Ints w av a) (Hb : Ints w bv b) :
    PC Try.prog 16 [.agg #[gv], av, bv] w (.tuple #[.bool (if vld rr a = 0 ∧ vld rr b = 0 then tf (abv rr a b) else false), .int .i64 (if vld rr a = 0 then vld rr b else vld rr a)]) := by
  refine PC.mk tyOk Try.func16 rfl (by kernel_rfl) fun w1 E1 => ?_
  replace Hg := Hg.ext E1
  replace Ha := Ha.ext E1
  replace Hb := Hb.ext E1
  have EE := Ext.refl w1
  refine Bx.agg fun b2 w2 E2 hb2 Hx _ => ?_
  replace Hg := Hg.ext E2
  replace Ha := Ha.ext E2
  replace Hb := Hb.ext E2
  replace EE := EE.ext E2
  have ca := gvalid_pc Hg Ha
  have cb := gvalid_pc Hg Hb
  by_cases h1 : vld rr a = 0
  · rw [h1] at ca
    by_cases h2 : vld rr b = 0
    · rw [h2] at cb
      repeat' (conv => whnf
               first
               | (refine Dr.plan 22 [] (.q 0 (.q 1 (.q 3 (.q 4 (.e 2 (.e 5 (.e 6 (.q 7 (.q 8 .nil)) .nil) .nil) .nil))))) tyOk rfl (by kernel_rfl) ?_)
               | (refine Dr.quiet tyOk (by kernel_rfl) ?_)
               | (refine VC.pure ca ?_)
               | (refine VC.pure cb ?_)
               | (refine Rng.mk (by omega) ?_)
               | (refine Split.pos (by omega) ?_)
               | (refine Split.neg (by omega) ?_)
               | (refine Split.mk (fun h => ?_) (fun h => ?_))
               | (refine Need.mk (by omega) ?_)
               | (refine Ints.ln (by assumption) ?_)
               | (refine Mat.ln (by assumption) ?_)
               | (refine Ints.ln (Mat.row (by assumption) _ (by omega)) ?_)
               | (refine Ints.ix (by assumption) (by omega) ?_)
               | (refine Mat.ix (by assumption) (by omega) ?_)
               | (refine Ints.ix (Mat.row (by assumption) _ (by omega)) (by omega) ?_)
               | (refine Ints.ix (c := 0) (by assumption) (by omega) ?_)
               | (refine Mat.ix (c := 0) (by assumption) (by omega) ?_)
               | (refine Ints.ix (c := 0) (Mat.row (by assumption) _ (by omega)) (by omega) ?_)
               | (refine Ints.ixI (by assumption) (by omega) ?_)
               | (refine Mat.ixI (by assumption) (by omega) ?_)
               | (refine Ints.ixI (Mat.row (by assumption) _ (by omega)) (by omega) ?_)
               | (refine Ints.ld (by assumption) (by omega) ?_)
               | (refine Mat.ld (by assumption) (by omega) ?_)
               | (refine Ints.ld (Mat.row (by assumption) _ (by omega)) (by omega) ?_)
               | (refine At.ld (by assumption) rfl ?_)
               | (refine At.ldN (by assumption) rfl ?_)
               | (refine Prs.ln (by assumption) ?_)
               | (refine Trs.ln (by assumption) ?_)
               | (refine Prs.ix (by assumption) (by omega) ?_)
               | (refine Trs.ix (by assumption) (by omega) ?_)
               | (refine Prs.ldN (by assumption) (by omega) ?_)
               | (refine Trs.ldN (by assumption) (by omega) ?_)
               | (refine At.ldN (Blk.at (by assumption)) rfl ?_)
               | (refine At.ld (Blk.at (by assumption)) rfl ?_)
               | (refine IxA.mk (by omega) ?_)
               | (refine Sl.ln (Own.sl (by assumption)) ?_)
               | (refine Ints.ix (Own.sl (by assumption)) (by omega) ?_)
               | (refine Ints.ixI (Own.sl (by assumption)) (by omega) ?_)
               | (refine Ints.ld (Own.sl (by assumption)) (by omega) ?_))
      refine VCX.rc (owns_rc Hg Ha h1) ?_
      rintro _ w3 E3 HA
      replace Hg := Hg.ext E3
      replace Ha := Ha.ext E3
      replace Hb := Hb.ext E3
      replace EE := EE.ext E3
      replace Hx := Hx.ext E3
      repeat' (conv => whnf
               first
               | (refine Dr.plan 22 [] (.q 0 (.q 1 (.q 3 (.q 4 (.e 2 (.e 5 (.e 6 (.q 7 (.q 8 .nil)) .nil) .nil) .nil))))) tyOk rfl (by kernel_rfl) ?_)
               | (refine Dr.quiet tyOk (by kernel_rfl) ?_)
               | (refine Rng.mk (by omega) ?_)
               | (refine Split.pos (by omega) ?_)
               | (refine Split.neg (by omega) ?_)
               | (refine Split.mk (fun h => ?_) (fun h => ?_))
               | (refine Need.mk (by omega) ?_)
               | (refine Ints.ln (by assumption) ?_)
               | (refine Mat.ln (by assumption) ?_)
               | (refine Ints.ln (Mat.row (by assumption) _ (by omega)) ?_)
               | (refine Ints.ix (by assumption) (by omega) ?_)
               | (refine Mat.ix (by assumption) (by omega) ?_)
               | (refine Ints.ix (Mat.row (by assumption) _ (by omega)) (by omega) ?_)
               | (refine Ints.ix (c := 0) (by assumption) (by omega) ?_)
               | (refine Mat.ix (c := 0) (by assumption) (by omega) ?_)
               | (refine Ints.ix (c := 0) (Mat.row (by assumption) _ (by omega)) (by omega) ?_)
               | (refine Ints.ixI (by assumption) (by omega) ?_)
               | (refine Mat.ixI (by assumption) (by omega) ?_)
               | (refine Ints.ixI (Mat.row (by assumption) _ (by omega)) (by omega) ?_)
               | (refine Ints.ld (by assumption) (by omega) ?_)
               | (refine Mat.ld (by assumption) (by omega) ?_)
               | (refine Ints.ld (Mat.row (by assumption) _ (by omega)) (by omega) ?_)
               | (refine At.ld (by assumption) rfl ?_)
               | (refine At.ldN (by assumption) rfl ?_)
               | (refine Prs.ln (by assumption) ?_)
               | (refine Trs.ln (by assumption) ?_)
               | (refine Prs.ix (by assumption) (by omega) ?_)
               | (refine Trs.ix (by assumption) (by omega) ?_)
               | (refine Prs.ldN (by assumption) (by omega) ?_)
               | (refine Trs.ldN (by assumption) (by omega) ?_)
               | (refine At.ldN (Blk.at (by assumption)) rfl ?_)
               | (refine At.ld (Blk.at (by assumption)) rfl ?_)
               | (refine IxA.mk (by omega) ?_)
               | (refine Sl.ln (Own.sl (by assumption)) ?_)
               | (refine Ints.ix (Own.sl (by assumption)) (by omega) ?_)
               | (refine Ints.ixI (Own.sl (by assumption)) (by omega) ?_)
               | (refine Ints.ld (Own.sl (by assumption)) (by omega) ?_))
      refine VCX.rc (owns_rc Hg Hb h2) ?_
      rintro _ w4 E4 HB
      replace Hg := Hg.ext E4
      replace Ha := Ha.ext E4
      replace Hb := Hb.ext E4
      replace EE := EE.ext E4
      replace Hx := Hx.ext E4
      replace HA := HA.ext E4
      have cc := above_pc (Own.sl HA) (Own.sl HB) (by rw [ownV_len, ownV_len])
      rw [abvV_own] at cc
      repeat' (conv => whnf
               first
               | (refine Dr.plan 22 [] (.q 0 (.q 1 (.q 3 (.q 4 (.e 2 (.e 5 (.e 6 (.q 7 (.q 8 .nil)) .nil) .nil) .nil))))) tyOk rfl (by kernel_rfl) ?_)
               | (refine Dr.quiet tyOk (by kernel_rfl) ?_)
               | (refine VCX.pure cc ?_)
               | (refine Rng.mk (by omega) ?_)
               | (refine Split.pos (by omega) ?_)
               | (refine Split.neg (by omega) ?_)
               | (refine Split.mk (fun h => ?_) (fun h => ?_))
               | (refine Need.mk (by omega) ?_)
               | (refine Ints.ln (by assumption) ?_)
               | (refine Mat.ln (by assumption) ?_)
               | (refine Ints.ln (Mat.row (by assumption) _ (by omega)) ?_)
               | (refine Ints.ix (by assumption) (by omega) ?_)
               | (refine Mat.ix (by assumption) (by omega) ?_)
               | (refine Ints.ix (Mat.row (by assumption) _ (by omega)) (by omega) ?_)
               | (refine Ints.ix (c := 0) (by assumption) (by omega) ?_)
               | (refine Mat.ix (c := 0) (by assumption) (by omega) ?_)
               | (refine Ints.ix (c := 0) (Mat.row (by assumption) _ (by omega)) (by omega) ?_)
               | (refine Ints.ixI (by assumption) (by omega) ?_)
               | (refine Mat.ixI (by assumption) (by omega) ?_)
               | (refine Ints.ixI (Mat.row (by assumption) _ (by omega)) (by omega) ?_)
               | (refine Ints.ld (by assumption) (by omega) ?_)
               | (refine Mat.ld (by assumption) (by omega) ?_)
               | (refine Ints.ld (Mat.row (by assumption) _ (by omega)) (by omega) ?_)
               | (refine At.ld (by assumption) rfl ?_)
               | (refine At.ldN (by assumption) rfl ?_)
               | (refine Prs.ln (by assumption) ?_)
               | (refine Trs.ln (by assumption) ?_)
               | (refine Prs.ix (by assumption) (by omega) ?_)
               | (refine Trs.ix (by assumption) (by omega) ?_)
               | (refine Prs.ldN (by assumption) (by omega) ?_)
               | (refine Trs.ldN (by assumption) (by omega) ?_)
               | (refine At.ldN (Blk.at (by assumption)) rfl ?_)
               | (refine At.ld (Blk.at (by assumption)) rfl ?_)
               | (refine IxA.mk (by omega) ?_)
               | (refine Sl.ln (Own.sl (by assumption)) ?_)
               | (refine Ints.ix (Own.sl (by assumption)) (by omega) ?_)
               | (refine Ints.ixI (Own.sl (by assumption)) (by omega) ?_)
               | (refine Ints.ld (Own.sl (by assumption)) (by omega) ?_))
      rw [if_pos ⟨h1, h2⟩, if_pos h1, h2]; exact ⟨rfl, EE⟩
    · repeat' (conv => whnf
               first
               | (refine Dr.quiet tyOk (by kernel_rfl) ?_)
               | (refine VC.pure ca ?_)
               | (refine VC.pure cb ?_)
               | (refine Rng.mk (by omega) ?_)
               | (refine Split.pos (by omega) ?_)
               | (refine Split.neg (by omega) ?_)
               | (refine Split.mk (fun h => ?_) (fun h => ?_))
               | (refine Need.mk (by omega) ?_)
               | (refine Ints.ln (by assumption) ?_)
               | (refine Mat.ln (by assumption) ?_)
               | (refine Ints.ln (Mat.row (by assumption) _ (by omega)) ?_)
               | (refine Ints.ix (by assumption) (by omega) ?_)
               | (refine Mat.ix (by assumption) (by omega) ?_)
               | (refine Ints.ix (Mat.row (by assumption) _ (by omega)) (by omega) ?_)
               | (refine Ints.ix (c := 0) (by assumption) (by omega) ?_)
               | (refine Mat.ix (c := 0) (by assumption) (by omega) ?_)
               | (refine Ints.ix (c := 0) (Mat.row (by assumption) _ (by omega)) (by omega) ?_)
               | (refine Ints.ixI (by assumption) (by omega) ?_)
               | (refine Mat.ixI (by assumption) (by omega) ?_)
               | (refine Ints.ixI (Mat.row (by assumption) _ (by omega)) (by omega) ?_)
               | (refine Ints.ld (by assumption) (by omega) ?_)
               | (refine Mat.ld (by assumption) (by omega) ?_)
               | (refine Ints.ld (Mat.row (by assumption) _ (by omega)) (by omega) ?_)
               | (refine At.ld (by assumption) rfl ?_)
               | (refine At.ldN (by assumption) rfl ?_)
               | (refine Prs.ln (by assumption) ?_)
               | (refine Trs.ln (by assumption) ?_)
               | (refine Prs.ix (by assumption) (by omega) ?_)
               | (refine Trs.ix (by assumption) (by omega) ?_)
               | (refine Prs.ldN (by assumption) (by omega) ?_)
               | (refine Trs.ldN (by assumption) (by omega) ?_)
               | (refine At.ldN (Blk.at (by assumption)) rfl ?_)
               | (refine At.ld (Blk.at (by assumption)) rfl ?_)
               | (refine IxA.mk (by omega) ?_)
               | (refine Sl.ln (Own.sl (by assumption)) ?_)
               | (refine Ints.ix (Own.sl (by assumption)) (by omega) ?_)
               | (refine Ints.ixI (Own.sl (by assumption)) (by omega) ?_)
               | (refine Ints.ld (Own.sl (by assumption)) (by omega) ?_))
      rw [if_neg (fun h => h2 h.2), if_pos h1]; exact ⟨rfl, EE⟩
  · repeat' (conv => whnf
             first
             | (refine Dr.quiet tyOk (by kernel_rfl) ?_)
             | (refine VC.pure ca ?_)
             | (refine Rng.mk (by omega) ?_)
             | (refine Split.pos (by omega) ?_)
             | (refine Split.neg (by omega) ?_)
             | (refine Split.mk (fun h => ?_) (fun h => ?_))
             | (refine Need.mk (by omega) ?_)
             | (refine Ints.ln (by assumption) ?_)
             | (refine Mat.ln (by assumption) ?_)
             | (refine Ints.ln (Mat.row (by assumption) _ (by omega)) ?_)
             | (refine Ints.ix (by assumption) (by omega) ?_)
             | (refine Mat.ix (by assumption) (by omega) ?_)
             | (refine Ints.ix (Mat.row (by assumption) _ (by omega)) (by omega) ?_)
             | (refine Ints.ix (c := 0) (by assumption) (by omega) ?_)
             | (refine Mat.ix (c := 0) (by assumption) (by omega) ?_)
             | (refine Ints.ix (c := 0) (Mat.row (by assumption) _ (by omega)) (by omega) ?_)
             | (refine Ints.ixI (by assumption) (by omega) ?_)
             | (refine Mat.ixI (by assumption) (by omega) ?_)
             | (refine Ints.ixI (Mat.row (by assumption) _ (by omega)) (by omega) ?_)
             | (refine Ints.ld (by assumption) (by omega) ?_)
             | (refine Mat.ld (by assumption) (by omega) ?_)
             | (refine Ints.ld (Mat.row (by assumption) _ (by omega)) (by omega) ?_)
             | (refine At.ld (by assumption) rfl ?_)
             | (refine At.ldN (by assumption) rfl ?_)
             | (refine Prs.ln (by assumption) ?_)
             | (refine Trs.ln (by assumption) ?_)
             | (refine Prs.ix (by assumption) (by omega) ?_)
             | (refine Trs.ix (by assumption) (by omega) ?_)
             | (refine Prs.ldN (by assumption) (by omega) ?_)
             | (refine Trs.ldN (by assumption) (by omega) ?_)
             | (refine At.ldN (Blk.at (by assumption)) rfl ?_)
             | (refine At.ld (Blk.at (by assumption)) rfl ?_)
             | (refine IxA.mk (by omega) ?_)
             | (refine Sl.ln (Own.sl (by assumption)) ?_)
             | (refine Ints.ix (Own.sl (by assumption)) (by omega) ?_)
             | (refine Ints.ixI (Own.sl (by assumption)) (by omega) ?_)
             | (refine Ints.ld (Own.sl (by assumption)) (by omega) ?_))
    rw [if_neg (fun h => h1 h.1), if_neg h1]; exact ⟨rfl, EE⟩
end Go.Proofs.Ytebklnmafjbhcaa
set_option linter.unusedVariables false
set_option linter.unusedSimpArgs false
namespace Go.Proofs.Ytebklnmafjbhcaa
open Go.Eng

/-- the digits of k to the base n, the first one first -/
def digs (n : Nat) : Nat → Nat → List Int
  | 0, _ => []
  | j + 1, k => ((k / n ^ j : Nat) : Int) :: digs n j (k % n ^ j)
theorem digs_len (n : Nat) : ∀ j k, (digs n j k).length = j
  | 0, _ => rfl
  | j + 1, k => by simp [digs, digs_len n j]
theorem digs_rng {n : Nat} (hn : 1 ≤ n) : ∀ {j k : Nat}, k < n ^ j → ∀ i, i < j → 0 ≤ (digs n j k).getD i 0 ∧ (digs n j k).getD i 0 < n
  | 0, _, _, i, hi => absurd hi (Nat.not_lt_zero _)
  | j + 1, k, hk, 0, _ => by
    have : k / n ^ j < n := Nat.div_lt_of_lt_mul (by rw [Nat.pow_succ] at hk; exact hk)
    exact ⟨Int.natCast_nonneg _, Int.ofNat_lt.2 this⟩
  | j + 1, k, hk, i + 1, hi => by
    have hp : 0 < n ^ j := Nat.pow_pos (by omega)
    have := digs_rng hn (Nat.mod_lt k hp) i (by omega)
    simpa [digs] using this
theorem digs_at {n j i r : Nat} (hr : r < n ^ j) : digs n (j + 1) (i * n ^ j + r) = (i : Int) :: digs n j r := by
  have hp : 0 < n ^ j := by omega
  have e1 : (i * n ^ j + r) / n ^ j = i := by
    rw [Nat.mul_comm, Nat.mul_add_div hp, Nat.div_eq_of_lt hr]; rfl
  have e2 : (i * n ^ j + r) % n ^ j = r := by
    rw [Nat.mul_comm, Nat.mul_add_mod]; exact Nat.mod_eq_of_lt hr
  simp only [digs, e1, e2]
theorem digs_zero (n : Nat) : ∀ j, digs n j 0 = List.replicate j 0
  | 0 => rfl
  | j + 1 => by simp only [digs, Nat.zero_div, Nat.zero_mod, List.replicate_succ]; rw [digs_zero n j]; rfl
/-- every list of numbers below n has its place -/
theorem digs_all {n : Nat} (hn : 1 ≤ n) : ∀ {l : List Int}, (∀ i, i < l.length → 0 ≤ l.getD i 0 ∧ l.getD i 0 < n) → ∃ k, k < n ^ l.length ∧ digs n l.length k = l
  | [], _ => ⟨0, by simp, rfl⟩
  | x :: l, h => by
    obtain ⟨k, hk, e⟩ := digs_all hn (l := l) (fun i hi => by have := h (i + 1) (by simpa using hi); simpa using this)
    have h0 : 0 ≤ x ∧ x < n := by have := h 0 (by simp); simpa using this
    have hx : ((x.toNat : Nat) : Int) = x := by omega
    refine ⟨x.toNat * n ^ l.length + k, ?_, ?_⟩
    · show _ < n ^ (l.length + 1)
      have h1 : x.toNat + 1 ≤ n := by omega
      have h2 := Nat.mul_le_mul_right (n ^ l.length) h1
      rw [Nat.add_mul, Nat.one_mul] at h2
      rw [Nat.pow_succ, Nat.mul_comm (n ^ l.length) n]; omega
    · show digs n (l.length + 1) _ = x :: l
      rw [digs_at hk, e, hx]
/-- lists in the order of their places -/
def lexlt : List Int → List Int → Prop
  | [], _ => False
  | _, [] => False
  | x :: l, y :: m => x < y ∨ (x = y ∧ lexlt l m)
theorem digs_lt {n : Nat} (hn : 1 ≤ n) : ∀ {j a b : Nat}, a < n ^ j → b < n ^ j → a < b → lexlt (digs n j a) (digs n j b)
  | 0, a, b, ha, hb, h => by simp at ha hb; omega
  | j + 1, a, b, ha, hb, h => by
    have hp : 0 < n ^ j := Nat.pow_pos (by omega)
    have ea := Nat.div_add_mod a (n ^ j)
    have eb := Nat.div_add_mod b (n ^ j)
    have ma := Nat.mod_lt a hp
    have mb := Nat.mod_lt b hp
    simp only [digs, lexlt]
    by_cases e : a / n ^ j = b / n ^ j
    · refine .inr ⟨by rw [e], digs_lt hn ma mb ?_⟩
      rw [e] at ea; omega
    · refine .inl ?_
      have hle : a / n ^ j ≤ b / n ^ j := Nat.div_le_div_right (by omega)
      omega
theorem lexlt_irrefl : ∀ l, ¬ lexlt l l
  | [], h => h
  | x :: l, h => by
    rcases h with h | ⟨_, h⟩
    · omega
    · exact lexlt_irrefl l h
theorem lexlt_asymm : ∀ {l m}, lexlt l m → ¬ lexlt m l
  | [], _, h, _ => h
  | _ :: _, [], h, _ => h
  | x :: l, y :: m, h, h2 => by
    rcases h with h | ⟨e, h⟩ <;> rcases h2 with h2 | ⟨e2, h2⟩
    · omega
    · omega
    · omega
    · exact lexlt_asymm h h2
/-- at the first place where they differ -/
theorem lexlt_at {l m : List Int} (h : lexlt l m) : ∃ k, k < l.length ∧ k < m.length ∧ (∀ i, i < k → l.getD i 0 = m.getD i 0) ∧ l.getD k 0 < m.getD k 0 := by
  induction l generalizing m with
  | nil => exact h.elim
  | cons x l ih =>
    cases m with
    | nil => exact h.elim
    | cons y m =>
      rcases h with h | ⟨e, h⟩
      · exact ⟨0, by simp, by simp, fun i hi => absurd hi (Nat.not_lt_zero _), by simpa using h⟩
      · obtain ⟨k, h1, h2, h3, h4⟩ := ih h
        refine ⟨k + 1, by simp; omega, by simp; omega, fun i hi => ?_, by simpa using h4⟩
        cases i with
        | zero => simpa using e
        | succ i => simpa using h3 i (by omega)

/-- the next list: (whether there is one, the list or the first one) -/
def nxt (n : Nat) : List Int → Bool × List Int
  | [] => (false, [])
  | x :: l => match nxt n l with
    | (true, m) => (true, x :: m)
    | (false, m) => if x + 1 < n then (true, (x + 1) :: m) else (false, 0 :: m)
theorem nxt_len (n : Nat) : ∀ l, (nxt n l).2.length = l.length
  | [] => rfl
  | x :: l => by
    have ih := nxt_len n l
    simp only [nxt]
    split
    · rename_i h; rw [h] at ih; simpa using ih
    · rename_i h; rw [h] at ih; split <;> simpa using ih
theorem nxt_digs {n : Nat} (hn : 1 ≤ n) : ∀ {j k : Nat}, k < n ^ j → nxt n (digs n j k) = if k + 1 < n ^ j then (true, digs n j (k + 1)) else (false, digs n j 0)
  | 0, k, h => by simp at h; subst h; rfl
  | j + 1, k, hk => by
    have hp : 0 < n ^ j := Nat.pow_pos (by omega)
    have ek := Nat.div_add_mod k (n ^ j)
    have hm := Nat.mod_lt k hp
    have hq : k / n ^ j < n := Nat.div_lt_of_lt_mul (by rw [Nat.pow_succ] at hk; exact hk)
    have ih := nxt_digs hn hm
    have hc : n ^ j * (k / n ^ j) = (k / n ^ j) * n ^ j := Nat.mul_comm _ _
    simp only [digs, nxt, ih]
    have hq2 := Nat.mul_le_mul_right (n ^ j) (show k / n ^ j + 1 ≤ n by omega)
    rw [Nat.add_mul, Nat.one_mul] at hq2
    have hpow : n ^ (j + 1) = n * n ^ j := by rw [Nat.pow_succ, Nat.mul_comm]
    by_cases h1 : k % n ^ j + 1 < n ^ j
    · rw [if_pos h1]
      have e : k + 1 = (k / n ^ j) * n ^ j + (k % n ^ j + 1) := by omega
      rw [if_pos (by rw [hpow]; omega)]
      simp only
      have := digs_at (n := n) (j := j) (i := k / n ^ j) h1
      rw [← e] at this
      rw [← digs, this]
    · rw [if_neg h1]
      simp only
      have e1 : k + 1 = (k / n ^ j + 1) * n ^ j + 0 := by rw [Nat.add_mul, Nat.one_mul]; omega
      by_cases h2 : ((k / n ^ j : Nat) : Int) + 1 < n
      · rw [if_pos h2]
        have h3 := Nat.mul_le_mul_right (n ^ j) (show k / n ^ j + 1 + 1 ≤ n by omega)
        rw [Nat.add_mul, Nat.add_mul, Nat.one_mul] at h3
        rw [if_pos (by rw [hpow]; omega)]
        have := digs_at (n := n) (j := j) (i := k / n ^ j + 1) (r := 0) hp
        rw [← e1] at this
        rw [← digs, this]
        rfl
      · rw [if_neg h2]
        have h3 : k / n ^ j + 1 = n := by omega
        rw [h3] at e1
        rw [if_neg (by rw [hpow]; omega)]
        simp
theorem nxt_app {n : Nat} {s t : List Int} (h : nxt n s = (true, t)) : ∀ p : List Int, nxt n (p ++ s) = (true, p ++ t)
  | [] => h
  | x :: p => by
    simp only [List.cons_append, nxt]
    rw [nxt_app h p]

/-- a fold over the first N numbers -/
def foldN {σ : Type} (f : σ → Nat → σ) (s : σ) : Nat → σ
  | 0 => s
  | k + 1 => f (foldN f s k) k
theorem foldN_add {σ : Type} (f : σ → Nat → σ) (s : σ) (a : Nat) : ∀ b, foldN f s (a + b) = foldN (fun s k => f s (a + k)) (foldN f s a) b
  | 0 => rfl
  | b + 1 => by
    show f (foldN f s (a + b)) (a + b) = _
    rw [foldN_add f s a b]; rfl
theorem foldN_congr {σ : Type} {f g : σ → Nat → σ} {s : σ} : ∀ {N : Nat}, (∀ s k, k < N → f s k = g s k) → foldN f s N = foldN g s N
  | 0, _ => rfl
  | k + 1, h => by
    show f (foldN f s k) k = g (foldN g s k) k
    rw [foldN_congr (fun s i hi => h s i (by omega)), h _ k (by omega)]
/-- the children of a node, one after the other -/
theorem foldN_child {σ : Type} {n j c : Nat} (step : σ → List Int → σ) (p : List Int) (s : σ) :
    foldN (fun s k => step s (p ++ digs n (j + 1) k)) s ((c + 1) * n ^ j) = foldN (fun s r => step s ((p ++ [(c : Int)]) ++ digs n j r)) (foldN (fun s k => step s (p ++ digs n (j + 1) k)) s (c * n ^ j)) (n ^ j) := by
  rw [Nat.add_mul, Nat.one_mul, foldN_add]
  refine foldN_congr fun s r hr => ?_
  rw [digs_at hr, List.append_assoc]; rfl
end Go.Proofs.Ytebklnmafjbhcaa
set_option linter.unusedVariables false
set_option linter.unusedSimpArgs false
namespace Go.Proofs.Ytebklnmafjbhcaa
open Go.Eng

def PB : Int := 1000000000000
/-- the product of the values above 0 among the first c, and how many they are -/
def vp (f : Nat → Int) : Nat → Int
  | 0 => 1
  | c + 1 => if 0 < f c then vp f c * f c else vp f c
def cntP (f : Nat → Int) : Nat → Int
  | 0 => 0
  | c + 1 => if 0 < f c then cntP f c + 1 else cntP f c
def pr (f : Nat → Int) (c : Nat) : T3 := (cntP f c, vp f c / PB, vp f c % PB)
theorem cntP_bd (f : Nat → Int) : ∀ c : Nat, 0 ≤ cntP f c ∧ cntP f c ≤ c
  | 0 => by simp [cntP]
  | c + 1 => by have := cntP_bd f c; simp only [cntP]; split <;> omega
theorem vp_pos (f : Nat → Int) : ∀ c : Nat, 1 ≤ vp f c
  | 0 => by simp [vp]
  | c + 1 => by
    have := vp_pos f c
    simp only [vp]
    split
    · rename_i h
      have := Int.mul_le_mul (a := 1) (b := 1) (c := vp f c) (d := f c) (by omega) (by omega) (by omega) (by omega)
      omega
    · omega
theorem vp_bd {f : Nat → Int} (h : ∀ i, f i ≤ 10000) : ∀ c : Nat, vp f c ≤ 10000 ^ c
  | 0 => by simp [vp]
  | c + 1 => by
    have h1 := vp_bd h c
    have h0 := vp_pos f c
    have h2 := h c
    have hp : (10000 : Int) ^ (c + 1) = 10000 ^ c * 10000 := Int.pow_succ _ _
    simp only [vp]
    split
    · rw [hp]; exact Int.mul_le_mul h1 h2 (by omega) (by omega)
    · rw [hp]; omega
theorem vp_six {f : Nat → Int} (h : ∀ i, f i ≤ 10000) {c : Nat} (hc : c ≤ 6) : vp f c ≤ 1000000000000000000000000 := by
  have := vp_bd h c
  match c, hc with
  | 0, _ => exact Int.le_trans this (by decide)
  | 1, _ => exact Int.le_trans this (by decide)
  | 2, _ => exact Int.le_trans this (by decide)
  | 3, _ => exact Int.le_trans this (by decide)
  | 4, _ => exact Int.le_trans this (by decide)
  | 5, _ => exact Int.le_trans this (by decide)
  | 6, _ => exact Int.le_trans this (by decide)
theorem pr_rng {f : Nat → Int} (h : ∀ i, f i ≤ 10000) {c : Nat} (hc : c ≤ 6) : 0 ≤ (pr f c).1 ∧ (pr f c).1 ≤ 6 ∧ 0 ≤ (pr f c).2.1 ∧ (pr f c).2.1 ≤ 1000000000000 ∧ 0 ≤ (pr f c).2.2 ∧ (pr f c).2.2 < 1000000000000 := by
  have h1 := cntP_bd f c
  have h2 := vp_pos f c
  have h3 := vp_six h hc
  unfold pr PB
  simp only
  omega
/-- one factor more -/
theorem fac_div {V x : Int} : (V * x) / PB = (V / PB) * x + ((V % PB) * x) / PB ∧ (V * x) % PB = ((V % PB) * x) % PB := by
  have e : V * x = (V % PB) * x + PB * ((V / PB) * x) := by
    have := Int.mul_ediv_add_emod V PB
    calc V * x = (PB * (V / PB) + V % PB) * x := by rw [this]
      _ = _ := by rw [Int.add_mul, Int.mul_assoc]; omega
  constructor
  · rw [e, Int.add_mul_ediv_left _ _ (by decide)]; omega
  · rw [e, Int.add_mul_emod_self_left]
def tim (p : T3) (x : Int) : T3 := if x ≤ 0 then p else (p.1 + 1, p.2.1 * x + (p.2.2 * x) / PB, (p.2.2 * x) % PB)
theorem tim_pr (f : Nat → Int) (c : Nat) : tim (pr f c) (f c) = pr f (c + 1) := by
  unfold tim pr
  simp only [vp, cntP]
  by_cases h : 0 < f c
  · rw [if_neg (by omega), if_pos h, if_pos h]
    obtain ⟨h1, h2⟩ := fac_div (V := vp f c) (x := f c)
    rw [h1, h2]
  · rw [if_pos (by omega), if_neg h, if_neg h]

def cmpI (x y : Int) : Int := if x < y then -1 else if y < x then 1 else 0
def cmpP (p q : T3) : Int := if cmpI p.1 q.1 ≠ 0 then cmpI p.1 q.1 else if cmpI p.2.1 q.2.1 ≠ 0 then cmpI p.2.1 q.2.1 else cmpI p.2.2 q.2.2
def ltP (p q : T3) : Prop := p.1 < q.1 ∨ p.1 = q.1 ∧ (p.2.1 < q.2.1 ∨ p.2.1 = q.2.1 ∧ p.2.2 < q.2.2)
theorem cmpI_bd (x y : Int) : -1 ≤ cmpI x y ∧ cmpI x y ≤ 1 := by unfold cmpI; split; omega; split <;> omega
theorem cmpI_lt {x y : Int} (h : x < y) : cmpI x y = -1 := if_pos h
theorem cmpI_gt {x y : Int} (h : y < x) : cmpI x y = 1 := by unfold cmpI; rw [if_neg (by omega), if_pos h]
theorem cmpI_eq (x : Int) : cmpI x x = 0 := by unfold cmpI; rw [if_neg (by omega), if_neg (by omega)]
theorem cmpP_eq {p q : T3} (h : p = q) : cmpP p q = 0 := by subst h; unfold cmpP; rw [cmpI_eq, cmpI_eq, cmpI_eq]; rfl
theorem cmpP_lt {p q : T3} (h : ltP p q) : cmpP p q = -1 := by
  unfold ltP at h; unfold cmpP
  rcases h with h | ⟨e, h | ⟨e2, h⟩⟩
  · rw [cmpI_lt h]; rfl
  · rw [e, cmpI_eq, cmpI_lt h]; rfl
  · rw [e, e2, cmpI_eq, cmpI_eq, cmpI_lt h]; rfl
theorem cmpP_gt {p q : T3} (h1 : p ≠ q) (h2 : ¬ ltP p q) : cmpP p q = 1 := by
  obtain ⟨a, b, c⟩ := p
  obtain ⟨x, y, z⟩ := q
  unfold ltP at h2
  simp only at h2
  unfold cmpP
  simp only
  by_cases e : a = x
  · by_cases e2 : b = y
    · have e3 : c ≠ z := fun e3 => h1 (by rw [e, e2, e3])
      rw [e, e2, cmpI_eq, cmpI_eq, cmpI_gt (by omega)]; rfl
    · rw [e, cmpI_eq, cmpI_gt (by omega)]; rfl
  · rw [cmpI_gt (by omega)]; rfl

/-- the value that is compared -/
theorem ltP_pr {f g : Nat → Int} {c : Nat} : ltP (pr f c) (pr g c) ↔ cntP f c < cntP g c ∨ cntP f c = cntP g c ∧ vp f c < vp g c := by
  unfold ltP pr PB
  simp only
  have h1 := vp_pos f c
  have h2 := vp_pos g c
  omega
theorem pr_eq {f g : Nat → Int} {c : Nat} : pr f c = pr g c ↔ cntP f c = cntP g c ∧ vp f c = vp g c := by
  unfold pr PB
  have h1 := vp_pos f c
  have h2 := vp_pos g c
  constructor
  · intro h
    have e1 := congrArg Prod.fst h
    have e2 := congrArg (fun x => x.2.1) h
    have e3 := congrArg (fun x => x.2.2) h
    simp only at e1 e2 e3
    exact ⟨e1, by omega⟩
  · rintro ⟨e1, e2⟩; rw [e1, e2]
end Go.Proofs.Ytebklnmafjbhcaa
set_option linter.unusedVariables false
set_option linter.unusedSimpArgs false
namespace Go.Proofs.Ytebklnmafjbhcaa
open Go.Eng
set_option maxRecDepth 100000
set_option maxHeartbeats 4000000

def enough (rr : List (List Int)) (a : List Int) (i : Nat) (good : Int) : Prop := allv rr i ≤ (rr.length : Int) * (wth rr a i i + if 0 ≤ good then val rr i good.toNat else 0)
end Go.Proofs.Ytebklnmafjbhcaa
set_option linter.unusedVariables false
set_option linter.unusedSimpArgs false
namespace Go.Proofs.Ytebklnmafjbhcaa
open Go.Eng
set_option maxRecDepth 100000
set_option maxHeartbeats 4000000

theorem first_at {p : Nat → Bool} {n c : Nat} (h : ∀ k, k < c → p k = false) (hc : c < n) (hp : p c = true) : firstFrom p n 0 = c := by
  rcases firstFrom_spec p n 0 with ⟨j, _, h2, h3, h4, h5⟩ | ⟨_, h2⟩
  · rw [h4]
    by_cases e : j = c
    · rw [e]
    · exfalso
      by_cases e2 : j < c
      · rw [h j e2] at h3; cases h3
      · rw [h5 c (Nat.zero_le _) (by omega)] at hp; cases hp
  · rw [h2 c (Nat.zero_le _) (by omega)] at hp; cases hp
theorem first_no {p : Nat → Bool} {n : Nat} (h : ∀ k, k < n → p k = false) : firstFrom p n 0 = -1 := by
  rcases firstFrom_spec p n 0 with ⟨j, _, h2, h3, h4, h5⟩ | ⟨h1, _⟩
  · rw [h j (by omega)] at h3; cases h3
  · exact h1

def gP (rr : List (List Int)) (a : List Int) (i : Nat) (k x : Int) (b : Bool) (j : Nat) : Bool := decide (a.getD j 0 = k) && (decide (x ≤ val rr i j) == b)
theorem firstG_eq (rr : List (List Int)) (a : List Int) (i : Nat) (k x : Int) (b : Bool) : firstG rr a i k x b = firstFrom (gP rr a i k x b) a.length 0 := by unfold firstG; simp only [Int.toNat_natCast]; rfl
theorem gP_f {rr : List (List Int)} {a : List Int} {i : Nat} {k x : Int} {j : Nat} : gP rr a i k x false j = true ↔ a.getD j 0 = k ∧ val rr i j < x := by
  unfold gP
  simp only [Bool.and_eq_true, decide_eq_true_eq, beq_iff_eq, decide_eq_false_iff_not, Int.not_le]
theorem gP_t {rr : List (List Int)} {a : List Int} {i : Nat} {k x : Int} {j : Nat} : gP rr a i k x true j = true ↔ a.getD j 0 = k ∧ x ≤ val rr i j := by
  unfold gP
  simp only [Bool.and_eq_true, decide_eq_true_eq, beq_iff_eq]
theorem boolF {b : Bool} (h : ¬ b = true) : b = false := by cases b <;> simp_all

theorem nfirst_pc {w : World} {gv av : Value} {vs : List Value} {rr : List (List Int)} {a : List Int} {i : Nat} {k x : Int} {b : Bool} (Hg : Mat w gv vs rr) (Ha : Ints w av a) (hi : i < rr.length) (hrow : (rr.getD i []).length = a.length) :
    PC Try.prog 73 [.agg #[.int .i64 i, .int .i64 k, .int .i64 x], .agg #[gv], av, .bool b] w (.int .i64 (firstG rr a i k x b)) := by
  rw [firstG_eq]
  refine PC.mk tyOk Try.func73 rfl (by kernel_rfl) fun w1 E1 => ?_
  replace Hg := Hg.ext E1
  replace Ha := Ha.ext E1
  have EE := Ext.refl w1
  have hle := Ha.le
  refine Bx.agg fun b2 w2 E2 hb2 He _ => ?_
  replace Hg := Hg.ext E2
  replace Ha := Ha.ext E2
  replace EE := EE.ext E2
  refine Bx.agg fun b3 w3 E3 hb3 Hb _ => ?_
  replace Hg := Hg.ext E3
  replace Ha := Ha.ext E3
  replace EE := EE.ext E3
  replace He := He.ext E3
  repeat' (conv => whnf
           first
           | (refine Dr.quiet tyOk (by kernel_rfl) ?_)
           | (refine Rng.mk (by omega) ?_)
           | (refine Split.pos (by omega) ?_)
           | (refine Split.neg (by omega) ?_)
           | (refine Split.mk (fun h => ?_) (fun h => ?_))
           | (refine Need.mk (by omega) ?_)
           | (refine Ints.ln (by assumption) ?_)
           | (refine Mat.ln (by assumption) ?_)
           | (refine Ints.ln (Mat.row (by assumption) _ (by omega)) ?_)
           | (refine Ints.ix (by assumption) (by omega) ?_)
           | (refine Mat.ix (by assumption) (by omega) ?_)
           | (refine Ints.ix (Mat.row (by assumption) _ (by omega)) (by omega) ?_)
           | (refine Ints.ix (c := 0) (by assumption) (by omega) ?_)
           | (refine Mat.ix (c := 0) (by assumption) (by omega) ?_)
           | (refine Ints.ix (c := 0) (Mat.row (by assumption) _ (by omega)) (by omega) ?_)
           | (refine Ints.ixI (by assumption) (by omega) ?_)
           | (refine Mat.ixI (by assumption) (by omega) ?_)
           | (refine Ints.ixI (Mat.row (by assumption) _ (by omega)) (by omega) ?_)
           | (refine Ints.ld (by assumption) (by omega) ?_)
           | (refine Mat.ld (by assumption) (by omega) ?_)
           | (refine Ints.ld (Mat.row (by assumption) _ (by omega)) (by omega) ?_)
           | (refine At.ld (by assumption) rfl ?_)
           | (refine At.ldN (by assumption) rfl ?_))
  refine Lp.mk tyOk [false, false, false, false, false, false, false, false, true, true, true, false, false, true, true, true, true, true, true, true, true, true, true, true, true, true, true, true, true, true, true, true, true, true, true, true, true, true, true, true] (fun m fr wr => getK fr 13 fun j => ∃ c : Nat, c ≤ a.length ∧ m = a.length - c ∧ j = .int .i64 (c : Int) ∧ (∀ j, j < c → gP rr a i k x b j = false) ∧ wr = w3) (a.length) ?_ ?_
  · exact ⟨0, Nat.zero_le _, rfl, rfl, (by first | exact fun _ hi => absurd hi (Nat.not_lt_zero _) | exact fun _ _ hi => absurd hi (Nat.not_lt_zero _) | assumption | exact Own.nil | omega | simp), rfl⟩
  · intro m w4 u8 u9 u10 u13 u14 u15 u16 u17 u18 u19 u20 u21 u22 u23 u24 u25 u26 u27 u28 u29 u30 u31 u32 u33 u34 u35 u36 u37 u38 u39 hR
    obtain ⟨c, hc, rfl, rfl, hv, rfl⟩ := hR
    have hvd : (rr.getD i []).getD c 0 = val rr i c := rfl
    cases b
    · repeat' (conv => whnf
               first
               | (refine Dr.quiet tyOk (by kernel_rfl) ?_)
               | (refine Rng.mk (by omega) ?_)
               | (refine Split.pos (by omega) ?_)
               | (refine Split.neg (by omega) ?_)
               | (refine Split.mk (fun h => ?_) (fun h => ?_))
               | (refine Need.mk (by omega) ?_)
               | (refine Ints.ln (by assumption) ?_)
               | (refine Mat.ln (by assumption) ?_)
               | (refine Ints.ln (Mat.row (by assumption) _ (by omega)) ?_)
               | (refine Ints.ix (by assumption) (by omega) ?_)
               | (refine Mat.ix (by assumption) (by omega) ?_)
               | (refine Ints.ix (Mat.row (by assumption) _ (by omega)) (by omega) ?_)
               | (refine Ints.ix (c := 0) (by assumption) (by omega) ?_)
               | (refine Mat.ix (c := 0) (by assumption) (by omega) ?_)
               | (refine Ints.ix (c := 0) (Mat.row (by assumption) _ (by omega)) (by omega) ?_)
               | (refine Ints.ixI (by assumption) (by omega) ?_)
               | (refine Mat.ixI (by assumption) (by omega) ?_)
               | (refine Ints.ixI (Mat.row (by assumption) _ (by omega)) (by omega) ?_)
               | (refine Ints.ld (by assumption) (by omega) ?_)
               | (refine Mat.ld (by assumption) (by omega) ?_)
               | (refine Ints.ld (Mat.row (by assumption) _ (by omega)) (by omega) ?_)
               | (refine At.ld (by assumption) rfl ?_)
               | (refine At.ldN (by assumption) rfl ?_))
      all_goals first
        | (rw [first_at hv (by omega) (gP_f.2 ⟨by omega, by omega⟩)]; exact ⟨rfl, EE⟩)
        | (refine ⟨_, (by omega : a.length - (c + 1) < a.length - c), rfl, c + 1, by omega, rfl, rfl, all_succ hv (boolF (fun h => by have := gP_f.1 h; omega)), rfl⟩)
        | (obtain rfl : c = a.length := by omega
           rw [first_no hv]; exact ⟨rfl, EE⟩)
    · repeat' (conv => whnf
               first
               | (refine Dr.quiet tyOk (by kernel_rfl) ?_)
               | (refine Rng.mk (by omega) ?_)
               | (refine Split.pos (by omega) ?_)
               | (refine Split.neg (by omega) ?_)
               | (refine Split.mk (fun h => ?_) (fun h => ?_))
               | (refine Need.mk (by omega) ?_)
               | (refine Ints.ln (by assumption) ?_)
               | (refine Mat.ln (by assumption) ?_)
               | (refine Ints.ln (Mat.row (by assumption) _ (by omega)) ?_)
               | (refine Ints.ix (by assumption) (by omega) ?_)
               | (refine Mat.ix (by assumption) (by omega) ?_)
               | (refine Ints.ix (Mat.row (by assumption) _ (by omega)) (by omega) ?_)
               | (refine Ints.ix (c := 0) (by assumption) (by omega) ?_)
               | (refine Mat.ix (c := 0) (by assumption) (by omega) ?_)
               | (refine Ints.ix (c := 0) (Mat.row (by assumption) _ (by omega)) (by omega) ?_)
               | (refine Ints.ixI (by assumption) (by omega) ?_)
               | (refine Mat.ixI (by assumption) (by omega) ?_)
               | (refine Ints.ixI (Mat.row (by assumption) _ (by omega)) (by omega) ?_)
               | (refine Ints.ld (by assumption) (by omega) ?_)
               | (refine Mat.ld (by assumption) (by omega) ?_)
               | (refine Ints.ld (Mat.row (by assumption) _ (by omega)) (by omega) ?_)
               | (refine At.ld (by assumption) rfl ?_)
               | (refine At.ldN (by assumption) rfl ?_))
      all_goals first
        | (rw [first_at hv (by omega) (gP_t.2 ⟨by omega, by omega⟩)]; exact ⟨rfl, EE⟩)
        | (refine ⟨_, (by omega : a.length - (c + 1) < a.length - c), rfl, c + 1, by omega, rfl, rfl, all_succ hv (boolF (fun h => by have := gP_t.1 h; omega)), rfl⟩)
        | (obtain rfl : c = a.length := by omega
           rw [first_no hv]; exact ⟨rfl, EE⟩)
end Go.Proofs.Ytebklnmafjbhcaa
set_option linter.unusedVariables false
set_option linter.unusedSimpArgs false
namespace Go.Proofs.Ytebklnmafjbhcaa
open Go.Eng
set_option maxRecDepth 100000
set_option maxHeartbeats 4000000

theorem evs_len (rr : List (List Int)) (a : List Int) : (evs rr a).length = (envs rr a).length := by simp [evs]
theorem evs_get {rr : List (List Int)} {a : List Int} {c : Nat} (h : c < (envs rr a).length) : (evs rr a).getD c (0, 0, 0) = (((envs rr a).getD c (0, 0)).1, ((envs rr a).getD c (0, 0)).2, moreV rr a ((envs rr a).getD c (0, 0)).1.toNat ((envs rr a).getD c (0, 0)).2.toNat) := by
  simp [evs, List.getD, h]
theorem envs_in {rr : List (List Int)} {a : List Int} {c : Nat} (h : c < (envs rr a).length) : ∃ i k : Nat, i < rr.length ∧ k < rr.length ∧ wth rr a i i < wth rr a i k ∧ (envs rr a).getD c (0, 0) = ((i : Int), (k : Int)) := by
  have hm : (envs rr a).getD c (0, 0) ∈ envs rr a := by rw [List.getD, List.getElem?_eq_getElem h]; exact List.getElem_mem h
  obtain ⟨i, k, hi, hk, hl, e⟩ := mem_envTo.1 hm
  exact ⟨i, k, hi, hk, hl, e⟩
theorem envs_le {rr : List (List Int)} {a : List Int} (h : rr.length ≤ 6) : (envs rr a).length ≤ 36 := by
  have := envTo_len (fun i (k : Nat) => wth rr a i k) rr.length rr.length
  have h2 := Nat.mul_le_mul h h
  unfold envs; omega

theorem nenvies_rc {w : World} {gv av : Value} {vs : List Value} {rr : List (List Int)} {a : List Int} (Hg : Mat w gv vs rr) (Ha : Ints w av a) :
    RC Try.prog 72 [.agg #[gv], av] w NoB (fun u w' => ∃ v, u = .tuple #[v, .int .i64 (vld rr a)] ∧ OE w.heap.size w' v (evsR rr a)) := by
  refine RC.mk tyOk Try.func72 rfl (by kernel_rfl) fun w1 E1 => ?_
  replace Hg := Hg.ext E1
  replace Ha := Ha.ext E1
  have EE := Ext.refl w1
  refine Bx.agg fun b2 w2 E2 hb2 Hb _ => ?_
  replace Hg := Hg.ext E2
  replace Ha := Ha.ext E2
  replace EE := EE.ext E2
  conv => whnf
  refine At.ldN Hb rfl ?_
  conv => whnf
  refine VC.rc (gvalues_rc Hg Ha) ?_
  rintro _ w3 E3 ⟨v, us, rfl, HO⟩
  replace Hg := Hg.ext E3
  replace Ha := Ha.ext E3
  replace EE := EE.ext E3
  replace Hb := Hb.ext E3
  by_cases hv : vld rr a = 0
  · have hal := al_of_vld hv
    have hn := hal.n6
    have hm := hal.m10
    have hlen := hal.len
    rw [valsR, if_pos hv] at HO
    have HV := HO.mat
    have hvl := vals_len rr a
    repeat' (conv => whnf
             first
             | (refine Dr.quiet tyOk (by kernel_rfl) ?_)
             | (refine Rng.mk (by omega) ?_)
             | (refine Split.pos (by omega) ?_)
             | (refine Split.neg (by omega) ?_)
             | (refine Split.mk (fun h => ?_) (fun h => ?_))
             | (refine Need.mk (by omega) ?_)
             | (refine Ints.ln (by assumption) ?_)
             | (refine Mat.ln (by assumption) ?_)
             | (refine Ints.ln (Mat.row (by assumption) _ (by omega)) ?_)
             | (refine Ints.ix (by assumption) (by omega) ?_)
             | (refine Mat.ix (by assumption) (by omega) ?_)
             | (refine Ints.ix (Mat.row (by assumption) _ (by omega)) (by omega) ?_)
             | (refine Ints.ix (c := 0) (by assumption) (by omega) ?_)
             | (refine Mat.ix (c := 0) (by assumption) (by omega) ?_)
             | (refine Ints.ix (c := 0) (Mat.row (by assumption) _ (by omega)) (by omega) ?_)
             | (refine Ints.ixI (by assumption) (by omega) ?_)
             | (refine Mat.ixI (by assumption) (by omega) ?_)
             | (refine Ints.ixI (Mat.row (by assumption) _ (by omega)) (by omega) ?_)
             | (refine Ints.ld (by assumption) (by omega) ?_)
             | (refine Mat.ld (by assumption) (by omega) ?_)
             | (refine Ints.ld (Mat.row (by assumption) _ (by omega)) (by omega) ?_)
             | (refine At.ld (by assumption) rfl ?_)
             | (refine At.ldN (by assumption) rfl ?_))
    conv => whnf
    refine VC.rc (genvies_rc Hg Ha) ?_
    rintro _ w4 E4 ⟨pv, rfl, HP⟩
    replace Hg := Hg.ext E4
    replace Ha := Ha.ext E4
    replace EE := EE.ext E4
    replace Hb := Hb.ext E4
    replace HV := HV.ext E4
    rw [envsR, if_pos hv] at HP
    have HPs : Prs _ pv _ := Own.sl HP
    have hel := envs_le (a := a) hn
    repeat' (conv => whnf
             first
             | (refine Dr.quiet tyOk (by kernel_rfl) ?_)
             | (refine Rng.mk (by omega) ?_)
             | (refine Split.pos (by omega) ?_)
             | (refine Split.neg (by omega) ?_)
             | (refine Split.mk (fun h => ?_) (fun h => ?_))
             | (refine Need.mk (by omega) ?_)
             | (refine Ints.ln (by assumption) ?_)
             | (refine Mat.ln (by assumption) ?_)
             | (refine Ints.ln (Mat.row (by assumption) _ (by omega)) ?_)
             | (refine Ints.ix (by assumption) (by omega) ?_)
             | (refine Mat.ix (by assumption) (by omega) ?_)
             | (refine Ints.ix (Mat.row (by assumption) _ (by omega)) (by omega) ?_)
             | (refine Ints.ix (c := 0) (by assumption) (by omega) ?_)
             | (refine Mat.ix (c := 0) (by assumption) (by omega) ?_)
             | (refine Ints.ix (c := 0) (Mat.row (by assumption) _ (by omega)) (by omega) ?_)
             | (refine Ints.ixI (by assumption) (by omega) ?_)
             | (refine Mat.ixI (by assumption) (by omega) ?_)
             | (refine Ints.ixI (Mat.row (by assumption) _ (by omega)) (by omega) ?_)
             | (refine Ints.ld (by assumption) (by omega) ?_)
             | (refine Mat.ld (by assumption) (by omega) ?_)
             | (refine Ints.ld (Mat.row (by assumption) _ (by omega)) (by omega) ?_)
             | (refine At.ld (by assumption) rfl ?_)
             | (refine At.ldN (by assumption) rfl ?_)
             | (refine Prs.ln (by assumption) ?_)
             | (refine Trs.ln (by assumption) ?_)
             | (refine Prs.ix (by assumption) (by omega) ?_)
             | (refine Trs.ix (by assumption) (by omega) ?_)
             | (refine Prs.ldN (by assumption) (by omega) ?_)
             | (refine Trs.ldN (by assumption) (by omega) ?_)
             | (refine At.ldN (Blk.at (by assumption)) rfl ?_)
             | (refine At.ld (Blk.at (by assumption)) rfl ?_)
             | (refine IxA.mk (by omega) ?_)
             | (refine Sl.ln (Own.sl (by assumption)) ?_)
             | (refine Ints.ix (Own.sl (by assumption)) (by omega) ?_)
             | (refine Ints.ixI (Own.sl (by assumption)) (by omega) ?_)
             | (refine Ints.ld (Own.sl (by assumption)) (by omega) ?_))
    have Hg__1 := Hg
    have Ha__1 := Ha
    have EE__1 := EE
    have Hb__1 := Hb
    have HV__1 := HV
    have HPs__1 := HPs
    have hz1 := Nat.le_trans E1.size EE.size
    refine Lp.mk tyOk [false, false, false, false, false, false, false, false, false, false, true, false, true, false, false, false, false, false, false, false, false, false, false, false, false, false, false, false, false, false, true, true, true, true, true, true, true, true, true, true, true, true, true, true, true, true, true, true, true, true, true, true, true, true, true, true, true, true, true, true, true, true] (fun m fr wr => getK fr 10 fun ov => getK fr 30 fun j => ∃ c : Nat, c ≤ (envs rr a).length ∧ m = (envs rr a).length - c ∧ j = .int .i64 (c : Int) ∧ (OE w4.heap.size wr ov ((evs rr a).take c)) ∧ Ext w4 wr) ((envs rr a).length) ?_ ?_
    · exact ⟨0, Nat.zero_le _, rfl, rfl, Own.nil, Ext.refl _⟩
    · intro m w5 u10 u12 u30 u31 u32 u33 u34 u35 u36 u37 u38 u39 u40 u41 u42 u43 u44 u45 u46 u47 u48 u49 u50 u51 u52 u53 u54 u55 u56 u57 u58 u59 u60 u61 hR
      obtain ⟨c, hc, rfl, rfl, Ho, EL1⟩ := hR
      replace Hg := Hg__1.ext EL1
      replace Ha := Ha__1.ext EL1
      replace EE := EE__1.ext EL1
      replace Hb := Hb__1.ext EL1
      replace HV := HV__1.ext EL1
      replace HPs := HPs__1.ext EL1
      have htk : ((evs rr a).take c).length = c := by rw [List.length_take, evs_len]; omega
      repeat' (conv => whnf
               first
               | (refine Dr.quiet tyOk (by kernel_rfl) ?_)
               | (refine Rng.mk (by omega) ?_)
               | (refine Split.pos (by omega) ?_)
               | (refine Split.neg (by omega) ?_)
               | (refine Split.mk (fun h => ?_) (fun h => ?_))
               | (refine Need.mk (by omega) ?_)
               | (refine Ints.ln (by assumption) ?_)
               | (refine Mat.ln (by assumption) ?_)
               | (refine Ints.ln (Mat.row (by assumption) _ (by omega)) ?_)
               | (refine Ints.ix (by assumption) (by omega) ?_)
               | (refine Mat.ix (by assumption) (by omega) ?_)
               | (refine Ints.ix (Mat.row (by assumption) _ (by omega)) (by omega) ?_)
               | (refine Ints.ix (c := 0) (by assumption) (by omega) ?_)
               | (refine Mat.ix (c := 0) (by assumption) (by omega) ?_)
               | (refine Ints.ix (c := 0) (Mat.row (by assumption) _ (by omega)) (by omega) ?_)
               | (refine Ints.ixI (by assumption) (by omega) ?_)
               | (refine Mat.ixI (by assumption) (by omega) ?_)
               | (refine Ints.ixI (Mat.row (by assumption) _ (by omega)) (by omega) ?_)
               | (refine Ints.ld (by assumption) (by omega) ?_)
               | (refine Mat.ld (by assumption) (by omega) ?_)
               | (refine Ints.ld (Mat.row (by assumption) _ (by omega)) (by omega) ?_)
               | (refine At.ld (by assumption) rfl ?_)
               | (refine At.ldN (by assumption) rfl ?_)
               | (refine Prs.ln (by assumption) ?_)
               | (refine Trs.ln (by assumption) ?_)
               | (refine Prs.ix (by assumption) (by omega) ?_)
               | (refine Trs.ix (by assumption) (by omega) ?_)
               | (refine Prs.ldN (by assumption) (by omega) ?_)
               | (refine Trs.ldN (by assumption) (by omega) ?_)
               | (refine At.ldN (Blk.at (by assumption)) rfl ?_)
               | (refine At.ld (Blk.at (by assumption)) rfl ?_)
               | (refine IxA.mk (by omega) ?_)
               | (refine Sl.ln (Own.sl (by assumption)) ?_)
               | (refine Ints.ix (Own.sl (by assumption)) (by omega) ?_)
               | (refine Ints.ixI (Own.sl (by assumption)) (by omega) ?_)
               | (refine Ints.ld (Own.sl (by assumption)) (by omega) ?_))
      · obtain ⟨i, k, hi, hk, hlt, hik⟩ := envs_in (rr := rr) (a := a) (c := c) (by omega)
        have e1 := vals_get (rr := rr) (a := a) hi hk
        have e2 := vals_get (rr := rr) (a := a) hi hi
        have hl1 := vals_rlen (rr := rr) (a := a) hi
        have hw1 := wth_bd (a := a) hal.toGd i k
        have hw2 := wth_bd (a := a) hal.toGd i i
        rw [hik]
        have Hg__2 := Hg
        have Ha__2 := Ha
        have EE__2 := EE
        have Hb__2 := Hb
        have HV__2 := HV
        have HPs__2 := HPs
        have EL1__2 := EL1
        have Ho__2 := Ho
        conv => whnf
        refine VE.alloc ePair fun pb w6 E6 hb_pb Hk => ?_
        replace Hg := Hg.ext E6
        replace Ha := Ha.ext E6
        replace EE := EE.ext E6
        replace Hb := Hb.ext E6
        replace HV := HV.ext E6
        replace HPs := HPs.ext E6
        replace EL1 := EL1.ext E6
        replace Ho := Ho.ext E6
        have EL2 := E6
        conv => whnf
        refine Blk.all Hk (by kernel_rfl) (by first | decide | simp) rfl rfl (by intro v hv; simp at hv; rcases hv with rfl | rfl | rfl | rfl | rfl <;> rfl) fun w7 G7 Hk' => ?_
        have E7 : Ext w5 w7 := EL2.new G7 fun i hi hk => by omega
        replace Hk := Hk'
        replace Hg := Hg__2.ext E7
        replace Ha := Ha__2.ext E7
        replace EE := EE__2.ext E7
        replace Hb := Hb__2.ext E7
        replace HV := HV__2.ext E7
        replace HPs := HPs__2.ext E7
        replace EL1 := EL1__2.ext E7
        replace Ho := Ho__2.ext E7
        replace EL2 := E7
        repeat' (conv => whnf
                 first
                 | (refine Dr.plan 34 [26] (.q 0 (.q 1 (.q 2 (.q 3 (.q 4 (.q 5 (.q 6 (.q 7 (.q 8 (.q 9 (.q 10 (.q 11 (.q 12 (.q 13 (.q 14 (.q 15 (.q 16 (.q 17 (.q 18 (.q 19 (.q 20 (.q 21 (.q 22 (.q 23 (.q 24 (.e 25 (.e 26 (.q 27 .nil) .nil) .nil)))))))))))))))))))))))))) tyOk rfl (by kernel_rfl) ?_)
                 | (refine Dr.quiet tyOk (by kernel_rfl) ?_)
                 | (refine VS.b3 Try.underlying93 eEnvy (by decide +kernel) ⟨rfl, rfl, rfl⟩ ?_)
                 | (refine Rng.mk (by omega) ?_)
                 | (refine Split.pos (by omega) ?_)
                 | (refine Split.neg (by omega) ?_)
                 | (refine Split.mk (fun h => ?_) (fun h => ?_))
                 | (refine Need.mk (by omega) ?_)
                 | (refine Ints.ln (by assumption) ?_)
                 | (refine Mat.ln (by assumption) ?_)
                 | (refine Ints.ln (Mat.row (by assumption) _ (by omega)) ?_)
                 | (refine Ints.ix (by assumption) (by omega) ?_)
                 | (refine Mat.ix (by assumption) (by omega) ?_)
                 | (refine Ints.ix (Mat.row (by assumption) _ (by omega)) (by omega) ?_)
                 | (refine Ints.ix (c := 0) (by assumption) (by omega) ?_)
                 | (refine Mat.ix (c := 0) (by assumption) (by omega) ?_)
                 | (refine Ints.ix (c := 0) (Mat.row (by assumption) _ (by omega)) (by omega) ?_)
                 | (refine Ints.ixI (by assumption) (by omega) ?_)
                 | (refine Mat.ixI (by assumption) (by omega) ?_)
                 | (refine Ints.ixI (Mat.row (by assumption) _ (by omega)) (by omega) ?_)
                 | (refine Ints.ld (by assumption) (by omega) ?_)
                 | (refine Mat.ld (by assumption) (by omega) ?_)
                 | (refine Ints.ld (Mat.row (by assumption) _ (by omega)) (by omega) ?_)
                 | (refine At.ld (by assumption) rfl ?_)
                 | (refine At.ldN (by assumption) rfl ?_)
                 | (refine Prs.ln (by assumption) ?_)
                 | (refine Trs.ln (by assumption) ?_)
                 | (refine Prs.ix (by assumption) (by omega) ?_)
                 | (refine Trs.ix (by assumption) (by omega) ?_)
                 | (refine Prs.ldN (by assumption) (by omega) ?_)
                 | (refine Trs.ldN (by assumption) (by omega) ?_)
                 | (refine At.ldN (Blk.at (by assumption)) rfl ?_)
                 | (refine At.ld (Blk.at (by assumption)) rfl ?_)
                 | (refine IxA.mk (by omega) ?_)
                 | (refine Sl.ln (Own.sl (by assumption)) ?_)
                 | (refine Ints.ix (Own.sl (by assumption)) (by omega) ?_)
                 | (refine Ints.ixI (Own.sl (by assumption)) (by omega) ?_)
                 | (refine Ints.ld (Own.sl (by assumption)) (by omega) ?_))
        refine VX.lit1A Try.underlying89 eEnvy rfl (by decide) fun lv w8 E8 Hl => ?_
        replace Hg := Hg.ext E8
        replace Ha := Ha.ext E8
        replace EE := EE.ext E8
        replace Hb := Hb.ext E8
        replace HV := HV.ext E8
        replace HPs := HPs.ext E8
        replace EL1 := EL1.ext E8
        replace Ho := Ho.ext E8
        replace EL2 := EL2.ext E8
        replace Hk := Hk.ext E8
        conv => whnf
        refine VE.app Try.underlying89 eEnvy rfl (by omega) Ho EL1 rfl Hl (by simp [Value.oneCell']) (by first | omega | (simp only [List.length_map, List.length_range]; omega) | (simp; omega)) (by first | omega | (simp only [List.length_map, List.length_range]; omega) | (simp; omega)) fun v8 w9 E9 G9 H8 => ?_
        replace Hg := Hg__1.ext E9
        replace Ha := Ha__1.ext E9
        replace EE := EE__1.ext E9
        replace Hb := Hb__1.ext E9
        replace HV := HV__1.ext E9
        replace HPs := HPs__1.ext E9
        replace EL1 := E9
        repeat' (conv => whnf
                 first
                 | (refine Dr.quiet tyOk (by kernel_rfl) ?_)
                 | (refine Rng.mk (by omega) ?_)
                 | (refine Split.pos (by omega) ?_)
                 | (refine Split.neg (by omega) ?_)
                 | (refine Split.mk (fun h => ?_) (fun h => ?_))
                 | (refine Need.mk (by omega) ?_)
                 | (refine Ints.ln (by assumption) ?_)
                 | (refine Mat.ln (by assumption) ?_)
                 | (refine Ints.ln (Mat.row (by assumption) _ (by omega)) ?_)
                 | (refine Ints.ix (by assumption) (by omega) ?_)
                 | (refine Mat.ix (by assumption) (by omega) ?_)
                 | (refine Ints.ix (Mat.row (by assumption) _ (by omega)) (by omega) ?_)
                 | (refine Ints.ix (c := 0) (by assumption) (by omega) ?_)
                 | (refine Mat.ix (c := 0) (by assumption) (by omega) ?_)
                 | (refine Ints.ix (c := 0) (Mat.row (by assumption) _ (by omega)) (by omega) ?_)
                 | (refine Ints.ixI (by assumption) (by omega) ?_)
                 | (refine Mat.ixI (by assumption) (by omega) ?_)
                 | (refine Ints.ixI (Mat.row (by assumption) _ (by omega)) (by omega) ?_)
                 | (refine Ints.ld (by assumption) (by omega) ?_)
                 | (refine Mat.ld (by assumption) (by omega) ?_)
                 | (refine Ints.ld (Mat.row (by assumption) _ (by omega)) (by omega) ?_)
                 | (refine At.ld (by assumption) rfl ?_)
                 | (refine At.ldN (by assumption) rfl ?_)
                 | (refine Prs.ln (by assumption) ?_)
                 | (refine Trs.ln (by assumption) ?_)
                 | (refine Prs.ix (by assumption) (by omega) ?_)
                 | (refine Trs.ix (by assumption) (by omega) ?_)
                 | (refine Prs.ldN (by assumption) (by omega) ?_)
                 | (refine Trs.ldN (by assumption) (by omega) ?_)
                 | (refine At.ldN (Blk.at (by assumption)) rfl ?_)
                 | (refine At.ld (Blk.at (by assumption)) rfl ?_)
                 | (refine IxA.mk (by omega) ?_)
                 | (refine Sl.ln (Own.sl (by assumption)) ?_)
                 | (refine Ints.ix (Own.sl (by assumption)) (by omega) ?_)
                 | (refine Ints.ixI (Own.sl (by assumption)) (by omega) ?_)
                 | (refine Ints.ld (Own.sl (by assumption)) (by omega) ?_))
        refine ⟨_, (by omega : (envs rr a).length - (c + 1) < (envs rr a).length - c), rfl, c + 1, by omega, rfl, rfl, ?_, EL1⟩
        rw [take_snoc (0, 0, 0) _ _ (by rw [evs_len]; omega), evs_get (by omega), hik]
        rw [e1, e2, flat3_snoc] at H8
        exact OE.of H8
      · obtain rfl : c = (envs rr a).length := by omega
        refine ⟨EE, _, by rw [hv], ?_⟩
        rw [evsR, if_pos hv]
        rw [List.take_of_length_le (by rw [evs_len]; omega)] at Ho
        exact Own.base Ho hz1
  · repeat' (conv => whnf
             first
             | (refine Dr.quiet tyOk (by kernel_rfl) ?_)
             | (refine Rng.mk (by omega) ?_)
             | (refine Split.pos (by omega) ?_)
             | (refine Split.neg (by omega) ?_)
             | (refine Split.mk (fun h => ?_) (fun h => ?_))
             | (refine Need.mk (by omega) ?_)
             | (refine Ints.ln (by assumption) ?_)
             | (refine Mat.ln (by assumption) ?_)
             | (refine Ints.ln (Mat.row (by assumption) _ (by omega)) ?_)
             | (refine Ints.ix (by assumption) (by omega) ?_)
             | (refine Mat.ix (by assumption) (by omega) ?_)
             | (refine Ints.ix (Mat.row (by assumption) _ (by omega)) (by omega) ?_)
             | (refine Ints.ix (c := 0) (by assumption) (by omega) ?_)
             | (refine Mat.ix (c := 0) (by assumption) (by omega) ?_)
             | (refine Ints.ix (c := 0) (Mat.row (by assumption) _ (by omega)) (by omega) ?_)
             | (refine Ints.ixI (by assumption) (by omega) ?_)
             | (refine Mat.ixI (by assumption) (by omega) ?_)
             | (refine Ints.ixI (Mat.row (by assumption) _ (by omega)) (by omega) ?_)
             | (refine Ints.ld (by assumption) (by omega) ?_)
             | (refine Mat.ld (by assumption) (by omega) ?_)
             | (refine Ints.ld (Mat.row (by assumption) _ (by omega)) (by omega) ?_)
             | (refine At.ld (by assumption) rfl ?_)
             | (refine At.ldN (by assumption) rfl ?_))
    refine ⟨EE, _, rfl, ?_⟩
    rw [evsR, if_neg hv]
    exact Own.nil
end Go.Proofs.Ytebklnmafjbhcaa
set_option linter.unusedVariables false
set_option linter.unusedSimpArgs false
namespace Go.Proofs.Ytebklnmafjbhcaa
open Go.Eng
set_option maxRecDepth 100000
set_option maxHeartbeats 4000000

theorem evs_in {rr : List (List Int)} {a : List Int} {c : Nat} (h : c < (evs rr a).length) : ∃ i k : Nat, i < rr.length ∧ k < rr.length ∧ wth rr a i i < wth rr a i k ∧ (evs rr a).getD c (0, 0, 0) = ((i : Int), (k : Int), moreV rr a i k) := by
  rw [evs_len] at h
  obtain ⟨i, k, hi, hk, hl, e⟩ := envs_in h
  refine ⟨i, k, hi, hk, hl, ?_⟩
  rw [evs_get h, e]
  simp
theorem fm_len {α β : Type} {f : α → List β} (h : ∀ x, (f x).length ≤ 1) : ∀ l : List α, (l.flatMap f).length ≤ l.length
  | [] => by simp
  | x :: l => by have := fm_len h l; have := h x; simp only [List.flatMap_cons, List.length_append, List.length_cons]; omega
theorem fm_snoc {α β : Type} {f : α → List β} {l : List α} {x d : α} {c : Nat} (h : c < l.length) (e : l.getD c d = x) : (l.take (c + 1)).flatMap f = (l.take c).flatMap f ++ f x := by
  rw [take_snoc d l c h, e, List.flatMap_append]; simp
theorem markOf_len (rr : List (List Int)) (a : List Int) (b : Bool) (x : T3) : (markOf rr a b x).length ≤ 1 := by unfold markOf; split <;> simp
theorem missOf_len (rr : List (List Int)) (a : List Int) (x : T3) : (missOf rr a x).length ≤ 1 := by unfold missOf; split <;> simp

theorem none_rc {w : World} {gv av : Value} {vs : List Value} {rr : List (List Int)} {a : List Int} (Hg : Mat w gv vs rr) (Ha : Ints w av a) :
    RC Try.prog 30 [.agg #[gv], av] w NoB (fun u w' => ∃ mv xv, u = .tuple #[mv, xv, .int .i64 (vld rr a)] ∧ OT w.heap.size w' mv (oneM rr a) ∧ OP w.heap.size w' xv (oneX rr a)) := by
  refine RC.mk tyOk Try.func30 rfl (by kernel_rfl) fun w1 E1 => ?_
  replace Hg := Hg.ext E1
  replace Ha := Ha.ext E1
  have EE := Ext.refl w1
  refine Bx.agg fun b2 w2 E2 hb2 Hb _ => ?_
  replace Hg := Hg.ext E2
  replace Ha := Ha.ext E2
  replace EE := EE.ext E2
  conv => whnf
  refine At.ldN Hb rfl ?_
  conv => whnf
  refine VC.rc (nenvies_rc Hg Ha) ?_
  rintro _ w3 E3 ⟨v, rfl, HO⟩
  replace Hg := Hg.ext E3
  replace Ha := Ha.ext E3
  replace EE := EE.ext E3
  replace Hb := Hb.ext E3
  by_cases hv : vld rr a = 0
  · have hal := al_of_vld hv
    have hn := hal.n6
    have hlen := hal.len
    have hrow := hal.row
    rw [evsR, if_pos hv] at HO
    have HT : Trs _ v _ := Own.sl HO
    have hel := envs_le (a := a) hn
    rw [← evs_len] at hel
    repeat' (conv => whnf
             first
             | (refine Dr.quiet tyOk (by kernel_rfl) ?_)
             | (refine Rng.mk (by omega) ?_)
             | (refine Split.pos (by omega) ?_)
             | (refine Split.neg (by omega) ?_)
             | (refine Split.mk (fun h => ?_) (fun h => ?_))
             | (refine Need.mk (by omega) ?_)
             | (refine Ints.ln (by assumption) ?_)
             | (refine Mat.ln (by assumption) ?_)
             | (refine Ints.ln (Mat.row (by assumption) _ (by omega)) ?_)
             | (refine Ints.ix (by assumption) (by omega) ?_)
             | (refine Mat.ix (by assumption) (by omega) ?_)
             | (refine Ints.ix (Mat.row (by assumption) _ (by omega)) (by omega) ?_)
             | (refine Ints.ix (c := 0) (by assumption) (by omega) ?_)
             | (refine Mat.ix (c := 0) (by assumption) (by omega) ?_)
             | (refine Ints.ix (c := 0) (Mat.row (by assumption) _ (by omega)) (by omega) ?_)
             | (refine Ints.ixI (by assumption) (by omega) ?_)
             | (refine Mat.ixI (by assumption) (by omega) ?_)
             | (refine Ints.ixI (Mat.row (by assumption) _ (by omega)) (by omega) ?_)
             | (refine Ints.ld (by assumption) (by omega) ?_)
             | (refine Mat.ld (by assumption) (by omega) ?_)
             | (refine Ints.ld (Mat.row (by assumption) _ (by omega)) (by omega) ?_)
             | (refine At.ld (by assumption) rfl ?_)
             | (refine At.ldN (by assumption) rfl ?_)
             | (refine Prs.ln (by assumption) ?_)
             | (refine Trs.ln (by assumption) ?_)
             | (refine Prs.ix (by assumption) (by omega) ?_)
             | (refine Trs.ix (by assumption) (by omega) ?_)
             | (refine Prs.ldN (by assumption) (by omega) ?_)
             | (refine Trs.ldN (by assumption) (by omega) ?_)
             | (refine At.ldN (Blk.at (by assumption)) rfl ?_)
             | (refine At.ld (Blk.at (by assumption)) rfl ?_)
             | (refine IxA.mk (by omega) ?_)
             | (refine Sl.ln (Own.sl (by assumption)) ?_)
             | (refine Ints.ix (Own.sl (by assumption)) (by omega) ?_)
             | (refine Ints.ixI (Own.sl (by assumption)) (by omega) ?_)
             | (refine Ints.ld (Own.sl (by assumption)) (by omega) ?_))
    have Hg__1 := Hg
    have Ha__1 := Ha
    have EE__1 := EE
    have Hb__1 := Hb
    have HT__1 := HT
    have hz1 := Nat.le_trans E1.size EE.size
    refine Lp.mk tyOk [false, false, false, false, true, true, false, false, false, true, true, false, false, false, false, false, false, false, false, false, false, false, true, true, true, true, true, true, true, true, true, true, true, true, true, true, true, true, true, true, true, true, true, true, true, true, true, true, true, true] (fun m fr wr => getK fr 4 fun mv => getK fr 5 fun xv => getK fr 22 fun j => ∃ c : Nat, c ≤ (evs rr a).length ∧ m = (evs rr a).length - c ∧ j = .int .i64 (c : Int) ∧ (OT w3.heap.size wr mv (((evs rr a).take c).flatMap (markOf rr a true))) ∧ (OP w3.heap.size wr xv (((evs rr a).take c).flatMap (missOf rr a))) ∧ Ext w3 wr) ((evs rr a).length) ?_ ?_
    · exact ⟨0, Nat.zero_le _, rfl, rfl, Own.nil, Own.nil, Ext.refl _⟩
    · intro m w4 u4 u5 u9 u10 u22 u23 u24 u25 u26 u27 u28 u29 u30 u31 u32 u33 u34 u35 u36 u37 u38 u39 u40 u41 u42 u43 u44 u45 u46 u47 u48 u49 hR
      obtain ⟨c, hc, rfl, rfl, Hm, Hx, EL1⟩ := hR
      replace Hg := Hg__1.ext EL1
      replace Ha := Ha__1.ext EL1
      replace EE := EE__1.ext EL1
      replace Hb := Hb__1.ext EL1
      replace HT := HT__1.ext EL1
      have hml := fm_len (markOf_len rr a true) ((evs rr a).take c)
      have hxl := fm_len (missOf_len rr a) ((evs rr a).take c)
      rw [List.length_take] at hml hxl
      repeat' (conv => whnf
               first
               | (refine Dr.quiet tyOk (by kernel_rfl) ?_)
               | (refine Rng.mk (by omega) ?_)
               | (refine Split.pos (by omega) ?_)
               | (refine Split.neg (by omega) ?_)
               | (refine Split.mk (fun h => ?_) (fun h => ?_))
               | (refine Need.mk (by omega) ?_)
               | (refine Ints.ln (by assumption) ?_)
               | (refine Mat.ln (by assumption) ?_)
               | (refine Ints.ln (Mat.row (by assumption) _ (by omega)) ?_)
               | (refine Ints.ix (by assumption) (by omega) ?_)
               | (refine Mat.ix (by assumption) (by omega) ?_)
               | (refine Ints.ix (Mat.row (by assumption) _ (by omega)) (by omega) ?_)
               | (refine Ints.ix (c := 0) (by assumption) (by omega) ?_)
               | (refine Mat.ix (c := 0) (by assumption) (by omega) ?_)
               | (refine Ints.ix (c := 0) (Mat.row (by assumption) _ (by omega)) (by omega) ?_)
               | (refine Ints.ixI (by assumption) (by omega) ?_)
               | (refine Mat.ixI (by assumption) (by omega) ?_)
               | (refine Ints.ixI (Mat.row (by assumption) _ (by omega)) (by omega) ?_)
               | (refine Ints.ld (by assumption) (by omega) ?_)
               | (refine Mat.ld (by assumption) (by omega) ?_)
               | (refine Ints.ld (Mat.row (by assumption) _ (by omega)) (by omega) ?_)
               | (refine At.ld (by assumption) rfl ?_)
               | (refine At.ldN (by assumption) rfl ?_)
               | (refine Prs.ln (by assumption) ?_)
               | (refine Trs.ln (by assumption) ?_)
               | (refine Prs.ix (by assumption) (by omega) ?_)
               | (refine Trs.ix (by assumption) (by omega) ?_)
               | (refine Prs.ldN (by assumption) (by omega) ?_)
               | (refine Trs.ldN (by assumption) (by omega) ?_)
               | (refine At.ldN (Blk.at (by assumption)) rfl ?_)
               | (refine At.ld (Blk.at (by assumption)) rfl ?_)
               | (refine IxA.mk (by omega) ?_)
               | (refine Sl.ln (Own.sl (by assumption)) ?_)
               | (refine Ints.ix (Own.sl (by assumption)) (by omega) ?_)
               | (refine Ints.ixI (Own.sl (by assumption)) (by omega) ?_)
               | (refine Ints.ld (Own.sl (by assumption)) (by omega) ?_))
      · obtain ⟨i, k, hi, hk, hlt, hik⟩ := evs_in (rr := rr) (a := a) (c := c) (by omega)
        rw [hik]
        have Hg__2 := Hg
        have Ha__2 := Ha
        have EE__2 := EE
        have Hb__2 := Hb
        have HT__2 := HT
        have EL1__2 := EL1
        have Hm__2 := Hm
        have Hx__2 := Hx
        conv => whnf
        refine VE.alloc eEnvy fun xb w5 E5 hb_xb Hk => ?_
        replace Hg := Hg.ext E5
        replace Ha := Ha.ext E5
        replace EE := EE.ext E5
        replace Hb := Hb.ext E5
        replace HT := HT.ext E5
        replace EL1 := EL1.ext E5
        replace Hm := Hm.ext E5
        replace Hx := Hx.ext E5
        have EL2 := E5
        conv => whnf
        refine Blk.all Hk (by kernel_rfl) (by first | decide | simp) rfl rfl (by intro v hv; simp at hv; rcases hv with rfl | rfl | rfl | rfl | rfl <;> rfl) fun w6 G6 Hk' => ?_
        have E6 : Ext w4 w6 := EL2.new G6 fun i hi hk => by omega
        replace Hk := Hk'
        replace Hg := Hg__2.ext E6
        replace Ha := Ha__2.ext E6
        replace EE := EE__2.ext E6
        replace Hb := Hb__2.ext E6
        replace HT := HT__2.ext E6
        replace EL1 := EL1__2.ext E6
        replace Hm := Hm__2.ext E6
        replace Hx := Hx__2.ext E6
        replace EL2 := E6
        have cf := nfirst_pc (k := (k : Int)) (x := moreV rr a i k) (b := true) Hg Ha hi (by rw [hrow i hi]; omega)
        by_cases hf : 0 ≤ firstG rr a i k (moreV rr a i k) true
        · repeat' (conv => whnf
                   first
                   | (refine Dr.quiet tyOk (by kernel_rfl) ?_)
                   | (refine VC.pure cf ?_)
                   | (refine VS.b3 Try.underlying96 eMark (by decide +kernel) ⟨rfl, rfl, rfl⟩ ?_)
                   | (refine Rng.mk (by omega) ?_)
                   | (refine Split.pos (by omega) ?_)
                   | (refine Split.neg (by omega) ?_)
                   | (refine Split.mk (fun h => ?_) (fun h => ?_))
                   | (refine Need.mk (by omega) ?_)
                   | (refine Ints.ln (by assumption) ?_)
                   | (refine Mat.ln (by assumption) ?_)
                   | (refine Ints.ln (Mat.row (by assumption) _ (by omega)) ?_)
                   | (refine Ints.ix (by assumption) (by omega) ?_)
                   | (refine Mat.ix (by assumption) (by omega) ?_)
                   | (refine Ints.ix (Mat.row (by assumption) _ (by omega)) (by omega) ?_)
                   | (refine Ints.ix (c := 0) (by assumption) (by omega) ?_)
                   | (refine Mat.ix (c := 0) (by assumption) (by omega) ?_)
                   | (refine Ints.ix (c := 0) (Mat.row (by assumption) _ (by omega)) (by omega) ?_)
                   | (refine Ints.ixI (by assumption) (by omega) ?_)
                   | (refine Mat.ixI (by assumption) (by omega) ?_)
                   | (refine Ints.ixI (Mat.row (by assumption) _ (by omega)) (by omega) ?_)
                   | (refine Ints.ld (by assumption) (by omega) ?_)
                   | (refine Mat.ld (by assumption) (by omega) ?_)
                   | (refine Ints.ld (Mat.row (by assumption) _ (by omega)) (by omega) ?_)
                   | (refine At.ld (by assumption) rfl ?_)
                   | (refine At.ldN (by assumption) rfl ?_)
                   | (refine Prs.ln (by assumption) ?_)
                   | (refine Trs.ln (by assumption) ?_)
                   | (refine Prs.ix (by assumption) (by omega) ?_)
                   | (refine Trs.ix (by assumption) (by omega) ?_)
                   | (refine Prs.ldN (by assumption) (by omega) ?_)
                   | (refine Trs.ldN (by assumption) (by omega) ?_)
                   | (refine At.ldN (Blk.at (by assumption)) rfl ?_)
                   | (refine At.ld (Blk.at (by assumption)) rfl ?_)
                   | (refine IxA.mk (by omega) ?_)
                   | (refine Sl.ln (Own.sl (by assumption)) ?_)
                   | (refine Ints.ix (Own.sl (by assumption)) (by omega) ?_)
                   | (refine Ints.ixI (Own.sl (by assumption)) (by omega) ?_)
                   | (refine Ints.ld (Own.sl (by assumption)) (by omega) ?_))
          refine VE.lit1A Try.underlying47 eMark rfl (by decide) fun lv w7 E7 Hl => ?_
          replace Hg := Hg.ext E7
          replace Ha := Ha.ext E7
          replace EE := EE.ext E7
          replace Hb := Hb.ext E7
          replace HT := HT.ext E7
          replace EL1 := EL1.ext E7
          replace Hm := Hm.ext E7
          replace Hx := Hx.ext E7
          replace EL2 := EL2.ext E7
          replace Hk := Hk.ext E7
          conv => whnf
          refine VE.app Try.underlying47 eMark rfl (by omega) Hm EL1 rfl Hl (by simp [Value.oneCell']) (by first | omega | (simp only [List.length_map, List.length_range]; omega) | (simp; omega)) (by first | omega | (simp only [List.length_map, List.length_range]; omega) | (simp; omega)) fun v8 w8 E8 G8 H8 => ?_
          replace Hx := Own.gr Hx G8 (fun k hk hS => Own.ne Hm Hx (by decide) k hS hk)
          replace Hg := Hg__1.ext E8
          replace Ha := Ha__1.ext E8
          replace EE := EE__1.ext E8
          replace Hb := Hb__1.ext E8
          replace HT := HT__1.ext E8
          replace EL1 := E8
          repeat' (conv => whnf
                   first
                   | (refine Dr.quiet tyOk (by kernel_rfl) ?_)
                   | (refine Rng.mk (by omega) ?_)
                   | (refine Split.pos (by omega) ?_)
                   | (refine Split.neg (by omega) ?_)
                   | (refine Split.mk (fun h => ?_) (fun h => ?_))
                   | (refine Need.mk (by omega) ?_)
                   | (refine Ints.ln (by assumption) ?_)
                   | (refine Mat.ln (by assumption) ?_)
                   | (refine Ints.ln (Mat.row (by assumption) _ (by omega)) ?_)
                   | (refine Ints.ix (by assumption) (by omega) ?_)
                   | (refine Mat.ix (by assumption) (by omega) ?_)
                   | (refine Ints.ix (Mat.row (by assumption) _ (by omega)) (by omega) ?_)
                   | (refine Ints.ix (c := 0) (by assumption) (by omega) ?_)
                   | (refine Mat.ix (c := 0) (by assumption) (by omega) ?_)
                   | (refine Ints.ix (c := 0) (Mat.row (by assumption) _ (by omega)) (by omega) ?_)
                   | (refine Ints.ixI (by assumption) (by omega) ?_)
                   | (refine Mat.ixI (by assumption) (by omega) ?_)
                   | (refine Ints.ixI (Mat.row (by assumption) _ (by omega)) (by omega) ?_)
                   | (refine Ints.ld (by assumption) (by omega) ?_)
                   | (refine Mat.ld (by assumption) (by omega) ?_)
                   | (refine Ints.ld (Mat.row (by assumption) _ (by omega)) (by omega) ?_)
                   | (refine At.ld (by assumption) rfl ?_)
                   | (refine At.ldN (by assumption) rfl ?_)
                   | (refine Prs.ln (by assumption) ?_)
                   | (refine Trs.ln (by assumption) ?_)
                   | (refine Prs.ix (by assumption) (by omega) ?_)
                   | (refine Trs.ix (by assumption) (by omega) ?_)
                   | (refine Prs.ldN (by assumption) (by omega) ?_)
                   | (refine Trs.ldN (by assumption) (by omega) ?_)
                   | (refine At.ldN (Blk.at (by assumption)) rfl ?_)
                   | (refine At.ld (Blk.at (by assumption)) rfl ?_)
                   | (refine IxA.mk (by omega) ?_)
                   | (refine Sl.ln (Own.sl (by assumption)) ?_)
                   | (refine Ints.ix (Own.sl (by assumption)) (by omega) ?_)
                   | (refine Ints.ixI (Own.sl (by assumption)) (by omega) ?_)
                   | (refine Ints.ld (Own.sl (by assumption)) (by omega) ?_))
          refine ⟨_, (by omega : (evs rr a).length - (c + 1) < (evs rr a).length - c), rfl, c + 1, by omega, rfl, rfl, ?_, ?_, EL1⟩
          · rw [fm_snoc (by omega) hik]
            simp only [markOf, if_pos hf]
            rw [flat3_snoc] at H8
            exact OT.of H8
          · rw [fm_snoc (by omega) hik]
            simp only [missOf, if_pos hf, List.append_nil]
            exact Hx
        · repeat' (conv => whnf
                   first
                   | (refine Dr.quiet tyOk (by kernel_rfl) ?_)
                   | (refine VC.pure cf ?_)
                   | (refine VS.arr2 Try.underlying97 ePair cells3 ?_)
                   | (refine Rng.mk (by omega) ?_)
                   | (refine Split.pos (by omega) ?_)
                   | (refine Split.neg (by omega) ?_)
                   | (refine Split.mk (fun h => ?_) (fun h => ?_))
                   | (refine Need.mk (by omega) ?_)
                   | (refine Ints.ln (by assumption) ?_)
                   | (refine Mat.ln (by assumption) ?_)
                   | (refine Ints.ln (Mat.row (by assumption) _ (by omega)) ?_)
                   | (refine Ints.ix (by assumption) (by omega) ?_)
                   | (refine Mat.ix (by assumption) (by omega) ?_)
                   | (refine Ints.ix (Mat.row (by assumption) _ (by omega)) (by omega) ?_)
                   | (refine Ints.ix (c := 0) (by assumption) (by omega) ?_)
                   | (refine Mat.ix (c := 0) (by assumption) (by omega) ?_)
                   | (refine Ints.ix (c := 0) (Mat.row (by assumption) _ (by omega)) (by omega) ?_)
                   | (refine Ints.ixI (by assumption) (by omega) ?_)
                   | (refine Mat.ixI (by assumption) (by omega) ?_)
                   | (refine Ints.ixI (Mat.row (by assumption) _ (by omega)) (by omega) ?_)
                   | (refine Ints.ld (by assumption) (by omega) ?_)
                   | (refine Mat.ld (by assumption) (by omega) ?_)
                   | (refine Ints.ld (Mat.row (by assumption) _ (by omega)) (by omega) ?_)
                   | (refine At.ld (by assumption) rfl ?_)
                   | (refine At.ldN (by assumption) rfl ?_)
                   | (refine Prs.ln (by assumption) ?_)
                   | (refine Trs.ln (by assumption) ?_)
                   | (refine Prs.ix (by assumption) (by omega) ?_)
                   | (refine Trs.ix (by assumption) (by omega) ?_)
                   | (refine Prs.ldN (by assumption) (by omega) ?_)
                   | (refine Trs.ldN (by assumption) (by omega) ?_)
                   | (refine At.ldN (Blk.at (by assumption)) rfl ?_)
                   | (refine At.ld (Blk.at (by assumption)) rfl ?_)
                   | (refine IxA.mk (by omega) ?_)
                   | (refine Sl.ln (Own.sl (by assumption)) ?_)
                   | (refine Ints.ix (Own.sl (by assumption)) (by omega) ?_)
                   | (refine Ints.ixI (Own.sl (by assumption)) (by omega) ?_)
                   | (refine Ints.ld (Own.sl (by assumption)) (by omega) ?_))
          refine VE.lit1A Try.underlying48 ePair rfl (by decide) fun lv w9 E9 Hl => ?_
          replace Hg := Hg.ext E9
          replace Ha := Ha.ext E9
          replace EE := EE.ext E9
          replace Hb := Hb.ext E9
          replace HT := HT.ext E9
          replace EL1 := EL1.ext E9
          replace Hm := Hm.ext E9
          replace Hx := Hx.ext E9
          replace EL2 := EL2.ext E9
          replace Hk := Hk.ext E9
          conv => whnf
          refine VE.app Try.underlying48 ePair rfl (by omega) Hx EL1 rfl Hl (by simp [Value.oneCell']) (by first | omega | (simp only [List.length_map, List.length_range]; omega) | (simp; omega)) (by first | omega | (simp only [List.length_map, List.length_range]; omega) | (simp; omega)) fun v8 w10 E10 G10 H8 => ?_
          replace Hm := Own.gr Hm G10 (fun k hk hS => Own.ne Hx Hm (by decide) k hS hk)
          replace Hg := Hg__1.ext E10
          replace Ha := Ha__1.ext E10
          replace EE := EE__1.ext E10
          replace Hb := Hb__1.ext E10
          replace HT := HT__1.ext E10
          replace EL1 := E10
          repeat' (conv => whnf
                   first
                   | (refine Dr.quiet tyOk (by kernel_rfl) ?_)
                   | (refine Rng.mk (by omega) ?_)
                   | (refine Split.pos (by omega) ?_)
                   | (refine Split.neg (by omega) ?_)
                   | (refine Split.mk (fun h => ?_) (fun h => ?_))
                   | (refine Need.mk (by omega) ?_)
                   | (refine Ints.ln (by assumption) ?_)
                   | (refine Mat.ln (by assumption) ?_)
                   | (refine Ints.ln (Mat.row (by assumption) _ (by omega)) ?_)
                   | (refine Ints.ix (by assumption) (by omega) ?_)
                   | (refine Mat.ix (by assumption) (by omega) ?_)
                   | (refine Ints.ix (Mat.row (by assumption) _ (by omega)) (by omega) ?_)
                   | (refine Ints.ix (c := 0) (by assumption) (by omega) ?_)
                   | (refine Mat.ix (c := 0) (by assumption) (by omega) ?_)
                   | (refine Ints.ix (c := 0) (Mat.row (by assumption) _ (by omega)) (by omega) ?_)
                   | (refine Ints.ixI (by assumption) (by omega) ?_)
                   | (refine Mat.ixI (by assumption) (by omega) ?_)
                   | (refine Ints.ixI (Mat.row (by assumption) _ (by omega)) (by omega) ?_)
                   | (refine Ints.ld (by assumption) (by omega) ?_)
                   | (refine Mat.ld (by assumption) (by omega) ?_)
                   | (refine Ints.ld (Mat.row (by assumption) _ (by omega)) (by omega) ?_)
                   | (refine At.ld (by assumption) rfl ?_)
                   | (refine At.ldN (by assumption) rfl ?_)
                   | (refine Prs.ln (by assumption) ?_)
                   | (refine Trs.ln (by assumption) ?_)
                   | (refine Prs.ix (by assumption) (by omega) ?_)
                   | (refine Trs.ix (by assumption) (by omega) ?_)
                   | (refine Prs.ldN (by assumption) (by omega) ?_)
                   | (refine Trs.ldN (by assumption) (by omega) ?_)
                   | (refine At.ldN (Blk.at (by assumption)) rfl ?_)
                   | (refine At.ld (Blk.at (by assumption)) rfl ?_)
                   | (refine IxA.mk (by omega) ?_)
                   | (refine Sl.ln (Own.sl (by assumption)) ?_)
                   | (refine Ints.ix (Own.sl (by assumption)) (by omega) ?_)
                   | (refine Ints.ixI (Own.sl (by assumption)) (by omega) ?_)
                   | (refine Ints.ld (Own.sl (by assumption)) (by omega) ?_))
          refine ⟨_, (by omega : (evs rr a).length - (c + 1) < (evs rr a).length - c), rfl, c + 1, by omega, rfl, rfl, ?_, ?_, EL1⟩
          · rw [fm_snoc (by omega) hik]
            simp only [markOf, if_neg hf, List.append_nil]
            exact Hm
          · rw [fm_snoc (by omega) hik]
            simp only [missOf, if_neg hf]
            rw [flatP_snoc] at H8
            exact OP.of H8
      · obtain rfl : c = (evs rr a).length := by omega
        refine ⟨EE, _, _, by rw [hv], ?_⟩
        rw [List.take_length] at Hm Hx
        rw [oneM, oneX, evsR, if_pos hv]
        exact ⟨Own.base Hm hz1, Own.base Hx hz1⟩
  · repeat' (conv => whnf
             first
             | (refine Dr.quiet tyOk (by kernel_rfl) ?_)
             | (refine Rng.mk (by omega) ?_)
             | (refine Split.pos (by omega) ?_)
             | (refine Split.neg (by omega) ?_)
             | (refine Split.mk (fun h => ?_) (fun h => ?_))
             | (refine Need.mk (by omega) ?_)
             | (refine Ints.ln (by assumption) ?_)
             | (refine Mat.ln (by assumption) ?_)
             | (refine Ints.ln (Mat.row (by assumption) _ (by omega)) ?_)
             | (refine Ints.ix (by assumption) (by omega) ?_)
             | (refine Mat.ix (by assumption) (by omega) ?_)
             | (refine Ints.ix (Mat.row (by assumption) _ (by omega)) (by omega) ?_)
             | (refine Ints.ix (c := 0) (by assumption) (by omega) ?_)
             | (refine Mat.ix (c := 0) (by assumption) (by omega) ?_)
             | (refine Ints.ix (c := 0) (Mat.row (by assumption) _ (by omega)) (by omega) ?_)
             | (refine Ints.ixI (by assumption) (by omega) ?_)
             | (refine Mat.ixI (by assumption) (by omega) ?_)
             | (refine Ints.ixI (Mat.row (by assumption) _ (by omega)) (by omega) ?_)
             | (refine Ints.ld (by assumption) (by omega) ?_)
             | (refine Mat.ld (by assumption) (by omega) ?_)
             | (refine Ints.ld (Mat.row (by assumption) _ (by omega)) (by omega) ?_)
             | (refine At.ld (by assumption) rfl ?_)
             | (refine At.ldN (by assumption) rfl ?_))
    refine ⟨EE, _, _, rfl, ?_⟩
    rw [oneM, oneX, evsR, if_neg hv]
    exact ⟨Own.nil, Own.nil⟩
end Go.Proofs.Ytebklnmafjbhcaa
set_option linter.unusedVariables false
set_option linter.unusedSimpArgs false
namespace Go.Proofs.Ytebklnmafjbhcaa
open Go.Eng
set_option maxRecDepth 100000
set_option maxHeartbeats 4000000

def hM (rr : List (List Int)) (a : List Int) (b : Bool) (i k : Nat) : List T3 := if wth rr a i i < wth rr a i k then markOf rr a b (i, k, moreV rr a i k) else []
def hX (rr : List (List Int)) (a : List Int) (i k : Nat) : List (Int × Int) := if wth rr a i i < wth rr a i k then missOf rr a (i, k, moreV rr a i k) else []
theorem hM_len (rr : List (List Int)) (a : List Int) (b : Bool) (i k : Nat) : (hM rr a b i k).length ≤ 1 := by unfold hM; split <;> simp [markOf_len]
theorem hX_len (rr : List (List Int)) (a : List Int) (i k : Nat) : (hX rr a i k).length ≤ 1 := by unfold hX; split <;> simp [missOf_len]
theorem oneM_g {rr : List (List Int)} {a : List Int} (hv : vld rr a = 0) : oneM rr a = gTo (hM rr a true) rr.length rr.length := by rw [oneM, evsR, if_pos hv, evs_flat]; rfl
theorem anyM_g {rr : List (List Int)} {a : List Int} (hv : vld rr a = 0) : anyM rr a = gTo (hM rr a false) rr.length rr.length := by rw [anyM, evsR, if_pos hv, evs_flat]; rfl
theorem oneX_g {rr : List (List Int)} {a : List Int} (hv : vld rr a = 0) : oneX rr a = gTo (hX rr a) rr.length rr.length := by rw [oneX, evsR, if_pos hv, evs_flat]; rfl
theorem content_at {rr : List (List Int)} {a : List Int} {i k j : Nat} (h : a.getD j 0 = k) : content rr a i k j ↔ moreV rr a i k ≤ val rr i j := by
  unfold content moreV
  rw [if_pos ⟨by omega, by rw [Int.toNat_natCast]; exact h⟩, Int.toNat_natCast]
  omega
theorem content_no {rr : List (List Int)} {a : List Int} {i k : Nat} : content rr a i k (-1) ↔ wth rr a i k ≤ wth rr a i i := by
  unfold content
  rw [if_neg (by omega)]; omega

end Go.Proofs.Ytebklnmafjbhcaa
set_option linter.unusedVariables false
set_option linter.unusedSimpArgs false
namespace Go.Proofs.Ytebklnmafjbhcaa
open Go.Eng
set_option maxRecDepth 100000
set_option maxHeartbeats 4000000

theorem hM_false {rr : List (List Int)} {a : List Int} {n m : Nat} (hal : Gd rr n m) {i k : Nat} : hM rr a false i k = markOf rr a false (i, k, moreV rr a i k) := by
  unfold hM
  by_cases h : wth rr a i i < wth rr a i k
  · rw [if_pos h]
  · rw [if_neg h]
    unfold markOf
    rw [if_neg]
    show ¬ 0 ≤ firstG rr a i k (moreV rr a i k) false
    rw [firstG_eq, first_no (fun j _ => boolF (fun hp => by have := (gP_f.1 hp).2; have := hal.val i j; unfold moreV at *; omega))]
    omega

end Go.Proofs.Ytebklnmafjbhcaa
set_option linter.unusedVariables false
set_option linter.unusedSimpArgs false
namespace Go.Proofs.Ytebklnmafjbhcaa
open Go.Eng
set_option maxRecDepth 100000
set_option maxHeartbeats 4000000

theorem worth_set {a r : List Int} {k x : Int} {q : Nat} (hq : q < a.length) : ∀ c : Nat, worth (a.set q x) r k c = worth a r k c + if q < c then ((if x = k then r.getD q 0 else 0) - (if a.getD q 0 = k then r.getD q 0 else 0)) else 0
  | 0 => by simp [worth]
  | c + 1 => by
    have ih := worth_set (r := r) (k := k) (x := x) hq c
    have hs := set_get (x := x) (k := c) hq
    simp only [worth, ih, hs]
    by_cases h1 : c = q
    · subst h1
      rw [if_pos rfl, if_neg (by omega : ¬ c < c), if_pos (by omega : c < c + 1)]
      omega
    · rw [if_neg h1]
      by_cases h2 : q < c
      · rw [if_pos h2, if_pos (by omega : q < c + 1)]; omega
      · rw [if_neg h2, if_neg (by omega : ¬ q < c + 1)]; omega
theorem wth_set {rr : List (List Int)} {a : List Int} {i q : Nat} {k x : Int} (hq : q < a.length) : wth rr (a.set q x) i k = wth rr a i k + ((if x = k then val rr i q else 0) - (if a.getD q 0 = k then val rr i q else 0)) := by
  unfold wth
  rw [worth_set (by simpa using hq), List.length_set, if_pos hq]
  rfl
theorem wth_gain {rr : List (List Int)} {a : List Int} {i q : Nat} (hq : q < a.length) (h : a.getD q 0 ≠ i) : wth rr (a.set q i) i i = wth rr a i i + val rr i q := by
  rw [wth_set hq, if_pos rfl, if_neg h]; omega

def sP (rr : List (List Int)) (a : List Int) (i j : Nat) : Bool := !decide (a.getD j 0 = i) && decide (allv rr i ≤ (rr.length : Int) * (wth rr a i i + val rr i j))
def shG (rr : List (List Int)) (a : List Int) (i : Nat) : Int := firstFrom (sP rr a i) a.length 0
def shMOf (rr : List (List Int)) (a : List Int) (i : Nat) : List T3 := if 0 ≤ shG rr a i then [((i : Int), a.getD (shG rr a i).toNat 0, shG rr a i)] else []
def shXOf (rr : List (List Int)) (a : List Int) (i : Nat) : List Int := if 0 ≤ shG rr a i then [] else [(i : Int)]
noncomputable def shM (rr : List (List Int)) (a : List Int) : List T3 := (poorR rr a).flatMap (fun x => shMOf rr a x.toNat)
noncomputable def shX (rr : List (List Int)) (a : List Int) : List Int := (poorR rr a).flatMap (fun x => shXOf rr a x.toNat)
theorem shMOf_len (rr : List (List Int)) (a : List Int) (i : Nat) : (shMOf rr a i).length ≤ 1 := by unfold shMOf; split <;> simp
theorem shXOf_len (rr : List (List Int)) (a : List Int) (i : Nat) : (shXOf rr a i).length ≤ 1 := by unfold shXOf; split <;> simp
theorem flat_filt {β : Type} {p : Nat → Bool} {g : Nat → List β} : ∀ c : Nat, (filt p c).flatMap (fun x => g x.toNat) = gRow (fun _ (k : Nat) => if p k = true then g k else []) 0 c
  | 0 => rfl
  | c + 1 => by
    simp only [filt, gRow, List.flatMap_append, flat_filt c]
    congr 1
    split <;> simp
def pM (rr : List (List Int)) (a : List Int) (_ k : Nat) : List T3 := if isPoor rr a k = true then shMOf rr a k else []
def pX (rr : List (List Int)) (a : List Int) (_ k : Nat) : List Int := if isPoor rr a k = true then shXOf rr a k else []
theorem pM_len (rr : List (List Int)) (a : List Int) (i k : Nat) : (pM rr a i k).length ≤ 1 := by unfold pM; split <;> simp [shMOf_len]
theorem pX_len (rr : List (List Int)) (a : List Int) (i k : Nat) : (pX rr a i k).length ≤ 1 := by unfold pX; split <;> simp [shXOf_len]
theorem shM_g {rr : List (List Int)} {a : List Int} (hv : vld rr a = 0) : shM rr a = gRow (pM rr a) 0 rr.length := by rw [shM, poorR, if_pos hv]; exact flat_filt _
theorem shX_g {rr : List (List Int)} {a : List Int} (hv : vld rr a = 0) : shX rr a = gRow (pX rr a) 0 rr.length := by rw [shX, poorR, if_pos hv]; exact flat_filt _
theorem enough_no {rr : List (List Int)} {a : List Int} {i : Nat} : enough rr a i (-1) ↔ ¬ isPoor rr a i = true := by
  unfold enough isPoor
  rw [if_neg (by omega), Int.add_zero, decide_eq_true_eq]; omega
theorem sP_iff {rr : List (List Int)} {a : List Int} {i j : Nat} : sP rr a i j = true ↔ a.getD j 0 ≠ i ∧ enough rr a i j := by
  unfold sP enough
  rw [if_pos (by omega), Int.toNat_natCast]
  simp only [Bool.and_eq_true, decide_eq_true_eq, Bool.not_eq_true', decide_eq_false_iff_not, ne_eq]

end Go.Proofs.Ytebklnmafjbhcaa
set_option linter.unusedVariables false
set_option linter.unusedSimpArgs false
namespace Go.Proofs.Ytebklnmafjbhcaa
open Go.Eng
set_option maxRecDepth 100000
set_option maxHeartbeats 4000000

theorem poor_in {rr : List (List Int)} {a : List Int} {c : Nat} (h : c < (poor rr a).length) : ∃ i : Nat, i < rr.length ∧ isPoor rr a i = true ∧ (poor rr a).getD c 0 = (i : Int) := by
  have hm : (poor rr a).getD c 0 ∈ poor rr a := by rw [List.getD, List.getElem?_eq_getElem h]; exact List.getElem_mem h
  obtain ⟨i, hi, hp, e⟩ := mem_filt.1 hm
  exact ⟨i, hi, hp, e⟩
theorem poor_set {rr : List (List Int)} {a : List Int} {i q : Nat} (hi : i < rr.length) (hq : q < a.length) (h : a.getD q 0 ≠ i) : (i : Int) ∈ poor rr (a.set q i) ↔ ¬ enough rr a i q := by
  unfold poor
  rw [mem_filt]
  have e : isPoor rr (a.set q i) i = true ↔ ¬ enough rr a i q := by
    unfold isPoor enough
    rw [if_pos (by omega), Int.toNat_natCast, wth_gain hq h, decide_eq_true_eq]; omega
  constructor
  · rintro ⟨j, hj, hp, e2⟩
    have : j = i := by omega
    subst this
    exact e.1 hp
  · intro hp
    exact ⟨i, hi, e.2 hp, rfl⟩

end Go.Proofs.Ytebklnmafjbhcaa
set_option linter.unusedVariables false
set_option linter.unusedSimpArgs false
namespace Go.Proofs.Ytebklnmafjbhcaa
open Go.Eng
set_option maxRecDepth 100000

theorem miss_one {rr : List (List Int)} {a : List Int} {x : T3} : (markOf rr a true x).length + (missOf rr a x).length = 1 := by
  unfold markOf missOf; split <;> simp
theorem count_one {rr : List (List Int)} {a : List Int} : ∀ l : List T3, (l.flatMap (markOf rr a true)).length + (l.flatMap (missOf rr a)).length = l.length
  | [] => rfl
  | x :: l => by
    have := count_one (rr := rr) (a := a) l
    have := miss_one (rr := rr) (a := a) (x := x)
    simp only [List.flatMap_cons, List.length_append, List.length_cons]; omega
theorem one_count {rr : List (List Int)} {a : List Int} (hv : vld rr a = 0) : (oneM rr a).length + (oneX rr a).length = (envs rr a).length := by
  rw [oneM, oneX, evsR, if_pos hv, count_one, evs_len]

theorem first_le {p : Nat → Bool} {n j : Nat} (hj : j < n) (hp : p j = true) : 0 ≤ firstFrom p n 0 := by
  rcases firstFrom_spec p n 0 with ⟨i, _, h2, h3, h4, h5⟩ | ⟨_, h2⟩
  · rw [h4]; omega
  · rw [h2 j (Nat.zero_le _) (by omega)] at hp; cases hp
theorem first_is {p : Nat → Bool} {n : Nat} (h : 0 ≤ firstFrom p n 0) : ∃ j : Nat, firstFrom p n 0 = j ∧ j < n ∧ p j = true ∧ ∀ k, k < j → p k = false := by
  rcases firstFrom_spec p n 0 with ⟨j, _, h2, h3, h4, h5⟩ | ⟨h1, _⟩
  · exact ⟨j, h4, by omega, h3, fun k hk => h5 k (Nat.zero_le _) hk⟩
  · omega

theorem oneX_nil {rr : List (List Int)} {a : List Int} (hv : vld rr a = 0) : oneX rr a = [] ↔ ∀ i k : Nat, i < rr.length → k < rr.length → wth rr a i i < wth rr a i k → ∃ j, j < a.length ∧ a.getD j 0 = k ∧ moreV rr a i k ≤ val rr i j := by
  rw [oneX_g hv]
  constructor
  · intro h i k hi hk hl
    refine Classical.byContradiction fun hn => ?_
    have hm : ((i : Int), (k : Int)) ∈ gTo (hX rr a) rr.length rr.length := by
      refine mem_gTo.2 ⟨i, k, hi, hk, ?_⟩
      unfold hX
      rw [if_pos hl]
      unfold missOf
      rw [if_neg]
      · simp
      · show ¬ 0 ≤ firstG rr a i k (moreV rr a i k) true
        intro h0
        rw [firstG_eq] at h0
        obtain ⟨j, _, hj, hp, _⟩ := first_is h0
        exact hn ⟨j, hj, gP_t.1 hp⟩
    rw [h] at hm; cases hm
  · intro h
    apply List.eq_nil_iff_forall_not_mem.2
    intro x hx
    obtain ⟨i, k, hi, hk, hx⟩ := mem_gTo.1 hx
    unfold hX at hx
    split at hx
    · rename_i hl
      obtain ⟨j, hj, hp⟩ := h i k hi hk hl
      unfold missOf at hx
      rw [if_pos] at hx
      · cases hx
      · show 0 ≤ firstG rr a i k (moreV rr a i k) true
        rw [firstG_eq]; exact first_le hj (gP_t.2 hp)
    · cases hx
theorem anyM_nil {rr : List (List Int)} {a : List Int} (hv : vld rr a = 0) : anyM rr a = [] ↔ ∀ i k : Nat, i < rr.length → k < rr.length → wth rr a i i < wth rr a i k → ∀ j, j < a.length → a.getD j 0 = k → moreV rr a i k ≤ val rr i j := by
  rw [anyM_g hv]
  constructor
  · intro h i k hi hk hl j hj hk2
    refine Classical.byContradiction fun hn => ?_
    have hp : gP rr a i k (moreV rr a i k) false j = true := gP_f.2 ⟨hk2, by omega⟩
    have h0 : 0 ≤ firstG rr a i k (moreV rr a i k) false := by rw [firstG_eq]; exact first_le hj hp
    have hm : ((i : Int), (k : Int), firstG rr a i k (moreV rr a i k) false) ∈ gTo (hM rr a false) rr.length rr.length := by
      refine mem_gTo.2 ⟨i, k, hi, hk, ?_⟩
      unfold hM
      rw [if_pos hl]
      unfold markOf
      rw [if_pos h0]; simp
    rw [h] at hm; cases hm
  · intro h
    apply List.eq_nil_iff_forall_not_mem.2
    intro x hx
    obtain ⟨i, k, hi, hk, hx⟩ := mem_gTo.1 hx
    unfold hM at hx
    split at hx
    · rename_i hl
      unfold markOf at hx
      split at hx
      · rename_i h0
        have h0 : 0 ≤ firstG rr a i k (moreV rr a i k) false := h0
        rw [firstG_eq] at h0
        obtain ⟨j, _, hj, hp, _⟩ := first_is h0
        have := gP_f.1 hp
        have := h i k hi hk hl j hj this.1
        omega
      · cases hx
    · cases hx

/-- A bundle of some worth has a good. -/
theorem worth_pos {a r : List Int} {k : Int} : ∀ {c : Nat}, 0 < worth a r k c → ∃ j, j < c ∧ a.getD j 0 = k
  | 0, h => by simp [worth] at h
  | c + 1, h => by
    simp only [worth] at h
    by_cases e : a.getD c 0 = k
    · exact ⟨c, by omega, e⟩
    · rw [if_neg e] at h
      obtain ⟨j, hj, e2⟩ := worth_pos (a := a) (r := r) (k := k) (c := c) (by omega)
      exact ⟨j, by omega, e2⟩
theorem any_one {rr : List (List Int)} {a : List Int} (hv : vld rr a = 0) (h : anyM rr a = []) : oneX rr a = [] := by
  refine (oneX_nil hv).2 fun i k hi hk hl => ?_
  have h0 := wth_bd (a := a) (al_of_vld hv).toGd i i
  obtain ⟨j, hj, e⟩ := worth_pos (a := a) (r := rr.getD i []) (k := (k : Int)) (c := a.length) (by show 0 < wth rr a i k; omega)
  exact ⟨j, hj, e, (anyM_nil hv).1 h i k hi hk hl j hj e⟩
theorem no_any {rr : List (List Int)} {a : List Int} (hv : vld rr a = 0) (h : envs rr a = []) : anyM rr a = [] := by
  rw [anyM, evsR, if_pos hv, evs, h]; rfl

theorem ex_max {p : Nat → Prop} {f : Nat → Int} : ∀ {n : Nat}, (∃ j, j < n ∧ p j) → ∃ j, j < n ∧ p j ∧ ∀ i, i < n → p i → f i ≤ f j
  | 0, h => by obtain ⟨j, hj, _⟩ := h; omega
  | n + 1, h => by
    by_cases h1 : ∃ j, j < n ∧ p j
    · obtain ⟨j, hj, hp, hm⟩ := ex_max (f := f) h1
      by_cases h2 : p n ∧ f j ≤ f n
      · refine ⟨n, by omega, h2.1, fun i hi hpi => ?_⟩
        by_cases e : i = n
        · subst e; omega
        · have := hm i (by omega) hpi; omega
      · refine ⟨j, by omega, hp, fun i hi hpi => ?_⟩
        by_cases e : i = n
        · subst e
          have : ¬ f j ≤ f i := fun hle => h2 ⟨hpi, hle⟩
          omega
        · exact hm i (by omega) hpi
    · obtain ⟨j, hj, hp⟩ := h
      have : j = n := by
        refine Classical.byContradiction fun e => h1 ⟨j, by omega, hp⟩
      subst this
      exact ⟨j, by omega, hp, fun i hi hpi => by
        by_cases e : i = j
        · subst e; omega
        · exact absurd ⟨i, by omega, hpi⟩ h1⟩

theorem shX_nil {rr : List (List Int)} {a : List Int} (hv : vld rr a = 0) : shX rr a = [] ↔ ∀ i, i < rr.length → isPoor rr a i = true → ∃ j, j < a.length ∧ a.getD j 0 ≠ i ∧ enough rr a i j := by
  rw [shX_g hv]
  constructor
  · intro h i hi hp
    refine Classical.byContradiction fun hn => ?_
    have hm : (i : Int) ∈ gRow (pX rr a) 0 rr.length := by
      refine mem_gRow.2 ⟨i, hi, ?_⟩
      unfold pX
      rw [if_pos hp]
      unfold shXOf
      rw [if_neg]
      · simp
      · intro h0
        obtain ⟨j, _, hj, hq, _⟩ := first_is h0
        exact hn ⟨j, hj, sP_iff.1 hq⟩
    rw [h] at hm; cases hm
  · intro h
    apply List.eq_nil_iff_forall_not_mem.2
    intro x hx
    obtain ⟨i, hi, hx⟩ := mem_gRow.1 hx
    unfold pX at hx
    split at hx
    · rename_i hp
      obtain ⟨j, hj, hq⟩ := h i hi hp
      unfold shXOf at hx
      have h0 : 0 ≤ shG rr a i := first_le hj (sP_iff.2 hq)
      rw [if_pos h0] at hx
      cases hx
    · cases hx

theorem sumK_le_const {f : Nat → Int} {X : Int} {n : Nat} (h : ∀ k, k < n → f k ≤ X) : sumK f n ≤ (n : Int) * X := by
  rw [← sumK_const]; exact sumK_le h

/-- Fair up to one good, and complete: the shares are good up to one good. -/
theorem one_share {rr : List (List Int)} {a : List Int} (hv : vld rr a = 0) (hc : compl a) (h : oneX rr a = []) : shX rr a = [] := by
  refine (shX_nil hv).2 fun i hi hp => ?_
  have hal := al_of_vld hv
  obtain ⟨k, hk, hl⟩ := poor_envies hv hc hi hp
  have h1 := (oneX_nil hv).1 h
  obtain ⟨j0, hj0, e0, _⟩ := h1 i k hi hk hl
  have hki : k ≠ i := by rintro rfl; omega
  obtain ⟨j, hj, hji, hmax⟩ := ex_max (p := fun j => a.getD j 0 ≠ i) (f := fun j => val rr i j) (n := a.length) ⟨j0, hj0, by show a.getD j0 0 ≠ i; omega⟩
  refine ⟨j, hj, hji, ?_⟩
  have hsum : sumK (fun k : Nat => wth rr a i k) rr.length ≤ (rr.length : Int) * (wth rr a i i + val rr i j) := by
    refine sumK_le_const fun q hq => ?_
    have hvj := (hal.val i j).1
    by_cases hlq : wth rr a i i < wth rr a i q
    · obtain ⟨j1, hj1, e1, hm1⟩ := h1 i q hi hq hlq
      have hqi : q ≠ i := by rintro rfl; omega
      have := hmax j1 hj1 (by show a.getD j1 0 ≠ i; omega)
      unfold moreV at hm1
      have : val rr i j1 ≤ val rr i j := this
      omega
    · omega
  rw [sum_wth_all hv hc hi] at hsum
  unfold enough
  rw [if_pos (by omega), Int.toNat_natCast]
  exact hsum

/-- One good alone. -/
theorem worth_single {a r : List Int} {k : Int} {j : Nat} (hj : a.getD j 0 = k) : ∀ c : Nat, (∀ i, i < c → a.getD i 0 = k → i = j) → worth a r k c = if j < c then r.getD j 0 else 0
  | 0, _ => by simp [worth]
  | c + 1, hu => by
    simp only [worth]
    rw [worth_single hj c (fun i hi e => hu i (by omega) e)]
    by_cases e : a.getD c 0 = k
    · have := hu c (by omega) e
      subst this
      rw [if_pos e, if_neg (by omega), if_pos (by omega)]; omega
    · rw [if_neg e]
      have hne : j ≠ c := by rintro rfl; exact e hj
      by_cases h : j < c
      · rw [if_pos h, if_pos (by omega)]; omega
      · rw [if_neg h, if_neg (by omega)]; omega
theorem single_any {rr : List (List Int)} {a : List Int} (hv : vld rr a = 0) (hu : ∀ i j, i < a.length → j < a.length → 0 ≤ a.getD i 0 → a.getD i 0 = a.getD j 0 → i = j) : anyM rr a = [] := by
  refine (anyM_nil hv).2 fun i k hi hk hl j hj e => ?_
  have h0 := wth_bd (a := a) (al_of_vld hv).toGd i i
  have : wth rr a i k = val rr i j := by
    unfold wth
    rw [worth_single e a.length (fun q hq e2 => hu q j hq hj (by omega) (by omega)), if_pos hj]; rfl
  unfold moreV; omega

/-- A good for who is not envied. -/
theorem grown_one {rr : List (List Int)} {a : List Int} {good agent : Nat} (hv : vld rr a = 0) (hg : good < a.length) (hn : a.getD good 0 = -1) (ha : agent < rr.length) (h : oneX rr a = [])
    (he : ∀ i, i < rr.length → wth rr a i agent ≤ wth rr a i i) : oneX rr (a.set good agent) = [] := by
  have hgo : giveOk rr a good agent := ⟨by omega, by omega, by omega, by omega⟩
  have hvb : vld rr (a.set good agent) = 0 := by have := vld_give hv hgo; rwa [Int.toNat_natCast] at this
  have hal := al_of_vld hv
  refine (oneX_nil hvb).2 fun i k hi hk hl => ?_
  have hb : ∀ q : Nat, wth rr (a.set good agent) i q = wth rr a i q + (if agent = q then val rr i good else 0) := fun q => by
    rw [wth_set hg, if_neg (by omega : ¬ a.getD good 0 = (q : Int))]
    by_cases e : agent = q
    · rw [if_pos e, if_pos (by omega)]; omega
    · rw [if_neg e, if_neg (by omega)]; omega
  have hbk := hb k
  have hbi := hb i
  have hvg := (hal.val i good).1
  by_cases ek : agent = k
  · subst ek
    have hai : agent ≠ i := by rintro rfl; omega
    rw [if_pos rfl] at hbk
    rw [if_neg hai] at hbi
    refine ⟨good, by rw [List.length_set]; exact hg, by rw [set_get hg, if_pos rfl], ?_⟩
    have := he i hi
    unfold moreV; omega
  · rw [if_neg ek] at hbk
    have hwi : wth rr a i i ≤ wth rr (a.set good agent) i i := by rw [hbi]; split <;> omega
    obtain ⟨j, hj, e, hm⟩ := (oneX_nil hv).1 h i k hi hk (by omega)
    refine ⟨j, by rw [List.length_set]; exact hj, ?_, ?_⟩
    · rw [set_get hg, if_neg]
      · exact e
      · rintro rfl; omega
    · unfold moreV at *; omega

/-- Marks tell the first good. -/
theorem mem_oneM {rr : List (List Int)} {a : List Int} {b : Bool} {x : T3} (hx : x ∈ gTo (hM rr a b) rr.length rr.length) : ∃ i k j : Nat, i < rr.length ∧ k < rr.length ∧ wth rr a i i < wth rr a i k ∧ j < a.length ∧ x = ((i : Int), (k : Int), (j : Int)) ∧ gP rr a i k (moreV rr a i k) b j = true ∧ ∀ q, q < j → gP rr a i k (moreV rr a i k) b q = false := by
  obtain ⟨i, k, hi, hk, hx⟩ := mem_gTo.1 hx
  unfold hM at hx
  split at hx
  · rename_i hl
    unfold markOf at hx
    split at hx
    · rename_i h0
      have h0 : 0 ≤ firstG rr a i k (moreV rr a i k) b := h0
      have e := firstG_eq rr a i k (moreV rr a i k) b
      rw [e] at h0
      obtain ⟨j, ej, hj, hp, hq⟩ := first_is h0
      refine ⟨i, k, j, hi, hk, hl, hj, ?_, hp, hq⟩
      simp only [List.mem_singleton] at hx
      rw [hx, e, ej]
    · cases hx
  · cases hx
theorem mem_shM {rr : List (List Int)} {a : List Int} (hv : vld rr a = 0) {x : T3} (hx : x ∈ shM rr a) : ∃ i j : Nat, i < rr.length ∧ j < a.length ∧ x = ((i : Int), a.getD j 0, (j : Int)) ∧ a.getD j 0 ≠ i ∧ enough rr a i j := by
  rw [shM_g hv] at hx
  obtain ⟨i, hi, hx⟩ := mem_gRow.1 hx
  unfold pM at hx
  split at hx
  · unfold shMOf at hx
    split at hx
    · rename_i h0
      obtain ⟨j, ej, hj, hp, hq⟩ := first_is h0
      refine ⟨i, j, hi, hj, ?_, sP_iff.1 hp⟩
      have ej : shG rr a i = j := ej
      simp only [List.mem_singleton] at hx
      rw [hx, ej, Int.toNat_natCast]
    · cases hx
  · cases hx
theorem env_cut {rr : List (List Int)} {a : List Int} {i k q : Nat} (hi : i < rr.length) (hk : k < rr.length) (hl : wth rr a i i < wth rr a i k) (hq : q < a.length) (e : a.getD q 0 = k) : ((i : Int), (k : Int)) ∈ envs rr (a.set q (-1)) ↔ val rr i q < moreV rr a i k := by
  have hki : k ≠ i := by rintro rfl; omega
  have h1 : wth rr (a.set q (-1)) i k = wth rr a i k - val rr i q := by rw [wth_set hq, if_neg (by omega), if_pos e]; omega
  have h2 : wth rr (a.set q (-1)) i i = wth rr a i i := by rw [wth_set hq, if_neg (by omega), if_neg (by omega)]; omega
  constructor
  · intro h
    obtain ⟨i', k', _, _, h3, e2⟩ := mem_envTo.1 h
    have e3 := congrArg Prod.fst e2
    have e4 := congrArg Prod.snd e2
    have e3 : (i : Int) = i' := e3
    have e4 : (k : Int) = k' := e4
    have : i = i' := by omega
    have : k = k' := by omega
    subst i' k'
    unfold moreV; omega
  · intro h
    refine mem_envTo.2 ⟨i, k, hi, hk, ?_, rfl⟩
    unfold moreV at h; omega
end Go.Proofs.Ytebklnmafjbhcaa
set_option linter.unusedVariables false
set_option linter.unusedSimpArgs false
namespace Go.Proofs.Ytebklnmafjbhcaa
open Go.Eng
set_option maxRecDepth 100000

def gain (rr : List (List Int)) (l : List Int) (i : Nat) : Int := wth rr l i i
def prd (rr : List (List Int)) (l : List Int) : T3 := pr (gain rr l) rr.length
def bstep (rr : List (List Int)) (s : Option (List Int)) (l : List Int) : Option (List Int) := match s with
  | none => some l
  | some b => if 0 < cmpP (prd rr l) (prd rr b) then some l else some b
def mOf (rr : List (List Int)) : Nat := (rr.getD 0 []).length
def bestTo (rr : List (List Int)) (N : Nat) : Option (List Int) := foldN (fun s k => bstep rr s (digs rr.length (mOf rr) k)) none N
theorem cmp_pos {p q : T3} : 0 < cmpP p q ↔ ltP q p := by
  by_cases e : p = q
  · rw [cmpP_eq e]; subst e; unfold ltP; omega
  · by_cases h : ltP p q
    · rw [cmpP_lt h]; unfold ltP at *; omega
    · rw [cmpP_gt e h]
      obtain ⟨a, b, c⟩ := p
      obtain ⟨x, y, z⟩ := q
      unfold ltP at *
      simp only at h
      simp only
      refine ⟨fun _ => ?_, fun _ => by omega⟩
      by_cases e1 : a = x
      · by_cases e2 : b = y
        · have e3 : c ≠ z := fun e3 => e (by rw [e1, e2, e3])
          omega
        · omega
      · omega
theorem ltP_trans {p q r : T3} (h1 : ltP p q) (h2 : ltP q r) : ltP p r := by unfold ltP at *; omega
theorem ltP_not {p q r : T3} (h1 : ¬ ltP q p) (h2 : ltP q r) : ltP p r := by unfold ltP at *; omega

/-- b is the first of the first N that none of them exceeds -/
def IsBest (rr : List (List Int)) (N k0 : Nat) : Prop := k0 < N ∧ (∀ k, k < N → ¬ ltP (prd rr (digs rr.length (mOf rr) k0)) (prd rr (digs rr.length (mOf rr) k))) ∧ ∀ k, k < k0 → ltP (prd rr (digs rr.length (mOf rr) k)) (prd rr (digs rr.length (mOf rr) k0))
theorem bestTo_is (rr : List (List Int)) : ∀ N : Nat, ∃ k0, bestTo rr (N + 1) = some (digs rr.length (mOf rr) k0) ∧ IsBest rr (N + 1) k0
  | 0 => ⟨0, rfl, by omega, fun k hk => by obtain rfl : k = 0 := by omega
                                           unfold ltP; omega, fun k hk => absurd hk (Nat.not_lt_zero _)⟩
  | N + 1 => by
    obtain ⟨k0, e, h1, h2, h3⟩ := bestTo_is rr N
    have es : bestTo rr (N + 1 + 1) = bstep rr (bestTo rr (N + 1)) (digs rr.length (mOf rr) (N + 1)) := rfl
    rw [es, e]
    simp only [bstep]
    by_cases h : ltP (prd rr (digs rr.length (mOf rr) k0)) (prd rr (digs rr.length (mOf rr) (N + 1)))
    · rw [if_pos (cmp_pos.2 h)]
      refine ⟨N + 1, rfl, by omega, fun k hk hl => ?_, fun k hk => ?_⟩
      · by_cases e2 : k = N + 1
        · subst e2; unfold ltP at hl; omega
        · exact h2 k (by omega) (ltP_trans h hl)
      · exact ltP_not (h2 k hk) h
    · rw [if_neg (fun h4 => h (cmp_pos.1 h4))]
      refine ⟨k0, rfl, by omega, fun k hk => ?_, h3⟩
      by_cases e2 : k = N + 1
      · subst e2; exact h
      · exact h2 k (by omega)
theorem best_uniq {rr : List (List Int)} {N a b : Nat} (ha : IsBest rr N a) (hb : IsBest rr N b) : a = b := by
  refine Classical.byContradiction fun e => ?_
  by_cases h : a < b
  · exact ha.2.1 b hb.1 (hb.2.2 a h)
  · exact hb.2.1 a ha.1 (ha.2.2 b (by omega))

def tot (rr : List (List Int)) : Nat := rr.length ^ mOf rr
def nbest (rr : List (List Int)) : List Int := (bestTo rr (tot rr)).getD []
theorem tot_pos {rr : List (List Int)} (h : 1 ≤ rr.length) : 1 ≤ tot rr := Nat.pow_pos (by omega)
theorem nbest_is {rr : List (List Int)} (h : 1 ≤ rr.length) : ∃ k0, bestTo rr (tot rr) = some (nbest rr) ∧ nbest rr = digs rr.length (mOf rr) k0 ∧ IsBest rr (tot rr) k0 := by
  have hp := tot_pos h
  obtain ⟨k0, e, hb⟩ := bestTo_is rr (tot rr - 1)
  rw [show tot rr - 1 + 1 = tot rr by omega] at e hb
  refine ⟨k0, ?_, ?_, hb⟩ <;> unfold nbest <;> rw [e] <;> rfl

/-- complete allocations are the lists of digits -/
theorem digs_ok {rr : List (List Int)} {k : Nat} (hc : chk rr = 0) (hk : k < tot rr) : vld rr (digs rr.length (mOf rr) k) = 0 ∧ compl (digs rr.length (mOf rr) k) := by
  have hg := gd_of_chk hc
  have hr := digs_rng hg.n1 (j := mOf rr) hk
  constructor
  · refine vld_ok hc ?_
    rintro (h | ⟨i, hi, h⟩)
    · exact h (digs_len _ _ _)
    · have := hr i (by rwa [digs_len] at hi); omega
  · intro i hi
    exact (hr i (by rwa [digs_len] at hi)).1
theorem compl_digs {rr : List (List Int)} {l : List Int} (hv : vld rr l = 0) (hc : compl l) : ∃ k, k < tot rr ∧ l = digs rr.length (mOf rr) k := by
  have hal := al_of_vld hv
  have hl : l.length = mOf rr := hal.len
  obtain ⟨k, hk, e⟩ := digs_all hal.n1 (l := l) (fun i hi => ⟨hc i hi, (hal.rng i (by rw [← hal.len]; exact hi)).2⟩)
  rw [hl] at hk e
  exact ⟨k, hk, e.symm⟩
theorem nbest_ok {rr : List (List Int)} (hc : chk rr = 0) : vld rr (nbest rr) = 0 ∧ compl (nbest rr) := by
  obtain ⟨k0, _, e, hb⟩ := nbest_is (gd_of_chk hc).n1
  rw [e]; exact digs_ok hc hb.1
theorem nbest_top {rr : List (List Int)} {l : List Int} (hc : chk rr = 0) (hv : vld rr l = 0) (hl : compl l) : ¬ ltP (prd rr (nbest rr)) (prd rr l) := by
  obtain ⟨k0, _, e, hb⟩ := nbest_is (gd_of_chk hc).n1
  obtain ⟨k, hk, rfl⟩ := compl_digs hv hl
  rw [e]; exact hb.2.1 k hk
theorem nbest_first {rr : List (List Int)} {l : List Int} (hc : chk rr = 0) (hv : vld rr l = 0) (hl : compl l) (he : prd rr l = prd rr (nbest rr)) : l = nbest rr ∨ lexlt (nbest rr) l := by
  obtain ⟨k0, _, e, hb⟩ := nbest_is (gd_of_chk hc).n1
  obtain ⟨k, hk, rfl⟩ := compl_digs hv hl
  rw [e] at he ⊢
  by_cases h : k < k0
  · have := hb.2.2 k h
    rw [he] at this
    unfold ltP at this; omega
  · by_cases e2 : k = k0
    · exact .inl (by rw [e2])
    · exact .inr (digs_lt (gd_of_chk hc).n1 hb.1 hk (by omega))

/-! ### values -/
theorem gain_bd {rr : List (List Int)} {l : List Int} (hv : vld rr l = 0) (i : Nat) : 0 ≤ gain rr l i ∧ gain rr l i ≤ 10000 := by
  have hal := al_of_vld hv
  have := wth_bd (a := l) hal.toGd i i
  have := hal.len
  have := hal.m10
  unfold gain; omega
theorem vp_mono {f g : Nat → Int} : ∀ {c : Nat}, (∀ i, i < c → 0 ≤ f i ∧ f i ≤ g i) → cntP f c ≤ cntP g c ∧ (cntP f c = cntP g c → vp f c ≤ vp g c ∧ ((∃ i, i < c ∧ f i < g i) → vp f c < vp g c))
  | 0, _ => by simp [cntP, vp]
  | c + 1, h => by
    obtain ⟨h1, h2⟩ := vp_mono (c := c) (fun i hi => h i (by omega))
    have hc := h c (by omega)
    have pf := vp_pos f c
    have pg := vp_pos g c
    simp only [cntP, vp]
    by_cases p : 0 < f c
    · rw [if_pos p, if_pos p, if_pos (by omega : 0 < g c), if_pos (by omega : 0 < g c)]
      refine ⟨by omega, fun e => ?_⟩
      obtain ⟨h3, h4⟩ := h2 (by omega)
      refine ⟨Int.mul_le_mul h3 hc.2 (by omega) (by omega), fun ⟨i, hi, hlt⟩ => ?_⟩
      by_cases e2 : i = c
      · subst e2
        have a1 : vp f i * f i ≤ vp g i * f i := Int.mul_le_mul_of_nonneg_right h3 (by omega)
        have a2 : vp g i * f i < vp g i * g i := Int.mul_lt_mul_of_pos_left hlt (by omega)
        omega
      · have h5 := h4 ⟨i, by omega, hlt⟩
        have a1 : vp f c * f c < vp g c * f c := Int.mul_lt_mul_of_pos_right h5 p
        have a2 : vp g c * f c ≤ vp g c * g c := Int.mul_le_mul_of_nonneg_left hc.2 (by omega)
        omega
    · rw [if_neg p, if_neg p]
      by_cases q : 0 < g c
      · rw [if_pos q, if_pos q]
        exact ⟨by omega, fun e => by omega⟩
      · rw [if_neg q, if_neg q]
        refine ⟨h1, fun e => ⟨(h2 e).1, fun ⟨i, hi, hlt⟩ => (h2 e).2 ⟨i, ?_, hlt⟩⟩⟩
        by_cases e2 : i = c
        · subst e2; omega
        · omega

/-- two entries apart -/
def off (f : Nat → Int) (i k : Nat) (j : Nat) : Int := if j = i ∨ j = k then 0 else f j
def fx (x : Int) : Int := if 0 < x then x else 1
def ix (x : Int) : Int := if 0 < x then 1 else 0
theorem vp_off {f : Nat → Int} {i k : Nat} (hik : i ≠ k) : ∀ c : Nat, vp f c = vp (off f i k) c * (if i < c then fx (f i) else 1) * (if k < c then fx (f k) else 1)
  | 0 => by simp [vp]
  | c + 1 => by
    have ih := vp_off (f := f) hik c
    simp only [vp]
    by_cases e1 : c = i
    · subst e1
      have o : off f c k c = 0 := by unfold off; rw [if_pos (.inl rfl)]
      rw [o, if_neg (by omega : ¬ (0 : Int) < 0), if_pos (by omega : c < c + 1), ih, if_neg (by omega : ¬ c < c)]
      have e3 : (if k < c + 1 then fx (f k) else 1) = (if k < c then fx (f k) else 1) := by
        by_cases h : k < c
        · rw [if_pos h, if_pos (by omega)]
        · rw [if_neg h, if_neg (by omega)]
      rw [e3]
      unfold fx
      by_cases h : 0 < f c
      · rw [if_pos h, if_pos h, Int.mul_one, Int.mul_right_comm]
      · rw [if_neg h, if_neg h]
    · by_cases e2 : c = k
      · subst e2
        have o : off f i c c = 0 := by unfold off; rw [if_pos (.inr rfl)]
        rw [o, if_neg (by omega : ¬ (0 : Int) < 0), if_pos (by omega : c < c + 1), ih, if_neg (by omega : ¬ c < c)]
        have e3 : (if i < c + 1 then fx (f i) else 1) = (if i < c then fx (f i) else 1) := by
          by_cases h : i < c
          · rw [if_pos h, if_pos (by omega)]
          · rw [if_neg h, if_neg (by omega)]
        rw [e3, Int.mul_one]
        unfold fx
        by_cases h : 0 < f c
        · rw [if_pos h, if_pos h]
        · rw [if_neg h, if_neg h, Int.mul_one]
      · have o : off f i k c = f c := by unfold off; rw [if_neg (by omega)]
        have e3 : (if i < c + 1 then fx (f i) else 1) = (if i < c then fx (f i) else 1) := by
          by_cases h : i < c
          · rw [if_pos h, if_pos (by omega)]
          · rw [if_neg h, if_neg (by omega)]
        have e4 : (if k < c + 1 then fx (f k) else 1) = (if k < c then fx (f k) else 1) := by
          by_cases h : k < c
          · rw [if_pos h, if_pos (by omega)]
          · rw [if_neg h, if_neg (by omega)]
        rw [o, e3, e4, ih]
        by_cases h : 0 < f c
        · rw [if_pos h, if_pos h, Int.mul_right_comm, Int.mul_right_comm (vp (off f i k) c)]
        · rw [if_neg h, if_neg h]
theorem cnt_off {f : Nat → Int} {i k : Nat} (hik : i ≠ k) : ∀ c : Nat, cntP f c = cntP (off f i k) c + (if i < c then ix (f i) else 0) + (if k < c then ix (f k) else 0)
  | 0 => by simp [cntP]
  | c + 1 => by
    have ih := cnt_off (f := f) hik c
    simp only [cntP]
    by_cases e1 : c = i
    · subst e1
      have o : off f c k c = 0 := by unfold off; rw [if_pos (.inl rfl)]
      rw [o, if_neg (by omega : ¬ (0 : Int) < 0), if_pos (by omega : c < c + 1)]
      rw [if_neg (by omega : ¬ c < c)] at ih
      unfold ix at *
      by_cases h : k < c
      · rw [if_pos h] at ih; rw [if_pos (by omega : k < c + 1)]; split <;> split <;> simp_all <;> omega
      · rw [if_neg h] at ih; rw [if_neg (by omega : ¬ k < c + 1)]; split <;> omega
    · by_cases e2 : c = k
      · subst e2
        have o : off f i c c = 0 := by unfold off; rw [if_pos (.inr rfl)]
        rw [o, if_neg (by omega : ¬ (0 : Int) < 0), if_pos (by omega : c < c + 1)]
        rw [if_neg (by omega : ¬ c < c)] at ih
        unfold ix at *
        by_cases h : i < c
        · rw [if_pos h] at ih; rw [if_pos (by omega : i < c + 1)]; split <;> split <;> simp_all <;> omega
        · rw [if_neg h] at ih; rw [if_neg (by omega : ¬ i < c + 1)]; split <;> omega
      · have o : off f i k c = f c := by unfold off; rw [if_neg (by omega)]
        have e3 : (if i < c + 1 then ix (f i) else 0) = (if i < c then ix (f i) else 0) := by
          by_cases h : i < c
          · rw [if_pos h, if_pos (by omega)]
          · rw [if_neg h, if_neg (by omega)]
        have e4 : (if k < c + 1 then ix (f k) else 0) = (if k < c then ix (f k) else 0) := by
          by_cases h : k < c
          · rw [if_pos h, if_pos (by omega)]
          · rw [if_neg h, if_neg (by omega)]
        rw [o, e3, e4]
        split <;> omega
theorem off_eq {f g : Nat → Int} {i k : Nat} (h : ∀ j, j ≠ i → j ≠ k → f j = g j) : off f i k = off g i k := by
  funext j
  unfold off
  by_cases e : j = i ∨ j = k
  · rw [if_pos e, if_pos e]
  · rw [if_neg e, if_neg e]; exact h j (fun e1 => e (.inl e1)) (fun e2 => e (.inr e2))
/-- a change at two places that makes the product greater -/
theorem two_lt {f g : Nat → Int} {i k n : Nat} (hi : i < n) (hk : k < n) (hik : i ≠ k) (h : ∀ j, j ≠ i → j ≠ k → f j = g j) (h1 : ix (f i) + ix (f k) < ix (g i) + ix (g k) ∨ ix (f i) + ix (f k) = ix (g i) + ix (g k) ∧ fx (f i) * fx (f k) < fx (g i) * fx (g k)) : ltP (pr f n) (pr g n) := by
  refine ltP_pr.2 ?_
  have e1 := vp_off (f := f) hik n
  have e2 := vp_off (f := g) hik n
  have c1 := cnt_off (f := f) hik n
  have c2 := cnt_off (f := g) hik n
  rw [off_eq h] at e1 c1
  rw [if_pos hi, if_pos hk, Int.mul_assoc] at e1 e2
  rw [if_pos hi, if_pos hk] at c1 c2
  have hp := vp_pos (off g i k) n
  rcases h1 with h1 | ⟨h1, h2⟩
  · exact .inl (by omega)
  · refine .inr ⟨by omega, ?_⟩
    rw [e1, e2]
    exact Int.mul_lt_mul_of_pos_left h2 (by omega)

/-- sums over a bundle -/
def wf (a : List Int) (f : Nat → Int) (k : Int) : Nat → Int
  | 0 => 0
  | c + 1 => wf a f k c + if a.getD c 0 = k then f c else 0
theorem worth_wf (a r : List Int) (k : Int) : ∀ c : Nat, worth a r k c = wf a (fun j => r.getD j 0) k c
  | 0 => rfl
  | c + 1 => by simp only [worth, wf]; rw [worth_wf a r k c]
theorem wf_lin {a : List Int} {f g : Nat → Int} {k X Y : Int} : ∀ c : Nat, wf a (fun j => f j * X - Y * g j) k c = wf a f k c * X - Y * wf a g k c
  | 0 => by simp [wf]
  | c + 1 => by
    simp only [wf]
    rw [wf_lin c, Int.add_mul, Int.mul_add]
    split
    · omega
    · simp
theorem wf_nonneg {a : List Int} {f : Nat → Int} {k : Int} : ∀ {c : Nat}, (∀ j, j < c → a.getD j 0 = k → 0 ≤ f j) → 0 ≤ wf a f k c
  | 0, _ => by simp [wf]
  | c + 1, h => by
    have := wf_nonneg (c := c) (fun j hj => h j (by omega))
    have := h c (by omega)
    simp only [wf]
    split
    · have := this ‹_›; omega
    · omega
theorem wf_pick {a : List Int} {f h : Nat → Int} {k : Int} : ∀ {c : Nat}, (∀ j, j < c → a.getD j 0 = k → 0 ≤ h j ∧ (h j = 0 → 0 ≤ f j)) → wf a f k c ≤ 0 → 0 < wf a h k c → ∃ j, j < c ∧ a.getD j 0 = k ∧ 0 < h j ∧ f j ≤ 0
  | c, hh, hf, hp => by
    refine Classical.byContradiction fun hn => ?_
    have hall : ∀ j, j < c → a.getD j 0 = k → 0 ≤ f j ∧ (0 < h j → 0 < f j) := fun j hj e => by
      by_cases p : 0 < h j
      · have : ¬ f j ≤ 0 := fun hf2 => hn ⟨j, hj, e, p, hf2⟩
        omega
      · have := (hh j hj e).2 (by have := (hh j hj e).1; omega)
        exact ⟨this, fun q => absurd q p⟩
    have key : ∀ d, d ≤ c → 0 ≤ wf a f k d ∧ (0 < wf a h k d → 0 < wf a f k d) := by
      intro d
      induction d with
      | zero => intro _; simp [wf]
      | succ d ih =>
        intro hd
        obtain ⟨i1, i2⟩ := ih (by omega)
        simp only [wf]
        by_cases e : a.getD d 0 = k
        · rw [if_pos e, if_pos e]
          have h1 := hall d (by omega) e
          have h2 := (hh d (by omega) e).1
          refine ⟨by omega, fun q => ?_⟩
          by_cases p : 0 < h d
          · have := h1.2 p; omega
          · have := i2 (by omega); omega
        · rw [if_neg e, if_neg e]; refine ⟨by omega, fun q => ?_⟩
          have := i2 (by omega); omega
    have := (key c (Nat.le_refl _)).2 hp
    omega

theorem nash_one {rr : List (List Int)} (hc : chk rr = 0) : oneX rr (nbest rr) = [] := by
  obtain ⟨hv, hcm⟩ := nbest_ok hc
  refine (oneX_nil hv).2 fun i k hi hk hl => Classical.byContradiction fun hn => ?_
  have hal := al_of_vld hv
  have hlen := hal.len
  have hik : i ≠ k := by rintro rfl; omega
  have bi := gain_bd hv i
  have bk := gain_bd hv k
  unfold gain at bi bk
  obtain ⟨g, hg, eg, hpos, hle⟩ := wf_pick (a := nbest rr) (f := fun j => val rr k j * wth rr (nbest rr) i k - wth rr (nbest rr) k k * val rr i j) (h := fun j => val rr i j) (k := (k : Int)) (c := (nbest rr).length)
    (fun j _ _ => ⟨(hal.val i j).1, fun h0 => by
      show 0 ≤ val rr k j * wth rr (nbest rr) i k - wth rr (nbest rr) k k * val rr i j
      have h0 : val rr i j = 0 := h0
      rw [h0, Int.mul_zero]
      have := Int.mul_nonneg (hal.val k j).1 (show 0 ≤ wth rr (nbest rr) i k by omega)
      omega⟩)
    (by
      rw [wf_lin (f := fun j => val rr k j) (g := fun j => val rr i j)]
      have e1 : wf (nbest rr) (fun j => val rr k j) k (nbest rr).length = wth rr (nbest rr) k k := (worth_wf _ _ _ _).symm
      have e2 : wf (nbest rr) (fun j => val rr i j) k (nbest rr).length = wth rr (nbest rr) i k := (worth_wf _ _ _ _).symm
      rw [e1, e2]; omega)
    (by
      have e2 : wf (nbest rr) (fun j => val rr i j) k (nbest rr).length = wth rr (nbest rr) i k := (worth_wf _ _ _ _).symm
      rw [e2]; omega)
  have hgo : giveOk rr (nbest rr) g i := ⟨by omega, by omega, by omega, by omega⟩
  have hvb : vld rr ((nbest rr).set g i) = 0 := by have := vld_give hv hgo; rwa [Int.toNat_natCast] at this
  have hcb : compl ((nbest rr).set g i) := fun j hj => by
    rw [set_get hg]
    split
    · omega
    · exact hcm j (by simpa using hj)
  refine nbest_top hc hvb hcb ?_
  have hgi : ∀ j : Nat, gain rr ((nbest rr).set g i) j = gain rr (nbest rr) j + ((if (i : Int) = j then val rr j g else 0) - (if (k : Int) = j then val rr j g else 0)) := fun j => by
    unfold gain
    rw [wth_set hg, eg]
  have h1 := hgi i
  have h2 := hgi k
  rw [if_pos rfl, if_neg (by omega)] at h1
  rw [if_neg (by omega), if_pos rfl] at h2
  have hnot : ¬ moreV rr (nbest rr) i k ≤ val rr i g := fun hm => hn ⟨g, hg, eg, hm⟩
  unfold moreV at hnot
  have hpos : 0 < val rr i g := hpos
  have hu := (hal.val k g).1
  have hle : val rr k g * wth rr (nbest rr) i k - wth rr (nbest rr) k k * val rr i g ≤ 0 := hle
  have hbk := gain_bd hvb k
  refine two_lt hi hk hik (fun j h3 h4 => by rw [hgi j, if_neg (by omega), if_neg (by omega)]; omega) ?_
  have eb1 : gain rr (nbest rr) i = wth rr (nbest rr) i i := rfl
  have eb2 : gain rr (nbest rr) k = wth rr (nbest rr) k k := rfl
  rw [h1, h2]
  rw [h2, eb2] at hbk
  rw [eb1, eb2]
  clear h1 h2 eb1 eb2 hgi hgo hvb hcb
  generalize wth rr (nbest rr) i i = x at *
  generalize wth rr (nbest rr) k k = y at *
  generalize wth rr (nbest rr) i k = W at *
  generalize val rr i g = v at *
  generalize val rr k g = u at *
  have e3 : x + (v - 0) = x + v := by omega
  have e4 : y + (0 - u) = y - u := by omega
  rw [e3, e4]
  by_cases hu0 : u = 0
  · subst hu0
    rw [Int.sub_zero]
    by_cases hx : 0 < x
    · refine .inr ⟨by unfold ix; rw [if_pos hx, if_pos (by omega : 0 < x + v)], ?_⟩
      have hfy : 0 < fx y := by unfold fx; split <;> omega
      refine Int.mul_lt_mul_of_pos_right ?_ hfy
      unfold fx; rw [if_pos hx, if_pos (by omega)]; omega
    · refine .inl ?_
      unfold ix; rw [if_neg hx, if_pos (by omega : 0 < x + v)]; omega
  · have m1 : u * (x + v) < u * W := Int.mul_lt_mul_of_pos_left (by omega) (by omega)
    have m2 : u * (x + v) = u * x + u * v := Int.mul_add _ _ _
    have m3 : (x + v) * (y - u) = x * y + v * y - u * x - u * v := by
      rw [Int.add_mul, Int.mul_sub, Int.mul_sub, Int.mul_comm x u, Int.mul_comm v u]; omega
    have m4 : v * y = y * v := Int.mul_comm _ _
    have m5 : 0 ≤ x * y := Int.mul_nonneg bi.1 bk.1
    have hyu : 0 < y - u := by
      refine Classical.byContradiction fun hh => ?_
      have : y - u = 0 := by omega
      rw [this, Int.mul_zero] at m3
      omega
    have hy : 0 < y := by omega
    by_cases hx : 0 < x
    · refine .inr ⟨by unfold ix; rw [if_pos hx, if_pos (by omega : 0 < x + v), if_pos hyu, if_pos hy], ?_⟩
      unfold fx
      rw [if_pos hx, if_pos (by omega : 0 < x + v), if_pos hyu, if_pos hy]
      omega
    · refine .inl ?_
      unfold ix; rw [if_neg hx, if_pos (by omega : 0 < x + v), if_pos hyu, if_pos hy]; omega

/-- no allocation gives some agent more and none less -/
def fillZ (l : List Int) : List Int := l.map fun x => if x < 0 then 0 else x
theorem fillZ_get {l : List Int} {i : Nat} : (fillZ l).getD i 0 = if l.getD i 0 < 0 then 0 else l.getD i 0 := by
  by_cases h : i < l.length
  · simp [fillZ, List.getD, h]
  · have e1 : (fillZ l).getD i 0 = 0 := getD_out (by simp [fillZ]; omega)
    have e2 : l.getD i 0 = 0 := getD_out (by omega)
    rw [e1, e2]; rfl
theorem worth_fill {l r : List Int} {k : Nat} (h : ∀ j, 0 ≤ r.getD j 0) : ∀ c : Nat, worth l r k c ≤ worth (fillZ l) r k c
  | 0 => by simp [worth]
  | c + 1 => by
    have ih := worth_fill (l := l) (k := k) h c
    have := h c
    simp only [worth, fillZ_get]
    by_cases e : l.getD c 0 = (k : Int)
    · rw [if_pos e, if_neg (by omega : ¬ l.getD c 0 < 0), if_pos e]; omega
    · rw [if_neg e]; (repeat' split) <;> omega
theorem nash_pareto {rr : List (List Int)} {l : List Int} (hc : chk rr = 0) (hv : vld rr l = 0) (hle : ∀ i, i < rr.length → gain rr (nbest rr) i ≤ gain rr l i) : ∀ i, i < rr.length → gain rr l i = gain rr (nbest rr) i := by
  intro i hi
  have hal := al_of_vld hv
  have hvz : vld rr (fillZ l) = 0 := vld_of hv (by simp [fillZ]) fun k hk => by
    have hk2 : k < l.length := by simpa [fillZ] using hk
    have := hal.rng k (by rw [← hal.len]; exact hk2)
    have := hal.n1
    rw [fillZ_get]; split <;> omega
  have hcz : compl (fillZ l) := fun k hk => by rw [fillZ_get]; split <;> omega
  have hz : ∀ j, gain rr l j ≤ gain rr (fillZ l) j := fun j => by
    unfold gain wth
    have : (fillZ l).length = l.length := by simp [fillZ]
    rw [this]
    exact worth_fill (fun q => (hal.val j q).1) _
  refine Classical.byContradiction fun hne => ?_
  refine nbest_top hc hvz hcz (ltP_pr.2 ?_)
  have hm := vp_mono (f := gain rr (nbest rr)) (g := gain rr (fillZ l)) (c := rr.length) (fun j hj => ⟨(gain_bd (nbest_ok hc).1 j).1, by have := hle j hj; have := hz j; omega⟩)
  by_cases e : cntP (gain rr (nbest rr)) rr.length = cntP (gain rr (fillZ l)) rr.length
  · refine .inr ⟨e, (hm.2 e).2 ⟨i, hi, ?_⟩⟩
    have := hle i hi; have := hz i; omega
  · exact .inl (by have := hm.1; omega)

/-- equal agents -/
theorem nash_equal {rr : List (List Int)} {i k : Nat} {most : Int} (hc : chk rr = 0) (hi : i < rr.length) (hk : k < rr.length) (he : rr.getD k [] = rr.getD i []) (hm0 : 0 ≤ most) (hm : ∀ j, j < (nbest rr).length → val rr k j ≤ most) : gain rr (nbest rr) k - gain rr (nbest rr) i ≤ most := by
  have hv := (nbest_ok hc).1
  have e1 : gain rr (nbest rr) k = wth rr (nbest rr) i k := by unfold gain wth; rw [he]
  rw [e1]
  have e2 : gain rr (nbest rr) i = wth rr (nbest rr) i i := rfl
  rw [e2]
  by_cases hl : wth rr (nbest rr) i i < wth rr (nbest rr) i k
  · obtain ⟨j, hj, _, hmo⟩ := (oneX_nil hv).1 (nash_one hc) i k hi hk hl
    have := hm j hj
    have e3 : val rr k j = val rr i j := by unfold val; rw [he]
    unfold moreV at hmo; omega
  · omega
end Go.Proofs.Ytebklnmafjbhcaa
set_option linter.unusedVariables false
set_option linter.unusedSimpArgs false
namespace Go.Proofs.Ytebklnmafjbhcaa
open Go.Eng
set_option maxRecDepth 100000
set_option maxHeartbeats 4000000

theorem split_at {l : List Int} {q : Nat} (h : q < l.length) : l = l.take q ++ l.getD q 0 :: l.drop (q + 1) := by
  have e : l.getD q 0 = l[q] := by simp [List.getD, h]
  rw [e, List.getElem_cons_drop, List.take_append_drop]
theorem set_mid {α : Type} {p s : List α} {x y : α} {q : Nat} (h : p.length = q) : (p ++ x :: s).set q y = p ++ y :: s := by
  subst h; rw [List.set_append]; simp
theorem getD_mid {p s : List Int} {x : Int} {q : Nat} (h : p.length = q) : (p ++ x :: s).getD q 0 = x := by
  subst h; simp [List.getD]

theorem next_rc {w : World} {B n : Nat} {lv : Value} {l : List Int} (Hl : Own B 3 1 w lv l.length (l.map i64v)) (hb : ∀ i, i < l.length → 0 ≤ l.getD i 0 ∧ l.getD i 0 < n) (hn : n ≤ 100000) :
    RC Try.prog 84 [lv, .int .i64 n] w (fun k => lv.ownBlock = some k) (fun u w' => u = .bool (nxt n l).1 ∧ Own B 3 1 w' lv l.length ((nxt n l).2.map i64v)) := by
  refine RC.mk tyOk Try.func84 rfl (by kernel_rfl) fun w1 E1 => ?_
  replace Hl := Hl.ext E1
  have EE := Ext.refl w1
  have hlI : Ints w1 lv l := Own.sl Hl
  have hle := hlI.le
  have GS : Gr (fun k => lv.ownBlock = some k) w1 w1 := Gr.refl _ _
  repeat' (conv => whnf
           first
           | (refine Dr.quiet tyOk (by kernel_rfl) ?_)
           | (refine Rng.mk (by omega) ?_)
           | (refine Split.pos (by omega) ?_)
           | (refine Split.neg (by omega) ?_)
           | (refine Split.mk (fun h => ?_) (fun h => ?_))
           | (refine Need.mk (by omega) ?_)
           | (refine Ints.ln (by assumption) ?_)
           | (refine Mat.ln (by assumption) ?_)
           | (refine Ints.ln (Mat.row (by assumption) _ (by omega)) ?_)
           | (refine Ints.ix (by assumption) (by omega) ?_)
           | (refine Mat.ix (by assumption) (by omega) ?_)
           | (refine Ints.ix (Mat.row (by assumption) _ (by omega)) (by omega) ?_)
           | (refine Ints.ix (c := 0) (by assumption) (by omega) ?_)
           | (refine Mat.ix (c := 0) (by assumption) (by omega) ?_)
           | (refine Ints.ix (c := 0) (Mat.row (by assumption) _ (by omega)) (by omega) ?_)
           | (refine Ints.ixI (by assumption) (by omega) ?_)
           | (refine Mat.ixI (by assumption) (by omega) ?_)
           | (refine Ints.ixI (Mat.row (by assumption) _ (by omega)) (by omega) ?_)
           | (refine Ints.ld (by assumption) (by omega) ?_)
           | (refine Mat.ld (by assumption) (by omega) ?_)
           | (refine Ints.ld (Mat.row (by assumption) _ (by omega)) (by omega) ?_)
           | (refine At.ld (by assumption) rfl ?_)
           | (refine At.ldN (by assumption) rfl ?_)
           | (refine Prs.ln (by assumption) ?_)
           | (refine Trs.ln (by assumption) ?_)
           | (refine Prs.ix (by assumption) (by omega) ?_)
           | (refine Trs.ix (by assumption) (by omega) ?_)
           | (refine Prs.ldN (by assumption) (by omega) ?_)
           | (refine Trs.ldN (by assumption) (by omega) ?_)
           | (refine At.ldN (Blk.at (by assumption)) rfl ?_)
           | (refine At.ld (Blk.at (by assumption)) rfl ?_)
           | (refine IxA.mk (by omega) ?_)
           | (refine Sl.ln (Own.sl (by assumption)) ?_)
           | (refine Ints.ix (Own.sl (by assumption)) (by omega) ?_)
           | (refine Ints.ixI (Own.sl (by assumption)) (by omega) ?_)
           | (refine Ints.ld (Own.sl (by assumption)) (by omega) ?_))
  refine Lp.mk tyOk [false, false, false, false, true, true, false, false, false, true, true, true, true, true, true, true, true, true, true, true, true, true, true, true, true, true, true, true] (fun m fr wr => getK fr 5 fun i => ∃ c : Nat, c ≤ l.length ∧ m = l.length - c ∧ i = .int .i64 ((l.length : Int) - 1 - c) ∧ ((nxt n (l.drop (l.length - c))).1 = false) ∧ (Own B 3 1 wr lv l.length ((l.take (l.length - c) ++ (nxt n (l.drop (l.length - c))).2).map i64v)) ∧ (Gr (fun k => lv.ownBlock = some k) w1 wr)) (l.length) ?_ ?_
  · exact ⟨0, Nat.zero_le _, rfl, by simp, by simp [nxt], by simpa [nxt] using Hl, (by first | exact fun _ hi => absurd hi (Nat.not_lt_zero _) | exact fun _ _ hi => absurd hi (Nat.not_lt_zero _) | assumption | exact Own.nil | omega | simp)⟩
  · intro m w2 u4 u5 u9 u10 u11 u12 u13 u14 u15 u16 u17 u18 u19 u20 u21 u22 u23 u24 u25 u26 u27 hR
    obtain ⟨c, hc, rfl, rfl, hf, HC, GS⟩ := hR
    by_cases hcl : c < l.length
    · have hq : l.length - c = l.length - c - 1 + 1 := by omega
      generalize l.length - c - 1 = q at hq
      have ei : ((l.length : Int) - 1 - (c : Int)) = (q : Int) := by omega
      have hql : q < l.length := by omega
      rw [hq] at hf HC
      have hlen : (l.take (q + 1) ++ (nxt n (l.drop (q + 1))).2).length = l.length := by rw [List.length_append, nxt_len, List.length_take, List.length_drop]; omega
      have hsp : l.take (q + 1) ++ (nxt n (l.drop (q + 1))).2 = l.take q ++ l.getD q 0 :: (nxt n (l.drop (q + 1))).2 := by
        rw [take_snoc 0 l q hql, List.append_assoc]; rfl
      have htk : (l.take q).length = q := by rw [List.length_take]; omega
      have hdr : l.drop q = l.getD q 0 :: l.drop (q + 1) := by
        have e : l.getD q 0 = l[q] := by simp [List.getD, hql]
        rw [e, List.getElem_cons_drop]
      rw [hsp] at HC hlen
      have HCI : Ints w2 lv (l.take q ++ l.getD q 0 :: (nxt n (l.drop (q + 1))).2) := by unfold Ints; rw [hlen]; exact Own.sl HC
      have hgd : (l.take q ++ l.getD q 0 :: (nxt n (l.drop (q + 1))).2).getD q 0 = l.getD q 0 := getD_mid htk
      have hbq := hb q hql
      have hnx : nxt n (l.drop q) = if l.getD q 0 + 1 < n then (true, (l.getD q 0 + 1) :: (nxt n (l.drop (q + 1))).2) else (false, 0 :: (nxt n (l.drop (q + 1))).2) := by
        rw [hdr]
        have e2 : nxt n (l.drop (q + 1)) = (false, (nxt n (l.drop (q + 1))).2) := Prod.ext hf rfl
        simp only [nxt]
        rw [e2]
      rw [ei]
      repeat' (conv => whnf
               first
               | (refine Dr.quiet tyOk (by kernel_rfl) ?_)
               | (refine Rng.mk (by omega) ?_)
               | (refine Split.pos (by omega) ?_)
               | (refine Split.neg (by omega) ?_)
               | (refine Split.mk (fun h => ?_) (fun h => ?_))
               | (refine Need.mk (by omega) ?_)
               | (refine Ints.ln (by assumption) ?_)
               | (refine Mat.ln (by assumption) ?_)
               | (refine Ints.ln (Mat.row (by assumption) _ (by omega)) ?_)
               | (refine Ints.ix (by assumption) (by omega) ?_)
               | (refine Mat.ix (by assumption) (by omega) ?_)
               | (refine Ints.ix (Mat.row (by assumption) _ (by omega)) (by omega) ?_)
               | (refine Ints.ix (c := 0) (by assumption) (by omega) ?_)
               | (refine Mat.ix (c := 0) (by assumption) (by omega) ?_)
               | (refine Ints.ix (c := 0) (Mat.row (by assumption) _ (by omega)) (by omega) ?_)
               | (refine Ints.ixI (by assumption) (by omega) ?_)
               | (refine Mat.ixI (by assumption) (by omega) ?_)
               | (refine Ints.ixI (Mat.row (by assumption) _ (by omega)) (by omega) ?_)
               | (refine Ints.ld (by assumption) (by omega) ?_)
               | (refine Mat.ld (by assumption) (by omega) ?_)
               | (refine Ints.ld (Mat.row (by assumption) _ (by omega)) (by omega) ?_)
               | (refine At.ld (by assumption) rfl ?_)
               | (refine At.ldN (by assumption) rfl ?_)
               | (refine Prs.ln (by assumption) ?_)
               | (refine Trs.ln (by assumption) ?_)
               | (refine Prs.ix (by assumption) (by omega) ?_)
               | (refine Trs.ix (by assumption) (by omega) ?_)
               | (refine Prs.ldN (by assumption) (by omega) ?_)
               | (refine Trs.ldN (by assumption) (by omega) ?_)
               | (refine At.ldN (Blk.at (by assumption)) rfl ?_)
               | (refine At.ld (Blk.at (by assumption)) rfl ?_)
               | (refine IxA.mk (by omega) ?_)
               | (refine Sl.ln (Own.sl (by assumption)) ?_)
               | (refine Ints.ix (Own.sl (by assumption)) (by omega) ?_)
               | (refine Ints.ixI (Own.sl (by assumption)) (by omega) ?_)
               | (refine Ints.ld (Own.sl (by assumption)) (by omega) ?_))
      refine Own.set HC (by rw [List.length_map, hlen]; omega) rfl fun w5 G5 H5 => ?_
      rw [hgd, set_map, set_mid htk] at H5
      have GS5 := GS.trans G5
      have H5I : Ints w5 lv (l.take q ++ (l.getD q 0 + 1) :: (nxt n (l.drop (q + 1))).2) := by unfold Ints; rw [show (l.take q ++ (l.getD q 0 + 1) :: (nxt n (l.drop (q + 1))).2).length = l.length by rw [← hlen]; simp]; exact Own.sl H5
      have hgd5 : (l.take q ++ (l.getD q 0 + 1) :: (nxt n (l.drop (q + 1))).2).getD q 0 = l.getD q 0 + 1 := getD_mid htk
      have hlen5 : (l.take q ++ (l.getD q 0 + 1) :: (nxt n (l.drop (q + 1))).2).length = l.length := by rw [← hlen]; simp
      repeat' (conv => whnf
               first
               | (refine Dr.quiet tyOk (by kernel_rfl) ?_)
               | (refine Rng.mk (by omega) ?_)
               | (refine Split.pos (by omega) ?_)
               | (refine Split.neg (by omega) ?_)
               | (refine Split.mk (fun h => ?_) (fun h => ?_))
               | (refine Need.mk (by omega) ?_)
               | (refine Ints.ln (by assumption) ?_)
               | (refine Mat.ln (by assumption) ?_)
               | (refine Ints.ln (Mat.row (by assumption) _ (by omega)) ?_)
               | (refine Ints.ix (by assumption) (by omega) ?_)
               | (refine Mat.ix (by assumption) (by omega) ?_)
               | (refine Ints.ix (Mat.row (by assumption) _ (by omega)) (by omega) ?_)
               | (refine Ints.ix (c := 0) (by assumption) (by omega) ?_)
               | (refine Mat.ix (c := 0) (by assumption) (by omega) ?_)
               | (refine Ints.ix (c := 0) (Mat.row (by assumption) _ (by omega)) (by omega) ?_)
               | (refine Ints.ixI (by assumption) (by omega) ?_)
               | (refine Mat.ixI (by assumption) (by omega) ?_)
               | (refine Ints.ixI (Mat.row (by assumption) _ (by omega)) (by omega) ?_)
               | (refine Ints.ld (by assumption) (by omega) ?_)
               | (refine Mat.ld (by assumption) (by omega) ?_)
               | (refine Ints.ld (Mat.row (by assumption) _ (by omega)) (by omega) ?_)
               | (refine At.ld (by assumption) rfl ?_)
               | (refine At.ldN (by assumption) rfl ?_)
               | (refine Prs.ln (by assumption) ?_)
               | (refine Trs.ln (by assumption) ?_)
               | (refine Prs.ix (by assumption) (by omega) ?_)
               | (refine Trs.ix (by assumption) (by omega) ?_)
               | (refine Prs.ldN (by assumption) (by omega) ?_)
               | (refine Trs.ldN (by assumption) (by omega) ?_)
               | (refine At.ldN (Blk.at (by assumption)) rfl ?_)
               | (refine At.ld (Blk.at (by assumption)) rfl ?_)
               | (refine IxA.mk (by omega) ?_)
               | (refine Sl.ln (Own.sl (by assumption)) ?_)
               | (refine Ints.ix (Own.sl (by assumption)) (by omega) ?_)
               | (refine Ints.ixI (Own.sl (by assumption)) (by omega) ?_)
               | (refine Ints.ld (Own.sl (by assumption)) (by omega) ?_))
      · rw [if_pos (by omega)] at hnx
        have e3 := nxt_app hnx (l.take q)
        rw [List.take_append_drop] at e3
        exact ⟨GS5, by rw [e3], by rw [e3]; exact H5⟩
      · rw [if_neg (by omega)] at hnx
        refine Own.set H5 (by rw [List.length_map, hlen5]; omega) rfl fun w6 G6 H6 => ?_
        rw [set_map, set_mid htk] at H6
        have GS6 := GS5.trans G6
        have eq : l.length - (c + 1) = q := by omega
        repeat' (conv => whnf
                 first
                 | (refine Dr.quiet tyOk (by kernel_rfl) ?_)
                 | (refine Rng.mk (by omega) ?_)
                 | (refine Split.pos (by omega) ?_)
                 | (refine Split.neg (by omega) ?_)
                 | (refine Split.mk (fun h => ?_) (fun h => ?_))
                 | (refine Need.mk (by omega) ?_)
                 | (refine Ints.ln (by assumption) ?_)
                 | (refine Mat.ln (by assumption) ?_)
                 | (refine Ints.ln (Mat.row (by assumption) _ (by omega)) ?_)
                 | (refine Ints.ix (by assumption) (by omega) ?_)
                 | (refine Mat.ix (by assumption) (by omega) ?_)
                 | (refine Ints.ix (Mat.row (by assumption) _ (by omega)) (by omega) ?_)
                 | (refine Ints.ix (c := 0) (by assumption) (by omega) ?_)
                 | (refine Mat.ix (c := 0) (by assumption) (by omega) ?_)
                 | (refine Ints.ix (c := 0) (Mat.row (by assumption) _ (by omega)) (by omega) ?_)
                 | (refine Ints.ixI (by assumption) (by omega) ?_)
                 | (refine Mat.ixI (by assumption) (by omega) ?_)
                 | (refine Ints.ixI (Mat.row (by assumption) _ (by omega)) (by omega) ?_)
                 | (refine Ints.ld (by assumption) (by omega) ?_)
                 | (refine Mat.ld (by assumption) (by omega) ?_)
                 | (refine Ints.ld (Mat.row (by assumption) _ (by omega)) (by omega) ?_)
                 | (refine At.ld (by assumption) rfl ?_)
                 | (refine At.ldN (by assumption) rfl ?_)
                 | (refine Prs.ln (by assumption) ?_)
                 | (refine Trs.ln (by assumption) ?_)
                 | (refine Prs.ix (by assumption) (by omega) ?_)
                 | (refine Trs.ix (by assumption) (by omega) ?_)
                 | (refine Prs.ldN (by assumption) (by omega) ?_)
                 | (refine Trs.ldN (by assumption) (by omega) ?_)
                 | (refine At.ldN (Blk.at (by assumption)) rfl ?_)
                 | (refine At.ld (Blk.at (by assumption)) rfl ?_)
                 | (refine IxA.mk (by omega) ?_)
                 | (refine Sl.ln (Own.sl (by assumption)) ?_)
                 | (refine Ints.ix (Own.sl (by assumption)) (by omega) ?_)
                 | (refine Ints.ixI (Own.sl (by assumption)) (by omega) ?_)
                 | (refine Ints.ld (Own.sl (by assumption)) (by omega) ?_))
        refine ⟨_, (by omega : l.length - (c + 1) < l.length - c), rfl, c + 1, by omega, rfl, (by rw [show ((l.length : Int) - 1 - ((c + 1 : Nat) : Int)) = (q : Int) - 1 by omega]), ?_, ?_, GS6⟩
        · rw [eq, hnx]
        · rw [eq, hnx]; exact H6
    · obtain rfl : c = l.length := by omega
      rw [Nat.sub_self] at hf HC
      repeat' (conv => whnf
               first
               | (refine Dr.quiet tyOk (by kernel_rfl) ?_)
               | (refine Rng.mk (by omega) ?_)
               | (refine Split.pos (by omega) ?_)
               | (refine Split.neg (by omega) ?_)
               | (refine Split.mk (fun h => ?_) (fun h => ?_))
               | (refine Need.mk (by omega) ?_)
               | (refine Ints.ln (by assumption) ?_)
               | (refine Mat.ln (by assumption) ?_)
               | (refine Ints.ln (Mat.row (by assumption) _ (by omega)) ?_)
               | (refine Ints.ix (by assumption) (by omega) ?_)
               | (refine Mat.ix (by assumption) (by omega) ?_)
               | (refine Ints.ix (Mat.row (by assumption) _ (by omega)) (by omega) ?_)
               | (refine Ints.ix (c := 0) (by assumption) (by omega) ?_)
               | (refine Mat.ix (c := 0) (by assumption) (by omega) ?_)
               | (refine Ints.ix (c := 0) (Mat.row (by assumption) _ (by omega)) (by omega) ?_)
               | (refine Ints.ixI (by assumption) (by omega) ?_)
               | (refine Mat.ixI (by assumption) (by omega) ?_)
               | (refine Ints.ixI (Mat.row (by assumption) _ (by omega)) (by omega) ?_)
               | (refine Ints.ld (by assumption) (by omega) ?_)
               | (refine Mat.ld (by assumption) (by omega) ?_)
               | (refine Ints.ld (Mat.row (by assumption) _ (by omega)) (by omega) ?_)
               | (refine At.ld (by assumption) rfl ?_)
               | (refine At.ldN (by assumption) rfl ?_)
               | (refine Prs.ln (by assumption) ?_)
               | (refine Trs.ln (by assumption) ?_)
               | (refine Prs.ix (by assumption) (by omega) ?_)
               | (refine Trs.ix (by assumption) (by omega) ?_)
               | (refine Prs.ldN (by assumption) (by omega) ?_)
               | (refine Trs.ldN (by assumption) (by omega) ?_)
               | (refine At.ldN (Blk.at (by assumption)) rfl ?_)
               | (refine At.ld (Blk.at (by assumption)) rfl ?_)
               | (refine IxA.mk (by omega) ?_)
               | (refine Sl.ln (Own.sl (by assumption)) ?_)
               | (refine Ints.ix (Own.sl (by assumption)) (by omega) ?_)
               | (refine Ints.ixI (Own.sl (by assumption)) (by omega) ?_)
               | (refine Ints.ld (Own.sl (by assumption)) (by omega) ?_))
      exact ⟨GS, by rw [show (nxt n l).1 = false from hf], by simpa using HC⟩
end Go.Proofs.Ytebklnmafjbhcaa
set_option linter.unusedVariables false
set_option linter.unusedSimpArgs false
namespace Go.Proofs.Ytebklnmafjbhcaa
open Go.Eng
set_option maxRecDepth 100000
set_option maxHeartbeats 4000000

theorem pow_tot {rr : List (List Int)} {c : Nat} (hn : 1 ≤ rr.length) (hc : c ≤ mOf rr) : rr.length ^ c ≤ tot rr := Nat.pow_le_pow_right hn hc

theorem few_pc {w : World} {gv : Value} {vs : List Value} {rr : List (List Int)} (Hg : Mat w gv vs rr) (hc : chk rr = 0) : PC Try.prog 77 [.agg #[gv]] w (.bool (tf (¬ 20000 < tot rr))) := by
  refine PC.mk tyOk Try.func77 rfl (by kernel_rfl) fun w1 E1 => ?_
  replace Hg := Hg.ext E1
  have EE := Ext.refl w1
  refine Bx.agg fun b2 w2 E2 hb2 Hb _ => ?_
  replace Hg := Hg.ext E2
  replace EE := EE.ext E2
  have hgd := gd_of_chk hc
  have hn := hgd.n6
  have hn1 := hgd.n1
  have hm := hgd.m10
  have hmO : mOf rr = (rr.getD 0 []).length := rfl
  repeat' (conv => whnf
           first
           | (refine Dr.quiet tyOk (by kernel_rfl) ?_)
           | (refine Rng.mk (by omega) ?_)
           | (refine Split.pos (by omega) ?_)
           | (refine Split.neg (by omega) ?_)
           | (refine Split.mk (fun h => ?_) (fun h => ?_))
           | (refine Need.mk (by omega) ?_)
           | (refine Ints.ln (by assumption) ?_)
           | (refine Mat.ln (by assumption) ?_)
           | (refine Ints.ln (Mat.row (by assumption) _ (by omega)) ?_)
           | (refine Ints.ix (by assumption) (by omega) ?_)
           | (refine Mat.ix (by assumption) (by omega) ?_)
           | (refine Ints.ix (Mat.row (by assumption) _ (by omega)) (by omega) ?_)
           | (refine Ints.ix (c := 0) (by assumption) (by omega) ?_)
           | (refine Mat.ix (c := 0) (by assumption) (by omega) ?_)
           | (refine Ints.ix (c := 0) (Mat.row (by assumption) _ (by omega)) (by omega) ?_)
           | (refine Ints.ixI (by assumption) (by omega) ?_)
           | (refine Mat.ixI (by assumption) (by omega) ?_)
           | (refine Ints.ixI (Mat.row (by assumption) _ (by omega)) (by omega) ?_)
           | (refine Ints.ld (by assumption) (by omega) ?_)
           | (refine Mat.ld (by assumption) (by omega) ?_)
           | (refine Ints.ld (Mat.row (by assumption) _ (by omega)) (by omega) ?_)
           | (refine At.ld (by assumption) rfl ?_)
           | (refine At.ldN (by assumption) rfl ?_)
           | (refine Prs.ln (by assumption) ?_)
           | (refine Trs.ln (by assumption) ?_)
           | (refine Prs.ix (by assumption) (by omega) ?_)
           | (refine Trs.ix (by assumption) (by omega) ?_)
           | (refine Prs.ldN (by assumption) (by omega) ?_)
           | (refine Trs.ldN (by assumption) (by omega) ?_)
           | (refine At.ldN (Blk.at (by assumption)) rfl ?_)
           | (refine At.ld (Blk.at (by assumption)) rfl ?_)
           | (refine IxA.mk (by omega) ?_)
           | (refine Sl.ln (Own.sl (by assumption)) ?_)
           | (refine Ints.ix (Own.sl (by assumption)) (by omega) ?_)
           | (refine Ints.ixI (Own.sl (by assumption)) (by omega) ?_)
           | (refine Ints.ld (Own.sl (by assumption)) (by omega) ?_))
  refine Lp.mk tyOk [false, false, true, true, false, false, false, false, false, true, true, true, true, true, true, true, true, true, true] (fun m fr wr => getK fr 9 fun j => getK fr 3 fun q => ∃ c : Nat, c ≤ (rr.getD 0 []).length ∧ m = (rr.getD 0 []).length - c ∧ j = .int .i64 (c : Int) ∧ q = .int .i64 ((rr.length ^ c : Nat) : Int) ∧ (rr.length ^ c ≤ 20000) ∧ wr = w2) ((rr.getD 0 []).length) ?_ ?_
  · exact ⟨0, Nat.zero_le _, rfl, rfl, (by simp), by simp, rfl⟩
  · intro m w3 u2 u3 u9 u10 u11 u12 u13 u14 u15 u16 u17 u18 hR
    obtain ⟨c, hc, rfl, rfl, rfl, hle, rfl⟩ := hR
    have hpow : rr.length ^ (c + 1) = rr.length ^ c * rr.length := Nat.pow_succ _ _
    have hcast : ((rr.length ^ c : Nat) : Int) * (rr.length : Int) = ((rr.length ^ (c + 1) : Nat) : Int) := by rw [hpow, Int.natCast_mul]
    have hup : rr.length ^ (c + 1) ≤ 20000 * 6 := by rw [hpow]; exact Nat.mul_le_mul hle hn
    have htp : c < mOf rr → rr.length ^ (c + 1) ≤ tot rr := fun h => pow_tot hn1 h
    have hend : c = (rr.getD 0 []).length → tot rr = rr.length ^ c := fun h => by unfold tot; rw [hmO, h]
    generalize hq : rr.length ^ c = q at *
    generalize hq1 : rr.length ^ (c + 1) = q1 at *
    by_cases hcl : c < (rr.getD 0 []).length
    · repeat' (conv => whnf
               first
               | (refine Dr.quiet tyOk (by kernel_rfl) ?_)
               | (refine Rng.mk (by omega) ?_)
               | (refine Split.pos (by omega) ?_)
               | (refine Split.neg (by omega) ?_)
               | (refine Split.mk (fun h => ?_) (fun h => ?_))
               | (refine Need.mk (by omega) ?_)
               | (refine Ints.ln (by assumption) ?_)
               | (refine Mat.ln (by assumption) ?_)
               | (refine Ints.ln (Mat.row (by assumption) _ (by omega)) ?_)
               | (refine Ints.ix (by assumption) (by omega) ?_)
               | (refine Mat.ix (by assumption) (by omega) ?_)
               | (refine Ints.ix (Mat.row (by assumption) _ (by omega)) (by omega) ?_)
               | (refine Ints.ix (c := 0) (by assumption) (by omega) ?_)
               | (refine Mat.ix (c := 0) (by assumption) (by omega) ?_)
               | (refine Ints.ix (c := 0) (Mat.row (by assumption) _ (by omega)) (by omega) ?_)
               | (refine Ints.ixI (by assumption) (by omega) ?_)
               | (refine Mat.ixI (by assumption) (by omega) ?_)
               | (refine Ints.ixI (Mat.row (by assumption) _ (by omega)) (by omega) ?_)
               | (refine Ints.ld (by assumption) (by omega) ?_)
               | (refine Mat.ld (by assumption) (by omega) ?_)
               | (refine Ints.ld (Mat.row (by assumption) _ (by omega)) (by omega) ?_)
               | (refine At.ld (by assumption) rfl ?_)
               | (refine At.ldN (by assumption) rfl ?_)
               | (refine Prs.ln (by assumption) ?_)
               | (refine Trs.ln (by assumption) ?_)
               | (refine Prs.ix (by assumption) (by omega) ?_)
               | (refine Trs.ix (by assumption) (by omega) ?_)
               | (refine Prs.ldN (by assumption) (by omega) ?_)
               | (refine Trs.ldN (by assumption) (by omega) ?_)
               | (refine At.ldN (Blk.at (by assumption)) rfl ?_)
               | (refine At.ld (Blk.at (by assumption)) rfl ?_)
               | (refine IxA.mk (by omega) ?_)
               | (refine Sl.ln (Own.sl (by assumption)) ?_)
               | (refine Ints.ix (Own.sl (by assumption)) (by omega) ?_)
               | (refine Ints.ixI (Own.sl (by assumption)) (by omega) ?_)
               | (refine Ints.ld (Own.sl (by assumption)) (by omega) ?_))
      · have htt : 20000 < tot rr := by have := htp (by omega); omega
        rw [tf_f (fun h => h htt)]; exact ⟨rfl, EE⟩
      · refine ⟨_, (by omega : (rr.getD 0 []).length - (c + 1) < (rr.getD 0 []).length - c), rfl, c + 1, by omega, rfl, rfl, (by rw [hq1, hcast]), (by rw [hq1]; omega), rfl⟩
    · have htt : ¬ 20000 < tot rr := by have := hend (by omega); omega
      repeat' (conv => whnf
               first
               | (refine Dr.quiet tyOk (by kernel_rfl) ?_)
               | (refine Rng.mk (by omega) ?_)
               | (refine Split.pos (by omega) ?_)
               | (refine Split.neg (by omega) ?_)
               | (refine Split.mk (fun h => ?_) (fun h => ?_))
               | (refine Need.mk (by omega) ?_)
               | (refine Ints.ln (by assumption) ?_)
               | (refine Mat.ln (by assumption) ?_)
               | (refine Ints.ln (Mat.row (by assumption) _ (by omega)) ?_)
               | (refine Ints.ix (by assumption) (by omega) ?_)
               | (refine Mat.ix (by assumption) (by omega) ?_)
               | (refine Ints.ix (Mat.row (by assumption) _ (by omega)) (by omega) ?_)
               | (refine Ints.ix (c := 0) (by assumption) (by omega) ?_)
               | (refine Mat.ix (c := 0) (by assumption) (by omega) ?_)
               | (refine Ints.ix (c := 0) (Mat.row (by assumption) _ (by omega)) (by omega) ?_)
               | (refine Ints.ixI (by assumption) (by omega) ?_)
               | (refine Mat.ixI (by assumption) (by omega) ?_)
               | (refine Ints.ixI (Mat.row (by assumption) _ (by omega)) (by omega) ?_)
               | (refine Ints.ld (by assumption) (by omega) ?_)
               | (refine Mat.ld (by assumption) (by omega) ?_)
               | (refine Ints.ld (Mat.row (by assumption) _ (by omega)) (by omega) ?_)
               | (refine At.ld (by assumption) rfl ?_)
               | (refine At.ldN (by assumption) rfl ?_)
               | (refine Prs.ln (by assumption) ?_)
               | (refine Trs.ln (by assumption) ?_)
               | (refine Prs.ix (by assumption) (by omega) ?_)
               | (refine Trs.ix (by assumption) (by omega) ?_)
               | (refine Prs.ldN (by assumption) (by omega) ?_)
               | (refine Trs.ldN (by assumption) (by omega) ?_)
               | (refine At.ldN (Blk.at (by assumption)) rfl ?_)
               | (refine At.ld (Blk.at (by assumption)) rfl ?_)
               | (refine IxA.mk (by omega) ?_)
               | (refine Sl.ln (Own.sl (by assumption)) ?_)
               | (refine Ints.ix (Own.sl (by assumption)) (by omega) ?_)
               | (refine Ints.ixI (Own.sl (by assumption)) (by omega) ?_)
               | (refine Ints.ld (Own.sl (by assumption)) (by omega) ?_))
      rw [tf_t htt]; exact ⟨rfl, EE⟩

theorem btries_pc {w : World} {gv : Value} {vs : List Value} {rr : List (List Int)} (Hg : Mat w gv vs rr) (hc : chk rr = 0) : PC Try.prog 44 [.agg #[gv]] w (.bool (tf (20000 < tot rr))) := by
  refine PC.mk tyOk Try.func44 rfl (by kernel_rfl) fun w1 E1 => ?_
  replace Hg := Hg.ext E1
  have EE := Ext.refl w1
  refine Bx.agg fun b2 w2 E2 hb2 Hb _ => ?_
  replace Hg := Hg.ext E2
  replace EE := EE.ext E2
  have hgd := gd_of_chk hc
  have hn := hgd.n6
  have hn1 := hgd.n1
  have hm := hgd.m10
  have hmO : mOf rr = (rr.getD 0 []).length := rfl
  repeat' (conv => whnf
           first
           | (refine Dr.quiet tyOk (by kernel_rfl) ?_)
           | (refine Rng.mk (by omega) ?_)
           | (refine Split.pos (by omega) ?_)
           | (refine Split.neg (by omega) ?_)
           | (refine Split.mk (fun h => ?_) (fun h => ?_))
           | (refine Need.mk (by omega) ?_)
           | (refine Ints.ln (by assumption) ?_)
           | (refine Mat.ln (by assumption) ?_)
           | (refine Ints.ln (Mat.row (by assumption) _ (by omega)) ?_)
           | (refine Ints.ix (by assumption) (by omega) ?_)
           | (refine Mat.ix (by assumption) (by omega) ?_)
           | (refine Ints.ix (Mat.row (by assumption) _ (by omega)) (by omega) ?_)
           | (refine Ints.ix (c := 0) (by assumption) (by omega) ?_)
           | (refine Mat.ix (c := 0) (by assumption) (by omega) ?_)
           | (refine Ints.ix (c := 0) (Mat.row (by assumption) _ (by omega)) (by omega) ?_)
           | (refine Ints.ixI (by assumption) (by omega) ?_)
           | (refine Mat.ixI (by assumption) (by omega) ?_)
           | (refine Ints.ixI (Mat.row (by assumption) _ (by omega)) (by omega) ?_)
           | (refine Ints.ld (by assumption) (by omega) ?_)
           | (refine Mat.ld (by assumption) (by omega) ?_)
           | (refine Ints.ld (Mat.row (by assumption) _ (by omega)) (by omega) ?_)
           | (refine At.ld (by assumption) rfl ?_)
           | (refine At.ldN (by assumption) rfl ?_)
           | (refine Prs.ln (by assumption) ?_)
           | (refine Trs.ln (by assumption) ?_)
           | (refine Prs.ix (by assumption) (by omega) ?_)
           | (refine Trs.ix (by assumption) (by omega) ?_)
           | (refine Prs.ldN (by assumption) (by omega) ?_)
           | (refine Trs.ldN (by assumption) (by omega) ?_)
           | (refine At.ldN (Blk.at (by assumption)) rfl ?_)
           | (refine At.ld (Blk.at (by assumption)) rfl ?_)
           | (refine IxA.mk (by omega) ?_)
           | (refine Sl.ln (Own.sl (by assumption)) ?_)
           | (refine Ints.ix (Own.sl (by assumption)) (by omega) ?_)
           | (refine Ints.ixI (Own.sl (by assumption)) (by omega) ?_)
           | (refine Ints.ld (Own.sl (by assumption)) (by omega) ?_))
  refine Lp.mk tyOk [false, false, false, true, true, true, true, true, true, true, true, true, true, true, true, true, true, true, true, true, true, true, true] (fun m fr wr => getK fr 4 fun j => getK fr 3 fun q => ∃ c : Nat, c ≤ (rr.getD 0 []).length ∧ m = (rr.getD 0 []).length - c ∧ j = .int .i64 (c : Int) ∧ q = .int .i64 ((rr.length ^ c : Nat) : Int) ∧ (rr.length ^ c ≤ 120000) ∧ wr = w2) ((rr.getD 0 []).length) ?_ ?_
  · exact ⟨0, Nat.zero_le _, rfl, rfl, (by simp), by simp, rfl⟩
  · intro m w3 u3 u4 u5 u6 u7 u8 u9 u10 u11 u12 u13 u14 u15 u16 u17 u18 u19 u20 u21 u22 hR
    obtain ⟨c, hc, rfl, rfl, rfl, hle, rfl⟩ := hR
    have hpow : rr.length ^ (c + 1) = rr.length ^ c * rr.length := Nat.pow_succ _ _
    have hcast : ((rr.length ^ c : Nat) : Int) * (rr.length : Int) = ((rr.length ^ (c + 1) : Nat) : Int) := by rw [hpow, Int.natCast_mul]
    have hup : rr.length ^ c ≤ 20000 → rr.length ^ (c + 1) ≤ 20000 * 6 := fun h => by rw [hpow]; exact Nat.mul_le_mul h hn
    have htp : rr.length ^ c ≤ tot rr := pow_tot hn1 (by omega)
    have hend : c = (rr.getD 0 []).length → tot rr = rr.length ^ c := fun h => by unfold tot; rw [hmO, h]
    generalize hq : rr.length ^ c = q at *
    generalize hq1 : rr.length ^ (c + 1) = q1 at *
    repeat' (conv => whnf
             first
             | (refine Dr.quiet tyOk (by kernel_rfl) ?_)
             | (refine Rng.mk (by omega) ?_)
             | (refine Split.pos (by omega) ?_)
             | (refine Split.neg (by omega) ?_)
             | (refine Split.mk (fun h => ?_) (fun h => ?_))
             | (refine Need.mk (by omega) ?_)
             | (refine Ints.ln (by assumption) ?_)
             | (refine Mat.ln (by assumption) ?_)
             | (refine Ints.ln (Mat.row (by assumption) _ (by omega)) ?_)
             | (refine Ints.ix (by assumption) (by omega) ?_)
             | (refine Mat.ix (by assumption) (by omega) ?_)
             | (refine Ints.ix (Mat.row (by assumption) _ (by omega)) (by omega) ?_)
             | (refine Ints.ix (c := 0) (by assumption) (by omega) ?_)
             | (refine Mat.ix (c := 0) (by assumption) (by omega) ?_)
             | (refine Ints.ix (c := 0) (Mat.row (by assumption) _ (by omega)) (by omega) ?_)
             | (refine Ints.ixI (by assumption) (by omega) ?_)
             | (refine Mat.ixI (by assumption) (by omega) ?_)
             | (refine Ints.ixI (Mat.row (by assumption) _ (by omega)) (by omega) ?_)
             | (refine Ints.ld (by assumption) (by omega) ?_)
             | (refine Mat.ld (by assumption) (by omega) ?_)
             | (refine Ints.ld (Mat.row (by assumption) _ (by omega)) (by omega) ?_)
             | (refine At.ld (by assumption) rfl ?_)
             | (refine At.ldN (by assumption) rfl ?_)
             | (refine Prs.ln (by assumption) ?_)
             | (refine Trs.ln (by assumption) ?_)
             | (refine Prs.ix (by assumption) (by omega) ?_)
             | (refine Trs.ix (by assumption) (by omega) ?_)
             | (refine Prs.ldN (by assumption) (by omega) ?_)
             | (refine Trs.ldN (by assumption) (by omega) ?_)
             | (refine At.ldN (Blk.at (by assumption)) rfl ?_)
             | (refine At.ld (Blk.at (by assumption)) rfl ?_)
             | (refine IxA.mk (by omega) ?_)
             | (refine Sl.ln (Own.sl (by assumption)) ?_)
             | (refine Ints.ix (Own.sl (by assumption)) (by omega) ?_)
             | (refine Ints.ixI (Own.sl (by assumption)) (by omega) ?_)
             | (refine Ints.ld (Own.sl (by assumption)) (by omega) ?_))
    · refine ⟨_, (by omega : (rr.getD 0 []).length - (c + 1) < (rr.getD 0 []).length - c), rfl, c + 1, by omega, rfl, rfl, (by rw [hq1, hcast]), (by rw [hq1]; exact hup (by omega)), rfl⟩
    all_goals first
      | (rw [tf_t (p := 20000 < tot rr) (by omega)]; exact ⟨rfl, EE⟩)
      | (rw [tf_f (p := 20000 < tot rr) (by have := hend (by omega); omega)]; exact ⟨rfl, EE⟩)

/-- the error of an allocation that is improved -/
noncomputable def lkE (rr : List (List Int)) (a : List Int) : Int := if vld rr a = 0 then (if 20000 < tot rr then 4 else 0) else vld rr a
theorem chk_of_vld {rr : List (List Int)} {a : List Int} (h : vld rr a = 0) : chk rr = 0 := (vld_zero h).1
theorem looked_pc {w : World} {gv av : Value} {vs : List Value} {rr : List (List Int)} {a : List Int} (Hg : Mat w gv vs rr) (Ha : Ints w av a) : PC Try.prog 74 [.agg #[gv], av] w (.int .i64 (lkE rr a)) := by
  refine PC.mk tyOk Try.func74 rfl (by kernel_rfl) fun w1 E1 => ?_
  replace Hg := Hg.ext E1
  replace Ha := Ha.ext E1
  have EE := Ext.refl w1
  refine Bx.agg fun b2 w2 E2 hb2 Hb _ => ?_
  replace Hg := Hg.ext E2
  replace Ha := Ha.ext E2
  replace EE := EE.ext E2
  have ca := gvalid_pc Hg Ha
  by_cases h1 : vld rr a = 0
  · rw [h1] at ca
    have cf := few_pc Hg (chk_of_vld h1)
    by_cases h2 : 20000 < tot rr
    · rw [tf_f (fun h => h h2)] at cf
      rw [show lkE rr a = 4 by unfold lkE; rw [if_pos h1, if_pos h2]]
      repeat' (conv => whnf
               first
               | (refine Dr.quiet tyOk (by kernel_rfl) ?_)
               | (refine VC.pure ca ?_)
               | (refine VC.pure cf ?_)
               | (refine Rng.mk (by omega) ?_)
               | (refine Split.pos (by omega) ?_)
               | (refine Split.neg (by omega) ?_)
               | (refine Split.mk (fun h => ?_) (fun h => ?_))
               | (refine Need.mk (by omega) ?_)
               | (refine Ints.ln (by assumption) ?_)
               | (refine Mat.ln (by assumption) ?_)
               | (refine Ints.ln (Mat.row (by assumption) _ (by omega)) ?_)
               | (refine Ints.ix (by assumption) (by omega) ?_)
               | (refine Mat.ix (by assumption) (by omega) ?_)
               | (refine Ints.ix (Mat.row (by assumption) _ (by omega)) (by omega) ?_)
               | (refine Ints.ix (c := 0) (by assumption) (by omega) ?_)
               | (refine Mat.ix (c := 0) (by assumption) (by omega) ?_)
               | (refine Ints.ix (c := 0) (Mat.row (by assumption) _ (by omega)) (by omega) ?_)
               | (refine Ints.ixI (by assumption) (by omega) ?_)
               | (refine Mat.ixI (by assumption) (by omega) ?_)
               | (refine Ints.ixI (Mat.row (by assumption) _ (by omega)) (by omega) ?_)
               | (refine Ints.ld (by assumption) (by omega) ?_)
               | (refine Mat.ld (by assumption) (by omega) ?_)
               | (refine Ints.ld (Mat.row (by assumption) _ (by omega)) (by omega) ?_)
               | (refine At.ld (by assumption) rfl ?_)
               | (refine At.ldN (by assumption) rfl ?_)
               | (refine Prs.ln (by assumption) ?_)
               | (refine Trs.ln (by assumption) ?_)
               | (refine Prs.ix (by assumption) (by omega) ?_)
               | (refine Trs.ix (by assumption) (by omega) ?_)
               | (refine Prs.ldN (by assumption) (by omega) ?_)
               | (refine Trs.ldN (by assumption) (by omega) ?_)
               | (refine At.ldN (Blk.at (by assumption)) rfl ?_)
               | (refine At.ld (Blk.at (by assumption)) rfl ?_)
               | (refine IxA.mk (by omega) ?_)
               | (refine Sl.ln (Own.sl (by assumption)) ?_)
               | (refine Ints.ix (Own.sl (by assumption)) (by omega) ?_)
               | (refine Ints.ixI (Own.sl (by assumption)) (by omega) ?_)
               | (refine Ints.ld (Own.sl (by assumption)) (by omega) ?_))
      exact ⟨rfl, EE⟩
    · rw [tf_t h2] at cf
      rw [show lkE rr a = 0 by unfold lkE; rw [if_pos h1, if_neg h2]]
      repeat' (conv => whnf
               first
               | (refine Dr.quiet tyOk (by kernel_rfl) ?_)
               | (refine VC.pure ca ?_)
               | (refine VC.pure cf ?_)
               | (refine Rng.mk (by omega) ?_)
               | (refine Split.pos (by omega) ?_)
               | (refine Split.neg (by omega) ?_)
               | (refine Split.mk (fun h => ?_) (fun h => ?_))
               | (refine Need.mk (by omega) ?_)
               | (refine Ints.ln (by assumption) ?_)
               | (refine Mat.ln (by assumption) ?_)
               | (refine Ints.ln (Mat.row (by assumption) _ (by omega)) ?_)
               | (refine Ints.ix (by assumption) (by omega) ?_)
               | (refine Mat.ix (by assumption) (by omega) ?_)
               | (refine Ints.ix (Mat.row (by assumption) _ (by omega)) (by omega) ?_)
               | (refine Ints.ix (c := 0) (by assumption) (by omega) ?_)
               | (refine Mat.ix (c := 0) (by assumption) (by omega) ?_)
               | (refine Ints.ix (c := 0) (Mat.row (by assumption) _ (by omega)) (by omega) ?_)
               | (refine Ints.ixI (by assumption) (by omega) ?_)
               | (refine Mat.ixI (by assumption) (by omega) ?_)
               | (refine Ints.ixI (Mat.row (by assumption) _ (by omega)) (by omega) ?_)
               | (refine Ints.ld (by assumption) (by omega) ?_)
               | (refine Mat.ld (by assumption) (by omega) ?_)
               | (refine Ints.ld (Mat.row (by assumption) _ (by omega)) (by omega) ?_)
               | (refine At.ld (by assumption) rfl ?_)
               | (refine At.ldN (by assumption) rfl ?_)
               | (refine Prs.ln (by assumption) ?_)
               | (refine Trs.ln (by assumption) ?_)
               | (refine Prs.ix (by assumption) (by omega) ?_)
               | (refine Trs.ix (by assumption) (by omega) ?_)
               | (refine Prs.ldN (by assumption) (by omega) ?_)
               | (refine Trs.ldN (by assumption) (by omega) ?_)
               | (refine At.ldN (Blk.at (by assumption)) rfl ?_)
               | (refine At.ld (Blk.at (by assumption)) rfl ?_)
               | (refine IxA.mk (by omega) ?_)
               | (refine Sl.ln (Own.sl (by assumption)) ?_)
               | (refine Ints.ix (Own.sl (by assumption)) (by omega) ?_)
               | (refine Ints.ixI (Own.sl (by assumption)) (by omega) ?_)
               | (refine Ints.ld (Own.sl (by assumption)) (by omega) ?_))
      exact ⟨rfl, EE⟩
  · rw [show lkE rr a = vld rr a by unfold lkE; rw [if_neg h1]]
    repeat' (conv => whnf
             first
             | (refine Dr.quiet tyOk (by kernel_rfl) ?_)
             | (refine VC.pure ca ?_)
             | (refine Rng.mk (by omega) ?_)
             | (refine Split.pos (by omega) ?_)
             | (refine Split.neg (by omega) ?_)
             | (refine Split.mk (fun h => ?_) (fun h => ?_))
             | (refine Need.mk (by omega) ?_)
             | (refine Ints.ln (by assumption) ?_)
             | (refine Mat.ln (by assumption) ?_)
             | (refine Ints.ln (Mat.row (by assumption) _ (by omega)) ?_)
             | (refine Ints.ix (by assumption) (by omega) ?_)
             | (refine Mat.ix (by assumption) (by omega) ?_)
             | (refine Ints.ix (Mat.row (by assumption) _ (by omega)) (by omega) ?_)
             | (refine Ints.ix (c := 0) (by assumption) (by omega) ?_)
             | (refine Mat.ix (c := 0) (by assumption) (by omega) ?_)
             | (refine Ints.ix (c := 0) (Mat.row (by assumption) _ (by omega)) (by omega) ?_)
             | (refine Ints.ixI (by assumption) (by omega) ?_)
             | (refine Mat.ixI (by assumption) (by omega) ?_)
             | (refine Ints.ixI (Mat.row (by assumption) _ (by omega)) (by omega) ?_)
             | (refine Ints.ld (by assumption) (by omega) ?_)
             | (refine Mat.ld (by assumption) (by omega) ?_)
             | (refine Ints.ld (Mat.row (by assumption) _ (by omega)) (by omega) ?_)
             | (refine At.ld (by assumption) rfl ?_)
             | (refine At.ldN (by assumption) rfl ?_)
             | (refine Prs.ln (by assumption) ?_)
             | (refine Trs.ln (by assumption) ?_)
             | (refine Prs.ix (by assumption) (by omega) ?_)
             | (refine Trs.ix (by assumption) (by omega) ?_)
             | (refine Prs.ldN (by assumption) (by omega) ?_)
             | (refine Trs.ldN (by assumption) (by omega) ?_)
             | (refine At.ldN (Blk.at (by assumption)) rfl ?_)
             | (refine At.ld (Blk.at (by assumption)) rfl ?_)
             | (refine IxA.mk (by omega) ?_)
             | (refine Sl.ln (Own.sl (by assumption)) ?_)
             | (refine Ints.ix (Own.sl (by assumption)) (by omega) ?_)
             | (refine Ints.ixI (Own.sl (by assumption)) (by omega) ?_)
             | (refine Ints.ld (Own.sl (by assumption)) (by omega) ?_))
    exact ⟨rfl, EE⟩

theorem imp1_pc {w : World} {gv av nv : Value} {vs : List Value} {rr : List (List Int)} {a : List Int} {now : List Int} {b1 b2 : Nat} (Hg : Mat w gv vs rr) (Ha : Ints w av a) (hv : vld rr a = 0) (Hn : Ints w nv now) (hl : now.length = rr.length) (H1 : At w ⟨b1, 0, none⟩ [nv]) (H2 : At w ⟨b2, 0, none⟩ [gv]) :
    PC Try.prog 101 [av, .pointer (some ⟨b1, 0, none⟩), .pointer (some ⟨b2, 0, none⟩)] w (.bool (tf (abvV rr.length (fun i => now.getD i 0) (ownB rr a)))) := by
  refine PC.mk tyOk Try.func101 rfl (by kernel_rfl) fun w1 E1 => ?_
  replace Hg := Hg.ext E1
  replace Ha := Ha.ext E1
  replace Hn := Hn.ext E1
  replace H1 := H1.ext E1
  replace H2 := H2.ext E1
  have EE := Ext.refl w1
  repeat' (conv => whnf
           first
           | (refine Dr.plan 5 [] (.q 0 (.q 1 (.q 2 (.e 3 (.e 4 (.q 5 .nil) .nil) .nil)))) tyOk rfl (by kernel_rfl) ?_)
           | (refine Dr.quiet tyOk (by kernel_rfl) ?_)
           | (refine At.ld (i := 0) H1 rfl ?_)
           | (refine At.ldN H2 rfl ?_)
           | (refine Rng.mk (by omega) ?_)
           | (refine Split.pos (by omega) ?_)
           | (refine Split.neg (by omega) ?_)
           | (refine Split.mk (fun h => ?_) (fun h => ?_))
           | (refine Need.mk (by omega) ?_)
           | (refine Ints.ln (by assumption) ?_)
           | (refine Mat.ln (by assumption) ?_)
           | (refine Ints.ln (Mat.row (by assumption) _ (by omega)) ?_)
           | (refine Ints.ix (by assumption) (by omega) ?_)
           | (refine Mat.ix (by assumption) (by omega) ?_)
           | (refine Ints.ix (Mat.row (by assumption) _ (by omega)) (by omega) ?_)
           | (refine Ints.ix (c := 0) (by assumption) (by omega) ?_)
           | (refine Mat.ix (c := 0) (by assumption) (by omega) ?_)
           | (refine Ints.ix (c := 0) (Mat.row (by assumption) _ (by omega)) (by omega) ?_)
           | (refine Ints.ixI (by assumption) (by omega) ?_)
           | (refine Mat.ixI (by assumption) (by omega) ?_)
           | (refine Ints.ixI (Mat.row (by assumption) _ (by omega)) (by omega) ?_)
           | (refine Ints.ld (by assumption) (by omega) ?_)
           | (refine Mat.ld (by assumption) (by omega) ?_)
           | (refine Ints.ld (Mat.row (by assumption) _ (by omega)) (by omega) ?_)
           | (refine At.ld (by assumption) rfl ?_)
           | (refine At.ldN (by assumption) rfl ?_)
           | (refine Prs.ln (by assumption) ?_)
           | (refine Trs.ln (by assumption) ?_)
           | (refine Prs.ix (by assumption) (by omega) ?_)
           | (refine Trs.ix (by assumption) (by omega) ?_)
           | (refine Prs.ldN (by assumption) (by omega) ?_)
           | (refine Trs.ldN (by assumption) (by omega) ?_)
           | (refine At.ldN (Blk.at (by assumption)) rfl ?_)
           | (refine At.ld (Blk.at (by assumption)) rfl ?_)
           | (refine IxA.mk (by omega) ?_)
           | (refine Sl.ln (Own.sl (by assumption)) ?_)
           | (refine Ints.ix (Own.sl (by assumption)) (by omega) ?_)
           | (refine Ints.ixI (Own.sl (by assumption)) (by omega) ?_)
           | (refine Ints.ld (Own.sl (by assumption)) (by omega) ?_))
  refine VCX.rc (owns_rc Hg Ha hv) ?_
  rintro _ w2 E2 HA
  replace Hg := Hg.ext E2
  replace Ha := Ha.ext E2
  replace Hn := Hn.ext E2
  replace H1 := H1.ext E2
  replace H2 := H2.ext E2
  replace EE := EE.ext E2
  have cc := above_pc Hn (Own.sl HA) (by rw [ownV_len, hl])
  repeat' (conv => whnf
           first
           | (refine Dr.plan 5 [] (.q 0 (.q 1 (.q 2 (.e 3 (.e 4 (.q 5 .nil) .nil) .nil)))) tyOk rfl (by kernel_rfl) ?_)
           | (refine Dr.quiet tyOk (by kernel_rfl) ?_)
           | (refine VCX.pure cc ?_)
           | (refine Rng.mk (by omega) ?_)
           | (refine Split.pos (by omega) ?_)
           | (refine Split.neg (by omega) ?_)
           | (refine Split.mk (fun h => ?_) (fun h => ?_))
           | (refine Need.mk (by omega) ?_)
           | (refine Ints.ln (by assumption) ?_)
           | (refine Mat.ln (by assumption) ?_)
           | (refine Ints.ln (Mat.row (by assumption) _ (by omega)) ?_)
           | (refine Ints.ix (by assumption) (by omega) ?_)
           | (refine Mat.ix (by assumption) (by omega) ?_)
           | (refine Ints.ix (Mat.row (by assumption) _ (by omega)) (by omega) ?_)
           | (refine Ints.ix (c := 0) (by assumption) (by omega) ?_)
           | (refine Mat.ix (c := 0) (by assumption) (by omega) ?_)
           | (refine Ints.ix (c := 0) (Mat.row (by assumption) _ (by omega)) (by omega) ?_)
           | (refine Ints.ixI (by assumption) (by omega) ?_)
           | (refine Mat.ixI (by assumption) (by omega) ?_)
           | (refine Ints.ixI (Mat.row (by assumption) _ (by omega)) (by omega) ?_)
           | (refine Ints.ld (by assumption) (by omega) ?_)
           | (refine Mat.ld (by assumption) (by omega) ?_)
           | (refine Ints.ld (Mat.row (by assumption) _ (by omega)) (by omega) ?_)
           | (refine At.ld (by assumption) rfl ?_)
           | (refine At.ldN (by assumption) rfl ?_)
           | (refine Prs.ln (by assumption) ?_)
           | (refine Trs.ln (by assumption) ?_)
           | (refine Prs.ix (by assumption) (by omega) ?_)
           | (refine Trs.ix (by assumption) (by omega) ?_)
           | (refine Prs.ldN (by assumption) (by omega) ?_)
           | (refine Trs.ldN (by assumption) (by omega) ?_)
           | (refine At.ldN (Blk.at (by assumption)) rfl ?_)
           | (refine At.ld (Blk.at (by assumption)) rfl ?_)
           | (refine IxA.mk (by omega) ?_)
           | (refine Sl.ln (Own.sl (by assumption)) ?_)
           | (refine Ints.ix (Own.sl (by assumption)) (by omega) ?_)
           | (refine Ints.ixI (Own.sl (by assumption)) (by omega) ?_)
           | (refine Ints.ld (Own.sl (by assumption)) (by omega) ?_))
  have e : abvV now.length (fun i => now.getD i 0) (fun i => (ownV rr a).getD i 0) = abvV rr.length (fun i => now.getD i 0) (ownB rr a) := by
    rw [hl]
    refine propext ⟨fun h => ⟨fun i hi => ?_, ?_⟩, fun h => ⟨fun i hi => ?_, ?_⟩⟩
    · have := h.1 i hi; dsimp only at this ⊢; rw [ownV_get hi] at this; exact this
    · obtain ⟨i, hi, h2⟩ := h.2; dsimp only at h2; rw [ownV_get hi] at h2; exact ⟨i, hi, h2⟩
    · have := h.1 i hi; dsimp only at this ⊢; rw [ownV_get hi]; exact this
    · obtain ⟨i, hi, h2⟩ := h.2; refine ⟨i, hi, ?_⟩; dsimp only; rw [ownV_get hi]; exact h2
  rw [e]
  exact ⟨rfl, EE⟩
end Go.Proofs.Ytebklnmafjbhcaa
