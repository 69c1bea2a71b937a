/- The chapter's goods of layer 16 and their checks. -/
import Derived.Test.YtiahjkhfkbcjhaaGoods2
import Derived.Test.YtiahjkhfkbcjhaaEngM
import Derived.Test.YtiahjkhfkbcjhaaL16a
set_option linter.unusedVariables false
set_option linter.unusedSimpArgs false
namespace Go.Proofs.Ytiahjkhfkbcjhaa
open Go.Eng
set_option maxRecDepth 100000

def gvn : List (List Int) := [[5, 3, 1], [2, 2, 2]]

theorem given_rc {w : World} : RC Try.prog 51 [] w NoB (fun u w' => ∃ gv us, u = .agg #[gv] ∧ OM w.heap.size w' gv us gvn) := by
  refine RC.mk tyOk Try.func51 rfl (by kernel_rfl) fun w1 E1 => ?_
  conv => whnf
  refine VE.alloc eGoods fun b w2 E2 hb2 Hk => ?_
  conv => whnf
  refine VE.litI [5, 3, 1] Try.underlying25 eInt (by decide) fun r0 w3 E3 H0 _ => ?_
  replace H0 := H0 0 (Nat.zero_le _)
  replace Hk := Hk.ext E3
  conv => whnf
  refine VE.litI [2, 2, 2] Try.underlying25 eInt (by decide) fun r1 w4 E4 H1 _ => ?_
  replace H1 := H1 0 (Nat.zero_le _)
  replace Hk := Hk.ext E4
  replace H0 := H0.ext E4
  conv => whnf
  refine VE.litV [r0, r1] Try.underlying22 eRow (by intro v hv; simp at hv; rcases hv with rfl | rfl <;> first | exact (Sl.cells (Own.sl H0)).1 | exact (Sl.cells (Own.sl H1)).1) (by simp) fun gv w5 E5 H2 _ => ?_
  replace Hk := Hk.ext E5
  replace H0 := H0.ext E5
  replace H1 := H1.ext E5
  conv => whnf
  have HO : OM w.heap.size w5 gv [r0, r1] gvn := by
    refine ⟨H2 _ (Nat.le_trans E1.size (Nat.le_trans E2.size (Nat.le_trans E3.size E4.size))), fun i hi => ?_⟩
    match i, hi with
    | 0, _ => exact H0
    | 1, _ => exact H1
  refine VS.field1 Try.underlying24 eGoods (by kernel_rfl) rfl (Sl.cells (Own.sl HO.top)).1 ?_
  conv => whnf
  refine Blk.all Hk (by kernel_rfl) (by decide) rfl rfl (by intro v hv; simp at hv; subst hv; exact (Sl.cells (Own.sl HO.top)).2) fun w6 G6 Hk6 => ?_
  have EE : Ext w1 w6 := (E2.trans (E3.trans (E4.trans E5))).new G6 fun i hi hk => by have := E1.size; omega
  have HO6 : OM w.heap.size w6 gv [r0, r1] gvn := ⟨Own.blk HO.top Hk (by decide) G6, fun i hi => Own.blk (HO.row i hi) Hk (by decide) G6⟩
  conv => whnf
  refine At.ldN Hk6.at rfl ?_
  exact ⟨EE, gv, _, rfl, HO6⟩

theorem gvn_chk : chk gvn = 0 := by
  refine chk_ok ?_ ?_
  · rintro (h | ⟨i, hi, h⟩)
    · exact absurd h (by decide)
    · match i, hi with
      | 0, _ => exact absurd h (by decide)
      | 1, _ => exact absurd h (by decide)
  · rintro (h | ⟨i, hi, h | ⟨j, hj, h⟩⟩)
    · exact absurd h (by decide)
    · match i, hi with
      | 0, _ => exact absurd h (by decide)
      | 1, _ => exact absurd h (by decide)
    · match i, hi, j, hj with
      | 0, _, 0, _ => exact absurd h (by decide)
      | 0, _, 1, _ => exact absurd h (by decide)
      | 0, _, 2, _ => exact absurd h (by decide)
      | 1, _, 0, _ => exact absurd h (by decide)
      | 1, _, 1, _ => exact absurd h (by decide)
      | 1, _, 2, _ => exact absurd h (by decide)
theorem gvn_vld {x y z : Int} (hx : -1 ≤ x ∧ x < 2) (hy : -1 ≤ y ∧ y < 2) (hz : -1 ≤ z ∧ z < 2) : vld gvn [x, y, z] = 0 := by
  refine vld_ok gvn_chk ?_
  rintro (h | ⟨k, hk, h⟩)
  · exact absurd rfl h
  · match k, hk with
    | 0, _ => simp [gvn] at h; omega
    | 1, _ => simp [gvn] at h; omega
    | 2, _ => simp [gvn] at h; omega

theorem alive_pc {w : World} : PC Try.prog 30 [] w (.bool true) := by
  refine PC.mk tyOk Try.func30 rfl (by kernel_rfl) fun w1 E1 => ?_
  have v1 : vld gvn [0, 1, 1] = 0 := gvn_vld (by decide) (by decide) (by decide)
  have v2 : vld gvn [1, 0, 0] = 0 := gvn_vld (by decide) (by decide) (by decide)
  conv => whnf
  refine VC.rc given_rc ?_
  rintro _ w2 E2 ⟨g1, _, rfl, HG⟩
  conv => whnf
  refine VE.litI [0, 1, 1] Try.underlying25 eInt (by decide) fun l1 w3 E3 H1 _ => ?_
  replace H1 := H1 0 (Nat.zero_le _)
  replace HG := HG.ext E3
  conv => whnf
  refine VC.rc (gvalues_rc HG.mat (Own.sl H1)) ?_
  rintro _ w4 E4 ⟨va, ua, rfl, HV⟩
  rw [valsR, if_pos v1, show vals gvn [0, 1, 1] = [[5, 4], [2, 4]] by decide] at HV
  rw [v1]
  conv => whnf
  refine VC.rc given_rc ?_
  rintro _ w5 E5 ⟨g2, _, rfl, HG⟩
  replace HV := HV.ext E5
  conv => whnf
  refine VE.litI [0, 1, 1] Try.underlying25 eInt (by decide) fun l2 w6 E6 H1 _ => ?_
  replace H1 := H1 0 (Nat.zero_le _)
  replace HV := HV.ext E6
  replace HG := HG.ext E6
  conv => whnf
  refine VC.rc (genvies_rc HG.mat (Own.sl H1)) ?_
  rintro _ w7 E7 ⟨ea, rfl, HE1⟩
  rw [envsR, if_pos v1, show envs gvn [0, 1, 1] = [] by decide] at HE1
  rw [v1]
  replace HV := HV.ext E7
  conv => whnf
  refine VC.rc given_rc ?_
  rintro _ w8 E8 ⟨g3, _, rfl, HG⟩
  replace HV := HV.ext E8
  replace HE1 := HE1.ext E8
  conv => whnf
  refine VE.litI [0, 1, 1] Try.underlying25 eInt (by decide) fun l3 w9 E9 H1 _ => ?_
  replace H1 := H1 0 (Nat.zero_le _)
  replace HV := HV.ext E9
  replace HE1 := HE1.ext E9
  replace HG := HG.ext E9
  conv => whnf
  refine VC.rc (gpoor_rc HG.mat (Own.sl H1)) ?_
  rintro _ w10 E10 ⟨pa, rfl, HP1⟩
  rw [poorR, if_pos v1, show poor gvn [0, 1, 1] = [] by decide] at HP1
  rw [v1]
  replace HV := HV.ext E10
  replace HE1 := HE1.ext E10
  conv => whnf
  refine VC.rc given_rc ?_
  rintro _ w11 E11 ⟨g4, _, rfl, HG⟩
  replace HV := HV.ext E11
  replace HE1 := HE1.ext E11
  replace HP1 := HP1.ext E11
  conv => whnf
  refine VE.litI [1, 0, 0] Try.underlying25 eInt (by decide) fun l4 w12 E12 H1 _ => ?_
  replace H1 := H1 0 (Nat.zero_le _)
  replace HV := HV.ext E12
  replace HE1 := HE1.ext E12
  replace HP1 := HP1.ext E12
  replace HG := HG.ext E12
  conv => whnf
  refine VC.rc (genvies_rc HG.mat (Own.sl H1)) ?_
  rintro _ w13 E13 ⟨eb, rfl, HE2⟩
  rw [envsR, if_pos v2, show envs gvn [1, 0, 0] = [(0, 1), (1, 0)] by decide] at HE2
  rw [v2]
  replace HV := HV.ext E13
  replace HE1 := HE1.ext E13
  replace HP1 := HP1.ext E13
  conv => whnf
  refine VC.rc given_rc ?_
  rintro _ w14 E14 ⟨g5, _, rfl, HG⟩
  replace HV := HV.ext E14
  replace HE1 := HE1.ext E14
  replace HP1 := HP1.ext E14
  replace HE2 := HE2.ext E14
  conv => whnf
  refine VE.litI [1, 0, 0] Try.underlying25 eInt (by decide) fun l5 w15 E15 H1 _ => ?_
  replace H1 := H1 0 (Nat.zero_le _)
  replace HV := HV.ext E15
  replace HE1 := HE1.ext E15
  replace HP1 := HP1.ext E15
  replace HE2 := HE2.ext E15
  replace HG := HG.ext E15
  conv => whnf
  refine VC.rc (gpoor_rc HG.mat (Own.sl H1)) ?_
  rintro _ w16 E16 ⟨pb, rfl, HP2⟩
  rw [poorR, if_pos v2, show poor gvn [1, 0, 0] = [0, 1] by decide] at HP2
  rw [v2]
  replace HV := HV.ext E16
  replace HE1 := HE1.ext E16
  replace HP1 := HP1.ext E16
  replace HE2 := HE2.ext E16
  repeat' (conv => whnf
           first
           | (refine Dr.quiet tyOk (by kernel_rfl) ?_)
           | (refine Rng.mk (by omega) ?_)
           | (refine Split.pos (by omega) ?_)
           | (refine Split.neg (by omega) ?_)
           | (refine Split.mk (fun h => ?_) (fun h => ?_))
           | (refine Need.mk (by omega) ?_)
           | (refine Ints.ln (by assumption) ?_)
           | (refine Mat.ln (by assumption) ?_)
           | (refine Ints.ln (Mat.row (by assumption) _ (by omega)) ?_)
           | (refine Ints.ix (by assumption) (by omega) ?_)
           | (refine Mat.ix (by assumption) (by omega) ?_)
           | (refine Ints.ix (Mat.row (by assumption) _ (by omega)) (by omega) ?_)
           | (refine Ints.ix (c := 0) (by assumption) (by omega) ?_)
           | (refine Mat.ix (c := 0) (by assumption) (by omega) ?_)
           | (refine Ints.ix (c := 0) (Mat.row (by assumption) _ (by omega)) (by omega) ?_)
           | (refine Ints.ixI (by assumption) (by omega) ?_)
           | (refine Mat.ixI (by assumption) (by omega) ?_)
           | (refine Ints.ixI (Mat.row (by assumption) _ (by omega)) (by omega) ?_)
           | (refine Ints.ld (by assumption) (by omega) ?_)
           | (refine Mat.ld (by assumption) (by omega) ?_)
           | (refine Ints.ld (Mat.row (by assumption) _ (by omega)) (by omega) ?_)
           | (refine At.ld (by assumption) rfl ?_)
           | (refine At.ldN (by assumption) rfl ?_))
  conv => whnf
  refine VE.litI [5, 4] Try.underlying25 eInt (by decide) fun r0 w17 E17 R0 _ => ?_
  replace R0 := R0 0 (Nat.zero_le _)
  replace HV := HV.ext E17
  replace HE1 := HE1.ext E17
  replace HP1 := HP1.ext E17
  replace HE2 := HE2.ext E17
  replace HP2 := HP2.ext E17
  conv => whnf
  refine VE.litI [2, 4] Try.underlying25 eInt (by decide) fun r1 w18 E18 R1 _ => ?_
  replace R1 := R1 0 (Nat.zero_le _)
  replace HV := HV.ext E18
  replace HE1 := HE1.ext E18
  replace HP1 := HP1.ext E18
  replace HE2 := HE2.ext E18
  replace HP2 := HP2.ext E18
  replace R0 := R0.ext E18
  conv => whnf
  refine VE.litV [r0, r1] Try.underlying22 eRow (by intro v hv; simp at hv; rcases hv with rfl | rfl <;> first | exact (Sl.cells (Own.sl R0)).1 | exact (Sl.cells (Own.sl R1)).1) (by simp) fun mv w19 E19 H2 _ => ?_
  replace HV := HV.ext E19
  replace HE1 := HE1.ext E19
  replace HP1 := HP1.ext E19
  replace HE2 := HE2.ext E19
  replace HP2 := HP2.ext E19
  replace R0 := R0.ext E19
  replace R1 := R1.ext E19
  have HO : OM 0 w19 mv [r0, r1] [[5, 4], [2, 4]] := by
    refine ⟨H2 _ (Nat.zero_le _), fun i hi => ?_⟩
    match i, hi with
    | 0, _ => exact R0
    | 1, _ => exact R1
  conv => whnf
  have c1 := samelists_pc HV.mat HO.mat
  rw [tf_t rfl] at c1
  refine VC.pure c1 ?_
  repeat' (conv => whnf
           first
           | (refine Dr.quiet tyOk (by kernel_rfl) ?_)
           | (refine Sl.ln (Own.sl HE1) ?_)
           | (refine Sl.ln (Own.sl HP1) ?_)
           | (refine Split.pos rfl ?_)
           | (refine Rng.mk (by omega) ?_)
           | (refine Split.pos (by omega) ?_)
           | (refine Split.neg (by omega) ?_)
           | (refine Split.mk (fun h => ?_) (fun h => ?_))
           | (refine Need.mk (by omega) ?_)
           | (refine Ints.ln (by assumption) ?_)
           | (refine Mat.ln (by assumption) ?_)
           | (refine Ints.ln (Mat.row (by assumption) _ (by omega)) ?_)
           | (refine Ints.ix (by assumption) (by omega) ?_)
           | (refine Mat.ix (by assumption) (by omega) ?_)
           | (refine Ints.ix (Mat.row (by assumption) _ (by omega)) (by omega) ?_)
           | (refine Ints.ix (c := 0) (by assumption) (by omega) ?_)
           | (refine Mat.ix (c := 0) (by assumption) (by omega) ?_)
           | (refine Ints.ix (c := 0) (Mat.row (by assumption) _ (by omega)) (by omega) ?_)
           | (refine Ints.ixI (by assumption) (by omega) ?_)
           | (refine Mat.ixI (by assumption) (by omega) ?_)
           | (refine Ints.ixI (Mat.row (by assumption) _ (by omega)) (by omega) ?_)
           | (refine Ints.ld (by assumption) (by omega) ?_)
           | (refine Mat.ld (by assumption) (by omega) ?_)
           | (refine Ints.ld (Mat.row (by assumption) _ (by omega)) (by omega) ?_)
           | (refine At.ld (by assumption) rfl ?_)
           | (refine At.ldN (by assumption) rfl ?_))
  conv => whnf
  refine VS.arr2 Try.underlying51 ePair cells3 ?_
  conv => whnf
  refine VS.arr2 Try.underlying51 ePair cells3 ?_
  conv => whnf
  refine VE.litA [[i64v 0, i64v 1], [i64v 1, i64v 0]] Try.underlying33 ePair (by decide) (by decide) (by decide) fun pv w20 E20 H3 _ => ?_
  replace H3 : OP 0 w20 pv [(0, 1), (1, 0)] := H3 0 (Nat.zero_le _)
  replace HE2 := HE2.ext E20
  replace HP2 := HP2.ext E20
  conv => whnf
  have c2 := samepairs_pc (Own.sl HE2) (Own.sl H3)
  rw [tf_t rfl] at c2
  refine VC.pure c2 ?_
  repeat' (conv => whnf
           first
           | (refine Dr.quiet tyOk (by kernel_rfl) ?_)
           | (refine Rng.mk (by omega) ?_)
           | (refine Split.pos (by omega) ?_)
           | (refine Split.neg (by omega) ?_)
           | (refine Split.mk (fun h => ?_) (fun h => ?_))
           | (refine Need.mk (by omega) ?_)
           | (refine Ints.ln (by assumption) ?_)
           | (refine Mat.ln (by assumption) ?_)
           | (refine Ints.ln (Mat.row (by assumption) _ (by omega)) ?_)
           | (refine Ints.ix (by assumption) (by omega) ?_)
           | (refine Mat.ix (by assumption) (by omega) ?_)
           | (refine Ints.ix (Mat.row (by assumption) _ (by omega)) (by omega) ?_)
           | (refine Ints.ix (c := 0) (by assumption) (by omega) ?_)
           | (refine Mat.ix (c := 0) (by assumption) (by omega) ?_)
           | (refine Ints.ix (c := 0) (Mat.row (by assumption) _ (by omega)) (by omega) ?_)
           | (refine Ints.ixI (by assumption) (by omega) ?_)
           | (refine Mat.ixI (by assumption) (by omega) ?_)
           | (refine Ints.ixI (Mat.row (by assumption) _ (by omega)) (by omega) ?_)
           | (refine Ints.ld (by assumption) (by omega) ?_)
           | (refine Mat.ld (by assumption) (by omega) ?_)
           | (refine Ints.ld (Mat.row (by assumption) _ (by omega)) (by omega) ?_)
           | (refine At.ld (by assumption) rfl ?_)
           | (refine At.ldN (by assumption) rfl ?_))
  refine VE.litI [0, 1] Try.underlying25 eInt (by decide) fun qv w21 E21 Q _ => ?_
  replace Q := Q 0 (Nat.zero_le _)
  replace HP2 := HP2.ext E21
  conv => whnf
  have c3 := same_pc (Own.sl HP2) (Own.sl Q)
  rw [tf_t rfl] at c3
  refine VC.pure c3 ?_
  repeat' (conv => whnf
           first
           | (refine Dr.quiet tyOk (by kernel_rfl) ?_)
           | (refine Rng.mk (by omega) ?_)
           | (refine Split.pos (by omega) ?_)
           | (refine Split.neg (by omega) ?_)
           | (refine Split.mk (fun h => ?_) (fun h => ?_))
           | (refine Need.mk (by omega) ?_)
           | (refine Ints.ln (by assumption) ?_)
           | (refine Mat.ln (by assumption) ?_)
           | (refine Ints.ln (Mat.row (by assumption) _ (by omega)) ?_)
           | (refine Ints.ix (by assumption) (by omega) ?_)
           | (refine Mat.ix (by assumption) (by omega) ?_)
           | (refine Ints.ix (Mat.row (by assumption) _ (by omega)) (by omega) ?_)
           | (refine Ints.ix (c := 0) (by assumption) (by omega) ?_)
           | (refine Mat.ix (c := 0) (by assumption) (by omega) ?_)
           | (refine Ints.ix (c := 0) (Mat.row (by assumption) _ (by omega)) (by omega) ?_)
           | (refine Ints.ixI (by assumption) (by omega) ?_)
           | (refine Mat.ixI (by assumption) (by omega) ?_)
           | (refine Ints.ixI (Mat.row (by assumption) _ (by omega)) (by omega) ?_)
           | (refine Ints.ld (by assumption) (by omega) ?_)
           | (refine Mat.ld (by assumption) (by omega) ?_)
           | (refine Ints.ld (Mat.row (by assumption) _ (by omega)) (by omega) ?_)
           | (refine At.ld (by assumption) rfl ?_)
           | (refine At.ldN (by assumption) rfl ?_))
  conv => whnf
  exact ⟨rfl, E2.trans (E3.trans (E4.trans (E5.trans (E6.trans (E7.trans (E8.trans (E9.trans (E10.trans (E11.trans (E12.trans (E13.trans (E14.trans (E15.trans (E16.trans (E17.trans (E18.trans (E19.trans (E20.trans E21))))))))))))))))))⟩

theorem fit_pc {w : World} {gv av : Value} {vs : List Value} {rr : List (List Int)} {a : List Int} (Hg : Mat w gv vs rr) (Ha : Ints w av a) :
    PC Try.prog 31 [.agg #[gv], av] w (.bool (tf (¬ great rr a ∧ vld rr a = 0))) := by
  refine PC.mk tyOk Try.func31 rfl (by kernel_rfl) fun w1 E1 => ?_
  replace Hg := Hg.ext E1
  replace Ha := Ha.ext E1
  refine Bx.agg fun b w2 E2 _ Hb _ => ?_
  replace Hg := Hg.ext E2
  replace Ha := Ha.ext E2
  have c2 := rvalid_pc Hg Ha
  by_cases hgr : great rr a
  · have hc := great_pc Hg Ha
    rw [tf_t hgr] at hc
    rw [tf_f (p := ¬ great rr a ∧ vld rr a = 0) (fun h => h.1 hgr)]
    repeat' (conv => whnf
             first
             | (refine Dr.quiet tyOk (by kernel_rfl) ?_)
             | (refine VC.pure hc ?_)
             | (refine Rng.mk (by omega) ?_)
             | (refine Split.pos (by omega) ?_)
             | (refine Split.neg (by omega) ?_)
             | (refine Split.mk (fun h => ?_) (fun h => ?_))
             | (refine Need.mk (by omega) ?_)
             | (refine Ints.ln (by assumption) ?_)
             | (refine Mat.ln (by assumption) ?_)
             | (refine Ints.ln (Mat.row (by assumption) _ (by omega)) ?_)
             | (refine Ints.ix (by assumption) (by omega) ?_)
             | (refine Mat.ix (by assumption) (by omega) ?_)
             | (refine Ints.ix (Mat.row (by assumption) _ (by omega)) (by omega) ?_)
             | (refine Ints.ix (c := 0) (by assumption) (by omega) ?_)
             | (refine Mat.ix (c := 0) (by assumption) (by omega) ?_)
             | (refine Ints.ix (c := 0) (Mat.row (by assumption) _ (by omega)) (by omega) ?_)
             | (refine Ints.ixI (by assumption) (by omega) ?_)
             | (refine Mat.ixI (by assumption) (by omega) ?_)
             | (refine Ints.ixI (Mat.row (by assumption) _ (by omega)) (by omega) ?_)
             | (refine Ints.ld (by assumption) (by omega) ?_)
             | (refine Mat.ld (by assumption) (by omega) ?_)
             | (refine Ints.ld (Mat.row (by assumption) _ (by omega)) (by omega) ?_)
             | (refine At.ld (by assumption) rfl ?_)
             | (refine At.ldN (by assumption) rfl ?_))
    exact ⟨rfl, E2⟩
  · have hc := great_pc Hg Ha
    rw [tf_f hgr] at hc
    by_cases hv : vld rr a = 0
    · rw [tf_t (p := ¬ great rr a ∧ vld rr a = 0) ⟨hgr, hv⟩]
      repeat' (conv => whnf
               first
               | (refine Dr.quiet tyOk (by kernel_rfl) ?_)
               | (refine VC.pure hc ?_)
               | (refine VC.pure c2 ?_)
               | (refine Rng.mk (by omega) ?_)
               | (refine Split.pos (by omega) ?_)
               | (refine Split.neg (by omega) ?_)
               | (refine Split.mk (fun h => ?_) (fun h => ?_))
               | (refine Need.mk (by omega) ?_)
               | (refine Ints.ln (by assumption) ?_)
               | (refine Mat.ln (by assumption) ?_)
               | (refine Ints.ln (Mat.row (by assumption) _ (by omega)) ?_)
               | (refine Ints.ix (by assumption) (by omega) ?_)
               | (refine Mat.ix (by assumption) (by omega) ?_)
               | (refine Ints.ix (Mat.row (by assumption) _ (by omega)) (by omega) ?_)
               | (refine Ints.ix (c := 0) (by assumption) (by omega) ?_)
               | (refine Mat.ix (c := 0) (by assumption) (by omega) ?_)
               | (refine Ints.ix (c := 0) (Mat.row (by assumption) _ (by omega)) (by omega) ?_)
               | (refine Ints.ixI (by assumption) (by omega) ?_)
               | (refine Mat.ixI (by assumption) (by omega) ?_)
               | (refine Ints.ixI (Mat.row (by assumption) _ (by omega)) (by omega) ?_)
               | (refine Ints.ld (by assumption) (by omega) ?_)
               | (refine Mat.ld (by assumption) (by omega) ?_)
               | (refine Ints.ld (Mat.row (by assumption) _ (by omega)) (by omega) ?_)
               | (refine At.ld (by assumption) rfl ?_)
               | (refine At.ldN (by assumption) rfl ?_))
      exact ⟨rfl, E2⟩
    · rw [tf_f (p := ¬ great rr a ∧ vld rr a = 0) (fun h => hv h.2)]
      repeat' (conv => whnf
               first
               | (refine Dr.quiet tyOk (by kernel_rfl) ?_)
               | (refine VC.pure hc ?_)
               | (refine VC.pure c2 ?_)
               | (refine Rng.mk (by omega) ?_)
               | (refine Split.pos (by omega) ?_)
               | (refine Split.neg (by omega) ?_)
               | (refine Split.mk (fun h => ?_) (fun h => ?_))
               | (refine Need.mk (by omega) ?_)
               | (refine Ints.ln (by assumption) ?_)
               | (refine Mat.ln (by assumption) ?_)
               | (refine Ints.ln (Mat.row (by assumption) _ (by omega)) ?_)
               | (refine Ints.ix (by assumption) (by omega) ?_)
               | (refine Mat.ix (by assumption) (by omega) ?_)
               | (refine Ints.ix (Mat.row (by assumption) _ (by omega)) (by omega) ?_)
               | (refine Ints.ix (c := 0) (by assumption) (by omega) ?_)
               | (refine Mat.ix (c := 0) (by assumption) (by omega) ?_)
               | (refine Ints.ix (c := 0) (Mat.row (by assumption) _ (by omega)) (by omega) ?_)
               | (refine Ints.ixI (by assumption) (by omega) ?_)
               | (refine Mat.ixI (by assumption) (by omega) ?_)
               | (refine Ints.ixI (Mat.row (by assumption) _ (by omega)) (by omega) ?_)
               | (refine Ints.ld (by assumption) (by omega) ?_)
               | (refine Mat.ld (by assumption) (by omega) ?_)
               | (refine Ints.ld (Mat.row (by assumption) _ (by omega)) (by omega) ?_)
               | (refine At.ld (by assumption) rfl ?_)
               | (refine At.ldN (by assumption) rfl ?_))
      exact ⟨rfl, E2⟩
end Go.Proofs.Ytiahjkhfkbcjhaa
