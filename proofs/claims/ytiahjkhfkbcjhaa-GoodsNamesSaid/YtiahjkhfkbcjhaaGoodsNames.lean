/- The statement GoodsNames. -/
import Derived.Test.YtiahjkhfkbcjhaaLEval
import Derived.Test.YtiahjkhfkbcjhaaL16b
import Derived.Test.YtiahjkhfkbcjhaaPass3
import Derived.Test.YtiahjkhfkbcjhaaEngL
import Derived.Test.YtiahjkhfkbcjhaaRows
import Derived.ProofKit
set_option linter.unusedVariables false
set_option linter.unusedSimpArgs false
namespace Go.Proofs.Ytiahjkhfkbcjhaa
open Go.Eng
set_option maxRecDepth 100000
set_option maxHeartbeats 4000000

theorem eMat : Elem Try.prog 22 (.slice none 0 0) 1 24 := by unfold Elem; kernel_rfl
theorem passE_no {rr : List (List Int)} {a o : List Int} (hv : vld rr a = 0) (h : ¬ asg o rr.length) : passE rr a o = 2 := by unfold passE; rw [if_neg (by omega), if_neg h]
theorem passE_ok {rr : List (List Int)} {a o : List Int} (hv : vld rr a = 0) (h : asg o rr.length) : passE rr a o = 0 := by unfold passE; rw [if_neg (by omega), if_pos h]
theorem passR_ok {rr : List (List Int)} {a o : List Int} (hv : vld rr a = 0) (h : asg o rr.length) : passR rr a o = passV a o := by unfold passR; rw [if_pos ⟨hv, h⟩]
theorem giveE_no {rr : List (List Int)} {a : List Int} {x y : Int} (hv : vld rr a = 0) (h : ¬ giveOk rr a x y) : giveE rr a x y = 2 := by unfold giveE; rw [if_neg (by omega), if_neg h]
theorem giveE_ok {rr : List (List Int)} {a : List Int} {x y : Int} (hv : vld rr a = 0) (h : giveOk rr a x y) : giveE rr a x y = 0 := by unfold giveE; rw [if_neg (by omega), if_pos h]
theorem giveR_ok {rr : List (List Int)} {a : List Int} {x y : Int} (hv : vld rr a = 0) (h : giveOk rr a x y) : giveR rr a x y = a.set x.toNat y := by unfold giveR; rw [if_pos ⟨hv, h⟩]

def bads : List (List (List Int)) := [[], [[1], [1, 2]], [[-1]], [[1001]], [[], [1]]]
theorem bads_chk : ∀ i, i < 5 → chk (bads.getD i []) = 8 := fun i hi => by
  rw [chk_eq]
  match i, hi with
  | 0, _ => decide +kernel
  | 1, _ => decide +kernel
  | 2, _ => decide +kernel
  | 3, _ => decide +kernel
  | 4, _ => decide +kernel
def badl : List (List Int) := [[], [0, 1], [0, 1, 2], [0, 1, -2], [0, 0, 0, 0]]
theorem badl_vld : ∀ i, i < 5 → vld gvn (badl.getD i []) = 8 := fun i hi => by
  rw [vld_eq]
  match i, hi with
  | 0, _ => decide +kernel
  | 1, _ => decide +kernel
  | 2, _ => decide +kernel
  | 3, _ => decide +kernel
  | 4, _ => decide +kernel

theorem gnames_pc {w : World} : PC Try.prog 13 [] w (.bool true) := by
  refine PC.mk tyOk Try.func13 rfl (by kernel_rfl) fun w1 E1 => ?_
  have EE := Ext.refl w1
  have i0 : ∀ w, Ints w (.slice none 0 0) [] := fun w => Own.sl (B := 0) (e := 3) Own.nil
  conv => whnf
  refine VE.litI [1] Try.underlying25 eInt (by decide) fun r1 w2 E2 H1 _ => ?_
  replace H1 := H1 0 (Nat.zero_le _)
  replace EE := EE.ext E2
  conv => whnf
  refine VE.litI [1, 2] Try.underlying25 eInt (by decide) fun r2 w3 E3 H2 _ => ?_
  replace H2 := H2 0 (Nat.zero_le _)
  replace EE := EE.ext E3
  replace H1 := H1.ext E3
  conv => whnf
  refine VE.litV [r1, r2] Try.underlying22 eRow (by intro v hv; simp at hv; rcases hv with rfl | rfl <;> first | rfl | exact (Sl.cells (Own.sl H1)).1 | exact (Sl.cells (Own.sl H2)).1) (by simp) fun m1 w4 E4 HM1 _ => ?_
  replace EE := EE.ext E4
  replace H1 := H1.ext E4
  replace H2 := H2.ext E4
  replace HM1 : OM 0 w4 m1 [r1, r2] [[1], [1, 2]] := by
    refine ⟨HM1 _ (Nat.zero_le _), fun i hi => ?_⟩
    match i, hi with
    | 0, _ => exact H1
    | 1, _ => exact H2
  conv => whnf
  refine VE.litI [-1] Try.underlying25 eInt (by decide) fun r1 w5 E5 H1 _ => ?_
  replace H1 := H1 0 (Nat.zero_le _)
  replace EE := EE.ext E5
  replace H2 := H2.ext E5
  replace HM1 := HM1.ext E5
  conv => whnf
  refine VE.litV [r1] Try.underlying22 eRow (by intro v hv; simp at hv; rcases hv with rfl <;> first | rfl | exact (Sl.cells (Own.sl H1)).1) (by simp) fun m2 w6 E6 HM2 _ => ?_
  replace EE := EE.ext E6
  replace H2 := H2.ext E6
  replace HM1 := HM1.ext E6
  replace H1 := H1.ext E6
  replace HM2 : OM 0 w6 m2 [r1] [[-1]] := by
    refine ⟨HM2 _ (Nat.zero_le _), fun i hi => ?_⟩
    match i, hi with
    | 0, _ => exact H1
  conv => whnf
  refine VE.litI [1001] Try.underlying25 eInt (by decide) fun r1 w7 E7 H1 _ => ?_
  replace H1 := H1 0 (Nat.zero_le _)
  replace EE := EE.ext E7
  replace H2 := H2.ext E7
  replace HM1 := HM1.ext E7
  replace HM2 := HM2.ext E7
  conv => whnf
  refine VE.litV [r1] Try.underlying22 eRow (by intro v hv; simp at hv; rcases hv with rfl <;> first | rfl | exact (Sl.cells (Own.sl H1)).1) (by simp) fun m3 w8 E8 HM3 _ => ?_
  replace EE := EE.ext E8
  replace H2 := H2.ext E8
  replace HM1 := HM1.ext E8
  replace HM2 := HM2.ext E8
  replace H1 := H1.ext E8
  replace HM3 : OM 0 w8 m3 [r1] [[1001]] := by
    refine ⟨HM3 _ (Nat.zero_le _), fun i hi => ?_⟩
    match i, hi with
    | 0, _ => exact H1
  conv => whnf
  refine VE.litI [] Try.underlying25 eInt (by decide) fun r1 w9 E9 H1 _ => ?_
  replace H1 := H1 0 (Nat.zero_le _)
  replace EE := EE.ext E9
  replace H2 := H2.ext E9
  replace HM1 := HM1.ext E9
  replace HM2 := HM2.ext E9
  replace HM3 := HM3.ext E9
  conv => whnf
  refine VE.litI [1] Try.underlying25 eInt (by decide) fun r2 w10 E10 H2 _ => ?_
  replace H2 := H2 0 (Nat.zero_le _)
  replace EE := EE.ext E10
  replace HM1 := HM1.ext E10
  replace HM2 := HM2.ext E10
  replace HM3 := HM3.ext E10
  replace H1 := H1.ext E10
  conv => whnf
  refine VE.litV [r1, r2] Try.underlying22 eRow (by intro v hv; simp at hv; rcases hv with rfl | rfl <;> first | rfl | exact (Sl.cells (Own.sl H1)).1 | exact (Sl.cells (Own.sl H2)).1) (by simp) fun m4 w11 E11 HM4 _ => ?_
  replace EE := EE.ext E11
  replace HM1 := HM1.ext E11
  replace HM2 := HM2.ext E11
  replace HM3 := HM3.ext E11
  replace H1 := H1.ext E11
  replace H2 := H2.ext E11
  replace HM4 : OM 0 w11 m4 [r1, r2] [[], [1]] := by
    refine ⟨HM4 _ (Nat.zero_le _), fun i hi => ?_⟩
    match i, hi with
    | 0, _ => exact H1
    | 1, _ => exact H2
  conv => whnf
  refine VE.litV [.slice none 0 0, m1, m2, m3, m4] Try.underlying78 eMat (by intro v hv; simp at hv; rcases hv with rfl | rfl | rfl | rfl | rfl <;> first | rfl | exact (Sl.cells (Own.sl HM1.top)).1 | exact (Sl.cells (Own.sl HM2.top)).1 | exact (Sl.cells (Own.sl HM3.top)).1 | exact (Sl.cells (Own.sl HM4.top)).1) (by simp) fun bv wb Eb HB _ => ?_
  replace HB : Sl 1 wb bv 5 [.slice none 0 0, m1, m2, m3, m4] := Own.sl (HB 0 (Nat.zero_le _))
  replace EE := EE.ext Eb
  replace HM1 := HM1.ext Eb
  replace HM2 := HM2.ext Eb
  replace HM3 := HM3.ext Eb
  replace H1 := H1.ext Eb
  replace H2 := H2.ext Eb
  replace HM4 := HM4.ext Eb
  have hbm : ∀ i, i < 5 → ∃ us, Mat wb ([.slice none 0 0, m1, m2, m3, m4].getD i undef) us (bads.getD i []) := fun i hi => by
    match i, hi with
    | 0, _ => exact ⟨_, (OM.nil (B := 0)).mat⟩
    | 1, _ => exact ⟨_, HM1.mat⟩
    | 2, _ => exact ⟨_, HM2.mat⟩
    | 3, _ => exact ⟨_, HM3.mat⟩
    | 4, _ => exact ⟨_, HM4.mat⟩
  repeat' (conv => whnf
           first
           | (refine Dr.quiet tyOk (by kernel_rfl) ?_)
           | (refine Rng.mk (by omega) ?_)
           | (refine Split.pos (by omega) ?_)
           | (refine Split.neg (by omega) ?_)
           | (refine Split.mk (fun h => ?_) (fun h => ?_))
           | (refine Need.mk (by omega) ?_)
           | (refine Ints.ln (by assumption) ?_)
           | (refine Mat.ln (by assumption) ?_)
           | (refine Ints.ln (Mat.row (by assumption) _ (by omega)) ?_)
           | (refine Ints.ix (by assumption) (by omega) ?_)
           | (refine Mat.ix (by assumption) (by omega) ?_)
           | (refine Ints.ix (Mat.row (by assumption) _ (by omega)) (by omega) ?_)
           | (refine Ints.ix (c := 0) (by assumption) (by omega) ?_)
           | (refine Mat.ix (c := 0) (by assumption) (by omega) ?_)
           | (refine Ints.ix (c := 0) (Mat.row (by assumption) _ (by omega)) (by omega) ?_)
           | (refine Ints.ixI (by assumption) (by omega) ?_)
           | (refine Mat.ixI (by assumption) (by omega) ?_)
           | (refine Ints.ixI (Mat.row (by assumption) _ (by omega)) (by omega) ?_)
           | (refine Ints.ld (by assumption) (by omega) ?_)
           | (refine Mat.ld (by assumption) (by omega) ?_)
           | (refine Ints.ld (Mat.row (by assumption) _ (by omega)) (by omega) ?_)
           | (refine At.ld (by assumption) rfl ?_)
           | (refine At.ldN (by assumption) rfl ?_)
           | (refine Prs.ln (by assumption) ?_)
           | (refine Trs.ln (by assumption) ?_)
           | (refine Prs.ix (by assumption) (by omega) ?_)
           | (refine Trs.ix (by assumption) (by omega) ?_)
           | (refine Prs.ldN (by assumption) (by omega) ?_)
           | (refine Trs.ldN (by assumption) (by omega) ?_)
           | (refine At.ldN (Blk.at (by assumption)) rfl ?_)
           | (refine At.ld (Blk.at (by assumption)) rfl ?_)
           | (refine IxA.mk (by omega) ?_)
           | (refine Sl.ln (Own.sl (by assumption)) ?_))
  refine Lp.mk tyOk [true, false, true, false, false, false, false, false, false, false, false, false, false, false, false, false, false, false, false, false, false, false, false, false, false, false, false, false, false, false, false, false, false, false, false, false, false, false, false, false, false, false, false, true, true, true, true, true, true, true, true, true, true, true, true, true] (fun m fr wr => getK fr 2 fun i => ∃ c : Nat, c ≤ 5 ∧ m = 5 - c ∧ i = .int .i64 (c : Int) ∧ wr = wb) (5) ?_ ?_
  · exact ⟨0, Nat.zero_le _, rfl, rfl, rfl⟩
  · intro m w12 u0 u2 u43 u44 u45 u46 u47 u48 u49 u50 u51 u52 u53 u54 u55 hR
    obtain ⟨c, hc, rfl, rfl, rfl⟩ := hR
    by_cases hcl : c < 5
    · obtain ⟨us, HMc⟩ := hbm c hcl
      have hcl2 := bads_chk c hcl
      repeat' (conv => whnf
               first
               | (refine Dr.quiet tyOk (by kernel_rfl) ?_)
               | (refine Sl.ln HB ?_)
               | (refine Sl.ix (c := c) HB (by omega) ?_)
               | (refine Sl.ld1 HB (by omega) ?_)
               | (refine VS.field1 Try.underlying24 eGoods (by kernel_rfl) rfl (Sl.cells HMc.top).1 ?_)
               | (refine VC.pure (gcheck_pc HMc) ?_)
               | (refine Rng.mk (by omega) ?_)
               | (refine Split.pos (by omega) ?_)
               | (refine Split.neg (by omega) ?_)
               | (refine Split.mk (fun h => ?_) (fun h => ?_))
               | (refine Need.mk (by omega) ?_)
               | (refine Ints.ln (by assumption) ?_)
               | (refine Mat.ln (by assumption) ?_)
               | (refine Ints.ln (Mat.row (by assumption) _ (by omega)) ?_)
               | (refine Ints.ix (by assumption) (by omega) ?_)
               | (refine Mat.ix (by assumption) (by omega) ?_)
               | (refine Ints.ix (Mat.row (by assumption) _ (by omega)) (by omega) ?_)
               | (refine Ints.ix (c := 0) (by assumption) (by omega) ?_)
               | (refine Mat.ix (c := 0) (by assumption) (by omega) ?_)
               | (refine Ints.ix (c := 0) (Mat.row (by assumption) _ (by omega)) (by omega) ?_)
               | (refine Ints.ixI (by assumption) (by omega) ?_)
               | (refine Mat.ixI (by assumption) (by omega) ?_)
               | (refine Ints.ixI (Mat.row (by assumption) _ (by omega)) (by omega) ?_)
               | (refine Ints.ld (by assumption) (by omega) ?_)
               | (refine Mat.ld (by assumption) (by omega) ?_)
               | (refine Ints.ld (Mat.row (by assumption) _ (by omega)) (by omega) ?_)
               | (refine At.ld (by assumption) rfl ?_)
               | (refine At.ldN (by assumption) rfl ?_)
               | (refine Prs.ln (by assumption) ?_)
               | (refine Trs.ln (by assumption) ?_)
               | (refine Prs.ix (by assumption) (by omega) ?_)
               | (refine Trs.ix (by assumption) (by omega) ?_)
               | (refine Prs.ldN (by assumption) (by omega) ?_)
               | (refine Trs.ldN (by assumption) (by omega) ?_)
               | (refine At.ldN (Blk.at (by assumption)) rfl ?_)
               | (refine At.ld (Blk.at (by assumption)) rfl ?_)
               | (refine IxA.mk (by omega) ?_)
               | (refine Sl.ln (Own.sl (by assumption)) ?_))
      refine ⟨_, (by omega : 5 - (c + 1) < 5 - c), rfl, c + 1, by omega, rfl, rfl, rfl⟩
    · repeat' (conv => whnf
               first
               | (refine Dr.quiet tyOk (by kernel_rfl) ?_)
               | (refine Sl.ln HB ?_)
               | (refine Rng.mk (by omega) ?_)
               | (refine Split.pos (by omega) ?_)
               | (refine Split.neg (by omega) ?_)
               | (refine Split.mk (fun h => ?_) (fun h => ?_))
               | (refine Need.mk (by omega) ?_)
               | (refine Ints.ln (by assumption) ?_)
               | (refine Mat.ln (by assumption) ?_)
               | (refine Ints.ln (Mat.row (by assumption) _ (by omega)) ?_)
               | (refine Ints.ix (by assumption) (by omega) ?_)
               | (refine Mat.ix (by assumption) (by omega) ?_)
               | (refine Ints.ix (Mat.row (by assumption) _ (by omega)) (by omega) ?_)
               | (refine Ints.ix (c := 0) (by assumption) (by omega) ?_)
               | (refine Mat.ix (c := 0) (by assumption) (by omega) ?_)
               | (refine Ints.ix (c := 0) (Mat.row (by assumption) _ (by omega)) (by omega) ?_)
               | (refine Ints.ixI (by assumption) (by omega) ?_)
               | (refine Mat.ixI (by assumption) (by omega) ?_)
               | (refine Ints.ixI (Mat.row (by assumption) _ (by omega)) (by omega) ?_)
               | (refine Ints.ld (by assumption) (by omega) ?_)
               | (refine Mat.ld (by assumption) (by omega) ?_)
               | (refine Ints.ld (Mat.row (by assumption) _ (by omega)) (by omega) ?_)
               | (refine At.ld (by assumption) rfl ?_)
               | (refine At.ldN (by assumption) rfl ?_)
               | (refine Prs.ln (by assumption) ?_)
               | (refine Trs.ln (by assumption) ?_)
               | (refine Prs.ix (by assumption) (by omega) ?_)
               | (refine Trs.ix (by assumption) (by omega) ?_)
               | (refine Prs.ldN (by assumption) (by omega) ?_)
               | (refine Trs.ldN (by assumption) (by omega) ?_)
               | (refine At.ldN (Blk.at (by assumption)) rfl ?_)
               | (refine At.ld (Blk.at (by assumption)) rfl ?_)
               | (refine IxA.mk (by omega) ?_)
               | (refine Sl.ln (Own.sl (by assumption)) ?_))
      conv => whnf
      refine VE.made (n := 7) Try.underlying22 eRow rfl (by omega) (by omega) fun mv w13 E13 HG _ => ?_
      replace EE := EE.ext E13
      replace HM1 := HM1.ext E13
      replace HM2 := HM2.ext E13
      replace HM3 := HM3.ext E13
      replace H1 := H1.ext E13
      replace H2 := H2.ext E13
      replace HM4 := HM4.ext E13
      replace HG := OM.made (HG 0 (Nat.zero_le _))
      conv => whnf
      refine VS.field1 Try.underlying24 eGoods (by kernel_rfl) rfl (Sl.cells (Own.sl HG.top)).1 ?_
      conv => whnf
      refine VC.pure (gcheck_pc HG.mat) ?_
      rw [show chk (List.replicate 7 []) = 4 from (chk_eq _).trans (by decide +kernel)]
      repeat' (conv => whnf
               first
               | (refine Dr.quiet tyOk (by kernel_rfl) ?_)
               | (refine Rng.mk (by omega) ?_)
               | (refine Split.pos (by omega) ?_)
               | (refine Split.neg (by omega) ?_)
               | (refine Split.mk (fun h => ?_) (fun h => ?_))
               | (refine Need.mk (by omega) ?_)
               | (refine Ints.ln (by assumption) ?_)
               | (refine Mat.ln (by assumption) ?_)
               | (refine Ints.ln (Mat.row (by assumption) _ (by omega)) ?_)
               | (refine Ints.ix (by assumption) (by omega) ?_)
               | (refine Mat.ix (by assumption) (by omega) ?_)
               | (refine Ints.ix (Mat.row (by assumption) _ (by omega)) (by omega) ?_)
               | (refine Ints.ix (c := 0) (by assumption) (by omega) ?_)
               | (refine Mat.ix (c := 0) (by assumption) (by omega) ?_)
               | (refine Ints.ix (c := 0) (Mat.row (by assumption) _ (by omega)) (by omega) ?_)
               | (refine Ints.ixI (by assumption) (by omega) ?_)
               | (refine Mat.ixI (by assumption) (by omega) ?_)
               | (refine Ints.ixI (Mat.row (by assumption) _ (by omega)) (by omega) ?_)
               | (refine Ints.ld (by assumption) (by omega) ?_)
               | (refine Mat.ld (by assumption) (by omega) ?_)
               | (refine Ints.ld (Mat.row (by assumption) _ (by omega)) (by omega) ?_)
               | (refine At.ld (by assumption) rfl ?_)
               | (refine At.ldN (by assumption) rfl ?_)
               | (refine Prs.ln (by assumption) ?_)
               | (refine Trs.ln (by assumption) ?_)
               | (refine Prs.ix (by assumption) (by omega) ?_)
               | (refine Trs.ix (by assumption) (by omega) ?_)
               | (refine Prs.ldN (by assumption) (by omega) ?_)
               | (refine Trs.ldN (by assumption) (by omega) ?_)
               | (refine At.ldN (Blk.at (by assumption)) rfl ?_)
               | (refine At.ld (Blk.at (by assumption)) rfl ?_)
               | (refine IxA.mk (by omega) ?_)
               | (refine Sl.ln (Own.sl (by assumption)) ?_))
      conv => whnf
      refine VE.litI [-1] Try.underlying25 eInt (by decide) fun r1 w14 E14 H1 _ => ?_
      replace H1 := H1 0 (Nat.zero_le _)
      replace EE := EE.ext E14
      replace HM1 := HM1.ext E14
      replace HM2 := HM2.ext E14
      replace HM3 := HM3.ext E14
      replace H2 := H2.ext E14
      replace HM4 := HM4.ext E14
      replace HG := HG.ext E14
      conv => whnf
      refine VE.made (n := 11) Try.underlying25 eInt rfl (by omega) (by omega) fun r2 w15 E15 H2 _ => ?_
      replace EE := EE.ext E15
      replace HM1 := HM1.ext E15
      replace HM2 := HM2.ext E15
      replace HM3 := HM3.ext E15
      replace HM4 := HM4.ext E15
      replace HG := HG.ext E15
      replace H1 := H1.ext E15
      replace H2 := OI.made (H2 0 (Nat.zero_le _))
      conv => whnf
      refine VE.litV [r1, r2] Try.underlying22 eRow (by intro v hv; simp at hv; rcases hv with rfl | rfl <;> first | rfl | exact (Sl.cells (Own.sl H1)).1 | exact (Sl.cells (Own.sl H2)).1) (by simp) fun mv w16 E16 HG _ => ?_
      replace EE := EE.ext E16
      replace HM1 := HM1.ext E16
      replace HM2 := HM2.ext E16
      replace HM3 := HM3.ext E16
      replace HM4 := HM4.ext E16
      replace H1 := H1.ext E16
      replace H2 := H2.ext E16
      replace HG : OM 0 w16 mv [r1, r2] [[-1], List.replicate 11 0] := by
        refine ⟨HG _ (Nat.zero_le _), fun i hi => ?_⟩
        match i, hi with
        | 0, _ => exact H1
        | 1, _ => exact H2
      conv => whnf
      refine VS.field1 Try.underlying24 eGoods (by kernel_rfl) rfl (Sl.cells (Own.sl HG.top)).1 ?_
      conv => whnf
      refine VC.pure (gcheck_pc HG.mat) ?_
      rw [show chk [[-1], List.replicate 11 0] = 4 from (chk_eq _).trans (by decide +kernel)]
      repeat' (conv => whnf
               first
               | (refine Dr.plan 64 [4] (.e 0 (.e 1 (.e 2 (.q 3 (.e 4 (.q 5 .nil) .nil)) .nil) .nil) (.e 1 (.e 0 (.e 2 (.q 3 (.e 4 (.q 5 .nil) .nil)) .nil) .nil) .nil)) tyOk rfl (by kernel_rfl) ?_)
               | (refine Dr.plan 83 [0, 5] (.q 1 (.q 2 (.q 3 (.q 4 (.e 0 (.e 5 (.q 6 .nil) .nil) .nil))))) tyOk rfl (by kernel_rfl) ?_)
               | (refine Dr.quiet tyOk (by kernel_rfl) ?_)
               | (refine Rng.mk (by omega) ?_)
               | (refine Split.pos (by omega) ?_)
               | (refine Split.neg (by omega) ?_)
               | (refine Split.mk (fun h => ?_) (fun h => ?_))
               | (refine Need.mk (by omega) ?_)
               | (refine Ints.ln (by assumption) ?_)
               | (refine Mat.ln (by assumption) ?_)
               | (refine Ints.ln (Mat.row (by assumption) _ (by omega)) ?_)
               | (refine Ints.ix (by assumption) (by omega) ?_)
               | (refine Mat.ix (by assumption) (by omega) ?_)
               | (refine Ints.ix (Mat.row (by assumption) _ (by omega)) (by omega) ?_)
               | (refine Ints.ix (c := 0) (by assumption) (by omega) ?_)
               | (refine Mat.ix (c := 0) (by assumption) (by omega) ?_)
               | (refine Ints.ix (c := 0) (Mat.row (by assumption) _ (by omega)) (by omega) ?_)
               | (refine Ints.ixI (by assumption) (by omega) ?_)
               | (refine Mat.ixI (by assumption) (by omega) ?_)
               | (refine Ints.ixI (Mat.row (by assumption) _ (by omega)) (by omega) ?_)
               | (refine Ints.ld (by assumption) (by omega) ?_)
               | (refine Mat.ld (by assumption) (by omega) ?_)
               | (refine Ints.ld (Mat.row (by assumption) _ (by omega)) (by omega) ?_)
               | (refine At.ld (by assumption) rfl ?_)
               | (refine At.ldN (by assumption) rfl ?_)
               | (refine Prs.ln (by assumption) ?_)
               | (refine Trs.ln (by assumption) ?_)
               | (refine Prs.ix (by assumption) (by omega) ?_)
               | (refine Trs.ix (by assumption) (by omega) ?_)
               | (refine Prs.ldN (by assumption) (by omega) ?_)
               | (refine Trs.ldN (by assumption) (by omega) ?_)
               | (refine At.ldN (Blk.at (by assumption)) rfl ?_)
               | (refine At.ld (Blk.at (by assumption)) rfl ?_)
               | (refine IxA.mk (by omega) ?_)
               | (refine Sl.ln (Own.sl (by assumption)) ?_))
      have key : ∀ (wz : World) (ra rb rv : Value), Ext w16 wz → OM 0 wz rv [ra, rb] [List.replicate 10 0, List.replicate 10 0] → (?P : World → Value → Value → Value → Prop) wz ra rb rv := ?key
      conv => whnf
      refine ⟨?_, ?_⟩
      · conv => whnf
        refine VX.made (n := 10) Try.underlying25 eInt rfl (by omega) (by omega) fun ra w17 E17 HA _ => ?_
        replace EE := EE.ext E17
        replace HM1 := HM1.ext E17
        replace HM2 := HM2.ext E17
        replace HM3 := HM3.ext E17
        replace HM4 := HM4.ext E17
        replace H1 := H1.ext E17
        replace H2 := H2.ext E17
        replace HG := HG.ext E17
        replace HA := OI.made (HA 0 (Nat.zero_le _))
        conv => whnf
        refine VX.made (n := 10) Try.underlying25 eInt rfl (by omega) (by omega) fun rb w18 E18 HB2 _ => ?_
        replace EE := EE.ext E18
        replace HM1 := HM1.ext E18
        replace HM2 := HM2.ext E18
        replace HM3 := HM3.ext E18
        replace HM4 := HM4.ext E18
        replace H1 := H1.ext E18
        replace H2 := H2.ext E18
        replace HG := HG.ext E18
        replace HA := HA.ext E18
        replace HB2 := OI.made (HB2 0 (Nat.zero_le _))
        conv => whnf
        refine VX.litV [ra, rb] Try.underlying22 eRow (by intro v hv; simp at hv; rcases hv with rfl | rfl <;> first | rfl | exact (Sl.cells (Own.sl HA)).1 | exact (Sl.cells (Own.sl HB2)).1) (by simp) fun rv w19 E19 HR _ => ?_
        replace EE := EE.ext E19
        replace HM1 := HM1.ext E19
        replace HM2 := HM2.ext E19
        replace HM3 := HM3.ext E19
        replace HM4 := HM4.ext E19
        replace H1 := H1.ext E19
        replace H2 := H2.ext E19
        replace HG := HG.ext E19
        replace HA := HA.ext E19
        replace HB2 := HB2.ext E19
        replace HR : OM 0 w19 rv [ra, rb] [List.replicate 10 0, List.replicate 10 0] := by
          refine ⟨HR _ (Nat.zero_le _), fun i hi => ?_⟩
          match i, hi with
          | 0, _ => exact HA
          | 1, _ => exact HB2
        conv => whnf
        exact key _ _ _ _ (E17.trans (E18.trans E19)) HR
      · conv => whnf
        refine VX.made (n := 10) Try.underlying25 eInt rfl (by omega) (by omega) fun rb w20 E20 HB2 _ => ?_
        replace EE := EE.ext E20
        replace HM1 := HM1.ext E20
        replace HM2 := HM2.ext E20
        replace HM3 := HM3.ext E20
        replace HM4 := HM4.ext E20
        replace H1 := H1.ext E20
        replace H2 := H2.ext E20
        replace HG := HG.ext E20
        replace HB2 := OI.made (HB2 0 (Nat.zero_le _))
        conv => whnf
        refine VX.made (n := 10) Try.underlying25 eInt rfl (by omega) (by omega) fun ra w21 E21 HA _ => ?_
        replace EE := EE.ext E21
        replace HM1 := HM1.ext E21
        replace HM2 := HM2.ext E21
        replace HM3 := HM3.ext E21
        replace HM4 := HM4.ext E21
        replace H1 := H1.ext E21
        replace H2 := H2.ext E21
        replace HG := HG.ext E21
        replace HB2 := HB2.ext E21
        replace HA := OI.made (HA 0 (Nat.zero_le _))
        conv => whnf
        refine VX.litV [ra, rb] Try.underlying22 eRow (by intro v hv; simp at hv; rcases hv with rfl | rfl <;> first | rfl | exact (Sl.cells (Own.sl HA)).1 | exact (Sl.cells (Own.sl HB2)).1) (by simp) fun rv w22 E22 HR _ => ?_
        replace EE := EE.ext E22
        replace HM1 := HM1.ext E22
        replace HM2 := HM2.ext E22
        replace HM3 := HM3.ext E22
        replace HM4 := HM4.ext E22
        replace H1 := H1.ext E22
        replace H2 := H2.ext E22
        replace HG := HG.ext E22
        replace HB2 := HB2.ext E22
        replace HA := HA.ext E22
        replace HR : OM 0 w22 rv [ra, rb] [List.replicate 10 0, List.replicate 10 0] := by
          refine ⟨HR _ (Nat.zero_le _), fun i hi => ?_⟩
          match i, hi with
          | 0, _ => exact HA
          | 1, _ => exact HB2
        conv => whnf
        exact key _ _ _ _ (E20.trans (E21.trans E22)) HR
      intro wz ra rb rv Ez HR
      replace EE := EE.ext Ez
      replace HM1 := HM1.ext Ez
      replace HM2 := HM2.ext Ez
      replace HM3 := HM3.ext Ez
      replace HM4 := HM4.ext Ez
      replace H1 := H1.ext Ez
      replace H2 := H2.ext Ez
      replace HG := HG.ext Ez
      conv => whnf
      refine VS.field1 Try.underlying24 eGoods (by kernel_rfl) rfl (Sl.cells (Own.sl HR.top)).1 ?_
      conv => whnf
      refine VC.pure (gcheck_pc HR.mat) ?_
      rw [show chk [List.replicate 10 0, List.replicate 10 0] = 0 from (chk_eq _).trans (by decide +kernel)]
      repeat' (conv => whnf
               first
               | (refine Dr.quiet tyOk (by kernel_rfl) ?_)
               | (refine Rng.mk (by omega) ?_)
               | (refine Split.pos (by omega) ?_)
               | (refine Split.neg (by omega) ?_)
               | (refine Split.mk (fun h => ?_) (fun h => ?_))
               | (refine Need.mk (by omega) ?_)
               | (refine Ints.ln (by assumption) ?_)
               | (refine Mat.ln (by assumption) ?_)
               | (refine Ints.ln (Mat.row (by assumption) _ (by omega)) ?_)
               | (refine Ints.ix (by assumption) (by omega) ?_)
               | (refine Mat.ix (by assumption) (by omega) ?_)
               | (refine Ints.ix (Mat.row (by assumption) _ (by omega)) (by omega) ?_)
               | (refine Ints.ix (c := 0) (by assumption) (by omega) ?_)
               | (refine Mat.ix (c := 0) (by assumption) (by omega) ?_)
               | (refine Ints.ix (c := 0) (Mat.row (by assumption) _ (by omega)) (by omega) ?_)
               | (refine Ints.ixI (by assumption) (by omega) ?_)
               | (refine Mat.ixI (by assumption) (by omega) ?_)
               | (refine Ints.ixI (Mat.row (by assumption) _ (by omega)) (by omega) ?_)
               | (refine Ints.ld (by assumption) (by omega) ?_)
               | (refine Mat.ld (by assumption) (by omega) ?_)
               | (refine Ints.ld (Mat.row (by assumption) _ (by omega)) (by omega) ?_)
               | (refine At.ld (by assumption) rfl ?_)
               | (refine At.ldN (by assumption) rfl ?_)
               | (refine Prs.ln (by assumption) ?_)
               | (refine Trs.ln (by assumption) ?_)
               | (refine Prs.ix (by assumption) (by omega) ?_)
               | (refine Trs.ix (by assumption) (by omega) ?_)
               | (refine Prs.ldN (by assumption) (by omega) ?_)
               | (refine Trs.ldN (by assumption) (by omega) ?_)
               | (refine At.ldN (Blk.at (by assumption)) rfl ?_)
               | (refine At.ld (Blk.at (by assumption)) rfl ?_)
               | (refine IxA.mk (by omega) ?_)
               | (refine Sl.ln (Own.sl (by assumption)) ?_))
      conv => whnf
      refine VE.made (n := 6) Try.underlying22 eRow rfl (by omega) (by omega) fun mv w26 E26 HG _ => ?_
      replace EE := EE.ext E26
      replace HM1 := HM1.ext E26
      replace HM2 := HM2.ext E26
      replace HM3 := HM3.ext E26
      replace HM4 := HM4.ext E26
      replace H1 := H1.ext E26
      replace H2 := H2.ext E26
      replace HR := HR.ext E26
      replace HG := OM.made (HG 0 (Nat.zero_le _))
      conv => whnf
      refine VS.field1 Try.underlying24 eGoods (by kernel_rfl) rfl (Sl.cells (Own.sl HG.top)).1 ?_
      conv => whnf
      refine VC.pure (gcheck_pc HG.mat) ?_
      rw [show chk (List.replicate 6 []) = 0 from (chk_eq _).trans (by decide +kernel)]
      repeat' (conv => whnf
               first
               | (refine Dr.quiet tyOk (by kernel_rfl) ?_)
               | (refine Rng.mk (by omega) ?_)
               | (refine Split.pos (by omega) ?_)
               | (refine Split.neg (by omega) ?_)
               | (refine Split.mk (fun h => ?_) (fun h => ?_))
               | (refine Need.mk (by omega) ?_)
               | (refine Ints.ln (by assumption) ?_)
               | (refine Mat.ln (by assumption) ?_)
               | (refine Ints.ln (Mat.row (by assumption) _ (by omega)) ?_)
               | (refine Ints.ix (by assumption) (by omega) ?_)
               | (refine Mat.ix (by assumption) (by omega) ?_)
               | (refine Ints.ix (Mat.row (by assumption) _ (by omega)) (by omega) ?_)
               | (refine Ints.ix (c := 0) (by assumption) (by omega) ?_)
               | (refine Mat.ix (c := 0) (by assumption) (by omega) ?_)
               | (refine Ints.ix (c := 0) (Mat.row (by assumption) _ (by omega)) (by omega) ?_)
               | (refine Ints.ixI (by assumption) (by omega) ?_)
               | (refine Mat.ixI (by assumption) (by omega) ?_)
               | (refine Ints.ixI (Mat.row (by assumption) _ (by omega)) (by omega) ?_)
               | (refine Ints.ld (by assumption) (by omega) ?_)
               | (refine Mat.ld (by assumption) (by omega) ?_)
               | (refine Ints.ld (Mat.row (by assumption) _ (by omega)) (by omega) ?_)
               | (refine At.ld (by assumption) rfl ?_)
               | (refine At.ldN (by assumption) rfl ?_)
               | (refine Prs.ln (by assumption) ?_)
               | (refine Trs.ln (by assumption) ?_)
               | (refine Prs.ix (by assumption) (by omega) ?_)
               | (refine Trs.ix (by assumption) (by omega) ?_)
               | (refine Prs.ldN (by assumption) (by omega) ?_)
               | (refine Trs.ldN (by assumption) (by omega) ?_)
               | (refine At.ldN (Blk.at (by assumption)) rfl ?_)
               | (refine At.ld (Blk.at (by assumption)) rfl ?_)
               | (refine IxA.mk (by omega) ?_)
               | (refine Sl.ln (Own.sl (by assumption)) ?_))
      conv => whnf
      refine VE.litI [0, 1] Try.underlying25 eInt (by decide) fun r1 w27 E27 H1 _ => ?_
      replace H1 := H1 0 (Nat.zero_le _)
      replace EE := EE.ext E27
      replace HM1 := HM1.ext E27
      replace HM2 := HM2.ext E27
      replace HM3 := HM3.ext E27
      replace HM4 := HM4.ext E27
      replace H2 := H2.ext E27
      replace HR := HR.ext E27
      replace HG := HG.ext E27
      conv => whnf
      refine VE.litI [0, 1, 2] Try.underlying25 eInt (by decide) fun r2 w28 E28 H2 _ => ?_
      replace H2 := H2 0 (Nat.zero_le _)
      replace EE := EE.ext E28
      replace HM1 := HM1.ext E28
      replace HM2 := HM2.ext E28
      replace HM3 := HM3.ext E28
      replace HM4 := HM4.ext E28
      replace HR := HR.ext E28
      replace HG := HG.ext E28
      replace H1 := H1.ext E28
      conv => whnf
      refine VE.litI [0, 1, -2] Try.underlying25 eInt (by decide) fun r3 w29 E29 H3 _ => ?_
      replace H3 := H3 0 (Nat.zero_le _)
      replace EE := EE.ext E29
      replace HM1 := HM1.ext E29
      replace HM2 := HM2.ext E29
      replace HM3 := HM3.ext E29
      replace HM4 := HM4.ext E29
      replace HR := HR.ext E29
      replace HG := HG.ext E29
      replace H1 := H1.ext E29
      replace H2 := H2.ext E29
      conv => whnf
      refine VE.litI [0, 0, 0, 0] Try.underlying25 eInt (by decide) fun r4 w30 E30 H4 _ => ?_
      replace H4 := H4 0 (Nat.zero_le _)
      replace EE := EE.ext E30
      replace HM1 := HM1.ext E30
      replace HM2 := HM2.ext E30
      replace HM3 := HM3.ext E30
      replace HM4 := HM4.ext E30
      replace HR := HR.ext E30
      replace HG := HG.ext E30
      replace H1 := H1.ext E30
      replace H2 := H2.ext E30
      replace H3 := H3.ext E30
      conv => whnf
      refine VE.litV [.slice none 0 0, r1, r2, r3, r4] Try.underlying22 eRow (by intro v hv; simp at hv; rcases hv with rfl | rfl | rfl | rfl | rfl <;> first | rfl | exact (Sl.cells (Own.sl H1)).1 | exact (Sl.cells (Own.sl H2)).1 | exact (Sl.cells (Own.sl H3)).1 | exact (Sl.cells (Own.sl H4)).1) (by simp) fun lv w31 E31 HL _ => ?_
      replace EE := EE.ext E31
      replace HM1 := HM1.ext E31
      replace HM2 := HM2.ext E31
      replace HM3 := HM3.ext E31
      replace HM4 := HM4.ext E31
      replace HR := HR.ext E31
      replace HG := HG.ext E31
      replace H1 := H1.ext E31
      replace H2 := H2.ext E31
      replace H3 := H3.ext E31
      replace H4 := H4.ext E31
      replace HL : OM 0 w31 lv [.slice none 0 0, r1, r2, r3, r4] badl := by
        refine ⟨HL _ (Nat.zero_le _), fun i hi => ?_⟩
        match i, hi with
        | 0, _ => exact Own.nil
        | 1, _ => exact H1
        | 2, _ => exact H2
        | 3, _ => exact H3
        | 4, _ => exact H4
      have HLM := HL.mat
      have hbl : badl.length = 5 := rfl
      repeat' (conv => whnf
               first
               | (refine Dr.quiet tyOk (by kernel_rfl) ?_)
               | (refine Rng.mk (by omega) ?_)
               | (refine Split.pos (by omega) ?_)
               | (refine Split.neg (by omega) ?_)
               | (refine Split.mk (fun h => ?_) (fun h => ?_))
               | (refine Need.mk (by omega) ?_)
               | (refine Ints.ln (by assumption) ?_)
               | (refine Mat.ln (by assumption) ?_)
               | (refine Ints.ln (Mat.row (by assumption) _ (by omega)) ?_)
               | (refine Ints.ix (by assumption) (by omega) ?_)
               | (refine Mat.ix (by assumption) (by omega) ?_)
               | (refine Ints.ix (Mat.row (by assumption) _ (by omega)) (by omega) ?_)
               | (refine Ints.ix (c := 0) (by assumption) (by omega) ?_)
               | (refine Mat.ix (c := 0) (by assumption) (by omega) ?_)
               | (refine Ints.ix (c := 0) (Mat.row (by assumption) _ (by omega)) (by omega) ?_)
               | (refine Ints.ixI (by assumption) (by omega) ?_)
               | (refine Mat.ixI (by assumption) (by omega) ?_)
               | (refine Ints.ixI (Mat.row (by assumption) _ (by omega)) (by omega) ?_)
               | (refine Ints.ld (by assumption) (by omega) ?_)
               | (refine Mat.ld (by assumption) (by omega) ?_)
               | (refine Ints.ld (Mat.row (by assumption) _ (by omega)) (by omega) ?_)
               | (refine At.ld (by assumption) rfl ?_)
               | (refine At.ldN (by assumption) rfl ?_)
               | (refine Prs.ln (by assumption) ?_)
               | (refine Trs.ln (by assumption) ?_)
               | (refine Prs.ix (by assumption) (by omega) ?_)
               | (refine Trs.ix (by assumption) (by omega) ?_)
               | (refine Prs.ldN (by assumption) (by omega) ?_)
               | (refine Trs.ldN (by assumption) (by omega) ?_)
               | (refine At.ldN (Blk.at (by assumption)) rfl ?_)
               | (refine At.ld (Blk.at (by assumption)) rfl ?_)
               | (refine IxA.mk (by omega) ?_)
               | (refine Sl.ln (Own.sl (by assumption)) ?_))
      have EE__1 := EE
      have HM1__1 := HM1
      have HM2__1 := HM2
      have HM3__1 := HM3
      have HM4__1 := HM4
      have HLM__1 := HLM
      have hz1 := Nat.le_trans E1.size EE.size
      refine Lp.mk tyOk [true, false, false, false, false, false, false, false, true, false, false, false, false, false, false, false, false, false, false, false, false, false, false, false, false, false, false, false, false, false, false, false, false, false, false, false, false, false, false, false, false, false, false, false, false, false, false, false, false, false, false, false, false, false, false, false, false, false, false, false, false, false, false, false, false, false, false, false, false, false, false, false, false, false, false, false, false, true, true, true, true, true, true, true, true, true, true, true, true, true] (fun m fr wr => getK fr 8 fun i => ∃ d : Nat, d ≤ 5 ∧ m = 5 - d ∧ i = .int .i64 (d : Int) ∧ Ext w31 wr) (5) ?_ ?_
      · exact ⟨0, Nat.zero_le _, rfl, rfl, Ext.refl _⟩
      · intro m w32 u0 u8 u77 u78 u79 u80 u81 u82 u83 u84 u85 u86 u87 u88 u89 hR
        obtain ⟨d, hd, rfl, rfl, EL1⟩ := hR
        replace EE := EE__1.ext EL1
        replace HM1 := HM1__1.ext EL1
        replace HM2 := HM2__1.ext EL1
        replace HM3 := HM3__1.ext EL1
        replace HM4 := HM4__1.ext EL1
        replace HLM := HLM__1.ext EL1
        by_cases hdl : d < 5
        · have hd2 := badl_vld d hdl
          repeat' (conv => whnf
                   first
                   | (refine Dr.plan 64 [4] (.e 0 (.e 1 (.e 2 (.q 3 (.e 4 (.q 5 .nil) .nil)) .nil) .nil) (.e 1 (.e 0 (.e 2 (.q 3 (.e 4 (.q 5 .nil) .nil)) .nil) .nil) .nil)) tyOk rfl (by kernel_rfl) ?_)
                   | (refine Dr.plan 83 [5] (.q 1 (.q 2 (.q 3 (.q 4 (.e 0 (.e 5 (.q 6 .nil) .nil) .nil))))) tyOk rfl (by kernel_rfl) ?_)
                   | (refine Dr.quiet tyOk (by kernel_rfl) ?_)
                   | (refine Rng.mk (by omega) ?_)
                   | (refine Split.pos (by omega) ?_)
                   | (refine Split.neg (by omega) ?_)
                   | (refine Split.mk (fun h => ?_) (fun h => ?_))
                   | (refine Need.mk (by omega) ?_)
                   | (refine Ints.ln (by assumption) ?_)
                   | (refine Mat.ln (by assumption) ?_)
                   | (refine Ints.ln (Mat.row (by assumption) _ (by omega)) ?_)
                   | (refine Ints.ix (by assumption) (by omega) ?_)
                   | (refine Mat.ix (by assumption) (by omega) ?_)
                   | (refine Ints.ix (Mat.row (by assumption) _ (by omega)) (by omega) ?_)
                   | (refine Ints.ix (c := 0) (by assumption) (by omega) ?_)
                   | (refine Mat.ix (c := 0) (by assumption) (by omega) ?_)
                   | (refine Ints.ix (c := 0) (Mat.row (by assumption) _ (by omega)) (by omega) ?_)
                   | (refine Ints.ixI (by assumption) (by omega) ?_)
                   | (refine Mat.ixI (by assumption) (by omega) ?_)
                   | (refine Ints.ixI (Mat.row (by assumption) _ (by omega)) (by omega) ?_)
                   | (refine Ints.ld (by assumption) (by omega) ?_)
                   | (refine Mat.ld (by assumption) (by omega) ?_)
                   | (refine Ints.ld (Mat.row (by assumption) _ (by omega)) (by omega) ?_)
                   | (refine At.ld (by assumption) rfl ?_)
                   | (refine At.ldN (by assumption) rfl ?_)
                   | (refine Prs.ln (by assumption) ?_)
                   | (refine Trs.ln (by assumption) ?_)
                   | (refine Prs.ix (by assumption) (by omega) ?_)
                   | (refine Trs.ix (by assumption) (by omega) ?_)
                   | (refine Prs.ldN (by assumption) (by omega) ?_)
                   | (refine Trs.ldN (by assumption) (by omega) ?_)
                   | (refine At.ldN (Blk.at (by assumption)) rfl ?_)
                   | (refine At.ld (Blk.at (by assumption)) rfl ?_)
                   | (refine IxA.mk (by omega) ?_)
                   | (refine Sl.ln (Own.sl (by assumption)) ?_))
          conv => whnf
          refine VCX.rc (given_rc) ?_
          rintro _ w33 E33 ⟨g1, _, rfl, HG⟩
          replace EE := EE.ext E33
          replace HM1 := HM1.ext E33
          replace HM2 := HM2.ext E33
          replace HM3 := HM3.ext E33
          replace HM4 := HM4.ext E33
          replace HLM := HLM.ext E33
          replace EL1 := EL1.ext E33
          have cv := gvalid_pc HG.mat (HLM.row d (by omega))
          rw [hd2] at cv
          repeat' (conv => whnf
                   first
                   | (refine Dr.quiet tyOk (by kernel_rfl) ?_)
                   | (refine VC.pure cv ?_)
                   | (refine Rng.mk (by omega) ?_)
                   | (refine Split.pos (by omega) ?_)
                   | (refine Split.neg (by omega) ?_)
                   | (refine Split.mk (fun h => ?_) (fun h => ?_))
                   | (refine Need.mk (by omega) ?_)
                   | (refine Ints.ln (by assumption) ?_)
                   | (refine Mat.ln (by assumption) ?_)
                   | (refine Ints.ln (Mat.row (by assumption) _ (by omega)) ?_)
                   | (refine Ints.ix (by assumption) (by omega) ?_)
                   | (refine Mat.ix (by assumption) (by omega) ?_)
                   | (refine Ints.ix (Mat.row (by assumption) _ (by omega)) (by omega) ?_)
                   | (refine Ints.ix (c := 0) (by assumption) (by omega) ?_)
                   | (refine Mat.ix (c := 0) (by assumption) (by omega) ?_)
                   | (refine Ints.ix (c := 0) (Mat.row (by assumption) _ (by omega)) (by omega) ?_)
                   | (refine Ints.ixI (by assumption) (by omega) ?_)
                   | (refine Mat.ixI (by assumption) (by omega) ?_)
                   | (refine Ints.ixI (Mat.row (by assumption) _ (by omega)) (by omega) ?_)
                   | (refine Ints.ld (by assumption) (by omega) ?_)
                   | (refine Mat.ld (by assumption) (by omega) ?_)
                   | (refine Ints.ld (Mat.row (by assumption) _ (by omega)) (by omega) ?_)
                   | (refine At.ld (by assumption) rfl ?_)
                   | (refine At.ldN (by assumption) rfl ?_)
                   | (refine Prs.ln (by assumption) ?_)
                   | (refine Trs.ln (by assumption) ?_)
                   | (refine Prs.ix (by assumption) (by omega) ?_)
                   | (refine Trs.ix (by assumption) (by omega) ?_)
                   | (refine Prs.ldN (by assumption) (by omega) ?_)
                   | (refine Trs.ldN (by assumption) (by omega) ?_)
                   | (refine At.ldN (Blk.at (by assumption)) rfl ?_)
                   | (refine At.ld (Blk.at (by assumption)) rfl ?_)
                   | (refine IxA.mk (by omega) ?_)
                   | (refine Sl.ln (Own.sl (by assumption)) ?_))
          refine ⟨_, (by omega : 5 - (d + 1) < 5 - d), rfl, d + 1, by omega, rfl, rfl, EL1⟩
        · repeat' (conv => whnf
                   first
                   | (refine Dr.quiet tyOk (by kernel_rfl) ?_)
                   | (refine Rng.mk (by omega) ?_)
                   | (refine Split.pos (by omega) ?_)
                   | (refine Split.neg (by omega) ?_)
                   | (refine Split.mk (fun h => ?_) (fun h => ?_))
                   | (refine Need.mk (by omega) ?_)
                   | (refine Ints.ln (by assumption) ?_)
                   | (refine Mat.ln (by assumption) ?_)
                   | (refine Ints.ln (Mat.row (by assumption) _ (by omega)) ?_)
                   | (refine Ints.ix (by assumption) (by omega) ?_)
                   | (refine Mat.ix (by assumption) (by omega) ?_)
                   | (refine Ints.ix (Mat.row (by assumption) _ (by omega)) (by omega) ?_)
                   | (refine Ints.ix (c := 0) (by assumption) (by omega) ?_)
                   | (refine Mat.ix (c := 0) (by assumption) (by omega) ?_)
                   | (refine Ints.ix (c := 0) (Mat.row (by assumption) _ (by omega)) (by omega) ?_)
                   | (refine Ints.ixI (by assumption) (by omega) ?_)
                   | (refine Mat.ixI (by assumption) (by omega) ?_)
                   | (refine Ints.ixI (Mat.row (by assumption) _ (by omega)) (by omega) ?_)
                   | (refine Ints.ld (by assumption) (by omega) ?_)
                   | (refine Mat.ld (by assumption) (by omega) ?_)
                   | (refine Ints.ld (Mat.row (by assumption) _ (by omega)) (by omega) ?_)
                   | (refine At.ld (by assumption) rfl ?_)
                   | (refine At.ldN (by assumption) rfl ?_)
                   | (refine Prs.ln (by assumption) ?_)
                   | (refine Trs.ln (by assumption) ?_)
                   | (refine Prs.ix (by assumption) (by omega) ?_)
                   | (refine Trs.ix (by assumption) (by omega) ?_)
                   | (refine Prs.ldN (by assumption) (by omega) ?_)
                   | (refine Trs.ldN (by assumption) (by omega) ?_)
                   | (refine At.ldN (Blk.at (by assumption)) rfl ?_)
                   | (refine At.ld (Blk.at (by assumption)) rfl ?_)
                   | (refine IxA.mk (by omega) ?_)
                   | (refine Sl.ln (Own.sl (by assumption)) ?_))
          have vv : vld gvn [0, -1, 1] = 0 := gvn_vld (by decide) (by decide) (by decide)
          have asgN : ∀ o : List Int, asg o 2 ↔ o.length = 2 ∧ ∀ j : Nat, j < 2 → cntTo o j 2 = 1 := fun o => Iff.rfl
          conv => whnf
          refine VE.litI [0, -1, 1] Try.underlying25 eInt (by decide) fun av w34 E34 HA _ => ?_
          replace HA := HA 0 (Nat.zero_le _)
          replace EE := EE.ext E34
          replace HM1 := HM1.ext E34
          replace HM2 := HM2.ext E34
          replace HM3 := HM3.ext E34
          replace HM4 := HM4.ext E34
          replace HLM := HLM.ext E34
          replace EL1 := EL1.ext E34
          repeat' (conv => whnf
                   first
                   | (refine Dr.quiet tyOk (by kernel_rfl) ?_)
                   | (refine Rng.mk (by omega) ?_)
                   | (refine Split.pos (by omega) ?_)
                   | (refine Split.neg (by omega) ?_)
                   | (refine Split.mk (fun h => ?_) (fun h => ?_))
                   | (refine Need.mk (by omega) ?_)
                   | (refine Ints.ln (by assumption) ?_)
                   | (refine Mat.ln (by assumption) ?_)
                   | (refine Ints.ln (Mat.row (by assumption) _ (by omega)) ?_)
                   | (refine Ints.ix (by assumption) (by omega) ?_)
                   | (refine Mat.ix (by assumption) (by omega) ?_)
                   | (refine Ints.ix (Mat.row (by assumption) _ (by omega)) (by omega) ?_)
                   | (refine Ints.ix (c := 0) (by assumption) (by omega) ?_)
                   | (refine Mat.ix (c := 0) (by assumption) (by omega) ?_)
                   | (refine Ints.ix (c := 0) (Mat.row (by assumption) _ (by omega)) (by omega) ?_)
                   | (refine Ints.ixI (by assumption) (by omega) ?_)
                   | (refine Mat.ixI (by assumption) (by omega) ?_)
                   | (refine Ints.ixI (Mat.row (by assumption) _ (by omega)) (by omega) ?_)
                   | (refine Ints.ld (by assumption) (by omega) ?_)
                   | (refine Mat.ld (by assumption) (by omega) ?_)
                   | (refine Ints.ld (Mat.row (by assumption) _ (by omega)) (by omega) ?_)
                   | (refine At.ld (by assumption) rfl ?_)
                   | (refine At.ldN (by assumption) rfl ?_)
                   | (refine Prs.ln (by assumption) ?_)
                   | (refine Trs.ln (by assumption) ?_)
                   | (refine Prs.ix (by assumption) (by omega) ?_)
                   | (refine Trs.ix (by assumption) (by omega) ?_)
                   | (refine Prs.ldN (by assumption) (by omega) ?_)
                   | (refine Trs.ldN (by assumption) (by omega) ?_)
                   | (refine At.ldN (Blk.at (by assumption)) rfl ?_)
                   | (refine At.ld (Blk.at (by assumption)) rfl ?_)
                   | (refine IxA.mk (by omega) ?_)
                   | (refine Sl.ln (Own.sl (by assumption)) ?_))
          conv => whnf
          refine VC.rc (given_rc) ?_
          rintro _ w35 E35 ⟨g1, _, rfl, HG⟩
          replace EE := EE.ext E35
          replace HM1 := HM1.ext E35
          replace HM2 := HM2.ext E35
          replace HM3 := HM3.ext E35
          replace HM4 := HM4.ext E35
          replace HLM := HLM.ext E35
          replace EL1 := EL1.ext E35
          replace HA := HA.ext E35
          repeat' (conv => whnf
                   first
                   | (refine Dr.quiet tyOk (by kernel_rfl) ?_)
                   | (refine Rng.mk (by omega) ?_)
                   | (refine Split.pos (by omega) ?_)
                   | (refine Split.neg (by omega) ?_)
                   | (refine Split.mk (fun h => ?_) (fun h => ?_))
                   | (refine Need.mk (by omega) ?_)
                   | (refine Ints.ln (by assumption) ?_)
                   | (refine Mat.ln (by assumption) ?_)
                   | (refine Ints.ln (Mat.row (by assumption) _ (by omega)) ?_)
                   | (refine Ints.ix (by assumption) (by omega) ?_)
                   | (refine Mat.ix (by assumption) (by omega) ?_)
                   | (refine Ints.ix (Mat.row (by assumption) _ (by omega)) (by omega) ?_)
                   | (refine Ints.ix (c := 0) (by assumption) (by omega) ?_)
                   | (refine Mat.ix (c := 0) (by assumption) (by omega) ?_)
                   | (refine Ints.ix (c := 0) (Mat.row (by assumption) _ (by omega)) (by omega) ?_)
                   | (refine Ints.ixI (by assumption) (by omega) ?_)
                   | (refine Mat.ixI (by assumption) (by omega) ?_)
                   | (refine Ints.ixI (Mat.row (by assumption) _ (by omega)) (by omega) ?_)
                   | (refine Ints.ld (by assumption) (by omega) ?_)
                   | (refine Mat.ld (by assumption) (by omega) ?_)
                   | (refine Ints.ld (Mat.row (by assumption) _ (by omega)) (by omega) ?_)
                   | (refine At.ld (by assumption) rfl ?_)
                   | (refine At.ldN (by assumption) rfl ?_)
                   | (refine Prs.ln (by assumption) ?_)
                   | (refine Trs.ln (by assumption) ?_)
                   | (refine Prs.ix (by assumption) (by omega) ?_)
                   | (refine Trs.ix (by assumption) (by omega) ?_)
                   | (refine Prs.ldN (by assumption) (by omega) ?_)
                   | (refine Trs.ldN (by assumption) (by omega) ?_)
                   | (refine At.ldN (Blk.at (by assumption)) rfl ?_)
                   | (refine At.ld (Blk.at (by assumption)) rfl ?_)
                   | (refine IxA.mk (by omega) ?_)
                   | (refine Sl.ln (Own.sl (by assumption)) ?_))
          conv => whnf
          refine VE.litI [0] Try.underlying25 eInt (by decide) fun l1 w36 E36 H1 _ => ?_
          replace H1 := H1 0 (Nat.zero_le _)
          replace EE := EE.ext E36
          replace HM1 := HM1.ext E36
          replace HM2 := HM2.ext E36
          replace HM3 := HM3.ext E36
          replace HM4 := HM4.ext E36
          replace HLM := HLM.ext E36
          replace EL1 := EL1.ext E36
          replace HA := HA.ext E36
          replace HG := HG.ext E36
          conv => whnf
          refine VC.rc (gpass_rc HG.mat (Own.sl HA) (Own.sl H1)) ?_
          rintro _ w37 E37 ⟨p1, rfl, HP⟩
          replace EE := EE.ext E37
          replace HM1 := HM1.ext E37
          replace HM2 := HM2.ext E37
          replace HM3 := HM3.ext E37
          replace HM4 := HM4.ext E37
          replace HLM := HLM.ext E37
          replace EL1 := EL1.ext E37
          replace HA := HA.ext E37
          replace HG := HG.ext E37
          replace H1 := H1.ext E37
          rw [passE_no vv (fun h => by have := ((asgN _).1 h).1; cases this)]
          repeat' (conv => whnf
                   first
                   | (refine Dr.quiet tyOk (by kernel_rfl) ?_)
                   | (refine Rng.mk (by omega) ?_)
                   | (refine Split.pos (by omega) ?_)
                   | (refine Split.neg (by omega) ?_)
                   | (refine Split.mk (fun h => ?_) (fun h => ?_))
                   | (refine Need.mk (by omega) ?_)
                   | (refine Ints.ln (by assumption) ?_)
                   | (refine Mat.ln (by assumption) ?_)
                   | (refine Ints.ln (Mat.row (by assumption) _ (by omega)) ?_)
                   | (refine Ints.ix (by assumption) (by omega) ?_)
                   | (refine Mat.ix (by assumption) (by omega) ?_)
                   | (refine Ints.ix (Mat.row (by assumption) _ (by omega)) (by omega) ?_)
                   | (refine Ints.ix (c := 0) (by assumption) (by omega) ?_)
                   | (refine Mat.ix (c := 0) (by assumption) (by omega) ?_)
                   | (refine Ints.ix (c := 0) (Mat.row (by assumption) _ (by omega)) (by omega) ?_)
                   | (refine Ints.ixI (by assumption) (by omega) ?_)
                   | (refine Mat.ixI (by assumption) (by omega) ?_)
                   | (refine Ints.ixI (Mat.row (by assumption) _ (by omega)) (by omega) ?_)
                   | (refine Ints.ld (by assumption) (by omega) ?_)
                   | (refine Mat.ld (by assumption) (by omega) ?_)
                   | (refine Ints.ld (Mat.row (by assumption) _ (by omega)) (by omega) ?_)
                   | (refine At.ld (by assumption) rfl ?_)
                   | (refine At.ldN (by assumption) rfl ?_)
                   | (refine Prs.ln (by assumption) ?_)
                   | (refine Trs.ln (by assumption) ?_)
                   | (refine Prs.ix (by assumption) (by omega) ?_)
                   | (refine Trs.ix (by assumption) (by omega) ?_)
                   | (refine Prs.ldN (by assumption) (by omega) ?_)
                   | (refine Trs.ldN (by assumption) (by omega) ?_)
                   | (refine At.ldN (Blk.at (by assumption)) rfl ?_)
                   | (refine At.ld (Blk.at (by assumption)) rfl ?_)
                   | (refine IxA.mk (by omega) ?_)
                   | (refine Sl.ln (Own.sl (by assumption)) ?_))
          conv => whnf
          refine VC.rc (given_rc) ?_
          rintro _ w38 E38 ⟨g1, _, rfl, HG⟩
          replace EE := EE.ext E38
          replace HM1 := HM1.ext E38
          replace HM2 := HM2.ext E38
          replace HM3 := HM3.ext E38
          replace HM4 := HM4.ext E38
          replace HLM := HLM.ext E38
          replace EL1 := EL1.ext E38
          replace HA := HA.ext E38
          replace H1 := H1.ext E38
          replace HP := HP.ext E38
          repeat' (conv => whnf
                   first
                   | (refine Dr.quiet tyOk (by kernel_rfl) ?_)
                   | (refine Rng.mk (by omega) ?_)
                   | (refine Split.pos (by omega) ?_)
                   | (refine Split.neg (by omega) ?_)
                   | (refine Split.mk (fun h => ?_) (fun h => ?_))
                   | (refine Need.mk (by omega) ?_)
                   | (refine Ints.ln (by assumption) ?_)
                   | (refine Mat.ln (by assumption) ?_)
                   | (refine Ints.ln (Mat.row (by assumption) _ (by omega)) ?_)
                   | (refine Ints.ix (by assumption) (by omega) ?_)
                   | (refine Mat.ix (by assumption) (by omega) ?_)
                   | (refine Ints.ix (Mat.row (by assumption) _ (by omega)) (by omega) ?_)
                   | (refine Ints.ix (c := 0) (by assumption) (by omega) ?_)
                   | (refine Mat.ix (c := 0) (by assumption) (by omega) ?_)
                   | (refine Ints.ix (c := 0) (Mat.row (by assumption) _ (by omega)) (by omega) ?_)
                   | (refine Ints.ixI (by assumption) (by omega) ?_)
                   | (refine Mat.ixI (by assumption) (by omega) ?_)
                   | (refine Ints.ixI (Mat.row (by assumption) _ (by omega)) (by omega) ?_)
                   | (refine Ints.ld (by assumption) (by omega) ?_)
                   | (refine Mat.ld (by assumption) (by omega) ?_)
                   | (refine Ints.ld (Mat.row (by assumption) _ (by omega)) (by omega) ?_)
                   | (refine At.ld (by assumption) rfl ?_)
                   | (refine At.ldN (by assumption) rfl ?_)
                   | (refine Prs.ln (by assumption) ?_)
                   | (refine Trs.ln (by assumption) ?_)
                   | (refine Prs.ix (by assumption) (by omega) ?_)
                   | (refine Trs.ix (by assumption) (by omega) ?_)
                   | (refine Prs.ldN (by assumption) (by omega) ?_)
                   | (refine Trs.ldN (by assumption) (by omega) ?_)
                   | (refine At.ldN (Blk.at (by assumption)) rfl ?_)
                   | (refine At.ld (Blk.at (by assumption)) rfl ?_)
                   | (refine IxA.mk (by omega) ?_)
                   | (refine Sl.ln (Own.sl (by assumption)) ?_))
          conv => whnf
          refine VE.litI [1, 1] Try.underlying25 eInt (by decide) fun l1 w39 E39 H1 _ => ?_
          replace H1 := H1 0 (Nat.zero_le _)
          replace EE := EE.ext E39
          replace HM1 := HM1.ext E39
          replace HM2 := HM2.ext E39
          replace HM3 := HM3.ext E39
          replace HM4 := HM4.ext E39
          replace HLM := HLM.ext E39
          replace EL1 := EL1.ext E39
          replace HA := HA.ext E39
          replace HP := HP.ext E39
          replace HG := HG.ext E39
          conv => whnf
          refine VC.rc (gpass_rc HG.mat (Own.sl HA) (Own.sl H1)) ?_
          rintro _ w40 E40 ⟨p1, rfl, HP⟩
          replace EE := EE.ext E40
          replace HM1 := HM1.ext E40
          replace HM2 := HM2.ext E40
          replace HM3 := HM3.ext E40
          replace HM4 := HM4.ext E40
          replace HLM := HLM.ext E40
          replace EL1 := EL1.ext E40
          replace HA := HA.ext E40
          replace HG := HG.ext E40
          replace H1 := H1.ext E40
          rw [passE_no vv (fun h => by have := ((asgN _).1 h).2 0 (by omega); exact absurd this (by decide))]
          repeat' (conv => whnf
                   first
                   | (refine Dr.quiet tyOk (by kernel_rfl) ?_)
                   | (refine Rng.mk (by omega) ?_)
                   | (refine Split.pos (by omega) ?_)
                   | (refine Split.neg (by omega) ?_)
                   | (refine Split.mk (fun h => ?_) (fun h => ?_))
                   | (refine Need.mk (by omega) ?_)
                   | (refine Ints.ln (by assumption) ?_)
                   | (refine Mat.ln (by assumption) ?_)
                   | (refine Ints.ln (Mat.row (by assumption) _ (by omega)) ?_)
                   | (refine Ints.ix (by assumption) (by omega) ?_)
                   | (refine Mat.ix (by assumption) (by omega) ?_)
                   | (refine Ints.ix (Mat.row (by assumption) _ (by omega)) (by omega) ?_)
                   | (refine Ints.ix (c := 0) (by assumption) (by omega) ?_)
                   | (refine Mat.ix (c := 0) (by assumption) (by omega) ?_)
                   | (refine Ints.ix (c := 0) (Mat.row (by assumption) _ (by omega)) (by omega) ?_)
                   | (refine Ints.ixI (by assumption) (by omega) ?_)
                   | (refine Mat.ixI (by assumption) (by omega) ?_)
                   | (refine Ints.ixI (Mat.row (by assumption) _ (by omega)) (by omega) ?_)
                   | (refine Ints.ld (by assumption) (by omega) ?_)
                   | (refine Mat.ld (by assumption) (by omega) ?_)
                   | (refine Ints.ld (Mat.row (by assumption) _ (by omega)) (by omega) ?_)
                   | (refine At.ld (by assumption) rfl ?_)
                   | (refine At.ldN (by assumption) rfl ?_)
                   | (refine Prs.ln (by assumption) ?_)
                   | (refine Trs.ln (by assumption) ?_)
                   | (refine Prs.ix (by assumption) (by omega) ?_)
                   | (refine Trs.ix (by assumption) (by omega) ?_)
                   | (refine Prs.ldN (by assumption) (by omega) ?_)
                   | (refine Trs.ldN (by assumption) (by omega) ?_)
                   | (refine At.ldN (Blk.at (by assumption)) rfl ?_)
                   | (refine At.ld (Blk.at (by assumption)) rfl ?_)
                   | (refine IxA.mk (by omega) ?_)
                   | (refine Sl.ln (Own.sl (by assumption)) ?_))
          conv => whnf
          refine VC.rc (given_rc) ?_
          rintro _ w41 E41 ⟨g1, _, rfl, HG⟩
          replace EE := EE.ext E41
          replace HM1 := HM1.ext E41
          replace HM2 := HM2.ext E41
          replace HM3 := HM3.ext E41
          replace HM4 := HM4.ext E41
          replace HLM := HLM.ext E41
          replace EL1 := EL1.ext E41
          replace HA := HA.ext E41
          replace H1 := H1.ext E41
          replace HP := HP.ext E41
          repeat' (conv => whnf
                   first
                   | (refine Dr.quiet tyOk (by kernel_rfl) ?_)
                   | (refine Rng.mk (by omega) ?_)
                   | (refine Split.pos (by omega) ?_)
                   | (refine Split.neg (by omega) ?_)
                   | (refine Split.mk (fun h => ?_) (fun h => ?_))
                   | (refine Need.mk (by omega) ?_)
                   | (refine Ints.ln (by assumption) ?_)
                   | (refine Mat.ln (by assumption) ?_)
                   | (refine Ints.ln (Mat.row (by assumption) _ (by omega)) ?_)
                   | (refine Ints.ix (by assumption) (by omega) ?_)
                   | (refine Mat.ix (by assumption) (by omega) ?_)
                   | (refine Ints.ix (Mat.row (by assumption) _ (by omega)) (by omega) ?_)
                   | (refine Ints.ix (c := 0) (by assumption) (by omega) ?_)
                   | (refine Mat.ix (c := 0) (by assumption) (by omega) ?_)
                   | (refine Ints.ix (c := 0) (Mat.row (by assumption) _ (by omega)) (by omega) ?_)
                   | (refine Ints.ixI (by assumption) (by omega) ?_)
                   | (refine Mat.ixI (by assumption) (by omega) ?_)
                   | (refine Ints.ixI (Mat.row (by assumption) _ (by omega)) (by omega) ?_)
                   | (refine Ints.ld (by assumption) (by omega) ?_)
                   | (refine Mat.ld (by assumption) (by omega) ?_)
                   | (refine Ints.ld (Mat.row (by assumption) _ (by omega)) (by omega) ?_)
                   | (refine At.ld (by assumption) rfl ?_)
                   | (refine At.ldN (by assumption) rfl ?_)
                   | (refine Prs.ln (by assumption) ?_)
                   | (refine Trs.ln (by assumption) ?_)
                   | (refine Prs.ix (by assumption) (by omega) ?_)
                   | (refine Trs.ix (by assumption) (by omega) ?_)
                   | (refine Prs.ldN (by assumption) (by omega) ?_)
                   | (refine Trs.ldN (by assumption) (by omega) ?_)
                   | (refine At.ldN (Blk.at (by assumption)) rfl ?_)
                   | (refine At.ld (Blk.at (by assumption)) rfl ?_)
                   | (refine IxA.mk (by omega) ?_)
                   | (refine Sl.ln (Own.sl (by assumption)) ?_))
          conv => whnf
          refine VE.litI [0, 2] Try.underlying25 eInt (by decide) fun l1 w42 E42 H1 _ => ?_
          replace H1 := H1 0 (Nat.zero_le _)
          replace EE := EE.ext E42
          replace HM1 := HM1.ext E42
          replace HM2 := HM2.ext E42
          replace HM3 := HM3.ext E42
          replace HM4 := HM4.ext E42
          replace HLM := HLM.ext E42
          replace EL1 := EL1.ext E42
          replace HA := HA.ext E42
          replace HP := HP.ext E42
          replace HG := HG.ext E42
          conv => whnf
          refine VC.rc (gpass_rc HG.mat (Own.sl HA) (Own.sl H1)) ?_
          rintro _ w43 E43 ⟨p1, rfl, HP⟩
          replace EE := EE.ext E43
          replace HM1 := HM1.ext E43
          replace HM2 := HM2.ext E43
          replace HM3 := HM3.ext E43
          replace HM4 := HM4.ext E43
          replace HLM := HLM.ext E43
          replace EL1 := EL1.ext E43
          replace HA := HA.ext E43
          replace HG := HG.ext E43
          replace H1 := H1.ext E43
          rw [passE_no vv (fun h => by have := ((asgN _).1 h).2 1 (by omega); exact absurd this (by decide))]
          repeat' (conv => whnf
                   first
                   | (refine Dr.quiet tyOk (by kernel_rfl) ?_)
                   | (refine Rng.mk (by omega) ?_)
                   | (refine Split.pos (by omega) ?_)
                   | (refine Split.neg (by omega) ?_)
                   | (refine Split.mk (fun h => ?_) (fun h => ?_))
                   | (refine Need.mk (by omega) ?_)
                   | (refine Ints.ln (by assumption) ?_)
                   | (refine Mat.ln (by assumption) ?_)
                   | (refine Ints.ln (Mat.row (by assumption) _ (by omega)) ?_)
                   | (refine Ints.ix (by assumption) (by omega) ?_)
                   | (refine Mat.ix (by assumption) (by omega) ?_)
                   | (refine Ints.ix (Mat.row (by assumption) _ (by omega)) (by omega) ?_)
                   | (refine Ints.ix (c := 0) (by assumption) (by omega) ?_)
                   | (refine Mat.ix (c := 0) (by assumption) (by omega) ?_)
                   | (refine Ints.ix (c := 0) (Mat.row (by assumption) _ (by omega)) (by omega) ?_)
                   | (refine Ints.ixI (by assumption) (by omega) ?_)
                   | (refine Mat.ixI (by assumption) (by omega) ?_)
                   | (refine Ints.ixI (Mat.row (by assumption) _ (by omega)) (by omega) ?_)
                   | (refine Ints.ld (by assumption) (by omega) ?_)
                   | (refine Mat.ld (by assumption) (by omega) ?_)
                   | (refine Ints.ld (Mat.row (by assumption) _ (by omega)) (by omega) ?_)
                   | (refine At.ld (by assumption) rfl ?_)
                   | (refine At.ldN (by assumption) rfl ?_)
                   | (refine Prs.ln (by assumption) ?_)
                   | (refine Trs.ln (by assumption) ?_)
                   | (refine Prs.ix (by assumption) (by omega) ?_)
                   | (refine Trs.ix (by assumption) (by omega) ?_)
                   | (refine Prs.ldN (by assumption) (by omega) ?_)
                   | (refine Trs.ldN (by assumption) (by omega) ?_)
                   | (refine At.ldN (Blk.at (by assumption)) rfl ?_)
                   | (refine At.ld (Blk.at (by assumption)) rfl ?_)
                   | (refine IxA.mk (by omega) ?_)
                   | (refine Sl.ln (Own.sl (by assumption)) ?_))
          conv => whnf
          refine VC.rc (given_rc) ?_
          rintro _ w44 E44 ⟨g1, _, rfl, HG⟩
          replace EE := EE.ext E44
          replace HM1 := HM1.ext E44
          replace HM2 := HM2.ext E44
          replace HM3 := HM3.ext E44
          replace HM4 := HM4.ext E44
          replace HLM := HLM.ext E44
          replace EL1 := EL1.ext E44
          replace HA := HA.ext E44
          replace H1 := H1.ext E44
          replace HP := HP.ext E44
          repeat' (conv => whnf
                   first
                   | (refine Dr.quiet tyOk (by kernel_rfl) ?_)
                   | (refine Rng.mk (by omega) ?_)
                   | (refine Split.pos (by omega) ?_)
                   | (refine Split.neg (by omega) ?_)
                   | (refine Split.mk (fun h => ?_) (fun h => ?_))
                   | (refine Need.mk (by omega) ?_)
                   | (refine Ints.ln (by assumption) ?_)
                   | (refine Mat.ln (by assumption) ?_)
                   | (refine Ints.ln (Mat.row (by assumption) _ (by omega)) ?_)
                   | (refine Ints.ix (by assumption) (by omega) ?_)
                   | (refine Mat.ix (by assumption) (by omega) ?_)
                   | (refine Ints.ix (Mat.row (by assumption) _ (by omega)) (by omega) ?_)
                   | (refine Ints.ix (c := 0) (by assumption) (by omega) ?_)
                   | (refine Mat.ix (c := 0) (by assumption) (by omega) ?_)
                   | (refine Ints.ix (c := 0) (Mat.row (by assumption) _ (by omega)) (by omega) ?_)
                   | (refine Ints.ixI (by assumption) (by omega) ?_)
                   | (refine Mat.ixI (by assumption) (by omega) ?_)
                   | (refine Ints.ixI (Mat.row (by assumption) _ (by omega)) (by omega) ?_)
                   | (refine Ints.ld (by assumption) (by omega) ?_)
                   | (refine Mat.ld (by assumption) (by omega) ?_)
                   | (refine Ints.ld (Mat.row (by assumption) _ (by omega)) (by omega) ?_)
                   | (refine At.ld (by assumption) rfl ?_)
                   | (refine At.ldN (by assumption) rfl ?_)
                   | (refine Prs.ln (by assumption) ?_)
                   | (refine Trs.ln (by assumption) ?_)
                   | (refine Prs.ix (by assumption) (by omega) ?_)
                   | (refine Trs.ix (by assumption) (by omega) ?_)
                   | (refine Prs.ldN (by assumption) (by omega) ?_)
                   | (refine Trs.ldN (by assumption) (by omega) ?_)
                   | (refine At.ldN (Blk.at (by assumption)) rfl ?_)
                   | (refine At.ld (Blk.at (by assumption)) rfl ?_)
                   | (refine IxA.mk (by omega) ?_)
                   | (refine Sl.ln (Own.sl (by assumption)) ?_))
          conv => whnf
          refine VC.rc (ggive_rc (good := 3) (agent := 0) HG.mat (Own.sl HA)) ?_
          rintro _ w45 E45 ⟨p1, rfl, HP⟩
          replace EE := EE.ext E45
          replace HM1 := HM1.ext E45
          replace HM2 := HM2.ext E45
          replace HM3 := HM3.ext E45
          replace HM4 := HM4.ext E45
          replace HLM := HLM.ext E45
          replace EL1 := EL1.ext E45
          replace HA := HA.ext E45
          replace H1 := H1.ext E45
          replace HG := HG.ext E45
          rw [giveE_no vv (fun h => absurd h.2.1 (by decide))]
          repeat' (conv => whnf
                   first
                   | (refine Dr.quiet tyOk (by kernel_rfl) ?_)
                   | (refine Rng.mk (by omega) ?_)
                   | (refine Split.pos (by omega) ?_)
                   | (refine Split.neg (by omega) ?_)
                   | (refine Split.mk (fun h => ?_) (fun h => ?_))
                   | (refine Need.mk (by omega) ?_)
                   | (refine Ints.ln (by assumption) ?_)
                   | (refine Mat.ln (by assumption) ?_)
                   | (refine Ints.ln (Mat.row (by assumption) _ (by omega)) ?_)
                   | (refine Ints.ix (by assumption) (by omega) ?_)
                   | (refine Mat.ix (by assumption) (by omega) ?_)
                   | (refine Ints.ix (Mat.row (by assumption) _ (by omega)) (by omega) ?_)
                   | (refine Ints.ix (c := 0) (by assumption) (by omega) ?_)
                   | (refine Mat.ix (c := 0) (by assumption) (by omega) ?_)
                   | (refine Ints.ix (c := 0) (Mat.row (by assumption) _ (by omega)) (by omega) ?_)
                   | (refine Ints.ixI (by assumption) (by omega) ?_)
                   | (refine Mat.ixI (by assumption) (by omega) ?_)
                   | (refine Ints.ixI (Mat.row (by assumption) _ (by omega)) (by omega) ?_)
                   | (refine Ints.ld (by assumption) (by omega) ?_)
                   | (refine Mat.ld (by assumption) (by omega) ?_)
                   | (refine Ints.ld (Mat.row (by assumption) _ (by omega)) (by omega) ?_)
                   | (refine At.ld (by assumption) rfl ?_)
                   | (refine At.ldN (by assumption) rfl ?_)
                   | (refine Prs.ln (by assumption) ?_)
                   | (refine Trs.ln (by assumption) ?_)
                   | (refine Prs.ix (by assumption) (by omega) ?_)
                   | (refine Trs.ix (by assumption) (by omega) ?_)
                   | (refine Prs.ldN (by assumption) (by omega) ?_)
                   | (refine Trs.ldN (by assumption) (by omega) ?_)
                   | (refine At.ldN (Blk.at (by assumption)) rfl ?_)
                   | (refine At.ld (Blk.at (by assumption)) rfl ?_)
                   | (refine IxA.mk (by omega) ?_)
                   | (refine Sl.ln (Own.sl (by assumption)) ?_))
          conv => whnf
          refine VC.rc (given_rc) ?_
          rintro _ w46 E46 ⟨g1, _, rfl, HG⟩
          replace EE := EE.ext E46
          replace HM1 := HM1.ext E46
          replace HM2 := HM2.ext E46
          replace HM3 := HM3.ext E46
          replace HM4 := HM4.ext E46
          replace HLM := HLM.ext E46
          replace EL1 := EL1.ext E46
          replace HA := HA.ext E46
          replace H1 := H1.ext E46
          replace HP := HP.ext E46
          repeat' (conv => whnf
                   first
                   | (refine Dr.quiet tyOk (by kernel_rfl) ?_)
                   | (refine Rng.mk (by omega) ?_)
                   | (refine Split.pos (by omega) ?_)
                   | (refine Split.neg (by omega) ?_)
                   | (refine Split.mk (fun h => ?_) (fun h => ?_))
                   | (refine Need.mk (by omega) ?_)
                   | (refine Ints.ln (by assumption) ?_)
                   | (refine Mat.ln (by assumption) ?_)
                   | (refine Ints.ln (Mat.row (by assumption) _ (by omega)) ?_)
                   | (refine Ints.ix (by assumption) (by omega) ?_)
                   | (refine Mat.ix (by assumption) (by omega) ?_)
                   | (refine Ints.ix (Mat.row (by assumption) _ (by omega)) (by omega) ?_)
                   | (refine Ints.ix (c := 0) (by assumption) (by omega) ?_)
                   | (refine Mat.ix (c := 0) (by assumption) (by omega) ?_)
                   | (refine Ints.ix (c := 0) (Mat.row (by assumption) _ (by omega)) (by omega) ?_)
                   | (refine Ints.ixI (by assumption) (by omega) ?_)
                   | (refine Mat.ixI (by assumption) (by omega) ?_)
                   | (refine Ints.ixI (Mat.row (by assumption) _ (by omega)) (by omega) ?_)
                   | (refine Ints.ld (by assumption) (by omega) ?_)
                   | (refine Mat.ld (by assumption) (by omega) ?_)
                   | (refine Ints.ld (Mat.row (by assumption) _ (by omega)) (by omega) ?_)
                   | (refine At.ld (by assumption) rfl ?_)
                   | (refine At.ldN (by assumption) rfl ?_)
                   | (refine Prs.ln (by assumption) ?_)
                   | (refine Trs.ln (by assumption) ?_)
                   | (refine Prs.ix (by assumption) (by omega) ?_)
                   | (refine Trs.ix (by assumption) (by omega) ?_)
                   | (refine Prs.ldN (by assumption) (by omega) ?_)
                   | (refine Trs.ldN (by assumption) (by omega) ?_)
                   | (refine At.ldN (Blk.at (by assumption)) rfl ?_)
                   | (refine At.ld (Blk.at (by assumption)) rfl ?_)
                   | (refine IxA.mk (by omega) ?_)
                   | (refine Sl.ln (Own.sl (by assumption)) ?_))
          conv => whnf
          refine VC.rc (ggive_rc (good := -1) (agent := 0) HG.mat (Own.sl HA)) ?_
          rintro _ w47 E47 ⟨p1, rfl, HP⟩
          replace EE := EE.ext E47
          replace HM1 := HM1.ext E47
          replace HM2 := HM2.ext E47
          replace HM3 := HM3.ext E47
          replace HM4 := HM4.ext E47
          replace HLM := HLM.ext E47
          replace EL1 := EL1.ext E47
          replace HA := HA.ext E47
          replace H1 := H1.ext E47
          replace HG := HG.ext E47
          rw [giveE_no vv (fun h => absurd h.1 (by decide))]
          repeat' (conv => whnf
                   first
                   | (refine Dr.quiet tyOk (by kernel_rfl) ?_)
                   | (refine Rng.mk (by omega) ?_)
                   | (refine Split.pos (by omega) ?_)
                   | (refine Split.neg (by omega) ?_)
                   | (refine Split.mk (fun h => ?_) (fun h => ?_))
                   | (refine Need.mk (by omega) ?_)
                   | (refine Ints.ln (by assumption) ?_)
                   | (refine Mat.ln (by assumption) ?_)
                   | (refine Ints.ln (Mat.row (by assumption) _ (by omega)) ?_)
                   | (refine Ints.ix (by assumption) (by omega) ?_)
                   | (refine Mat.ix (by assumption) (by omega) ?_)
                   | (refine Ints.ix (Mat.row (by assumption) _ (by omega)) (by omega) ?_)
                   | (refine Ints.ix (c := 0) (by assumption) (by omega) ?_)
                   | (refine Mat.ix (c := 0) (by assumption) (by omega) ?_)
                   | (refine Ints.ix (c := 0) (Mat.row (by assumption) _ (by omega)) (by omega) ?_)
                   | (refine Ints.ixI (by assumption) (by omega) ?_)
                   | (refine Mat.ixI (by assumption) (by omega) ?_)
                   | (refine Ints.ixI (Mat.row (by assumption) _ (by omega)) (by omega) ?_)
                   | (refine Ints.ld (by assumption) (by omega) ?_)
                   | (refine Mat.ld (by assumption) (by omega) ?_)
                   | (refine Ints.ld (Mat.row (by assumption) _ (by omega)) (by omega) ?_)
                   | (refine At.ld (by assumption) rfl ?_)
                   | (refine At.ldN (by assumption) rfl ?_)
                   | (refine Prs.ln (by assumption) ?_)
                   | (refine Trs.ln (by assumption) ?_)
                   | (refine Prs.ix (by assumption) (by omega) ?_)
                   | (refine Trs.ix (by assumption) (by omega) ?_)
                   | (refine Prs.ldN (by assumption) (by omega) ?_)
                   | (refine Trs.ldN (by assumption) (by omega) ?_)
                   | (refine At.ldN (Blk.at (by assumption)) rfl ?_)
                   | (refine At.ld (Blk.at (by assumption)) rfl ?_)
                   | (refine IxA.mk (by omega) ?_)
                   | (refine Sl.ln (Own.sl (by assumption)) ?_))
          conv => whnf
          refine VC.rc (given_rc) ?_
          rintro _ w48 E48 ⟨g1, _, rfl, HG⟩
          replace EE := EE.ext E48
          replace HM1 := HM1.ext E48
          replace HM2 := HM2.ext E48
          replace HM3 := HM3.ext E48
          replace HM4 := HM4.ext E48
          replace HLM := HLM.ext E48
          replace EL1 := EL1.ext E48
          replace HA := HA.ext E48
          replace H1 := H1.ext E48
          replace HP := HP.ext E48
          repeat' (conv => whnf
                   first
                   | (refine Dr.quiet tyOk (by kernel_rfl) ?_)
                   | (refine Rng.mk (by omega) ?_)
                   | (refine Split.pos (by omega) ?_)
                   | (refine Split.neg (by omega) ?_)
                   | (refine Split.mk (fun h => ?_) (fun h => ?_))
                   | (refine Need.mk (by omega) ?_)
                   | (refine Ints.ln (by assumption) ?_)
                   | (refine Mat.ln (by assumption) ?_)
                   | (refine Ints.ln (Mat.row (by assumption) _ (by omega)) ?_)
                   | (refine Ints.ix (by assumption) (by omega) ?_)
                   | (refine Mat.ix (by assumption) (by omega) ?_)
                   | (refine Ints.ix (Mat.row (by assumption) _ (by omega)) (by omega) ?_)
                   | (refine Ints.ix (c := 0) (by assumption) (by omega) ?_)
                   | (refine Mat.ix (c := 0) (by assumption) (by omega) ?_)
                   | (refine Ints.ix (c := 0) (Mat.row (by assumption) _ (by omega)) (by omega) ?_)
                   | (refine Ints.ixI (by assumption) (by omega) ?_)
                   | (refine Mat.ixI (by assumption) (by omega) ?_)
                   | (refine Ints.ixI (Mat.row (by assumption) _ (by omega)) (by omega) ?_)
                   | (refine Ints.ld (by assumption) (by omega) ?_)
                   | (refine Mat.ld (by assumption) (by omega) ?_)
                   | (refine Ints.ld (Mat.row (by assumption) _ (by omega)) (by omega) ?_)
                   | (refine At.ld (by assumption) rfl ?_)
                   | (refine At.ldN (by assumption) rfl ?_)
                   | (refine Prs.ln (by assumption) ?_)
                   | (refine Trs.ln (by assumption) ?_)
                   | (refine Prs.ix (by assumption) (by omega) ?_)
                   | (refine Trs.ix (by assumption) (by omega) ?_)
                   | (refine Prs.ldN (by assumption) (by omega) ?_)
                   | (refine Trs.ldN (by assumption) (by omega) ?_)
                   | (refine At.ldN (Blk.at (by assumption)) rfl ?_)
                   | (refine At.ld (Blk.at (by assumption)) rfl ?_)
                   | (refine IxA.mk (by omega) ?_)
                   | (refine Sl.ln (Own.sl (by assumption)) ?_))
          conv => whnf
          refine VC.rc (ggive_rc (good := 0) (agent := 2) HG.mat (Own.sl HA)) ?_
          rintro _ w49 E49 ⟨p1, rfl, HP⟩
          replace EE := EE.ext E49
          replace HM1 := HM1.ext E49
          replace HM2 := HM2.ext E49
          replace HM3 := HM3.ext E49
          replace HM4 := HM4.ext E49
          replace HLM := HLM.ext E49
          replace EL1 := EL1.ext E49
          replace HA := HA.ext E49
          replace H1 := H1.ext E49
          replace HG := HG.ext E49
          rw [giveE_no vv (fun h => absurd h.2.2.2 (by decide))]
          repeat' (conv => whnf
                   first
                   | (refine Dr.quiet tyOk (by kernel_rfl) ?_)
                   | (refine Rng.mk (by omega) ?_)
                   | (refine Split.pos (by omega) ?_)
                   | (refine Split.neg (by omega) ?_)
                   | (refine Split.mk (fun h => ?_) (fun h => ?_))
                   | (refine Need.mk (by omega) ?_)
                   | (refine Ints.ln (by assumption) ?_)
                   | (refine Mat.ln (by assumption) ?_)
                   | (refine Ints.ln (Mat.row (by assumption) _ (by omega)) ?_)
                   | (refine Ints.ix (by assumption) (by omega) ?_)
                   | (refine Mat.ix (by assumption) (by omega) ?_)
                   | (refine Ints.ix (Mat.row (by assumption) _ (by omega)) (by omega) ?_)
                   | (refine Ints.ix (c := 0) (by assumption) (by omega) ?_)
                   | (refine Mat.ix (c := 0) (by assumption) (by omega) ?_)
                   | (refine Ints.ix (c := 0) (Mat.row (by assumption) _ (by omega)) (by omega) ?_)
                   | (refine Ints.ixI (by assumption) (by omega) ?_)
                   | (refine Mat.ixI (by assumption) (by omega) ?_)
                   | (refine Ints.ixI (Mat.row (by assumption) _ (by omega)) (by omega) ?_)
                   | (refine Ints.ld (by assumption) (by omega) ?_)
                   | (refine Mat.ld (by assumption) (by omega) ?_)
                   | (refine Ints.ld (Mat.row (by assumption) _ (by omega)) (by omega) ?_)
                   | (refine At.ld (by assumption) rfl ?_)
                   | (refine At.ldN (by assumption) rfl ?_)
                   | (refine Prs.ln (by assumption) ?_)
                   | (refine Trs.ln (by assumption) ?_)
                   | (refine Prs.ix (by assumption) (by omega) ?_)
                   | (refine Trs.ix (by assumption) (by omega) ?_)
                   | (refine Prs.ldN (by assumption) (by omega) ?_)
                   | (refine Trs.ldN (by assumption) (by omega) ?_)
                   | (refine At.ldN (Blk.at (by assumption)) rfl ?_)
                   | (refine At.ld (Blk.at (by assumption)) rfl ?_)
                   | (refine IxA.mk (by omega) ?_)
                   | (refine Sl.ln (Own.sl (by assumption)) ?_))
          conv => whnf
          refine VC.rc (given_rc) ?_
          rintro _ w50 E50 ⟨g1, _, rfl, HG⟩
          replace EE := EE.ext E50
          replace HM1 := HM1.ext E50
          replace HM2 := HM2.ext E50
          replace HM3 := HM3.ext E50
          replace HM4 := HM4.ext E50
          replace HLM := HLM.ext E50
          replace EL1 := EL1.ext E50
          replace HA := HA.ext E50
          replace H1 := H1.ext E50
          replace HP := HP.ext E50
          repeat' (conv => whnf
                   first
                   | (refine Dr.quiet tyOk (by kernel_rfl) ?_)
                   | (refine Rng.mk (by omega) ?_)
                   | (refine Split.pos (by omega) ?_)
                   | (refine Split.neg (by omega) ?_)
                   | (refine Split.mk (fun h => ?_) (fun h => ?_))
                   | (refine Need.mk (by omega) ?_)
                   | (refine Ints.ln (by assumption) ?_)
                   | (refine Mat.ln (by assumption) ?_)
                   | (refine Ints.ln (Mat.row (by assumption) _ (by omega)) ?_)
                   | (refine Ints.ix (by assumption) (by omega) ?_)
                   | (refine Mat.ix (by assumption) (by omega) ?_)
                   | (refine Ints.ix (Mat.row (by assumption) _ (by omega)) (by omega) ?_)
                   | (refine Ints.ix (c := 0) (by assumption) (by omega) ?_)
                   | (refine Mat.ix (c := 0) (by assumption) (by omega) ?_)
                   | (refine Ints.ix (c := 0) (Mat.row (by assumption) _ (by omega)) (by omega) ?_)
                   | (refine Ints.ixI (by assumption) (by omega) ?_)
                   | (refine Mat.ixI (by assumption) (by omega) ?_)
                   | (refine Ints.ixI (Mat.row (by assumption) _ (by omega)) (by omega) ?_)
                   | (refine Ints.ld (by assumption) (by omega) ?_)
                   | (refine Mat.ld (by assumption) (by omega) ?_)
                   | (refine Ints.ld (Mat.row (by assumption) _ (by omega)) (by omega) ?_)
                   | (refine At.ld (by assumption) rfl ?_)
                   | (refine At.ldN (by assumption) rfl ?_)
                   | (refine Prs.ln (by assumption) ?_)
                   | (refine Trs.ln (by assumption) ?_)
                   | (refine Prs.ix (by assumption) (by omega) ?_)
                   | (refine Trs.ix (by assumption) (by omega) ?_)
                   | (refine Prs.ldN (by assumption) (by omega) ?_)
                   | (refine Trs.ldN (by assumption) (by omega) ?_)
                   | (refine At.ldN (Blk.at (by assumption)) rfl ?_)
                   | (refine At.ld (Blk.at (by assumption)) rfl ?_)
                   | (refine IxA.mk (by omega) ?_)
                   | (refine Sl.ln (Own.sl (by assumption)) ?_))
          conv => whnf
          refine VC.rc (ggive_rc (good := 0) (agent := -2) HG.mat (Own.sl HA)) ?_
          rintro _ w51 E51 ⟨p1, rfl, HP⟩
          replace EE := EE.ext E51
          replace HM1 := HM1.ext E51
          replace HM2 := HM2.ext E51
          replace HM3 := HM3.ext E51
          replace HM4 := HM4.ext E51
          replace HLM := HLM.ext E51
          replace EL1 := EL1.ext E51
          replace HA := HA.ext E51
          replace H1 := H1.ext E51
          replace HG := HG.ext E51
          rw [giveE_no vv (fun h => absurd h.2.2.1 (by decide))]
          repeat' (conv => whnf
                   first
                   | (refine Dr.quiet tyOk (by kernel_rfl) ?_)
                   | (refine Rng.mk (by omega) ?_)
                   | (refine Split.pos (by omega) ?_)
                   | (refine Split.neg (by omega) ?_)
                   | (refine Split.mk (fun h => ?_) (fun h => ?_))
                   | (refine Need.mk (by omega) ?_)
                   | (refine Ints.ln (by assumption) ?_)
                   | (refine Mat.ln (by assumption) ?_)
                   | (refine Ints.ln (Mat.row (by assumption) _ (by omega)) ?_)
                   | (refine Ints.ix (by assumption) (by omega) ?_)
                   | (refine Mat.ix (by assumption) (by omega) ?_)
                   | (refine Ints.ix (Mat.row (by assumption) _ (by omega)) (by omega) ?_)
                   | (refine Ints.ix (c := 0) (by assumption) (by omega) ?_)
                   | (refine Mat.ix (c := 0) (by assumption) (by omega) ?_)
                   | (refine Ints.ix (c := 0) (Mat.row (by assumption) _ (by omega)) (by omega) ?_)
                   | (refine Ints.ixI (by assumption) (by omega) ?_)
                   | (refine Mat.ixI (by assumption) (by omega) ?_)
                   | (refine Ints.ixI (Mat.row (by assumption) _ (by omega)) (by omega) ?_)
                   | (refine Ints.ld (by assumption) (by omega) ?_)
                   | (refine Mat.ld (by assumption) (by omega) ?_)
                   | (refine Ints.ld (Mat.row (by assumption) _ (by omega)) (by omega) ?_)
                   | (refine At.ld (by assumption) rfl ?_)
                   | (refine At.ldN (by assumption) rfl ?_)
                   | (refine Prs.ln (by assumption) ?_)
                   | (refine Trs.ln (by assumption) ?_)
                   | (refine Prs.ix (by assumption) (by omega) ?_)
                   | (refine Trs.ix (by assumption) (by omega) ?_)
                   | (refine Prs.ldN (by assumption) (by omega) ?_)
                   | (refine Trs.ldN (by assumption) (by omega) ?_)
                   | (refine At.ldN (Blk.at (by assumption)) rfl ?_)
                   | (refine At.ld (Blk.at (by assumption)) rfl ?_)
                   | (refine IxA.mk (by omega) ?_)
                   | (refine Sl.ln (Own.sl (by assumption)) ?_))
          conv => whnf
          refine VC.rc (given_rc) ?_
          rintro _ w52 E52 ⟨g1, _, rfl, HG⟩
          replace EE := EE.ext E52
          replace HM1 := HM1.ext E52
          replace HM2 := HM2.ext E52
          replace HM3 := HM3.ext E52
          replace HM4 := HM4.ext E52
          replace HLM := HLM.ext E52
          replace EL1 := EL1.ext E52
          replace HA := HA.ext E52
          replace H1 := H1.ext E52
          replace HP := HP.ext E52
          repeat' (conv => whnf
                   first
                   | (refine Dr.quiet tyOk (by kernel_rfl) ?_)
                   | (refine Rng.mk (by omega) ?_)
                   | (refine Split.pos (by omega) ?_)
                   | (refine Split.neg (by omega) ?_)
                   | (refine Split.mk (fun h => ?_) (fun h => ?_))
                   | (refine Need.mk (by omega) ?_)
                   | (refine Ints.ln (by assumption) ?_)
                   | (refine Mat.ln (by assumption) ?_)
                   | (refine Ints.ln (Mat.row (by assumption) _ (by omega)) ?_)
                   | (refine Ints.ix (by assumption) (by omega) ?_)
                   | (refine Mat.ix (by assumption) (by omega) ?_)
                   | (refine Ints.ix (Mat.row (by assumption) _ (by omega)) (by omega) ?_)
                   | (refine Ints.ix (c := 0) (by assumption) (by omega) ?_)
                   | (refine Mat.ix (c := 0) (by assumption) (by omega) ?_)
                   | (refine Ints.ix (c := 0) (Mat.row (by assumption) _ (by omega)) (by omega) ?_)
                   | (refine Ints.ixI (by assumption) (by omega) ?_)
                   | (refine Mat.ixI (by assumption) (by omega) ?_)
                   | (refine Ints.ixI (Mat.row (by assumption) _ (by omega)) (by omega) ?_)
                   | (refine Ints.ld (by assumption) (by omega) ?_)
                   | (refine Mat.ld (by assumption) (by omega) ?_)
                   | (refine Ints.ld (Mat.row (by assumption) _ (by omega)) (by omega) ?_)
                   | (refine At.ld (by assumption) rfl ?_)
                   | (refine At.ldN (by assumption) rfl ?_)
                   | (refine Prs.ln (by assumption) ?_)
                   | (refine Trs.ln (by assumption) ?_)
                   | (refine Prs.ix (by assumption) (by omega) ?_)
                   | (refine Trs.ix (by assumption) (by omega) ?_)
                   | (refine Prs.ldN (by assumption) (by omega) ?_)
                   | (refine Trs.ldN (by assumption) (by omega) ?_)
                   | (refine At.ldN (Blk.at (by assumption)) rfl ?_)
                   | (refine At.ld (Blk.at (by assumption)) rfl ?_)
                   | (refine IxA.mk (by omega) ?_)
                   | (refine Sl.ln (Own.sl (by assumption)) ?_))
          conv => whnf
          refine VE.litI [1, 0] Try.underlying25 eInt (by decide) fun l1 w53 E53 H1 _ => ?_
          replace H1 := H1 0 (Nat.zero_le _)
          replace EE := EE.ext E53
          replace HM1 := HM1.ext E53
          replace HM2 := HM2.ext E53
          replace HM3 := HM3.ext E53
          replace HM4 := HM4.ext E53
          replace HLM := HLM.ext E53
          replace EL1 := EL1.ext E53
          replace HA := HA.ext E53
          replace HP := HP.ext E53
          replace HG := HG.ext E53
          have has : asg [1, 0] gvn.length := ⟨rfl, fun j hj => by match j, hj with | 0, _ => rfl | 1, _ => rfl⟩
          conv => whnf
          refine VC.rc (gpass_rc HG.mat (Own.sl HA) (Own.sl H1)) ?_
          rintro _ w54 E54 ⟨xv, rfl, HX⟩
          replace EE := EE.ext E54
          replace HM1 := HM1.ext E54
          replace HM2 := HM2.ext E54
          replace HM3 := HM3.ext E54
          replace HM4 := HM4.ext E54
          replace HLM := HLM.ext E54
          replace EL1 := EL1.ext E54
          replace HA := HA.ext E54
          replace HP := HP.ext E54
          replace HG := HG.ext E54
          replace H1 := H1.ext E54
          rw [passR_ok vv has, show passV [0, -1, 1] [1, 0] = [1, -1, 0] by decide +kernel] at HX
          rw [passE_ok vv has]
          repeat' (conv => whnf
                   first
                   | (refine Dr.quiet tyOk (by kernel_rfl) ?_)
                   | (refine Rng.mk (by omega) ?_)
                   | (refine Split.pos (by omega) ?_)
                   | (refine Split.neg (by omega) ?_)
                   | (refine Split.mk (fun h => ?_) (fun h => ?_))
                   | (refine Need.mk (by omega) ?_)
                   | (refine Ints.ln (by assumption) ?_)
                   | (refine Mat.ln (by assumption) ?_)
                   | (refine Ints.ln (Mat.row (by assumption) _ (by omega)) ?_)
                   | (refine Ints.ix (by assumption) (by omega) ?_)
                   | (refine Mat.ix (by assumption) (by omega) ?_)
                   | (refine Ints.ix (Mat.row (by assumption) _ (by omega)) (by omega) ?_)
                   | (refine Ints.ix (c := 0) (by assumption) (by omega) ?_)
                   | (refine Mat.ix (c := 0) (by assumption) (by omega) ?_)
                   | (refine Ints.ix (c := 0) (Mat.row (by assumption) _ (by omega)) (by omega) ?_)
                   | (refine Ints.ixI (by assumption) (by omega) ?_)
                   | (refine Mat.ixI (by assumption) (by omega) ?_)
                   | (refine Ints.ixI (Mat.row (by assumption) _ (by omega)) (by omega) ?_)
                   | (refine Ints.ld (by assumption) (by omega) ?_)
                   | (refine Mat.ld (by assumption) (by omega) ?_)
                   | (refine Ints.ld (Mat.row (by assumption) _ (by omega)) (by omega) ?_)
                   | (refine At.ld (by assumption) rfl ?_)
                   | (refine At.ldN (by assumption) rfl ?_)
                   | (refine Prs.ln (by assumption) ?_)
                   | (refine Trs.ln (by assumption) ?_)
                   | (refine Prs.ix (by assumption) (by omega) ?_)
                   | (refine Trs.ix (by assumption) (by omega) ?_)
                   | (refine Prs.ldN (by assumption) (by omega) ?_)
                   | (refine Trs.ldN (by assumption) (by omega) ?_)
                   | (refine At.ldN (Blk.at (by assumption)) rfl ?_)
                   | (refine At.ld (Blk.at (by assumption)) rfl ?_)
                   | (refine IxA.mk (by omega) ?_)
                   | (refine Sl.ln (Own.sl (by assumption)) ?_))
          conv => whnf
          refine VC.rc (given_rc) ?_
          rintro _ w55 E55 ⟨g1, _, rfl, HG⟩
          replace EE := EE.ext E55
          replace HM1 := HM1.ext E55
          replace HM2 := HM2.ext E55
          replace HM3 := HM3.ext E55
          replace HM4 := HM4.ext E55
          replace HLM := HLM.ext E55
          replace EL1 := EL1.ext E55
          replace HA := HA.ext E55
          replace HP := HP.ext E55
          replace H1 := H1.ext E55
          replace HX := HX.ext E55
          repeat' (conv => whnf
                   first
                   | (refine Dr.quiet tyOk (by kernel_rfl) ?_)
                   | (refine Rng.mk (by omega) ?_)
                   | (refine Split.pos (by omega) ?_)
                   | (refine Split.neg (by omega) ?_)
                   | (refine Split.mk (fun h => ?_) (fun h => ?_))
                   | (refine Need.mk (by omega) ?_)
                   | (refine Ints.ln (by assumption) ?_)
                   | (refine Mat.ln (by assumption) ?_)
                   | (refine Ints.ln (Mat.row (by assumption) _ (by omega)) ?_)
                   | (refine Ints.ix (by assumption) (by omega) ?_)
                   | (refine Mat.ix (by assumption) (by omega) ?_)
                   | (refine Ints.ix (Mat.row (by assumption) _ (by omega)) (by omega) ?_)
                   | (refine Ints.ix (c := 0) (by assumption) (by omega) ?_)
                   | (refine Mat.ix (c := 0) (by assumption) (by omega) ?_)
                   | (refine Ints.ix (c := 0) (Mat.row (by assumption) _ (by omega)) (by omega) ?_)
                   | (refine Ints.ixI (by assumption) (by omega) ?_)
                   | (refine Mat.ixI (by assumption) (by omega) ?_)
                   | (refine Ints.ixI (Mat.row (by assumption) _ (by omega)) (by omega) ?_)
                   | (refine Ints.ld (by assumption) (by omega) ?_)
                   | (refine Mat.ld (by assumption) (by omega) ?_)
                   | (refine Ints.ld (Mat.row (by assumption) _ (by omega)) (by omega) ?_)
                   | (refine At.ld (by assumption) rfl ?_)
                   | (refine At.ldN (by assumption) rfl ?_)
                   | (refine Prs.ln (by assumption) ?_)
                   | (refine Trs.ln (by assumption) ?_)
                   | (refine Prs.ix (by assumption) (by omega) ?_)
                   | (refine Trs.ix (by assumption) (by omega) ?_)
                   | (refine Prs.ldN (by assumption) (by omega) ?_)
                   | (refine Trs.ldN (by assumption) (by omega) ?_)
                   | (refine At.ldN (Blk.at (by assumption)) rfl ?_)
                   | (refine At.ld (Blk.at (by assumption)) rfl ?_)
                   | (refine IxA.mk (by omega) ?_)
                   | (refine Sl.ln (Own.sl (by assumption)) ?_))
          have hgo : giveOk gvn [0, -1, 1] 2 (-1) := ⟨by decide, by decide, by decide, by decide⟩
          conv => whnf
          refine VC.rc (ggive_rc (good := 2) (agent := -1) HG.mat (Own.sl HA)) ?_
          rintro _ w56 E56 ⟨yv, rfl, HY⟩
          replace EE := EE.ext E56
          replace HM1 := HM1.ext E56
          replace HM2 := HM2.ext E56
          replace HM3 := HM3.ext E56
          replace HM4 := HM4.ext E56
          replace HLM := HLM.ext E56
          replace EL1 := EL1.ext E56
          replace HA := HA.ext E56
          replace HP := HP.ext E56
          replace H1 := H1.ext E56
          replace HX := HX.ext E56
          replace HG := HG.ext E56
          rw [giveR_ok vv hgo, show ([0, -1, 1] : List Int).set (2 : Int).toNat (-1) = [0, -1, -1] by decide] at HY
          rw [giveE_ok vv hgo]
          repeat' (conv => whnf
                   first
                   | (refine Dr.quiet tyOk (by kernel_rfl) ?_)
                   | (refine Rng.mk (by omega) ?_)
                   | (refine Split.pos (by omega) ?_)
                   | (refine Split.neg (by omega) ?_)
                   | (refine Split.mk (fun h => ?_) (fun h => ?_))
                   | (refine Need.mk (by omega) ?_)
                   | (refine Ints.ln (by assumption) ?_)
                   | (refine Mat.ln (by assumption) ?_)
                   | (refine Ints.ln (Mat.row (by assumption) _ (by omega)) ?_)
                   | (refine Ints.ix (by assumption) (by omega) ?_)
                   | (refine Mat.ix (by assumption) (by omega) ?_)
                   | (refine Ints.ix (Mat.row (by assumption) _ (by omega)) (by omega) ?_)
                   | (refine Ints.ix (c := 0) (by assumption) (by omega) ?_)
                   | (refine Mat.ix (c := 0) (by assumption) (by omega) ?_)
                   | (refine Ints.ix (c := 0) (Mat.row (by assumption) _ (by omega)) (by omega) ?_)
                   | (refine Ints.ixI (by assumption) (by omega) ?_)
                   | (refine Mat.ixI (by assumption) (by omega) ?_)
                   | (refine Ints.ixI (Mat.row (by assumption) _ (by omega)) (by omega) ?_)
                   | (refine Ints.ld (by assumption) (by omega) ?_)
                   | (refine Mat.ld (by assumption) (by omega) ?_)
                   | (refine Ints.ld (Mat.row (by assumption) _ (by omega)) (by omega) ?_)
                   | (refine At.ld (by assumption) rfl ?_)
                   | (refine At.ldN (by assumption) rfl ?_)
                   | (refine Prs.ln (by assumption) ?_)
                   | (refine Trs.ln (by assumption) ?_)
                   | (refine Prs.ix (by assumption) (by omega) ?_)
                   | (refine Trs.ix (by assumption) (by omega) ?_)
                   | (refine Prs.ldN (by assumption) (by omega) ?_)
                   | (refine Trs.ldN (by assumption) (by omega) ?_)
                   | (refine At.ldN (Blk.at (by assumption)) rfl ?_)
                   | (refine At.ld (Blk.at (by assumption)) rfl ?_)
                   | (refine IxA.mk (by omega) ?_)
                   | (refine Sl.ln (Own.sl (by assumption)) ?_))
          conv => whnf
          refine VC.rc (given_rc) ?_
          rintro _ w57 E57 ⟨g1, _, rfl, HG⟩
          replace EE := EE.ext E57
          replace HM1 := HM1.ext E57
          replace HM2 := HM2.ext E57
          replace HM3 := HM3.ext E57
          replace HM4 := HM4.ext E57
          replace HLM := HLM.ext E57
          replace EL1 := EL1.ext E57
          replace HA := HA.ext E57
          replace HP := HP.ext E57
          replace H1 := H1.ext E57
          replace HX := HX.ext E57
          replace HY := HY.ext E57
          repeat' (conv => whnf
                   first
                   | (refine Dr.quiet tyOk (by kernel_rfl) ?_)
                   | (refine Rng.mk (by omega) ?_)
                   | (refine Split.pos (by omega) ?_)
                   | (refine Split.neg (by omega) ?_)
                   | (refine Split.mk (fun h => ?_) (fun h => ?_))
                   | (refine Need.mk (by omega) ?_)
                   | (refine Ints.ln (by assumption) ?_)
                   | (refine Mat.ln (by assumption) ?_)
                   | (refine Ints.ln (Mat.row (by assumption) _ (by omega)) ?_)
                   | (refine Ints.ix (by assumption) (by omega) ?_)
                   | (refine Mat.ix (by assumption) (by omega) ?_)
                   | (refine Ints.ix (Mat.row (by assumption) _ (by omega)) (by omega) ?_)
                   | (refine Ints.ix (c := 0) (by assumption) (by omega) ?_)
                   | (refine Mat.ix (c := 0) (by assumption) (by omega) ?_)
                   | (refine Ints.ix (c := 0) (Mat.row (by assumption) _ (by omega)) (by omega) ?_)
                   | (refine Ints.ixI (by assumption) (by omega) ?_)
                   | (refine Mat.ixI (by assumption) (by omega) ?_)
                   | (refine Ints.ixI (Mat.row (by assumption) _ (by omega)) (by omega) ?_)
                   | (refine Ints.ld (by assumption) (by omega) ?_)
                   | (refine Mat.ld (by assumption) (by omega) ?_)
                   | (refine Ints.ld (Mat.row (by assumption) _ (by omega)) (by omega) ?_)
                   | (refine At.ld (by assumption) rfl ?_)
                   | (refine At.ldN (by assumption) rfl ?_)
                   | (refine Prs.ln (by assumption) ?_)
                   | (refine Trs.ln (by assumption) ?_)
                   | (refine Prs.ix (by assumption) (by omega) ?_)
                   | (refine Trs.ix (by assumption) (by omega) ?_)
                   | (refine Prs.ldN (by assumption) (by omega) ?_)
                   | (refine Trs.ldN (by assumption) (by omega) ?_)
                   | (refine At.ldN (Blk.at (by assumption)) rfl ?_)
                   | (refine At.ld (Blk.at (by assumption)) rfl ?_)
                   | (refine IxA.mk (by omega) ?_)
                   | (refine Sl.ln (Own.sl (by assumption)) ?_))
          conv => whnf
          refine VC.rc (gpoor_rc HG.mat (Own.sl HA)) ?_
          rintro _ w58 E58 ⟨pv, rfl, HPp⟩
          replace EE := EE.ext E58
          replace HM1 := HM1.ext E58
          replace HM2 := HM2.ext E58
          replace HM3 := HM3.ext E58
          replace HM4 := HM4.ext E58
          replace HLM := HLM.ext E58
          replace EL1 := EL1.ext E58
          replace HA := HA.ext E58
          replace HP := HP.ext E58
          replace H1 := H1.ext E58
          replace HX := HX.ext E58
          replace HY := HY.ext E58
          replace HG := HG.ext E58
          rw [poorR, if_pos vv, show poor gvn [0, -1, 1] = [1] by decide +kernel] at HPp
          rw [vv]
          repeat' (conv => whnf
                   first
                   | (refine Dr.quiet tyOk (by kernel_rfl) ?_)
                   | (refine Rng.mk (by omega) ?_)
                   | (refine Split.pos (by omega) ?_)
                   | (refine Split.neg (by omega) ?_)
                   | (refine Split.mk (fun h => ?_) (fun h => ?_))
                   | (refine Need.mk (by omega) ?_)
                   | (refine Ints.ln (by assumption) ?_)
                   | (refine Mat.ln (by assumption) ?_)
                   | (refine Ints.ln (Mat.row (by assumption) _ (by omega)) ?_)
                   | (refine Ints.ix (by assumption) (by omega) ?_)
                   | (refine Mat.ix (by assumption) (by omega) ?_)
                   | (refine Ints.ix (Mat.row (by assumption) _ (by omega)) (by omega) ?_)
                   | (refine Ints.ix (c := 0) (by assumption) (by omega) ?_)
                   | (refine Mat.ix (c := 0) (by assumption) (by omega) ?_)
                   | (refine Ints.ix (c := 0) (Mat.row (by assumption) _ (by omega)) (by omega) ?_)
                   | (refine Ints.ixI (by assumption) (by omega) ?_)
                   | (refine Mat.ixI (by assumption) (by omega) ?_)
                   | (refine Ints.ixI (Mat.row (by assumption) _ (by omega)) (by omega) ?_)
                   | (refine Ints.ld (by assumption) (by omega) ?_)
                   | (refine Mat.ld (by assumption) (by omega) ?_)
                   | (refine Ints.ld (Mat.row (by assumption) _ (by omega)) (by omega) ?_)
                   | (refine At.ld (by assumption) rfl ?_)
                   | (refine At.ldN (by assumption) rfl ?_)
                   | (refine Prs.ln (by assumption) ?_)
                   | (refine Trs.ln (by assumption) ?_)
                   | (refine Prs.ix (by assumption) (by omega) ?_)
                   | (refine Trs.ix (by assumption) (by omega) ?_)
                   | (refine Prs.ldN (by assumption) (by omega) ?_)
                   | (refine Trs.ldN (by assumption) (by omega) ?_)
                   | (refine At.ldN (Blk.at (by assumption)) rfl ?_)
                   | (refine At.ld (Blk.at (by assumption)) rfl ?_)
                   | (refine IxA.mk (by omega) ?_)
                   | (refine Sl.ln (Own.sl (by assumption)) ?_))
          conv => whnf
          refine VE.made (n := 6) Try.underlying22 eRow rfl (by omega) (by omega) fun mv w59 E59 HG _ => ?_
          replace EE := EE.ext E59
          replace HM1 := HM1.ext E59
          replace HM2 := HM2.ext E59
          replace HM3 := HM3.ext E59
          replace HM4 := HM4.ext E59
          replace HLM := HLM.ext E59
          replace EL1 := EL1.ext E59
          replace HA := HA.ext E59
          replace HP := HP.ext E59
          replace H1 := H1.ext E59
          replace HX := HX.ext E59
          replace HY := HY.ext E59
          replace HPp := HPp.ext E59
          replace HG := OM.made (HG 0 (Nat.zero_le _))
          conv => whnf
          refine VS.field1 Try.underlying24 eGoods (by kernel_rfl) rfl (Sl.cells (Own.sl HG.top)).1 ?_
          conv => whnf
          refine VC.rc (gpoor_rc HG.mat (i0 _)) ?_
          rintro _ w60 E60 ⟨qv, rfl, HQq⟩
          replace EE := EE.ext E60
          replace HM1 := HM1.ext E60
          replace HM2 := HM2.ext E60
          replace HM3 := HM3.ext E60
          replace HM4 := HM4.ext E60
          replace HLM := HLM.ext E60
          replace EL1 := EL1.ext E60
          replace HA := HA.ext E60
          replace HP := HP.ext E60
          replace H1 := H1.ext E60
          replace HX := HX.ext E60
          replace HY := HY.ext E60
          replace HPp := HPp.ext E60
          replace HG := HG.ext E60
          have v6 : vld (List.replicate 6 []) [] = 0 := (vld_eq _ _).trans (by decide +kernel)
          rw [poorR, if_pos v6, show poor (List.replicate 6 []) [] = [] by decide +kernel] at HQq
          rw [v6]
          repeat' (conv => whnf
                   first
                   | (refine Dr.quiet tyOk (by kernel_rfl) ?_)
                   | (refine VC.pure alive_pc ?_)
                   | (refine Rng.mk (by omega) ?_)
                   | (refine Split.pos (by omega) ?_)
                   | (refine Split.neg (by omega) ?_)
                   | (refine Split.mk (fun h => ?_) (fun h => ?_))
                   | (refine Need.mk (by omega) ?_)
                   | (refine Ints.ln (by assumption) ?_)
                   | (refine Mat.ln (by assumption) ?_)
                   | (refine Ints.ln (Mat.row (by assumption) _ (by omega)) ?_)
                   | (refine Ints.ix (by assumption) (by omega) ?_)
                   | (refine Mat.ix (by assumption) (by omega) ?_)
                   | (refine Ints.ix (Mat.row (by assumption) _ (by omega)) (by omega) ?_)
                   | (refine Ints.ix (c := 0) (by assumption) (by omega) ?_)
                   | (refine Mat.ix (c := 0) (by assumption) (by omega) ?_)
                   | (refine Ints.ix (c := 0) (Mat.row (by assumption) _ (by omega)) (by omega) ?_)
                   | (refine Ints.ixI (by assumption) (by omega) ?_)
                   | (refine Mat.ixI (by assumption) (by omega) ?_)
                   | (refine Ints.ixI (Mat.row (by assumption) _ (by omega)) (by omega) ?_)
                   | (refine Ints.ld (by assumption) (by omega) ?_)
                   | (refine Mat.ld (by assumption) (by omega) ?_)
                   | (refine Ints.ld (Mat.row (by assumption) _ (by omega)) (by omega) ?_)
                   | (refine At.ld (by assumption) rfl ?_)
                   | (refine At.ldN (by assumption) rfl ?_)
                   | (refine Prs.ln (by assumption) ?_)
                   | (refine Trs.ln (by assumption) ?_)
                   | (refine Prs.ix (by assumption) (by omega) ?_)
                   | (refine Trs.ix (by assumption) (by omega) ?_)
                   | (refine Prs.ldN (by assumption) (by omega) ?_)
                   | (refine Trs.ldN (by assumption) (by omega) ?_)
                   | (refine At.ldN (Blk.at (by assumption)) rfl ?_)
                   | (refine At.ld (Blk.at (by assumption)) rfl ?_)
                   | (refine IxA.mk (by omega) ?_)
                   | (refine Sl.ln (Own.sl (by assumption)) ?_))
          conv => whnf
          refine VE.litI [1, -1, 0] Try.underlying25 eInt (by decide) fun l1 w61 E61 H1 _ => ?_
          replace H1 := H1 0 (Nat.zero_le _)
          replace EE := EE.ext E61
          replace HM1 := HM1.ext E61
          replace HM2 := HM2.ext E61
          replace HM3 := HM3.ext E61
          replace HM4 := HM4.ext E61
          replace HLM := HLM.ext E61
          replace EL1 := EL1.ext E61
          replace HA := HA.ext E61
          replace HP := HP.ext E61
          replace HX := HX.ext E61
          replace HY := HY.ext E61
          replace HPp := HPp.ext E61
          replace HG := HG.ext E61
          replace HQq := HQq.ext E61
          have c1 := same_pc (Own.sl HX) (Own.sl H1)
          rw [tf_t rfl] at c1
          conv => whnf
          refine VC.pure c1 ?_
          repeat' (conv => whnf
                   first
                   | (refine Dr.quiet tyOk (by kernel_rfl) ?_)
                   | (refine Rng.mk (by omega) ?_)
                   | (refine Split.pos (by omega) ?_)
                   | (refine Split.neg (by omega) ?_)
                   | (refine Split.mk (fun h => ?_) (fun h => ?_))
                   | (refine Need.mk (by omega) ?_)
                   | (refine Ints.ln (by assumption) ?_)
                   | (refine Mat.ln (by assumption) ?_)
                   | (refine Ints.ln (Mat.row (by assumption) _ (by omega)) ?_)
                   | (refine Ints.ix (by assumption) (by omega) ?_)
                   | (refine Mat.ix (by assumption) (by omega) ?_)
                   | (refine Ints.ix (Mat.row (by assumption) _ (by omega)) (by omega) ?_)
                   | (refine Ints.ix (c := 0) (by assumption) (by omega) ?_)
                   | (refine Mat.ix (c := 0) (by assumption) (by omega) ?_)
                   | (refine Ints.ix (c := 0) (Mat.row (by assumption) _ (by omega)) (by omega) ?_)
                   | (refine Ints.ixI (by assumption) (by omega) ?_)
                   | (refine Mat.ixI (by assumption) (by omega) ?_)
                   | (refine Ints.ixI (Mat.row (by assumption) _ (by omega)) (by omega) ?_)
                   | (refine Ints.ld (by assumption) (by omega) ?_)
                   | (refine Mat.ld (by assumption) (by omega) ?_)
                   | (refine Ints.ld (Mat.row (by assumption) _ (by omega)) (by omega) ?_)
                   | (refine At.ld (by assumption) rfl ?_)
                   | (refine At.ldN (by assumption) rfl ?_)
                   | (refine Prs.ln (by assumption) ?_)
                   | (refine Trs.ln (by assumption) ?_)
                   | (refine Prs.ix (by assumption) (by omega) ?_)
                   | (refine Trs.ix (by assumption) (by omega) ?_)
                   | (refine Prs.ldN (by assumption) (by omega) ?_)
                   | (refine Trs.ldN (by assumption) (by omega) ?_)
                   | (refine At.ldN (Blk.at (by assumption)) rfl ?_)
                   | (refine At.ld (Blk.at (by assumption)) rfl ?_)
                   | (refine IxA.mk (by omega) ?_)
                   | (refine Sl.ln (Own.sl (by assumption)) ?_))
          conv => whnf
          refine VE.litI [0, -1, -1] Try.underlying25 eInt (by decide) fun l2 w62 E62 H2 _ => ?_
          replace H2 := H2 0 (Nat.zero_le _)
          replace EE := EE.ext E62
          replace HM1 := HM1.ext E62
          replace HM2 := HM2.ext E62
          replace HM3 := HM3.ext E62
          replace HM4 := HM4.ext E62
          replace HLM := HLM.ext E62
          replace EL1 := EL1.ext E62
          replace HA := HA.ext E62
          replace HP := HP.ext E62
          replace HX := HX.ext E62
          replace HY := HY.ext E62
          replace HPp := HPp.ext E62
          replace HG := HG.ext E62
          replace HQq := HQq.ext E62
          replace H1 := H1.ext E62
          have c2 := same_pc (Own.sl HY) (Own.sl H2)
          rw [tf_t rfl] at c2
          conv => whnf
          refine VC.pure c2 ?_
          repeat' (conv => whnf
                   first
                   | (refine Dr.quiet tyOk (by kernel_rfl) ?_)
                   | (refine Rng.mk (by omega) ?_)
                   | (refine Split.pos (by omega) ?_)
                   | (refine Split.neg (by omega) ?_)
                   | (refine Split.mk (fun h => ?_) (fun h => ?_))
                   | (refine Need.mk (by omega) ?_)
                   | (refine Ints.ln (by assumption) ?_)
                   | (refine Mat.ln (by assumption) ?_)
                   | (refine Ints.ln (Mat.row (by assumption) _ (by omega)) ?_)
                   | (refine Ints.ix (by assumption) (by omega) ?_)
                   | (refine Mat.ix (by assumption) (by omega) ?_)
                   | (refine Ints.ix (Mat.row (by assumption) _ (by omega)) (by omega) ?_)
                   | (refine Ints.ix (c := 0) (by assumption) (by omega) ?_)
                   | (refine Mat.ix (c := 0) (by assumption) (by omega) ?_)
                   | (refine Ints.ix (c := 0) (Mat.row (by assumption) _ (by omega)) (by omega) ?_)
                   | (refine Ints.ixI (by assumption) (by omega) ?_)
                   | (refine Mat.ixI (by assumption) (by omega) ?_)
                   | (refine Ints.ixI (Mat.row (by assumption) _ (by omega)) (by omega) ?_)
                   | (refine Ints.ld (by assumption) (by omega) ?_)
                   | (refine Mat.ld (by assumption) (by omega) ?_)
                   | (refine Ints.ld (Mat.row (by assumption) _ (by omega)) (by omega) ?_)
                   | (refine At.ld (by assumption) rfl ?_)
                   | (refine At.ldN (by assumption) rfl ?_)
                   | (refine Prs.ln (by assumption) ?_)
                   | (refine Trs.ln (by assumption) ?_)
                   | (refine Prs.ix (by assumption) (by omega) ?_)
                   | (refine Trs.ix (by assumption) (by omega) ?_)
                   | (refine Prs.ldN (by assumption) (by omega) ?_)
                   | (refine Trs.ldN (by assumption) (by omega) ?_)
                   | (refine At.ldN (Blk.at (by assumption)) rfl ?_)
                   | (refine At.ld (Blk.at (by assumption)) rfl ?_)
                   | (refine IxA.mk (by omega) ?_)
                   | (refine Sl.ln (Own.sl (by assumption)) ?_))
          conv => whnf
          refine VE.litI [1] Try.underlying25 eInt (by decide) fun l3 w63 E63 H3 _ => ?_
          replace H3 := H3 0 (Nat.zero_le _)
          replace EE := EE.ext E63
          replace HM1 := HM1.ext E63
          replace HM2 := HM2.ext E63
          replace HM3 := HM3.ext E63
          replace HM4 := HM4.ext E63
          replace HLM := HLM.ext E63
          replace EL1 := EL1.ext E63
          replace HA := HA.ext E63
          replace HP := HP.ext E63
          replace HX := HX.ext E63
          replace HY := HY.ext E63
          replace HPp := HPp.ext E63
          replace HG := HG.ext E63
          replace HQq := HQq.ext E63
          replace H1 := H1.ext E63
          replace H2 := H2.ext E63
          have c3 := same_pc (Own.sl HPp) (Own.sl H3)
          rw [tf_t rfl] at c3
          conv => whnf
          refine VC.pure c3 ?_
          repeat' (conv => whnf
                   first
                   | (refine Dr.quiet tyOk (by kernel_rfl) ?_)
                   | (refine Split.pos rfl ?_)
                   | (refine Rng.mk (by omega) ?_)
                   | (refine Split.pos (by omega) ?_)
                   | (refine Split.neg (by omega) ?_)
                   | (refine Split.mk (fun h => ?_) (fun h => ?_))
                   | (refine Need.mk (by omega) ?_)
                   | (refine Ints.ln (by assumption) ?_)
                   | (refine Mat.ln (by assumption) ?_)
                   | (refine Ints.ln (Mat.row (by assumption) _ (by omega)) ?_)
                   | (refine Ints.ix (by assumption) (by omega) ?_)
                   | (refine Mat.ix (by assumption) (by omega) ?_)
                   | (refine Ints.ix (Mat.row (by assumption) _ (by omega)) (by omega) ?_)
                   | (refine Ints.ix (c := 0) (by assumption) (by omega) ?_)
                   | (refine Mat.ix (c := 0) (by assumption) (by omega) ?_)
                   | (refine Ints.ix (c := 0) (Mat.row (by assumption) _ (by omega)) (by omega) ?_)
                   | (refine Ints.ixI (by assumption) (by omega) ?_)
                   | (refine Mat.ixI (by assumption) (by omega) ?_)
                   | (refine Ints.ixI (Mat.row (by assumption) _ (by omega)) (by omega) ?_)
                   | (refine Ints.ld (by assumption) (by omega) ?_)
                   | (refine Mat.ld (by assumption) (by omega) ?_)
                   | (refine Ints.ld (Mat.row (by assumption) _ (by omega)) (by omega) ?_)
                   | (refine At.ld (by assumption) rfl ?_)
                   | (refine At.ldN (by assumption) rfl ?_)
                   | (refine Prs.ln (by assumption) ?_)
                   | (refine Trs.ln (by assumption) ?_)
                   | (refine Prs.ix (by assumption) (by omega) ?_)
                   | (refine Trs.ix (by assumption) (by omega) ?_)
                   | (refine Prs.ldN (by assumption) (by omega) ?_)
                   | (refine Trs.ldN (by assumption) (by omega) ?_)
                   | (refine At.ldN (Blk.at (by assumption)) rfl ?_)
                   | (refine At.ld (Blk.at (by assumption)) rfl ?_)
                   | (refine IxA.mk (by omega) ?_)
                   | (refine Sl.ln (Own.sl (by assumption)) ?_))
          exact ⟨rfl, EE⟩

open Go.ChangeShapes Go.WideShapes Go.ChangeAt Go.RowKit Go.Eng in
theorem goodsNames_lifted (os : Os) (started : os.Started) (H : Type) (enc : TypeId × Value → H) :
    ReturnsInHanded {} Try.checked os 13 .any (Rows.goodsNamesSpec.pre6 enc Try.prog Try.f13 Rows.goodsNamesRow.domain false) (Rows.goodsNamesSpec.post enc Try.prog Try.f13 false true false false) := by
  refine returnsInHanded_of_change (C := Try.checked) own started (by kernel_rfl) Try.func13
    (ChangeSpec.witness6 (enc := enc) (C := Try.checked) false ⟨#[], #[], []⟩ 8 (by kernel_rfl) (by kernel_rfl) (by kernel_rfl) (by kernel_rfl)) ?_
  intro W base args ds gs before hval0 hW hcnd _
  have hval : ∀ (j : Nat) t v, Try.f13.params[j]? = some t → args[j]? = some v → Value.okWide Try.prog W .any base t v := hval0
  have hW' := hW
  obtain ⟨p, q, hA0, hV, e0, hfz, hnd⟩ := hW
  have hA : DataW.TrodAll enc Try.prog W 0 (fun _ => true) true Try.f13.params.toList args.toList ds p := hA0
  rw [Try.params13] at hA hval
  clear hfz hnd hV e0 hval0
  obtain ⟨ee, rfl, _⟩ := trodAll_nil hA
  obtain rfl : args = #[] := Array.toList_inj.1 (by simpa using ee)
  exact law_calls laidOut (by rw [Try.params13]; intro t ht; revert t; decide +kernel) rfl Try.underlying4 rfl ⟨rfl, rfl, rfl⟩ hW' (gnames_pc)

theorem goodsNames_holds : Rows.GoodsNamesSaid :=
  OpenClaim.holds_of_wide 13 Try.f13 rfl rfl rfl rfl rfl rfl rfl ⟨rfl, rfl, rfl, rfl, rfl⟩ rfl rfl rfl rfl rfl (by kernel_rfl) Try.func13 (by kernel_rfl)
    (of_decide_eq_true (by kernel_rfl)) (by unfold Func.isWrapper; first | (rw [if_pos (by decide +kernel)]; kernel_rfl) | (rw [if_neg (by decide +kernel)]; exact ⟨rfl, rfl⟩))
    (fun os started H enc _ => goodsNames_lifted os started H enc)
end Go.Proofs.Ytiahjkhfkbcjhaa
