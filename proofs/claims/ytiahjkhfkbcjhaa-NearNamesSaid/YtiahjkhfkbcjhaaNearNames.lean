/- The statement NearNames. -/
import Derived.Test.YtiahjkhfkbcjhaaLEval
import Derived.Test.YtiahjkhfkbcjhaaEngL
import Derived.Test.YtiahjkhfkbcjhaaRows
import Derived.ProofKit
set_option linter.unusedVariables false
set_option linter.unusedSimpArgs false
namespace Go.Proofs.Ytiahjkhfkbcjhaa
open Go.Eng
set_option maxRecDepth 100000
set_option maxHeartbeats 4000000

def zgn : List (List Int) := [[0, 4, 0], [1, 1, 1]]
def lgn : List (List Int) := [[1, 1, 1, 1, 1, 1, 1, 1, 1, 1], [0, 0, 0, 0, 0, 0, 0, 0, 0, 0]]
theorem nnames_pc {w : World} : PC Try.prog 8 [] w (.bool true) := by
  refine PC.mk tyOk Try.func8 rfl (by kernel_rfl) fun w1 E1 => ?_
  have EE := Ext.refl w1
  have z0 : ∀ w, Mat w (.slice none 0 0) [] [] := fun w => (OM.nil (B := 0)).mat
  have i0 : ∀ w, Ints w (.slice none 0 0) [] := fun w => Own.sl (B := 0) (e := 3) Own.nil
  conv => whnf
  refine VS.sparse (ps := []) Try.underlying24 eGoods (by decide +kernel) rfl (by simp) rfl ?_
  conv => whnf
  refine VC.rc (none_rc (z0 _) (i0 _)) ?_
  rintro _ w2 E2 ⟨m1, x1, rfl, HM1, HX1⟩
  replace EE := EE.ext E2
  rw [show vld [] [] = 8 from (vld_eq _ _).trans (by decide +kernel)]
  repeat' (conv => whnf
           first
           | (refine Dr.quiet tyOk (by kernel_rfl) ?_)
           | (refine Rng.mk (by omega) ?_)
           | (refine Split.pos (by omega) ?_)
           | (refine Split.neg (by omega) ?_)
           | (refine Split.mk (fun h => ?_) (fun h => ?_))
           | (refine Need.mk (by omega) ?_)
           | (refine Ints.ln (by assumption) ?_)
           | (refine Mat.ln (by assumption) ?_)
           | (refine Ints.ln (Mat.row (by assumption) _ (by omega)) ?_)
           | (refine Ints.ix (by assumption) (by omega) ?_)
           | (refine Mat.ix (by assumption) (by omega) ?_)
           | (refine Ints.ix (Mat.row (by assumption) _ (by omega)) (by omega) ?_)
           | (refine Ints.ix (c := 0) (by assumption) (by omega) ?_)
           | (refine Mat.ix (c := 0) (by assumption) (by omega) ?_)
           | (refine Ints.ix (c := 0) (Mat.row (by assumption) _ (by omega)) (by omega) ?_)
           | (refine Ints.ixI (by assumption) (by omega) ?_)
           | (refine Mat.ixI (by assumption) (by omega) ?_)
           | (refine Ints.ixI (Mat.row (by assumption) _ (by omega)) (by omega) ?_)
           | (refine Ints.ld (by assumption) (by omega) ?_)
           | (refine Mat.ld (by assumption) (by omega) ?_)
           | (refine Ints.ld (Mat.row (by assumption) _ (by omega)) (by omega) ?_)
           | (refine At.ld (by assumption) rfl ?_)
           | (refine At.ldN (by assumption) rfl ?_)
           | (refine Prs.ln (by assumption) ?_)
           | (refine Trs.ln (by assumption) ?_)
           | (refine Prs.ix (by assumption) (by omega) ?_)
           | (refine Trs.ix (by assumption) (by omega) ?_)
           | (refine Prs.ldN (by assumption) (by omega) ?_)
           | (refine Trs.ldN (by assumption) (by omega) ?_)
           | (refine At.ldN (Blk.at (by assumption)) rfl ?_)
           | (refine At.ld (Blk.at (by assumption)) rfl ?_)
           | (refine IxA.mk (by omega) ?_)
           | (refine Sl.ln (Own.sl (by assumption)) ?_))
  conv => whnf
  refine VC.rc (given17_rc) ?_
  rintro _ w3 E3 ⟨g1, _, rfl, HG⟩
  replace EE := EE.ext E3
  replace HM1 := HM1.ext E3
  replace HX1 := HX1.ext E3
  conv => whnf
  refine VE.litI [0, 1] Try.underlying25 eInt (by decide) fun l1 w4 E4 H1 _ => ?_
  replace H1 := H1 0 (Nat.zero_le _)
  replace EE := EE.ext E4
  replace HM1 := HM1.ext E4
  replace HX1 := HX1.ext E4
  replace HG := HG.ext E4
  conv => whnf
  refine VC.rc (nany_rc HG.mat (Own.sl H1)) ?_
  rintro _ w5 E5 ⟨m1, rfl, HM1⟩
  replace EE := EE.ext E5
  replace HX1 := HX1.ext E5
  replace HG := HG.ext E5
  replace H1 := H1.ext E5
  rw [show vld gvn [0, 1] = 8 from (vld_eq _ _).trans (by decide +kernel)]
  repeat' (conv => whnf
           first
           | (refine Dr.quiet tyOk (by kernel_rfl) ?_)
           | (refine Rng.mk (by omega) ?_)
           | (refine Split.pos (by omega) ?_)
           | (refine Split.neg (by omega) ?_)
           | (refine Split.mk (fun h => ?_) (fun h => ?_))
           | (refine Need.mk (by omega) ?_)
           | (refine Ints.ln (by assumption) ?_)
           | (refine Mat.ln (by assumption) ?_)
           | (refine Ints.ln (Mat.row (by assumption) _ (by omega)) ?_)
           | (refine Ints.ix (by assumption) (by omega) ?_)
           | (refine Mat.ix (by assumption) (by omega) ?_)
           | (refine Ints.ix (Mat.row (by assumption) _ (by omega)) (by omega) ?_)
           | (refine Ints.ix (c := 0) (by assumption) (by omega) ?_)
           | (refine Mat.ix (c := 0) (by assumption) (by omega) ?_)
           | (refine Ints.ix (c := 0) (Mat.row (by assumption) _ (by omega)) (by omega) ?_)
           | (refine Ints.ixI (by assumption) (by omega) ?_)
           | (refine Mat.ixI (by assumption) (by omega) ?_)
           | (refine Ints.ixI (Mat.row (by assumption) _ (by omega)) (by omega) ?_)
           | (refine Ints.ld (by assumption) (by omega) ?_)
           | (refine Mat.ld (by assumption) (by omega) ?_)
           | (refine Ints.ld (Mat.row (by assumption) _ (by omega)) (by omega) ?_)
           | (refine At.ld (by assumption) rfl ?_)
           | (refine At.ldN (by assumption) rfl ?_)
           | (refine Prs.ln (by assumption) ?_)
           | (refine Trs.ln (by assumption) ?_)
           | (refine Prs.ix (by assumption) (by omega) ?_)
           | (refine Trs.ix (by assumption) (by omega) ?_)
           | (refine Prs.ldN (by assumption) (by omega) ?_)
           | (refine Trs.ldN (by assumption) (by omega) ?_)
           | (refine At.ldN (Blk.at (by assumption)) rfl ?_)
           | (refine At.ld (Blk.at (by assumption)) rfl ?_)
           | (refine IxA.mk (by omega) ?_)
           | (refine Sl.ln (Own.sl (by assumption)) ?_))
  conv => whnf
  refine VC.rc (given17_rc) ?_
  rintro _ w6 E6 ⟨g1, _, rfl, HG⟩
  replace EE := EE.ext E6
  replace HX1 := HX1.ext E6
  replace H1 := H1.ext E6
  replace HM1 := HM1.ext E6
  conv => whnf
  refine VE.litI [0, 1, 2] Try.underlying25 eInt (by decide) fun l1 w7 E7 H1 _ => ?_
  replace H1 := H1 0 (Nat.zero_le _)
  replace EE := EE.ext E7
  replace HX1 := HX1.ext E7
  replace HM1 := HM1.ext E7
  replace HG := HG.ext E7
  conv => whnf
  refine VC.rc (nshare_rc HG.mat (Own.sl H1)) ?_
  rintro _ w8 E8 ⟨m1, x1, rfl, HM1, HX1⟩
  replace EE := EE.ext E8
  replace HG := HG.ext E8
  replace H1 := H1.ext E8
  rw [show vld gvn [0, 1, 2] = 8 from (vld_eq _ _).trans (by decide +kernel)]
  repeat' (conv => whnf
           first
           | (refine Dr.quiet tyOk (by kernel_rfl) ?_)
           | (refine Rng.mk (by omega) ?_)
           | (refine Split.pos (by omega) ?_)
           | (refine Split.neg (by omega) ?_)
           | (refine Split.mk (fun h => ?_) (fun h => ?_))
           | (refine Need.mk (by omega) ?_)
           | (refine Ints.ln (by assumption) ?_)
           | (refine Mat.ln (by assumption) ?_)
           | (refine Ints.ln (Mat.row (by assumption) _ (by omega)) ?_)
           | (refine Ints.ix (by assumption) (by omega) ?_)
           | (refine Mat.ix (by assumption) (by omega) ?_)
           | (refine Ints.ix (Mat.row (by assumption) _ (by omega)) (by omega) ?_)
           | (refine Ints.ix (c := 0) (by assumption) (by omega) ?_)
           | (refine Mat.ix (c := 0) (by assumption) (by omega) ?_)
           | (refine Ints.ix (c := 0) (Mat.row (by assumption) _ (by omega)) (by omega) ?_)
           | (refine Ints.ixI (by assumption) (by omega) ?_)
           | (refine Mat.ixI (by assumption) (by omega) ?_)
           | (refine Ints.ixI (Mat.row (by assumption) _ (by omega)) (by omega) ?_)
           | (refine Ints.ld (by assumption) (by omega) ?_)
           | (refine Mat.ld (by assumption) (by omega) ?_)
           | (refine Ints.ld (Mat.row (by assumption) _ (by omega)) (by omega) ?_)
           | (refine At.ld (by assumption) rfl ?_)
           | (refine At.ldN (by assumption) rfl ?_)
           | (refine Prs.ln (by assumption) ?_)
           | (refine Trs.ln (by assumption) ?_)
           | (refine Prs.ix (by assumption) (by omega) ?_)
           | (refine Trs.ix (by assumption) (by omega) ?_)
           | (refine Prs.ldN (by assumption) (by omega) ?_)
           | (refine Trs.ldN (by assumption) (by omega) ?_)
           | (refine At.ldN (Blk.at (by assumption)) rfl ?_)
           | (refine At.ld (Blk.at (by assumption)) rfl ?_)
           | (refine IxA.mk (by omega) ?_)
           | (refine Sl.ln (Own.sl (by assumption)) ?_))
  conv => whnf
  refine VE.made (n := 7) Try.underlying22 eRow rfl (by omega) (by omega) fun mv w9 E9 HG _ => ?_
  replace EE := EE.ext E9
  replace H1 := H1.ext E9
  replace HM1 := HM1.ext E9
  replace HX1 := HX1.ext E9
  replace HG := OM.made (HG 0 (Nat.zero_le _))
  conv => whnf
  refine VS.field1 Try.underlying24 eGoods (by kernel_rfl) rfl (Sl.cells (Own.sl HG.top)).1 ?_
  conv => whnf
  refine VC.rc (nshare_rc HG.mat (i0 _)) ?_
  rintro _ w10 E10 ⟨m1, x1, rfl, HM1, HX1⟩
  replace EE := EE.ext E10
  replace H1 := H1.ext E10
  replace HG := HG.ext E10
  rw [show vld (List.replicate 7 []) [] = 4 from (vld_eq _ _).trans (by decide +kernel)]
  repeat' (conv => whnf
           first
           | (refine Dr.quiet tyOk (by kernel_rfl) ?_)
           | (refine Rng.mk (by omega) ?_)
           | (refine Split.pos (by omega) ?_)
           | (refine Split.neg (by omega) ?_)
           | (refine Split.mk (fun h => ?_) (fun h => ?_))
           | (refine Need.mk (by omega) ?_)
           | (refine Ints.ln (by assumption) ?_)
           | (refine Mat.ln (by assumption) ?_)
           | (refine Ints.ln (Mat.row (by assumption) _ (by omega)) ?_)
           | (refine Ints.ix (by assumption) (by omega) ?_)
           | (refine Mat.ix (by assumption) (by omega) ?_)
           | (refine Ints.ix (Mat.row (by assumption) _ (by omega)) (by omega) ?_)
           | (refine Ints.ix (c := 0) (by assumption) (by omega) ?_)
           | (refine Mat.ix (c := 0) (by assumption) (by omega) ?_)
           | (refine Ints.ix (c := 0) (Mat.row (by assumption) _ (by omega)) (by omega) ?_)
           | (refine Ints.ixI (by assumption) (by omega) ?_)
           | (refine Mat.ixI (by assumption) (by omega) ?_)
           | (refine Ints.ixI (Mat.row (by assumption) _ (by omega)) (by omega) ?_)
           | (refine Ints.ld (by assumption) (by omega) ?_)
           | (refine Mat.ld (by assumption) (by omega) ?_)
           | (refine Ints.ld (Mat.row (by assumption) _ (by omega)) (by omega) ?_)
           | (refine At.ld (by assumption) rfl ?_)
           | (refine At.ldN (by assumption) rfl ?_)
           | (refine Prs.ln (by assumption) ?_)
           | (refine Trs.ln (by assumption) ?_)
           | (refine Prs.ix (by assumption) (by omega) ?_)
           | (refine Trs.ix (by assumption) (by omega) ?_)
           | (refine Prs.ldN (by assumption) (by omega) ?_)
           | (refine Trs.ldN (by assumption) (by omega) ?_)
           | (refine At.ldN (Blk.at (by assumption)) rfl ?_)
           | (refine At.ld (Blk.at (by assumption)) rfl ?_)
           | (refine IxA.mk (by omega) ?_)
           | (refine Sl.ln (Own.sl (by assumption)) ?_))
  have v1 : vld gvn [-1, -1, -1] = 0 := gvn_vld (by decide) (by decide) (by decide)
  conv => whnf
  refine VC.rc (given17_rc) ?_
  rintro _ w11 E11 ⟨g1, _, rfl, HG⟩
  replace EE := EE.ext E11
  replace H1 := H1.ext E11
  replace HM1 := HM1.ext E11
  replace HX1 := HX1.ext E11
  conv => whnf
  refine VE.litI [-1, -1, -1] Try.underlying25 eInt (by decide) fun l1 w12 E12 H1 _ => ?_
  replace H1 := H1 0 (Nat.zero_le _)
  replace EE := EE.ext E12
  replace HM1 := HM1.ext E12
  replace HX1 := HX1.ext E12
  replace HG := HG.ext E12
  conv => whnf
  refine VC.rc (nshare_rc HG.mat (Own.sl H1)) ?_
  rintro _ w13 E13 ⟨mv1, nv1, rfl, HMm, HMn⟩
  replace EE := EE.ext E13
  replace HM1 := HM1.ext E13
  replace HX1 := HX1.ext E13
  replace HG := HG.ext E13
  replace H1 := H1.ext E13
  rw [shM_g v1, show gRow (pM gvn [-1, -1, -1]) 0 gvn.length = [(0, -1, 0)] by decide +kernel] at HMm
  rw [shX_g v1, show gRow (pX gvn [-1, -1, -1]) 0 gvn.length = [1] by decide +kernel] at HMn
  rw [v1]
  repeat' (conv => whnf
           first
           | (refine Dr.quiet tyOk (by kernel_rfl) ?_)
           | (refine Rng.mk (by omega) ?_)
           | (refine Split.pos (by omega) ?_)
           | (refine Split.neg (by omega) ?_)
           | (refine Split.mk (fun h => ?_) (fun h => ?_))
           | (refine Need.mk (by omega) ?_)
           | (refine Ints.ln (by assumption) ?_)
           | (refine Mat.ln (by assumption) ?_)
           | (refine Ints.ln (Mat.row (by assumption) _ (by omega)) ?_)
           | (refine Ints.ix (by assumption) (by omega) ?_)
           | (refine Mat.ix (by assumption) (by omega) ?_)
           | (refine Ints.ix (Mat.row (by assumption) _ (by omega)) (by omega) ?_)
           | (refine Ints.ix (c := 0) (by assumption) (by omega) ?_)
           | (refine Mat.ix (c := 0) (by assumption) (by omega) ?_)
           | (refine Ints.ix (c := 0) (Mat.row (by assumption) _ (by omega)) (by omega) ?_)
           | (refine Ints.ixI (by assumption) (by omega) ?_)
           | (refine Mat.ixI (by assumption) (by omega) ?_)
           | (refine Ints.ixI (Mat.row (by assumption) _ (by omega)) (by omega) ?_)
           | (refine Ints.ld (by assumption) (by omega) ?_)
           | (refine Mat.ld (by assumption) (by omega) ?_)
           | (refine Ints.ld (Mat.row (by assumption) _ (by omega)) (by omega) ?_)
           | (refine At.ld (by assumption) rfl ?_)
           | (refine At.ldN (by assumption) rfl ?_)
           | (refine Prs.ln (by assumption) ?_)
           | (refine Trs.ln (by assumption) ?_)
           | (refine Prs.ix (by assumption) (by omega) ?_)
           | (refine Trs.ix (by assumption) (by omega) ?_)
           | (refine Prs.ldN (by assumption) (by omega) ?_)
           | (refine Trs.ldN (by assumption) (by omega) ?_)
           | (refine At.ldN (Blk.at (by assumption)) rfl ?_)
           | (refine At.ld (Blk.at (by assumption)) rfl ?_)
           | (refine IxA.mk (by omega) ?_)
           | (refine Sl.ln (Own.sl (by assumption)) ?_))
  conv => whnf
  refine VC.rc (given17_rc) ?_
  rintro _ w14 E14 ⟨g1, _, rfl, HG⟩
  replace EE := EE.ext E14
  replace HM1 := HM1.ext E14
  replace HX1 := HX1.ext E14
  replace H1 := H1.ext E14
  replace HMm := HMm.ext E14
  replace HMn := HMn.ext E14
  conv => whnf
  refine VE.litI [-1, -1, -1] Try.underlying25 eInt (by decide) fun l1 w15 E15 H1 _ => ?_
  replace H1 := H1 0 (Nat.zero_le _)
  replace EE := EE.ext E15
  replace HM1 := HM1.ext E15
  replace HX1 := HX1.ext E15
  replace HMm := HMm.ext E15
  replace HMn := HMn.ext E15
  replace HG := HG.ext E15
  conv => whnf
  refine VC.rc (none_rc HG.mat (Own.sl H1)) ?_
  rintro _ w16 E16 ⟨mv2, nv2, rfl, HMx, HMy⟩
  replace EE := EE.ext E16
  replace HM1 := HM1.ext E16
  replace HX1 := HX1.ext E16
  replace HMm := HMm.ext E16
  replace HMn := HMn.ext E16
  replace HG := HG.ext E16
  replace H1 := H1.ext E16
  rw [oneM_g v1, show gTo (hM gvn [-1, -1, -1] true) gvn.length gvn.length = [] by decide +kernel] at HMx
  rw [oneX_g v1, show gTo (hX gvn [-1, -1, -1]) gvn.length gvn.length = [] by decide +kernel] at HMy
  rw [v1]
  repeat' (conv => whnf
           first
           | (refine Dr.quiet tyOk (by kernel_rfl) ?_)
           | (refine Rng.mk (by omega) ?_)
           | (refine Split.pos (by omega) ?_)
           | (refine Split.neg (by omega) ?_)
           | (refine Split.mk (fun h => ?_) (fun h => ?_))
           | (refine Need.mk (by omega) ?_)
           | (refine Ints.ln (by assumption) ?_)
           | (refine Mat.ln (by assumption) ?_)
           | (refine Ints.ln (Mat.row (by assumption) _ (by omega)) ?_)
           | (refine Ints.ix (by assumption) (by omega) ?_)
           | (refine Mat.ix (by assumption) (by omega) ?_)
           | (refine Ints.ix (Mat.row (by assumption) _ (by omega)) (by omega) ?_)
           | (refine Ints.ix (c := 0) (by assumption) (by omega) ?_)
           | (refine Mat.ix (c := 0) (by assumption) (by omega) ?_)
           | (refine Ints.ix (c := 0) (Mat.row (by assumption) _ (by omega)) (by omega) ?_)
           | (refine Ints.ixI (by assumption) (by omega) ?_)
           | (refine Mat.ixI (by assumption) (by omega) ?_)
           | (refine Ints.ixI (Mat.row (by assumption) _ (by omega)) (by omega) ?_)
           | (refine Ints.ld (by assumption) (by omega) ?_)
           | (refine Mat.ld (by assumption) (by omega) ?_)
           | (refine Ints.ld (Mat.row (by assumption) _ (by omega)) (by omega) ?_)
           | (refine At.ld (by assumption) rfl ?_)
           | (refine At.ldN (by assumption) rfl ?_)
           | (refine Prs.ln (by assumption) ?_)
           | (refine Trs.ln (by assumption) ?_)
           | (refine Prs.ix (by assumption) (by omega) ?_)
           | (refine Trs.ix (by assumption) (by omega) ?_)
           | (refine Prs.ldN (by assumption) (by omega) ?_)
           | (refine Trs.ldN (by assumption) (by omega) ?_)
           | (refine At.ldN (Blk.at (by assumption)) rfl ?_)
           | (refine At.ld (Blk.at (by assumption)) rfl ?_)
           | (refine IxA.mk (by omega) ?_)
           | (refine Sl.ln (Own.sl (by assumption)) ?_))
  conv => whnf
  refine VE.litI [0, 4, 0] Try.underlying25 eInt (by decide) fun zv_0 w17 E17 HZ_0 _ => ?_
  replace HZ_0 := HZ_0 0 (Nat.zero_le _)
  replace EE := EE.ext E17
  replace HM1 := HM1.ext E17
  replace HX1 := HX1.ext E17
  replace HMm := HMm.ext E17
  replace HMn := HMn.ext E17
  replace HG := HG.ext E17
  replace H1 := H1.ext E17
  replace HMx := HMx.ext E17
  replace HMy := HMy.ext E17
  conv => whnf
  refine VE.litI [1, 1, 1] Try.underlying25 eInt (by decide) fun zv_1 w18 E18 HZ_1 _ => ?_
  replace HZ_1 := HZ_1 0 (Nat.zero_le _)
  replace EE := EE.ext E18
  replace HM1 := HM1.ext E18
  replace HX1 := HX1.ext E18
  replace HMm := HMm.ext E18
  replace HMn := HMn.ext E18
  replace HG := HG.ext E18
  replace H1 := H1.ext E18
  replace HMx := HMx.ext E18
  replace HMy := HMy.ext E18
  replace HZ_0 := HZ_0.ext E18
  conv => whnf
  refine VE.litV [zv_0, zv_1] Try.underlying22 eRow (by intro v hv; simp at hv; rcases hv with rfl | rfl <;> first | exact (Sl.cells (Own.sl HZ_0)).1 | exact (Sl.cells (Own.sl HZ_1)).1) (by simp) fun zv w19 E19 HZ _ => ?_
  replace EE := EE.ext E19
  replace HM1 := HM1.ext E19
  replace HX1 := HX1.ext E19
  replace HMm := HMm.ext E19
  replace HMn := HMn.ext E19
  replace HG := HG.ext E19
  replace H1 := H1.ext E19
  replace HMx := HMx.ext E19
  replace HMy := HMy.ext E19
  replace HZ_0 := HZ_0.ext E19
  replace HZ_1 := HZ_1.ext E19
  replace HZ : OM 0 w19 zv [zv_0, zv_1] [[0, 4, 0], [1, 1, 1]] := by
    refine ⟨HZ _ (Nat.zero_le _), fun i hi => ?_⟩
    match i, hi with
    | 0, _ => exact HZ_0
    | 1, _ => exact HZ_1
  replace HZ : OM 0 _ _ _ zgn := HZ
  conv => whnf
  refine VS.field1 Try.underlying24 eGoods (by kernel_rfl) rfl (Sl.cells (Own.sl HZ.top)).1 ?_
  have EE__1 := EE
  have HM1__1 := HM1
  have HX1__1 := HX1
  have HMm__1 := HMm
  have HMn__1 := HMn
  have HG__1 := HG
  have H1__1 := H1
  have HMx__1 := HMx
  have HMy__1 := HMy
  have HZ__1 := HZ
  conv => whnf
  refine VE.alloc eGoods fun zb w20 E20 hb_zb HZb => ?_
  replace EE := EE.ext E20
  replace HM1 := HM1.ext E20
  replace HX1 := HX1.ext E20
  replace HMm := HMm.ext E20
  replace HMn := HMn.ext E20
  replace HG := HG.ext E20
  replace H1 := H1.ext E20
  replace HMx := HMx.ext E20
  replace HMy := HMy.ext E20
  replace HZ := HZ.ext E20
  have EL1 := E20
  conv => whnf
  refine Blk.all HZb (by kernel_rfl) (by decide) rfl rfl (by intro v hv; simp at hv; subst hv; exact (Sl.cells (Own.sl HZ.top)).2) fun w21 G21 HZb' => ?_
  have E21 : Ext w19 w21 := EL1.new G21 fun i hi hk => by omega
  replace HZb := HZb'.at
  replace EE := EE__1.ext E21
  replace HM1 := HM1__1.ext E21
  replace HX1 := HX1__1.ext E21
  replace HMm := HMm__1.ext E21
  replace HMn := HMn__1.ext E21
  replace HG := HG__1.ext E21
  replace H1 := H1__1.ext E21
  replace HMx := HMx__1.ext E21
  replace HMy := HMy__1.ext E21
  replace HZ := HZ__1.ext E21
  replace EL1 := E21
  repeat' (conv => whnf
           first
           | (refine Dr.quiet tyOk (by kernel_rfl) ?_)
           | (refine Rng.mk (by omega) ?_)
           | (refine Split.pos (by omega) ?_)
           | (refine Split.neg (by omega) ?_)
           | (refine Split.mk (fun h => ?_) (fun h => ?_))
           | (refine Need.mk (by omega) ?_)
           | (refine Ints.ln (by assumption) ?_)
           | (refine Mat.ln (by assumption) ?_)
           | (refine Ints.ln (Mat.row (by assumption) _ (by omega)) ?_)
           | (refine Ints.ix (by assumption) (by omega) ?_)
           | (refine Mat.ix (by assumption) (by omega) ?_)
           | (refine Ints.ix (Mat.row (by assumption) _ (by omega)) (by omega) ?_)
           | (refine Ints.ix (c := 0) (by assumption) (by omega) ?_)
           | (refine Mat.ix (c := 0) (by assumption) (by omega) ?_)
           | (refine Ints.ix (c := 0) (Mat.row (by assumption) _ (by omega)) (by omega) ?_)
           | (refine Ints.ixI (by assumption) (by omega) ?_)
           | (refine Mat.ixI (by assumption) (by omega) ?_)
           | (refine Ints.ixI (Mat.row (by assumption) _ (by omega)) (by omega) ?_)
           | (refine Ints.ld (by assumption) (by omega) ?_)
           | (refine Mat.ld (by assumption) (by omega) ?_)
           | (refine Ints.ld (Mat.row (by assumption) _ (by omega)) (by omega) ?_)
           | (refine At.ld (by assumption) rfl ?_)
           | (refine At.ldN (by assumption) rfl ?_)
           | (refine Prs.ln (by assumption) ?_)
           | (refine Trs.ln (by assumption) ?_)
           | (refine Prs.ix (by assumption) (by omega) ?_)
           | (refine Trs.ix (by assumption) (by omega) ?_)
           | (refine Prs.ldN (by assumption) (by omega) ?_)
           | (refine Trs.ldN (by assumption) (by omega) ?_)
           | (refine At.ldN (Blk.at (by assumption)) rfl ?_)
           | (refine At.ld (Blk.at (by assumption)) rfl ?_)
           | (refine IxA.mk (by omega) ?_)
           | (refine Sl.ln (Own.sl (by assumption)) ?_))
  have v2 : vld zgn [1, 1, 0] = 0 := (vld_eq _ _).trans (by decide +kernel)
  have v3 : vld zgn [0, 1, 0] = 0 := (vld_eq _ _).trans (by decide +kernel)
  conv => whnf
  refine VE.litI [1, 1, 0] Try.underlying25 eInt (by decide) fun l1 w22 E22 H1 _ => ?_
  replace H1 := H1 0 (Nat.zero_le _)
  replace EE := EE.ext E22
  replace HM1 := HM1.ext E22
  replace HX1 := HX1.ext E22
  replace HMm := HMm.ext E22
  replace HMn := HMn.ext E22
  replace HG := HG.ext E22
  replace HMx := HMx.ext E22
  replace HMy := HMy.ext E22
  replace HZ := HZ.ext E22
  replace EL1 := EL1.ext E22
  replace HZb := HZb.ext E22
  conv => whnf
  refine VC.rc (nany_rc HZ.mat (Own.sl H1)) ?_
  rintro _ w23 E23 ⟨pv, rfl, HPp⟩
  replace EE := EE.ext E23
  replace HM1 := HM1.ext E23
  replace HX1 := HX1.ext E23
  replace HMm := HMm.ext E23
  replace HMn := HMn.ext E23
  replace HG := HG.ext E23
  replace HMx := HMx.ext E23
  replace HMy := HMy.ext E23
  replace HZ := HZ.ext E23
  replace EL1 := EL1.ext E23
  replace HZb := HZb.ext E23
  replace H1 := H1.ext E23
  rw [anyM_g v2, show gTo (hM zgn [1, 1, 0] false) zgn.length zgn.length = [(0, 1, 0)] by decide +kernel] at HPp
  rw [v2]
  repeat' (conv => whnf
           first
           | (refine Dr.quiet tyOk (by kernel_rfl) ?_)
           | (refine Rng.mk (by omega) ?_)
           | (refine Split.pos (by omega) ?_)
           | (refine Split.neg (by omega) ?_)
           | (refine Split.mk (fun h => ?_) (fun h => ?_))
           | (refine Need.mk (by omega) ?_)
           | (refine Ints.ln (by assumption) ?_)
           | (refine Mat.ln (by assumption) ?_)
           | (refine Ints.ln (Mat.row (by assumption) _ (by omega)) ?_)
           | (refine Ints.ix (by assumption) (by omega) ?_)
           | (refine Mat.ix (by assumption) (by omega) ?_)
           | (refine Ints.ix (Mat.row (by assumption) _ (by omega)) (by omega) ?_)
           | (refine Ints.ix (c := 0) (by assumption) (by omega) ?_)
           | (refine Mat.ix (c := 0) (by assumption) (by omega) ?_)
           | (refine Ints.ix (c := 0) (Mat.row (by assumption) _ (by omega)) (by omega) ?_)
           | (refine Ints.ixI (by assumption) (by omega) ?_)
           | (refine Mat.ixI (by assumption) (by omega) ?_)
           | (refine Ints.ixI (Mat.row (by assumption) _ (by omega)) (by omega) ?_)
           | (refine Ints.ld (by assumption) (by omega) ?_)
           | (refine Mat.ld (by assumption) (by omega) ?_)
           | (refine Ints.ld (Mat.row (by assumption) _ (by omega)) (by omega) ?_)
           | (refine At.ld (by assumption) rfl ?_)
           | (refine At.ldN (by assumption) rfl ?_)
           | (refine Prs.ln (by assumption) ?_)
           | (refine Trs.ln (by assumption) ?_)
           | (refine Prs.ix (by assumption) (by omega) ?_)
           | (refine Trs.ix (by assumption) (by omega) ?_)
           | (refine Prs.ldN (by assumption) (by omega) ?_)
           | (refine Trs.ldN (by assumption) (by omega) ?_)
           | (refine At.ldN (Blk.at (by assumption)) rfl ?_)
           | (refine At.ld (Blk.at (by assumption)) rfl ?_)
           | (refine IxA.mk (by omega) ?_)
           | (refine Sl.ln (Own.sl (by assumption)) ?_))
  conv => whnf
  refine VE.litI [1, 1, 0] Try.underlying25 eInt (by decide) fun l1 w24 E24 H1 _ => ?_
  replace H1 := H1 0 (Nat.zero_le _)
  replace EE := EE.ext E24
  replace HM1 := HM1.ext E24
  replace HX1 := HX1.ext E24
  replace HMm := HMm.ext E24
  replace HMn := HMn.ext E24
  replace HG := HG.ext E24
  replace HMx := HMx.ext E24
  replace HMy := HMy.ext E24
  replace HZ := HZ.ext E24
  replace EL1 := EL1.ext E24
  replace HZb := HZb.ext E24
  replace HPp := HPp.ext E24
  conv => whnf
  refine VC.rc (none_rc HZ.mat (Own.sl H1)) ?_
  rintro _ w25 E25 ⟨qv, rv, rfl, HQq, HQr⟩
  replace EE := EE.ext E25
  replace HM1 := HM1.ext E25
  replace HX1 := HX1.ext E25
  replace HMm := HMm.ext E25
  replace HMn := HMn.ext E25
  replace HG := HG.ext E25
  replace HMx := HMx.ext E25
  replace HMy := HMy.ext E25
  replace HZ := HZ.ext E25
  replace EL1 := EL1.ext E25
  replace HZb := HZb.ext E25
  replace HPp := HPp.ext E25
  replace H1 := H1.ext E25
  rw [oneM_g v2, show gTo (hM zgn [1, 1, 0] true) zgn.length zgn.length = [(0, 1, 1)] by decide +kernel] at HQq
  rw [oneX_g v2, show gTo (hX zgn [1, 1, 0]) zgn.length zgn.length = [] by decide +kernel] at HQr
  rw [v2]
  repeat' (conv => whnf
           first
           | (refine Dr.quiet tyOk (by kernel_rfl) ?_)
           | (refine Rng.mk (by omega) ?_)
           | (refine Split.pos (by omega) ?_)
           | (refine Split.neg (by omega) ?_)
           | (refine Split.mk (fun h => ?_) (fun h => ?_))
           | (refine Need.mk (by omega) ?_)
           | (refine Ints.ln (by assumption) ?_)
           | (refine Mat.ln (by assumption) ?_)
           | (refine Ints.ln (Mat.row (by assumption) _ (by omega)) ?_)
           | (refine Ints.ix (by assumption) (by omega) ?_)
           | (refine Mat.ix (by assumption) (by omega) ?_)
           | (refine Ints.ix (Mat.row (by assumption) _ (by omega)) (by omega) ?_)
           | (refine Ints.ix (c := 0) (by assumption) (by omega) ?_)
           | (refine Mat.ix (c := 0) (by assumption) (by omega) ?_)
           | (refine Ints.ix (c := 0) (Mat.row (by assumption) _ (by omega)) (by omega) ?_)
           | (refine Ints.ixI (by assumption) (by omega) ?_)
           | (refine Mat.ixI (by assumption) (by omega) ?_)
           | (refine Ints.ixI (Mat.row (by assumption) _ (by omega)) (by omega) ?_)
           | (refine Ints.ld (by assumption) (by omega) ?_)
           | (refine Mat.ld (by assumption) (by omega) ?_)
           | (refine Ints.ld (Mat.row (by assumption) _ (by omega)) (by omega) ?_)
           | (refine At.ld (by assumption) rfl ?_)
           | (refine At.ldN (by assumption) rfl ?_)
           | (refine Prs.ln (by assumption) ?_)
           | (refine Trs.ln (by assumption) ?_)
           | (refine Prs.ix (by assumption) (by omega) ?_)
           | (refine Trs.ix (by assumption) (by omega) ?_)
           | (refine Prs.ldN (by assumption) (by omega) ?_)
           | (refine Trs.ldN (by assumption) (by omega) ?_)
           | (refine At.ldN (Blk.at (by assumption)) rfl ?_)
           | (refine At.ld (Blk.at (by assumption)) rfl ?_)
           | (refine IxA.mk (by omega) ?_)
           | (refine Sl.ln (Own.sl (by assumption)) ?_))
  conv => whnf
  refine VE.litI [0, 1, 0] Try.underlying25 eInt (by decide) fun l1 w26 E26 H1 _ => ?_
  replace H1 := H1 0 (Nat.zero_le _)
  replace EE := EE.ext E26
  replace HM1 := HM1.ext E26
  replace HX1 := HX1.ext E26
  replace HMm := HMm.ext E26
  replace HMn := HMn.ext E26
  replace HG := HG.ext E26
  replace HMx := HMx.ext E26
  replace HMy := HMy.ext E26
  replace HZ := HZ.ext E26
  replace EL1 := EL1.ext E26
  replace HZb := HZb.ext E26
  replace HPp := HPp.ext E26
  replace HQq := HQq.ext E26
  replace HQr := HQr.ext E26
  conv => whnf
  refine VC.rc (nany_rc HZ.mat (Own.sl H1)) ?_
  rintro _ w27 E27 ⟨sv, rfl, HSs⟩
  replace EE := EE.ext E27
  replace HM1 := HM1.ext E27
  replace HX1 := HX1.ext E27
  replace HMm := HMm.ext E27
  replace HMn := HMn.ext E27
  replace HG := HG.ext E27
  replace HMx := HMx.ext E27
  replace HMy := HMy.ext E27
  replace HZ := HZ.ext E27
  replace EL1 := EL1.ext E27
  replace HZb := HZb.ext E27
  replace HPp := HPp.ext E27
  replace HQq := HQq.ext E27
  replace HQr := HQr.ext E27
  replace H1 := H1.ext E27
  rw [anyM_g v3, show gTo (hM zgn [0, 1, 0] false) zgn.length zgn.length = [] by decide +kernel] at HSs
  rw [v3]
  repeat' (conv => whnf
           first
           | (refine Dr.quiet tyOk (by kernel_rfl) ?_)
           | (refine Rng.mk (by omega) ?_)
           | (refine Split.pos (by omega) ?_)
           | (refine Split.neg (by omega) ?_)
           | (refine Split.mk (fun h => ?_) (fun h => ?_))
           | (refine Need.mk (by omega) ?_)
           | (refine Ints.ln (by assumption) ?_)
           | (refine Mat.ln (by assumption) ?_)
           | (refine Ints.ln (Mat.row (by assumption) _ (by omega)) ?_)
           | (refine Ints.ix (by assumption) (by omega) ?_)
           | (refine Mat.ix (by assumption) (by omega) ?_)
           | (refine Ints.ix (Mat.row (by assumption) _ (by omega)) (by omega) ?_)
           | (refine Ints.ix (c := 0) (by assumption) (by omega) ?_)
           | (refine Mat.ix (c := 0) (by assumption) (by omega) ?_)
           | (refine Ints.ix (c := 0) (Mat.row (by assumption) _ (by omega)) (by omega) ?_)
           | (refine Ints.ixI (by assumption) (by omega) ?_)
           | (refine Mat.ixI (by assumption) (by omega) ?_)
           | (refine Ints.ixI (Mat.row (by assumption) _ (by omega)) (by omega) ?_)
           | (refine Ints.ld (by assumption) (by omega) ?_)
           | (refine Mat.ld (by assumption) (by omega) ?_)
           | (refine Ints.ld (Mat.row (by assumption) _ (by omega)) (by omega) ?_)
           | (refine At.ld (by assumption) rfl ?_)
           | (refine At.ldN (by assumption) rfl ?_)
           | (refine Prs.ln (by assumption) ?_)
           | (refine Trs.ln (by assumption) ?_)
           | (refine Prs.ix (by assumption) (by omega) ?_)
           | (refine Trs.ix (by assumption) (by omega) ?_)
           | (refine Prs.ldN (by assumption) (by omega) ?_)
           | (refine Trs.ldN (by assumption) (by omega) ?_)
           | (refine At.ldN (Blk.at (by assumption)) rfl ?_)
           | (refine At.ld (Blk.at (by assumption)) rfl ?_)
           | (refine IxA.mk (by omega) ?_)
           | (refine Sl.ln (Own.sl (by assumption)) ?_))
  conv => whnf
  refine VE.litI [1, 1, 1, 1, 1, 1, 1, 1, 1, 1] Try.underlying25 eInt (by decide) fun lv_0 w28 E28 HL_0 _ => ?_
  replace HL_0 := HL_0 0 (Nat.zero_le _)
  replace EE := EE.ext E28
  replace HM1 := HM1.ext E28
  replace HX1 := HX1.ext E28
  replace HMm := HMm.ext E28
  replace HMn := HMn.ext E28
  replace HG := HG.ext E28
  replace HMx := HMx.ext E28
  replace HMy := HMy.ext E28
  replace HZ := HZ.ext E28
  replace EL1 := EL1.ext E28
  replace HZb := HZb.ext E28
  replace HPp := HPp.ext E28
  replace HQq := HQq.ext E28
  replace HQr := HQr.ext E28
  replace H1 := H1.ext E28
  replace HSs := HSs.ext E28
  conv => whnf
  refine VE.litI [0, 0, 0, 0, 0, 0, 0, 0, 0, 0] Try.underlying25 eInt (by decide) fun lv_1 w29 E29 HL_1 _ => ?_
  replace HL_1 := HL_1 0 (Nat.zero_le _)
  replace EE := EE.ext E29
  replace HM1 := HM1.ext E29
  replace HX1 := HX1.ext E29
  replace HMm := HMm.ext E29
  replace HMn := HMn.ext E29
  replace HG := HG.ext E29
  replace HMx := HMx.ext E29
  replace HMy := HMy.ext E29
  replace HZ := HZ.ext E29
  replace EL1 := EL1.ext E29
  replace HZb := HZb.ext E29
  replace HPp := HPp.ext E29
  replace HQq := HQq.ext E29
  replace HQr := HQr.ext E29
  replace H1 := H1.ext E29
  replace HSs := HSs.ext E29
  replace HL_0 := HL_0.ext E29
  conv => whnf
  refine VE.litV [lv_0, lv_1] Try.underlying22 eRow (by intro v hv; simp at hv; rcases hv with rfl | rfl <;> first | exact (Sl.cells (Own.sl HL_0)).1 | exact (Sl.cells (Own.sl HL_1)).1) (by simp) fun lv w30 E30 HL _ => ?_
  replace EE := EE.ext E30
  replace HM1 := HM1.ext E30
  replace HX1 := HX1.ext E30
  replace HMm := HMm.ext E30
  replace HMn := HMn.ext E30
  replace HG := HG.ext E30
  replace HMx := HMx.ext E30
  replace HMy := HMy.ext E30
  replace HZ := HZ.ext E30
  replace EL1 := EL1.ext E30
  replace HZb := HZb.ext E30
  replace HPp := HPp.ext E30
  replace HQq := HQq.ext E30
  replace HQr := HQr.ext E30
  replace H1 := H1.ext E30
  replace HSs := HSs.ext E30
  replace HL_0 := HL_0.ext E30
  replace HL_1 := HL_1.ext E30
  replace HL : OM 0 w30 lv [lv_0, lv_1] [[1, 1, 1, 1, 1, 1, 1, 1, 1, 1], [0, 0, 0, 0, 0, 0, 0, 0, 0, 0]] := by
    refine ⟨HL _ (Nat.zero_le _), fun i hi => ?_⟩
    match i, hi with
    | 0, _ => exact HL_0
    | 1, _ => exact HL_1
  replace HL : OM 0 _ _ _ lgn := HL
  conv => whnf
  refine VS.field1 Try.underlying24 eGoods (by kernel_rfl) rfl (Sl.cells (Own.sl HL.top)).1 ?_
  have EE__2 := EE
  have HM1__2 := HM1
  have HX1__2 := HX1
  have HMm__2 := HMm
  have HMn__2 := HMn
  have HG__2 := HG
  have HMx__2 := HMx
  have HMy__2 := HMy
  have HZ__2 := HZ
  have EL1__2 := EL1
  have HZb__2 := HZb
  have HPp__2 := HPp
  have HQq__2 := HQq
  have HQr__2 := HQr
  have H1__2 := H1
  have HSs__2 := HSs
  have HL__2 := HL
  conv => whnf
  refine VE.alloc eGoods fun lb w31 E31 hb_lb HLb => ?_
  replace EE := EE.ext E31
  replace HM1 := HM1.ext E31
  replace HX1 := HX1.ext E31
  replace HMm := HMm.ext E31
  replace HMn := HMn.ext E31
  replace HG := HG.ext E31
  replace HMx := HMx.ext E31
  replace HMy := HMy.ext E31
  replace HZ := HZ.ext E31
  replace EL1 := EL1.ext E31
  replace HZb := HZb.ext E31
  replace HPp := HPp.ext E31
  replace HQq := HQq.ext E31
  replace HQr := HQr.ext E31
  replace H1 := H1.ext E31
  replace HSs := HSs.ext E31
  replace HL := HL.ext E31
  have EL2 := E31
  conv => whnf
  refine Blk.all HLb (by kernel_rfl) (by decide) rfl rfl (by intro v hv; simp at hv; subst hv; exact (Sl.cells (Own.sl HL.top)).2) fun w32 G32 HLb' => ?_
  have E32 : Ext w30 w32 := EL2.new G32 fun i hi hk => by omega
  replace HLb := HLb'.at
  replace EE := EE__2.ext E32
  replace HM1 := HM1__2.ext E32
  replace HX1 := HX1__2.ext E32
  replace HMm := HMm__2.ext E32
  replace HMn := HMn__2.ext E32
  replace HG := HG__2.ext E32
  replace HMx := HMx__2.ext E32
  replace HMy := HMy__2.ext E32
  replace HZ := HZ__2.ext E32
  replace EL1 := EL1__2.ext E32
  replace HZb := HZb__2.ext E32
  replace HPp := HPp__2.ext E32
  replace HQq := HQq__2.ext E32
  replace HQr := HQr__2.ext E32
  replace H1 := H1__2.ext E32
  replace HSs := HSs__2.ext E32
  replace HL := HL__2.ext E32
  replace EL2 := E32
  repeat' (conv => whnf
           first
           | (refine Dr.quiet tyOk (by kernel_rfl) ?_)
           | (refine Rng.mk (by omega) ?_)
           | (refine Split.pos (by omega) ?_)
           | (refine Split.neg (by omega) ?_)
           | (refine Split.mk (fun h => ?_) (fun h => ?_))
           | (refine Need.mk (by omega) ?_)
           | (refine Ints.ln (by assumption) ?_)
           | (refine Mat.ln (by assumption) ?_)
           | (refine Ints.ln (Mat.row (by assumption) _ (by omega)) ?_)
           | (refine Ints.ix (by assumption) (by omega) ?_)
           | (refine Mat.ix (by assumption) (by omega) ?_)
           | (refine Ints.ix (Mat.row (by assumption) _ (by omega)) (by omega) ?_)
           | (refine Ints.ix (c := 0) (by assumption) (by omega) ?_)
           | (refine Mat.ix (c := 0) (by assumption) (by omega) ?_)
           | (refine Ints.ix (c := 0) (Mat.row (by assumption) _ (by omega)) (by omega) ?_)
           | (refine Ints.ixI (by assumption) (by omega) ?_)
           | (refine Mat.ixI (by assumption) (by omega) ?_)
           | (refine Ints.ixI (Mat.row (by assumption) _ (by omega)) (by omega) ?_)
           | (refine Ints.ld (by assumption) (by omega) ?_)
           | (refine Mat.ld (by assumption) (by omega) ?_)
           | (refine Ints.ld (Mat.row (by assumption) _ (by omega)) (by omega) ?_)
           | (refine At.ld (by assumption) rfl ?_)
           | (refine At.ldN (by assumption) rfl ?_)
           | (refine Prs.ln (by assumption) ?_)
           | (refine Trs.ln (by assumption) ?_)
           | (refine Prs.ix (by assumption) (by omega) ?_)
           | (refine Trs.ix (by assumption) (by omega) ?_)
           | (refine Prs.ldN (by assumption) (by omega) ?_)
           | (refine Trs.ldN (by assumption) (by omega) ?_)
           | (refine At.ldN (Blk.at (by assumption)) rfl ?_)
           | (refine At.ld (Blk.at (by assumption)) rfl ?_)
           | (refine IxA.mk (by omega) ?_)
           | (refine Sl.ln (Own.sl (by assumption)) ?_))
  have v4 : vld lgn [1, 1, 1, 1, 1, 1, 1, 1, 1, 1] = 0 := (vld_eq _ _).trans (by decide +kernel)
  conv => whnf
  refine VE.litI [1, 1, 1, 1, 1, 1, 1, 1, 1, 1] Try.underlying25 eInt (by decide) fun l1 w33 E33 H1 _ => ?_
  replace H1 := H1 0 (Nat.zero_le _)
  replace EE := EE.ext E33
  replace HM1 := HM1.ext E33
  replace HX1 := HX1.ext E33
  replace HMm := HMm.ext E33
  replace HMn := HMn.ext E33
  replace HG := HG.ext E33
  replace HMx := HMx.ext E33
  replace HMy := HMy.ext E33
  replace HZ := HZ.ext E33
  replace EL1 := EL1.ext E33
  replace HZb := HZb.ext E33
  replace HPp := HPp.ext E33
  replace HQq := HQq.ext E33
  replace HQr := HQr.ext E33
  replace HSs := HSs.ext E33
  replace HL := HL.ext E33
  replace EL2 := EL2.ext E33
  replace HLb := HLb.ext E33
  conv => whnf
  refine VC.rc (nshare_rc HL.mat (Own.sl H1)) ?_
  rintro _ w34 E34 ⟨uv, tv, rfl, HTu, HTt⟩
  replace EE := EE.ext E34
  replace HM1 := HM1.ext E34
  replace HX1 := HX1.ext E34
  replace HMm := HMm.ext E34
  replace HMn := HMn.ext E34
  replace HG := HG.ext E34
  replace HMx := HMx.ext E34
  replace HMy := HMy.ext E34
  replace HZ := HZ.ext E34
  replace EL1 := EL1.ext E34
  replace HZb := HZb.ext E34
  replace HPp := HPp.ext E34
  replace HQq := HQq.ext E34
  replace HQr := HQr.ext E34
  replace HSs := HSs.ext E34
  replace HL := HL.ext E34
  replace EL2 := EL2.ext E34
  replace HLb := HLb.ext E34
  replace H1 := H1.ext E34
  rw [shX_g v4, show gRow (pX lgn [1, 1, 1, 1, 1, 1, 1, 1, 1, 1]) 0 lgn.length = [0] by decide +kernel] at HTt
  rw [v4]
  repeat' (conv => whnf
           first
           | (refine Dr.quiet tyOk (by kernel_rfl) ?_)
           | (refine VC.pure alive17_pc ?_)
           | (refine Rng.mk (by omega) ?_)
           | (refine Split.pos (by omega) ?_)
           | (refine Split.neg (by omega) ?_)
           | (refine Split.mk (fun h => ?_) (fun h => ?_))
           | (refine Need.mk (by omega) ?_)
           | (refine Ints.ln (by assumption) ?_)
           | (refine Mat.ln (by assumption) ?_)
           | (refine Ints.ln (Mat.row (by assumption) _ (by omega)) ?_)
           | (refine Ints.ix (by assumption) (by omega) ?_)
           | (refine Mat.ix (by assumption) (by omega) ?_)
           | (refine Ints.ix (Mat.row (by assumption) _ (by omega)) (by omega) ?_)
           | (refine Ints.ix (c := 0) (by assumption) (by omega) ?_)
           | (refine Mat.ix (c := 0) (by assumption) (by omega) ?_)
           | (refine Ints.ix (c := 0) (Mat.row (by assumption) _ (by omega)) (by omega) ?_)
           | (refine Ints.ixI (by assumption) (by omega) ?_)
           | (refine Mat.ixI (by assumption) (by omega) ?_)
           | (refine Ints.ixI (Mat.row (by assumption) _ (by omega)) (by omega) ?_)
           | (refine Ints.ld (by assumption) (by omega) ?_)
           | (refine Mat.ld (by assumption) (by omega) ?_)
           | (refine Ints.ld (Mat.row (by assumption) _ (by omega)) (by omega) ?_)
           | (refine At.ld (by assumption) rfl ?_)
           | (refine At.ldN (by assumption) rfl ?_)
           | (refine Prs.ln (by assumption) ?_)
           | (refine Trs.ln (by assumption) ?_)
           | (refine Prs.ix (by assumption) (by omega) ?_)
           | (refine Trs.ix (by assumption) (by omega) ?_)
           | (refine Prs.ldN (by assumption) (by omega) ?_)
           | (refine Trs.ldN (by assumption) (by omega) ?_)
           | (refine At.ldN (Blk.at (by assumption)) rfl ?_)
           | (refine At.ld (Blk.at (by assumption)) rfl ?_)
           | (refine IxA.mk (by omega) ?_)
           | (refine Sl.ln (Own.sl (by assumption)) ?_))
  conv => whnf
  refine VS.b3 Try.underlying74 eMark (by decide +kernel) ⟨rfl, rfl, rfl⟩ ?_
  conv => whnf
  refine VE.litA [[i64v 0, i64v (-1), i64v 0]] Try.underlying58 eMark (by decide) (by decide) (by decide) fun tt1 w35 E35 HT1 _ => ?_
  replace HT1 : OT 0 w35 tt1 [(0, -1, 0)] := HT1 0 (Nat.zero_le _)
  replace EE := EE.ext E35
  replace HM1 := HM1.ext E35
  replace HX1 := HX1.ext E35
  replace HMm := HMm.ext E35
  replace HMn := HMn.ext E35
  replace HG := HG.ext E35
  replace HMx := HMx.ext E35
  replace HMy := HMy.ext E35
  replace HZ := HZ.ext E35
  replace EL1 := EL1.ext E35
  replace HZb := HZb.ext E35
  replace HPp := HPp.ext E35
  replace HQq := HQq.ext E35
  replace HQr := HQr.ext E35
  replace HSs := HSs.ext E35
  replace HL := HL.ext E35
  replace EL2 := EL2.ext E35
  replace HLb := HLb.ext E35
  replace H1 := H1.ext E35
  replace HTu := HTu.ext E35
  replace HTt := HTt.ext E35
  have c1 := samem_pc (Own.sl HMm) (Own.sl HT1)
  rw [tf_t rfl] at c1
  conv => whnf
  refine VC.pure c1 ?_
  repeat' (conv => whnf
           first
           | (refine Dr.quiet tyOk (by kernel_rfl) ?_)
           | (refine Rng.mk (by omega) ?_)
           | (refine Split.pos (by omega) ?_)
           | (refine Split.neg (by omega) ?_)
           | (refine Split.mk (fun h => ?_) (fun h => ?_))
           | (refine Need.mk (by omega) ?_)
           | (refine Ints.ln (by assumption) ?_)
           | (refine Mat.ln (by assumption) ?_)
           | (refine Ints.ln (Mat.row (by assumption) _ (by omega)) ?_)
           | (refine Ints.ix (by assumption) (by omega) ?_)
           | (refine Mat.ix (by assumption) (by omega) ?_)
           | (refine Ints.ix (Mat.row (by assumption) _ (by omega)) (by omega) ?_)
           | (refine Ints.ix (c := 0) (by assumption) (by omega) ?_)
           | (refine Mat.ix (c := 0) (by assumption) (by omega) ?_)
           | (refine Ints.ix (c := 0) (Mat.row (by assumption) _ (by omega)) (by omega) ?_)
           | (refine Ints.ixI (by assumption) (by omega) ?_)
           | (refine Mat.ixI (by assumption) (by omega) ?_)
           | (refine Ints.ixI (Mat.row (by assumption) _ (by omega)) (by omega) ?_)
           | (refine Ints.ld (by assumption) (by omega) ?_)
           | (refine Mat.ld (by assumption) (by omega) ?_)
           | (refine Ints.ld (Mat.row (by assumption) _ (by omega)) (by omega) ?_)
           | (refine At.ld (by assumption) rfl ?_)
           | (refine At.ldN (by assumption) rfl ?_)
           | (refine Prs.ln (by assumption) ?_)
           | (refine Trs.ln (by assumption) ?_)
           | (refine Prs.ix (by assumption) (by omega) ?_)
           | (refine Trs.ix (by assumption) (by omega) ?_)
           | (refine Prs.ldN (by assumption) (by omega) ?_)
           | (refine Trs.ldN (by assumption) (by omega) ?_)
           | (refine At.ldN (Blk.at (by assumption)) rfl ?_)
           | (refine At.ld (Blk.at (by assumption)) rfl ?_)
           | (refine IxA.mk (by omega) ?_)
           | (refine Sl.ln (Own.sl (by assumption)) ?_))
  conv => whnf
  refine VE.litI [1] Try.underlying25 eInt (by decide) fun ti1 w36 E36 HI1 _ => ?_
  replace HI1 := HI1 0 (Nat.zero_le _)
  replace EE := EE.ext E36
  replace HM1 := HM1.ext E36
  replace HX1 := HX1.ext E36
  replace HMm := HMm.ext E36
  replace HMn := HMn.ext E36
  replace HG := HG.ext E36
  replace HMx := HMx.ext E36
  replace HMy := HMy.ext E36
  replace HZ := HZ.ext E36
  replace EL1 := EL1.ext E36
  replace HZb := HZb.ext E36
  replace HPp := HPp.ext E36
  replace HQq := HQq.ext E36
  replace HQr := HQr.ext E36
  replace HSs := HSs.ext E36
  replace HL := HL.ext E36
  replace EL2 := EL2.ext E36
  replace HLb := HLb.ext E36
  replace H1 := H1.ext E36
  replace HTu := HTu.ext E36
  replace HTt := HTt.ext E36
  replace HT1 := HT1.ext E36
  have c2 := same_pc (Own.sl HMn) (Own.sl HI1)
  rw [tf_t rfl] at c2
  conv => whnf
  refine VC.pure c2 ?_
  repeat' (conv => whnf
           first
           | (refine Dr.quiet tyOk (by kernel_rfl) ?_)
           | (refine Split.pos rfl ?_)
           | (refine Rng.mk (by omega) ?_)
           | (refine Split.pos (by omega) ?_)
           | (refine Split.neg (by omega) ?_)
           | (refine Split.mk (fun h => ?_) (fun h => ?_))
           | (refine Need.mk (by omega) ?_)
           | (refine Ints.ln (by assumption) ?_)
           | (refine Mat.ln (by assumption) ?_)
           | (refine Ints.ln (Mat.row (by assumption) _ (by omega)) ?_)
           | (refine Ints.ix (by assumption) (by omega) ?_)
           | (refine Mat.ix (by assumption) (by omega) ?_)
           | (refine Ints.ix (Mat.row (by assumption) _ (by omega)) (by omega) ?_)
           | (refine Ints.ix (c := 0) (by assumption) (by omega) ?_)
           | (refine Mat.ix (c := 0) (by assumption) (by omega) ?_)
           | (refine Ints.ix (c := 0) (Mat.row (by assumption) _ (by omega)) (by omega) ?_)
           | (refine Ints.ixI (by assumption) (by omega) ?_)
           | (refine Mat.ixI (by assumption) (by omega) ?_)
           | (refine Ints.ixI (Mat.row (by assumption) _ (by omega)) (by omega) ?_)
           | (refine Ints.ld (by assumption) (by omega) ?_)
           | (refine Mat.ld (by assumption) (by omega) ?_)
           | (refine Ints.ld (Mat.row (by assumption) _ (by omega)) (by omega) ?_)
           | (refine At.ld (by assumption) rfl ?_)
           | (refine At.ldN (by assumption) rfl ?_)
           | (refine Prs.ln (by assumption) ?_)
           | (refine Trs.ln (by assumption) ?_)
           | (refine Prs.ix (by assumption) (by omega) ?_)
           | (refine Trs.ix (by assumption) (by omega) ?_)
           | (refine Prs.ldN (by assumption) (by omega) ?_)
           | (refine Trs.ldN (by assumption) (by omega) ?_)
           | (refine At.ldN (Blk.at (by assumption)) rfl ?_)
           | (refine At.ld (Blk.at (by assumption)) rfl ?_)
           | (refine IxA.mk (by omega) ?_)
           | (refine Sl.ln (Own.sl (by assumption)) ?_))
  conv => whnf
  refine VS.b3 Try.underlying74 eMark (by decide +kernel) ⟨rfl, rfl, rfl⟩ ?_
  conv => whnf
  refine VE.litA [[i64v 0, i64v 1, i64v 0]] Try.underlying58 eMark (by decide) (by decide) (by decide) fun tt2 w37 E37 HT2 _ => ?_
  replace HT2 : OT 0 w37 tt2 [(0, 1, 0)] := HT2 0 (Nat.zero_le _)
  replace EE := EE.ext E37
  replace HM1 := HM1.ext E37
  replace HX1 := HX1.ext E37
  replace HMm := HMm.ext E37
  replace HMn := HMn.ext E37
  replace HG := HG.ext E37
  replace HMx := HMx.ext E37
  replace HMy := HMy.ext E37
  replace HZ := HZ.ext E37
  replace EL1 := EL1.ext E37
  replace HZb := HZb.ext E37
  replace HPp := HPp.ext E37
  replace HQq := HQq.ext E37
  replace HQr := HQr.ext E37
  replace HSs := HSs.ext E37
  replace HL := HL.ext E37
  replace EL2 := EL2.ext E37
  replace HLb := HLb.ext E37
  replace H1 := H1.ext E37
  replace HTu := HTu.ext E37
  replace HTt := HTt.ext E37
  replace HT1 := HT1.ext E37
  replace HI1 := HI1.ext E37
  have c3 := samem_pc (Own.sl HPp) (Own.sl HT2)
  rw [tf_t rfl] at c3
  conv => whnf
  refine VC.pure c3 ?_
  repeat' (conv => whnf
           first
           | (refine Dr.quiet tyOk (by kernel_rfl) ?_)
           | (refine Rng.mk (by omega) ?_)
           | (refine Split.pos (by omega) ?_)
           | (refine Split.neg (by omega) ?_)
           | (refine Split.mk (fun h => ?_) (fun h => ?_))
           | (refine Need.mk (by omega) ?_)
           | (refine Ints.ln (by assumption) ?_)
           | (refine Mat.ln (by assumption) ?_)
           | (refine Ints.ln (Mat.row (by assumption) _ (by omega)) ?_)
           | (refine Ints.ix (by assumption) (by omega) ?_)
           | (refine Mat.ix (by assumption) (by omega) ?_)
           | (refine Ints.ix (Mat.row (by assumption) _ (by omega)) (by omega) ?_)
           | (refine Ints.ix (c := 0) (by assumption) (by omega) ?_)
           | (refine Mat.ix (c := 0) (by assumption) (by omega) ?_)
           | (refine Ints.ix (c := 0) (Mat.row (by assumption) _ (by omega)) (by omega) ?_)
           | (refine Ints.ixI (by assumption) (by omega) ?_)
           | (refine Mat.ixI (by assumption) (by omega) ?_)
           | (refine Ints.ixI (Mat.row (by assumption) _ (by omega)) (by omega) ?_)
           | (refine Ints.ld (by assumption) (by omega) ?_)
           | (refine Mat.ld (by assumption) (by omega) ?_)
           | (refine Ints.ld (Mat.row (by assumption) _ (by omega)) (by omega) ?_)
           | (refine At.ld (by assumption) rfl ?_)
           | (refine At.ldN (by assumption) rfl ?_)
           | (refine Prs.ln (by assumption) ?_)
           | (refine Trs.ln (by assumption) ?_)
           | (refine Prs.ix (by assumption) (by omega) ?_)
           | (refine Trs.ix (by assumption) (by omega) ?_)
           | (refine Prs.ldN (by assumption) (by omega) ?_)
           | (refine Trs.ldN (by assumption) (by omega) ?_)
           | (refine At.ldN (Blk.at (by assumption)) rfl ?_)
           | (refine At.ld (Blk.at (by assumption)) rfl ?_)
           | (refine IxA.mk (by omega) ?_)
           | (refine Sl.ln (Own.sl (by assumption)) ?_))
  conv => whnf
  refine VS.b3 Try.underlying74 eMark (by decide +kernel) ⟨rfl, rfl, rfl⟩ ?_
  conv => whnf
  refine VE.litA [[i64v 0, i64v 1, i64v 1]] Try.underlying58 eMark (by decide) (by decide) (by decide) fun tt3 w38 E38 HT3 _ => ?_
  replace HT3 : OT 0 w38 tt3 [(0, 1, 1)] := HT3 0 (Nat.zero_le _)
  replace EE := EE.ext E38
  replace HM1 := HM1.ext E38
  replace HX1 := HX1.ext E38
  replace HMm := HMm.ext E38
  replace HMn := HMn.ext E38
  replace HG := HG.ext E38
  replace HMx := HMx.ext E38
  replace HMy := HMy.ext E38
  replace HZ := HZ.ext E38
  replace EL1 := EL1.ext E38
  replace HZb := HZb.ext E38
  replace HPp := HPp.ext E38
  replace HQq := HQq.ext E38
  replace HQr := HQr.ext E38
  replace HSs := HSs.ext E38
  replace HL := HL.ext E38
  replace EL2 := EL2.ext E38
  replace HLb := HLb.ext E38
  replace H1 := H1.ext E38
  replace HTu := HTu.ext E38
  replace HTt := HTt.ext E38
  replace HT1 := HT1.ext E38
  replace HI1 := HI1.ext E38
  replace HT2 := HT2.ext E38
  have c4 := samem_pc (Own.sl HQq) (Own.sl HT3)
  rw [tf_t rfl] at c4
  conv => whnf
  refine VC.pure c4 ?_
  repeat' (conv => whnf
           first
           | (refine Dr.quiet tyOk (by kernel_rfl) ?_)
           | (refine Split.pos rfl ?_)
           | (refine Rng.mk (by omega) ?_)
           | (refine Split.pos (by omega) ?_)
           | (refine Split.neg (by omega) ?_)
           | (refine Split.mk (fun h => ?_) (fun h => ?_))
           | (refine Need.mk (by omega) ?_)
           | (refine Ints.ln (by assumption) ?_)
           | (refine Mat.ln (by assumption) ?_)
           | (refine Ints.ln (Mat.row (by assumption) _ (by omega)) ?_)
           | (refine Ints.ix (by assumption) (by omega) ?_)
           | (refine Mat.ix (by assumption) (by omega) ?_)
           | (refine Ints.ix (Mat.row (by assumption) _ (by omega)) (by omega) ?_)
           | (refine Ints.ix (c := 0) (by assumption) (by omega) ?_)
           | (refine Mat.ix (c := 0) (by assumption) (by omega) ?_)
           | (refine Ints.ix (c := 0) (Mat.row (by assumption) _ (by omega)) (by omega) ?_)
           | (refine Ints.ixI (by assumption) (by omega) ?_)
           | (refine Mat.ixI (by assumption) (by omega) ?_)
           | (refine Ints.ixI (Mat.row (by assumption) _ (by omega)) (by omega) ?_)
           | (refine Ints.ld (by assumption) (by omega) ?_)
           | (refine Mat.ld (by assumption) (by omega) ?_)
           | (refine Ints.ld (Mat.row (by assumption) _ (by omega)) (by omega) ?_)
           | (refine At.ld (by assumption) rfl ?_)
           | (refine At.ldN (by assumption) rfl ?_)
           | (refine Prs.ln (by assumption) ?_)
           | (refine Trs.ln (by assumption) ?_)
           | (refine Prs.ix (by assumption) (by omega) ?_)
           | (refine Trs.ix (by assumption) (by omega) ?_)
           | (refine Prs.ldN (by assumption) (by omega) ?_)
           | (refine Trs.ldN (by assumption) (by omega) ?_)
           | (refine At.ldN (Blk.at (by assumption)) rfl ?_)
           | (refine At.ld (Blk.at (by assumption)) rfl ?_)
           | (refine IxA.mk (by omega) ?_)
           | (refine Sl.ln (Own.sl (by assumption)) ?_))
  conv => whnf
  refine VE.litI [0] Try.underlying25 eInt (by decide) fun ti2 w39 E39 HI2 _ => ?_
  replace HI2 := HI2 0 (Nat.zero_le _)
  replace EE := EE.ext E39
  replace HM1 := HM1.ext E39
  replace HX1 := HX1.ext E39
  replace HMm := HMm.ext E39
  replace HMn := HMn.ext E39
  replace HG := HG.ext E39
  replace HMx := HMx.ext E39
  replace HMy := HMy.ext E39
  replace HZ := HZ.ext E39
  replace EL1 := EL1.ext E39
  replace HZb := HZb.ext E39
  replace HPp := HPp.ext E39
  replace HQq := HQq.ext E39
  replace HQr := HQr.ext E39
  replace HSs := HSs.ext E39
  replace HL := HL.ext E39
  replace EL2 := EL2.ext E39
  replace HLb := HLb.ext E39
  replace H1 := H1.ext E39
  replace HTu := HTu.ext E39
  replace HTt := HTt.ext E39
  replace HT1 := HT1.ext E39
  replace HI1 := HI1.ext E39
  replace HT2 := HT2.ext E39
  replace HT3 := HT3.ext E39
  have c5 := same_pc (Own.sl HTt) (Own.sl HI2)
  rw [tf_t rfl] at c5
  conv => whnf
  refine VC.pure c5 ?_
  repeat' (conv => whnf
           first
           | (refine Dr.quiet tyOk (by kernel_rfl) ?_)
           | (refine Rng.mk (by omega) ?_)
           | (refine Split.pos (by omega) ?_)
           | (refine Split.neg (by omega) ?_)
           | (refine Split.mk (fun h => ?_) (fun h => ?_))
           | (refine Need.mk (by omega) ?_)
           | (refine Ints.ln (by assumption) ?_)
           | (refine Mat.ln (by assumption) ?_)
           | (refine Ints.ln (Mat.row (by assumption) _ (by omega)) ?_)
           | (refine Ints.ix (by assumption) (by omega) ?_)
           | (refine Mat.ix (by assumption) (by omega) ?_)
           | (refine Ints.ix (Mat.row (by assumption) _ (by omega)) (by omega) ?_)
           | (refine Ints.ix (c := 0) (by assumption) (by omega) ?_)
           | (refine Mat.ix (c := 0) (by assumption) (by omega) ?_)
           | (refine Ints.ix (c := 0) (Mat.row (by assumption) _ (by omega)) (by omega) ?_)
           | (refine Ints.ixI (by assumption) (by omega) ?_)
           | (refine Mat.ixI (by assumption) (by omega) ?_)
           | (refine Ints.ixI (Mat.row (by assumption) _ (by omega)) (by omega) ?_)
           | (refine Ints.ld (by assumption) (by omega) ?_)
           | (refine Mat.ld (by assumption) (by omega) ?_)
           | (refine Ints.ld (Mat.row (by assumption) _ (by omega)) (by omega) ?_)
           | (refine At.ld (by assumption) rfl ?_)
           | (refine At.ldN (by assumption) rfl ?_)
           | (refine Prs.ln (by assumption) ?_)
           | (refine Trs.ln (by assumption) ?_)
           | (refine Prs.ix (by assumption) (by omega) ?_)
           | (refine Trs.ix (by assumption) (by omega) ?_)
           | (refine Prs.ldN (by assumption) (by omega) ?_)
           | (refine Trs.ldN (by assumption) (by omega) ?_)
           | (refine At.ldN (Blk.at (by assumption)) rfl ?_)
           | (refine At.ld (Blk.at (by assumption)) rfl ?_)
           | (refine IxA.mk (by omega) ?_)
           | (refine Sl.ln (Own.sl (by assumption)) ?_))
  exact ⟨rfl, EE⟩

open Go.ChangeShapes Go.WideShapes Go.ChangeAt Go.RowKit Go.Eng in
theorem nearNames_lifted (os : Os) (started : os.Started) (H : Type) (enc : TypeId × Value → H) :
    ReturnsInHanded {} Try.checked os 8 .any (Rows.nearNamesSpec.pre6 enc Try.prog Try.f8 Rows.nearNamesRow.domain false) (Rows.nearNamesSpec.post enc Try.prog Try.f8 false true false false) := by
  refine returnsInHanded_of_change (C := Try.checked) own started (by kernel_rfl) Try.func8
    (ChangeSpec.witness6 (enc := enc) (C := Try.checked) false ⟨#[], #[], []⟩ 8 (by kernel_rfl) (by kernel_rfl) (by kernel_rfl) (by kernel_rfl)) ?_
  intro W base args ds gs before hval0 hW hcnd _
  have hval : ∀ (j : Nat) t v, Try.f8.params[j]? = some t → args[j]? = some v → Value.okWide Try.prog W .any base t v := hval0
  have hW' := hW
  obtain ⟨p, q, hA0, hV, e0, hfz, hnd⟩ := hW
  have hA : DataW.TrodAll enc Try.prog W 0 (fun _ => true) true Try.f8.params.toList args.toList ds p := hA0
  rw [Try.params8] at hA hval
  clear hfz hnd hV e0 hval0
  obtain ⟨ee, rfl, _⟩ := trodAll_nil hA
  obtain rfl : args = #[] := Array.toList_inj.1 (by simpa using ee)
  exact law_calls laidOut (by rw [Try.params8]; intro t ht; revert t; decide +kernel) rfl Try.underlying4 rfl ⟨rfl, rfl, rfl⟩ hW' (nnames_pc)

theorem nearNames_holds : Rows.NearNamesSaid :=
  OpenClaim.holds_of_wide 8 Try.f8 rfl rfl rfl rfl rfl rfl rfl ⟨rfl, rfl, rfl, rfl, rfl⟩ rfl rfl rfl rfl rfl (by kernel_rfl) Try.func8 (by kernel_rfl)
    (of_decide_eq_true (by kernel_rfl)) (by unfold Func.isWrapper; first | (rw [if_pos (by decide +kernel)]; kernel_rfl) | (rw [if_neg (by decide +kernel)]; exact ⟨rfl, rfl⟩))
    (fun os started H enc _ => nearNames_lifted os started H enc)
end Go.Proofs.Ytiahjkhfkbcjhaa
