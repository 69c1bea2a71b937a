/- The statement BetterNames. -/
import Derived.Test.YtebklnmafjbhcaaJ6
import Derived.Test.YtebklnmafjbhcaaRows
set_option linter.unusedVariables false
set_option linter.unusedSimpArgs false
namespace Go.Proofs.Ytebklnmafjbhcaa
open Go.Eng
set_option maxRecDepth 100000
set_option maxHeartbeats 4000000

theorem is_bad1 {w : World} {gv av bv : Value} {vs : List Value} {rr : List (List Int)} {a b : List Int} {e : Int} (Hg : Mat w gv vs rr) (Ha : Ints w av a) (Hb : Ints w bv b) (h : vld rr a = e) (he : e ≠ 0) : PC Try.prog 16 [.agg #[gv], av, bv] w (.tuple #[.bool false, .int .i64 e]) := by
  have := is_pc Hg Ha Hb
  rw [if_neg (fun h2 => he (h ▸ h2.1)), if_neg (fun h2 => he (h ▸ h2)), h] at this
  exact this
theorem is_bad2 {w : World} {gv av bv : Value} {vs : List Value} {rr : List (List Int)} {a b : List Int} {e : Int} (Hg : Mat w gv vs rr) (Ha : Ints w av a) (Hb : Ints w bv b) (h0 : vld rr a = 0) (h : vld rr b = e) (he : e ≠ 0) : PC Try.prog 16 [.agg #[gv], av, bv] w (.tuple #[.bool false, .int .i64 e]) := by
  have := is_pc Hg Ha Hb
  rw [if_neg (fun h2 => he (h ▸ h2.2)), if_pos h0, h] at this
  exact this
theorem is_ok {w : World} {gv av bv : Value} {vs : List Value} {rr : List (List Int)} {a b : List Int} (Hg : Mat w gv vs rr) (Ha : Ints w av a) (Hb : Ints w bv b) (h0 : vld rr a = 0) (h : vld rr b = 0) : PC Try.prog 16 [.agg #[gv], av, bv] w (.tuple #[.bool (ablB (ownV rr a) (ownV rr b)), .int .i64 0]) := by
  have := is_pc Hg Ha Hb
  rw [if_pos ⟨h0, h⟩, if_pos h0, h] at this
  have e : tf (abv rr a b) = ablB (ownV rr a) (ownV rr b) := by
    by_cases hh : abv rr a b
    · rw [tf_t hh, ablB_own.2 hh]
    · rw [tf_f hh]
      cases hb : ablB (ownV rr a) (ownV rr b) with
      | false => rfl
      | true => exact absurd (ablB_own.1 hb) hh
  rw [e] at this
  exact this
theorem prB_bad {rr : List (List Int)} {a l : List Int} (h1 : vld rr a = 0) (h : ¬ (compl a ∧ wtd l rr.length)) : prB rr a l = false ∧ prE rr a l = 8 := by
  unfold prB prE
  rw [if_neg (fun h2 => h h2.2), if_pos h1, if_neg h]; exact ⟨rfl, rfl⟩
def bign : List (List Int) := [List.replicate 10 0, List.replicate 10 0, List.replicate 10 0]
def topn : List (List Int) := [[1000], [1000]]

theorem bnames_pc {w : World} : PC Try.prog 10 [] w (.bool true) := by
  refine PC.mk tyOk Try.func10 rfl (by kernel_rfl) fun w1 E1 => ?_
  have EE := Ext.refl w1
  have z0 : ∀ w, Mat w (.slice none 0 0) [] [] := fun w => (OM.nil (B := 0)).mat
  have i0 : ∀ w, Ints w (.slice none 0 0) [] := fun w => Own.sl (B := 0) (e := 3) Own.nil
  have v1 : vld gvn [0, 1, 1] = 0 := gvn_vld (by decide) (by decide) (by decide)
  have v2 : vld gvn [1, 1, 0] = 0 := gvn_vld (by decide) (by decide) (by decide)
  have v3 : vld gvn [0, 1, -1] = 0 := gvn_vld (by decide) (by decide) (by decide)
  have b1 : vld gvn [0] = 8 := (vld_eq _ _).trans (by decide +kernel)
  have b2 : vld gvn [0, 1, 2] = 8 := (vld_eq _ _).trans (by decide +kernel)
  have b3 : vld [] [] = 8 := (vld_eq _ _).trans (by decide +kernel)
  have k1 : lkE gvn [0, 1, 1] = 0 := gvn_lk (by decide) (by decide) (by decide)
  have k2 : lkE gvn [-1, -1, -1] = 0 := gvn_lk (by decide) (by decide) (by decide)
  have k3 : lkE gvn [-1, 1, 1] = 0 := gvn_lk (by decide) (by decide) (by decide)
  have k4 : lkE gvn [0, 1, 2] = 8 := (lkE_vld (by rw [b2]; decide)).trans b2
  have k5 : lkE [] [] = 8 := (lkE_vld (by rw [b3]; decide)).trans b3
  have cm1 : compl [0, 1, 1] := by unfold compl; decide
  repeat' (conv => whnf
           first
           | (refine Dr.quiet tyOk (by kernel_rfl) ?_)
           | (refine Rng.mk (by omega) ?_)
           | (refine Split.pos (by omega) ?_)
           | (refine Split.neg (by omega) ?_)
           | (refine Split.mk (fun h => ?_) (fun h => ?_))
           | (refine Need.mk (by omega) ?_)
           | (refine Ints.ln (by assumption) ?_)
           | (refine Mat.ln (by assumption) ?_)
           | (refine Ints.ln (Mat.row (by assumption) _ (by omega)) ?_)
           | (refine Ints.ix (by assumption) (by omega) ?_)
           | (refine Mat.ix (by assumption) (by omega) ?_)
           | (refine Ints.ix (Mat.row (by assumption) _ (by omega)) (by omega) ?_)
           | (refine Ints.ix (c := 0) (by assumption) (by omega) ?_)
           | (refine Mat.ix (c := 0) (by assumption) (by omega) ?_)
           | (refine Ints.ix (c := 0) (Mat.row (by assumption) _ (by omega)) (by omega) ?_)
           | (refine Ints.ixI (by assumption) (by omega) ?_)
           | (refine Mat.ixI (by assumption) (by omega) ?_)
           | (refine Ints.ixI (Mat.row (by assumption) _ (by omega)) (by omega) ?_)
           | (refine Ints.ld (by assumption) (by omega) ?_)
           | (refine Mat.ld (by assumption) (by omega) ?_)
           | (refine Ints.ld (Mat.row (by assumption) _ (by omega)) (by omega) ?_)
           | (refine At.ld (by assumption) rfl ?_)
           | (refine At.ldN (by assumption) rfl ?_)
           | (refine Prs.ln (by assumption) ?_)
           | (refine Trs.ln (by assumption) ?_)
           | (refine Prs.ix (by assumption) (by omega) ?_)
           | (refine Trs.ix (by assumption) (by omega) ?_)
           | (refine Prs.ldN (by assumption) (by omega) ?_)
           | (refine Trs.ldN (by assumption) (by omega) ?_)
           | (refine At.ldN (Blk.at (by assumption)) rfl ?_)
           | (refine At.ld (Blk.at (by assumption)) rfl ?_)
           | (refine IxA.mk (by omega) ?_)
           | (refine Sl.ln (Own.sl (by assumption)) ?_)
           | (refine Ints.ix (Own.sl (by assumption)) (by omega) ?_)
           | (refine Ints.ixI (Own.sl (by assumption)) (by omega) ?_)
           | (refine Ints.ld (Own.sl (by assumption)) (by omega) ?_))
  conv => whnf
  refine VE.litI [0, 1, 1] Try.underlying25 eInt (by decide) fun al w2 E2 HA _ => ?_
  replace HA := HA 0 (Nat.zero_le _)
  replace EE := EE.ext E2
  repeat' (conv => whnf
           first
           | (refine Dr.quiet tyOk (by kernel_rfl) ?_)
           | (refine Rng.mk (by omega) ?_)
           | (refine Split.pos (by omega) ?_)
           | (refine Split.neg (by omega) ?_)
           | (refine Split.mk (fun h => ?_) (fun h => ?_))
           | (refine Need.mk (by omega) ?_)
           | (refine Ints.ln (by assumption) ?_)
           | (refine Mat.ln (by assumption) ?_)
           | (refine Ints.ln (Mat.row (by assumption) _ (by omega)) ?_)
           | (refine Ints.ix (by assumption) (by omega) ?_)
           | (refine Mat.ix (by assumption) (by omega) ?_)
           | (refine Ints.ix (Mat.row (by assumption) _ (by omega)) (by omega) ?_)
           | (refine Ints.ix (c := 0) (by assumption) (by omega) ?_)
           | (refine Mat.ix (c := 0) (by assumption) (by omega) ?_)
           | (refine Ints.ix (c := 0) (Mat.row (by assumption) _ (by omega)) (by omega) ?_)
           | (refine Ints.ixI (by assumption) (by omega) ?_)
           | (refine Mat.ixI (by assumption) (by omega) ?_)
           | (refine Ints.ixI (Mat.row (by assumption) _ (by omega)) (by omega) ?_)
           | (refine Ints.ld (by assumption) (by omega) ?_)
           | (refine Mat.ld (by assumption) (by omega) ?_)
           | (refine Ints.ld (Mat.row (by assumption) _ (by omega)) (by omega) ?_)
           | (refine At.ld (by assumption) rfl ?_)
           | (refine At.ldN (by assumption) rfl ?_)
           | (refine Prs.ln (by assumption) ?_)
           | (refine Trs.ln (by assumption) ?_)
           | (refine Prs.ix (by assumption) (by omega) ?_)
           | (refine Trs.ix (by assumption) (by omega) ?_)
           | (refine Prs.ldN (by assumption) (by omega) ?_)
           | (refine Trs.ldN (by assumption) (by omega) ?_)
           | (refine At.ldN (Blk.at (by assumption)) rfl ?_)
           | (refine At.ld (Blk.at (by assumption)) rfl ?_)
           | (refine IxA.mk (by omega) ?_)
           | (refine Sl.ln (Own.sl (by assumption)) ?_)
           | (refine Ints.ix (Own.sl (by assumption)) (by omega) ?_)
           | (refine Ints.ixI (Own.sl (by assumption)) (by omega) ?_)
           | (refine Ints.ld (Own.sl (by assumption)) (by omega) ?_))
  conv => whnf
  refine VC.rc (given22_rc) ?_
  rintro _ w3 E3 ⟨g1, _, rfl, HG⟩
  replace EE := EE.ext E3
  replace HA := HA.ext E3
  conv => whnf
  refine VE.litI [0] Try.underlying25 eInt (by decide) fun l1 w4 E4 H1 _ => ?_
  replace H1 := H1 0 (Nat.zero_le _)
  replace EE := EE.ext E4
  replace HA := HA.ext E4
  replace HG := HG.ext E4
  have cc := is_bad1 HG.mat (Own.sl H1) (Own.sl HA) b1 (by decide)
  conv => whnf
  refine VC.pure cc ?_
  repeat' (conv => whnf
           first
           | (refine Dr.quiet tyOk (by kernel_rfl) ?_)
           | (refine Rng.mk (by omega) ?_)
           | (refine Split.pos (by omega) ?_)
           | (refine Split.neg (by omega) ?_)
           | (refine Split.mk (fun h => ?_) (fun h => ?_))
           | (refine Need.mk (by omega) ?_)
           | (refine Ints.ln (by assumption) ?_)
           | (refine Mat.ln (by assumption) ?_)
           | (refine Ints.ln (Mat.row (by assumption) _ (by omega)) ?_)
           | (refine Ints.ix (by assumption) (by omega) ?_)
           | (refine Mat.ix (by assumption) (by omega) ?_)
           | (refine Ints.ix (Mat.row (by assumption) _ (by omega)) (by omega) ?_)
           | (refine Ints.ix (c := 0) (by assumption) (by omega) ?_)
           | (refine Mat.ix (c := 0) (by assumption) (by omega) ?_)
           | (refine Ints.ix (c := 0) (Mat.row (by assumption) _ (by omega)) (by omega) ?_)
           | (refine Ints.ixI (by assumption) (by omega) ?_)
           | (refine Mat.ixI (by assumption) (by omega) ?_)
           | (refine Ints.ixI (Mat.row (by assumption) _ (by omega)) (by omega) ?_)
           | (refine Ints.ld (by assumption) (by omega) ?_)
           | (refine Mat.ld (by assumption) (by omega) ?_)
           | (refine Ints.ld (Mat.row (by assumption) _ (by omega)) (by omega) ?_)
           | (refine At.ld (by assumption) rfl ?_)
           | (refine At.ldN (by assumption) rfl ?_)
           | (refine Prs.ln (by assumption) ?_)
           | (refine Trs.ln (by assumption) ?_)
           | (refine Prs.ix (by assumption) (by omega) ?_)
           | (refine Trs.ix (by assumption) (by omega) ?_)
           | (refine Prs.ldN (by assumption) (by omega) ?_)
           | (refine Trs.ldN (by assumption) (by omega) ?_)
           | (refine At.ldN (Blk.at (by assumption)) rfl ?_)
           | (refine At.ld (Blk.at (by assumption)) rfl ?_)
           | (refine IxA.mk (by omega) ?_)
           | (refine Sl.ln (Own.sl (by assumption)) ?_)
           | (refine Ints.ix (Own.sl (by assumption)) (by omega) ?_)
           | (refine Ints.ixI (Own.sl (by assumption)) (by omega) ?_)
           | (refine Ints.ld (Own.sl (by assumption)) (by omega) ?_))
  conv => whnf
  refine VC.rc (given22_rc) ?_
  rintro _ w5 E5 ⟨g1, _, rfl, HG⟩
  replace EE := EE.ext E5
  replace HA := HA.ext E5
  replace H1 := H1.ext E5
  conv => whnf
  refine VE.litI [0, 1, 2] Try.underlying25 eInt (by decide) fun l1 w6 E6 H1 _ => ?_
  replace H1 := H1 0 (Nat.zero_le _)
  replace EE := EE.ext E6
  replace HA := HA.ext E6
  replace HG := HG.ext E6
  have cc := is_bad2 HG.mat (Own.sl HA) (Own.sl H1) v1 b2 (by decide)
  conv => whnf
  refine VC.pure cc ?_
  repeat' (conv => whnf
           first
           | (refine Dr.quiet tyOk (by kernel_rfl) ?_)
           | (refine Rng.mk (by omega) ?_)
           | (refine Split.pos (by omega) ?_)
           | (refine Split.neg (by omega) ?_)
           | (refine Split.mk (fun h => ?_) (fun h => ?_))
           | (refine Need.mk (by omega) ?_)
           | (refine Ints.ln (by assumption) ?_)
           | (refine Mat.ln (by assumption) ?_)
           | (refine Ints.ln (Mat.row (by assumption) _ (by omega)) ?_)
           | (refine Ints.ix (by assumption) (by omega) ?_)
           | (refine Mat.ix (by assumption) (by omega) ?_)
           | (refine Ints.ix (Mat.row (by assumption) _ (by omega)) (by omega) ?_)
           | (refine Ints.ix (c := 0) (by assumption) (by omega) ?_)
           | (refine Mat.ix (c := 0) (by assumption) (by omega) ?_)
           | (refine Ints.ix (c := 0) (Mat.row (by assumption) _ (by omega)) (by omega) ?_)
           | (refine Ints.ixI (by assumption) (by omega) ?_)
           | (refine Mat.ixI (by assumption) (by omega) ?_)
           | (refine Ints.ixI (Mat.row (by assumption) _ (by omega)) (by omega) ?_)
           | (refine Ints.ld (by assumption) (by omega) ?_)
           | (refine Mat.ld (by assumption) (by omega) ?_)
           | (refine Ints.ld (Mat.row (by assumption) _ (by omega)) (by omega) ?_)
           | (refine At.ld (by assumption) rfl ?_)
           | (refine At.ldN (by assumption) rfl ?_)
           | (refine Prs.ln (by assumption) ?_)
           | (refine Trs.ln (by assumption) ?_)
           | (refine Prs.ix (by assumption) (by omega) ?_)
           | (refine Trs.ix (by assumption) (by omega) ?_)
           | (refine Prs.ldN (by assumption) (by omega) ?_)
           | (refine Trs.ldN (by assumption) (by omega) ?_)
           | (refine At.ldN (Blk.at (by assumption)) rfl ?_)
           | (refine At.ld (Blk.at (by assumption)) rfl ?_)
           | (refine IxA.mk (by omega) ?_)
           | (refine Sl.ln (Own.sl (by assumption)) ?_)
           | (refine Ints.ix (Own.sl (by assumption)) (by omega) ?_)
           | (refine Ints.ixI (Own.sl (by assumption)) (by omega) ?_)
           | (refine Ints.ld (Own.sl (by assumption)) (by omega) ?_))
  conv => whnf
  refine VS.sparse (ps := []) Try.underlying24 eGoods (by decide +kernel) rfl (by simp) rfl ?_
  conv => whnf
  refine VC.rc (gfind_rc (z0 _) (i0 _)) ?_
  rintro _ w7 E7 ⟨xv, rfl, HX⟩
  replace EE := EE.ext E7
  replace HA := HA.ext E7
  replace HG := HG.ext E7
  replace H1 := H1.ext E7
  rw [(fd_err (rr := []) (a := []) (by rw [k5]; decide)).1, k5]
  repeat' (conv => whnf
           first
           | (refine Dr.quiet tyOk (by kernel_rfl) ?_)
           | (refine Rng.mk (by omega) ?_)
           | (refine Split.pos (by omega) ?_)
           | (refine Split.neg (by omega) ?_)
           | (refine Split.mk (fun h => ?_) (fun h => ?_))
           | (refine Need.mk (by omega) ?_)
           | (refine Ints.ln (by assumption) ?_)
           | (refine Mat.ln (by assumption) ?_)
           | (refine Ints.ln (Mat.row (by assumption) _ (by omega)) ?_)
           | (refine Ints.ix (by assumption) (by omega) ?_)
           | (refine Mat.ix (by assumption) (by omega) ?_)
           | (refine Ints.ix (Mat.row (by assumption) _ (by omega)) (by omega) ?_)
           | (refine Ints.ix (c := 0) (by assumption) (by omega) ?_)
           | (refine Mat.ix (c := 0) (by assumption) (by omega) ?_)
           | (refine Ints.ix (c := 0) (Mat.row (by assumption) _ (by omega)) (by omega) ?_)
           | (refine Ints.ixI (by assumption) (by omega) ?_)
           | (refine Mat.ixI (by assumption) (by omega) ?_)
           | (refine Ints.ixI (Mat.row (by assumption) _ (by omega)) (by omega) ?_)
           | (refine Ints.ld (by assumption) (by omega) ?_)
           | (refine Mat.ld (by assumption) (by omega) ?_)
           | (refine Ints.ld (Mat.row (by assumption) _ (by omega)) (by omega) ?_)
           | (refine At.ld (by assumption) rfl ?_)
           | (refine At.ldN (by assumption) rfl ?_)
           | (refine Prs.ln (by assumption) ?_)
           | (refine Trs.ln (by assumption) ?_)
           | (refine Prs.ix (by assumption) (by omega) ?_)
           | (refine Trs.ix (by assumption) (by omega) ?_)
           | (refine Prs.ldN (by assumption) (by omega) ?_)
           | (refine Trs.ldN (by assumption) (by omega) ?_)
           | (refine At.ldN (Blk.at (by assumption)) rfl ?_)
           | (refine At.ld (Blk.at (by assumption)) rfl ?_)
           | (refine IxA.mk (by omega) ?_)
           | (refine Sl.ln (Own.sl (by assumption)) ?_)
           | (refine Ints.ix (Own.sl (by assumption)) (by omega) ?_)
           | (refine Ints.ixI (Own.sl (by assumption)) (by omega) ?_)
           | (refine Ints.ld (Own.sl (by assumption)) (by omega) ?_))
  conv => whnf
  refine VC.rc (given22_rc) ?_
  rintro _ w8 E8 ⟨g1, _, rfl, HG⟩
  replace EE := EE.ext E8
  replace HA := HA.ext E8
  replace H1 := H1.ext E8
  replace HX := HX.ext E8
  conv => whnf
  refine VE.litI [0, 1, 2] Try.underlying25 eInt (by decide) fun l1 w9 E9 H1 _ => ?_
  replace H1 := H1 0 (Nat.zero_le _)
  replace EE := EE.ext E9
  replace HA := HA.ext E9
  replace HX := HX.ext E9
  replace HG := HG.ext E9
  conv => whnf
  refine VC.rc (gchain_rc HG.mat (Own.sl H1)) ?_
  rintro _ w10 E10 ⟨cv, us1, rfl, HC⟩
  replace EE := EE.ext E10
  replace HA := HA.ext E10
  replace HX := HX.ext E10
  replace HG := HG.ext E10
  replace H1 := H1.ext E10
  rw [k4]
  repeat' (conv => whnf
           first
           | (refine Dr.quiet tyOk (by kernel_rfl) ?_)
           | (refine Rng.mk (by omega) ?_)
           | (refine Split.pos (by omega) ?_)
           | (refine Split.neg (by omega) ?_)
           | (refine Split.mk (fun h => ?_) (fun h => ?_))
           | (refine Need.mk (by omega) ?_)
           | (refine Ints.ln (by assumption) ?_)
           | (refine Mat.ln (by assumption) ?_)
           | (refine Ints.ln (Mat.row (by assumption) _ (by omega)) ?_)
           | (refine Ints.ix (by assumption) (by omega) ?_)
           | (refine Mat.ix (by assumption) (by omega) ?_)
           | (refine Ints.ix (Mat.row (by assumption) _ (by omega)) (by omega) ?_)
           | (refine Ints.ix (c := 0) (by assumption) (by omega) ?_)
           | (refine Mat.ix (c := 0) (by assumption) (by omega) ?_)
           | (refine Ints.ix (c := 0) (Mat.row (by assumption) _ (by omega)) (by omega) ?_)
           | (refine Ints.ixI (by assumption) (by omega) ?_)
           | (refine Mat.ixI (by assumption) (by omega) ?_)
           | (refine Ints.ixI (Mat.row (by assumption) _ (by omega)) (by omega) ?_)
           | (refine Ints.ld (by assumption) (by omega) ?_)
           | (refine Mat.ld (by assumption) (by omega) ?_)
           | (refine Ints.ld (Mat.row (by assumption) _ (by omega)) (by omega) ?_)
           | (refine At.ld (by assumption) rfl ?_)
           | (refine At.ldN (by assumption) rfl ?_)
           | (refine Prs.ln (by assumption) ?_)
           | (refine Trs.ln (by assumption) ?_)
           | (refine Prs.ix (by assumption) (by omega) ?_)
           | (refine Trs.ix (by assumption) (by omega) ?_)
           | (refine Prs.ldN (by assumption) (by omega) ?_)
           | (refine Trs.ldN (by assumption) (by omega) ?_)
           | (refine At.ldN (Blk.at (by assumption)) rfl ?_)
           | (refine At.ld (Blk.at (by assumption)) rfl ?_)
           | (refine IxA.mk (by omega) ?_)
           | (refine Sl.ln (Own.sl (by assumption)) ?_)
           | (refine Ints.ix (Own.sl (by assumption)) (by omega) ?_)
           | (refine Ints.ixI (Own.sl (by assumption)) (by omega) ?_)
           | (refine Ints.ld (Own.sl (by assumption)) (by omega) ?_))
  conv => whnf
  refine VC.rc (given22_rc) ?_
  rintro _ w11 E11 ⟨g1, _, rfl, HG⟩
  replace EE := EE.ext E11
  replace HA := HA.ext E11
  replace HX := HX.ext E11
  replace H1 := H1.ext E11
  replace HC := HC.ext E11
  conv => whnf
  refine VE.litI [0, 1, -1] Try.underlying25 eInt (by decide) fun l1 w12 E12 H1 _ => ?_
  replace H1 := H1 0 (Nat.zero_le _)
  replace EE := EE.ext E12
  replace HA := HA.ext E12
  replace HX := HX.ext E12
  replace HC := HC.ext E12
  replace HG := HG.ext E12
  conv => whnf
  refine VE.litI [1, 1] Try.underlying25 eInt (by decide) fun l2 w13 E13 H2 _ => ?_
  replace H2 := H2 0 (Nat.zero_le _)
  replace EE := EE.ext E13
  replace HA := HA.ext E13
  replace HX := HX.ext E13
  replace HC := HC.ext E13
  replace HG := HG.ext E13
  replace H1 := H1.ext E13
  have cc := gproves_pc HG.mat (Own.sl H1) (Own.sl H2)
  have pp := prB_bad (l := [1, 1]) v3 (fun h => absurd h.1 (by unfold compl; decide))
  rw [pp.1, pp.2] at cc
  conv => whnf
  refine VC.pure cc ?_
  repeat' (conv => whnf
           first
           | (refine Dr.quiet tyOk (by kernel_rfl) ?_)
           | (refine Rng.mk (by omega) ?_)
           | (refine Split.pos (by omega) ?_)
           | (refine Split.neg (by omega) ?_)
           | (refine Split.mk (fun h => ?_) (fun h => ?_))
           | (refine Need.mk (by omega) ?_)
           | (refine Ints.ln (by assumption) ?_)
           | (refine Mat.ln (by assumption) ?_)
           | (refine Ints.ln (Mat.row (by assumption) _ (by omega)) ?_)
           | (refine Ints.ix (by assumption) (by omega) ?_)
           | (refine Mat.ix (by assumption) (by omega) ?_)
           | (refine Ints.ix (Mat.row (by assumption) _ (by omega)) (by omega) ?_)
           | (refine Ints.ix (c := 0) (by assumption) (by omega) ?_)
           | (refine Mat.ix (c := 0) (by assumption) (by omega) ?_)
           | (refine Ints.ix (c := 0) (Mat.row (by assumption) _ (by omega)) (by omega) ?_)
           | (refine Ints.ixI (by assumption) (by omega) ?_)
           | (refine Mat.ixI (by assumption) (by omega) ?_)
           | (refine Ints.ixI (Mat.row (by assumption) _ (by omega)) (by omega) ?_)
           | (refine Ints.ld (by assumption) (by omega) ?_)
           | (refine Mat.ld (by assumption) (by omega) ?_)
           | (refine Ints.ld (Mat.row (by assumption) _ (by omega)) (by omega) ?_)
           | (refine At.ld (by assumption) rfl ?_)
           | (refine At.ldN (by assumption) rfl ?_)
           | (refine Prs.ln (by assumption) ?_)
           | (refine Trs.ln (by assumption) ?_)
           | (refine Prs.ix (by assumption) (by omega) ?_)
           | (refine Trs.ix (by assumption) (by omega) ?_)
           | (refine Prs.ldN (by assumption) (by omega) ?_)
           | (refine Trs.ldN (by assumption) (by omega) ?_)
           | (refine At.ldN (Blk.at (by assumption)) rfl ?_)
           | (refine At.ld (Blk.at (by assumption)) rfl ?_)
           | (refine IxA.mk (by omega) ?_)
           | (refine Sl.ln (Own.sl (by assumption)) ?_)
           | (refine Ints.ix (Own.sl (by assumption)) (by omega) ?_)
           | (refine Ints.ixI (Own.sl (by assumption)) (by omega) ?_)
           | (refine Ints.ld (Own.sl (by assumption)) (by omega) ?_))
  conv => whnf
  refine VC.rc (given22_rc) ?_
  rintro _ w14 E14 ⟨g1, _, rfl, HG⟩
  replace EE := EE.ext E14
  replace HA := HA.ext E14
  replace HX := HX.ext E14
  replace HC := HC.ext E14
  replace H1 := H1.ext E14
  replace H2 := H2.ext E14
  conv => whnf
  refine VE.litI [1] Try.underlying25 eInt (by decide) fun l2 w15 E15 H2 _ => ?_
  replace H2 := H2 0 (Nat.zero_le _)
  replace EE := EE.ext E15
  replace HA := HA.ext E15
  replace HX := HX.ext E15
  replace HC := HC.ext E15
  replace H1 := H1.ext E15
  replace HG := HG.ext E15
  have cc := gproves_pc HG.mat (Own.sl HA) (Own.sl H2)
  have pp := prB_bad (l := [1]) v1 (fun h => absurd h.2 (by unfold wtd; decide))
  rw [pp.1, pp.2] at cc
  conv => whnf
  refine VC.pure cc ?_
  repeat' (conv => whnf
           first
           | (refine Dr.quiet tyOk (by kernel_rfl) ?_)
           | (refine Rng.mk (by omega) ?_)
           | (refine Split.pos (by omega) ?_)
           | (refine Split.neg (by omega) ?_)
           | (refine Split.mk (fun h => ?_) (fun h => ?_))
           | (refine Need.mk (by omega) ?_)
           | (refine Ints.ln (by assumption) ?_)
           | (refine Mat.ln (by assumption) ?_)
           | (refine Ints.ln (Mat.row (by assumption) _ (by omega)) ?_)
           | (refine Ints.ix (by assumption) (by omega) ?_)
           | (refine Mat.ix (by assumption) (by omega) ?_)
           | (refine Ints.ix (Mat.row (by assumption) _ (by omega)) (by omega) ?_)
           | (refine Ints.ix (c := 0) (by assumption) (by omega) ?_)
           | (refine Mat.ix (c := 0) (by assumption) (by omega) ?_)
           | (refine Ints.ix (c := 0) (Mat.row (by assumption) _ (by omega)) (by omega) ?_)
           | (refine Ints.ixI (by assumption) (by omega) ?_)
           | (refine Mat.ixI (by assumption) (by omega) ?_)
           | (refine Ints.ixI (Mat.row (by assumption) _ (by omega)) (by omega) ?_)
           | (refine Ints.ld (by assumption) (by omega) ?_)
           | (refine Mat.ld (by assumption) (by omega) ?_)
           | (refine Ints.ld (Mat.row (by assumption) _ (by omega)) (by omega) ?_)
           | (refine At.ld (by assumption) rfl ?_)
           | (refine At.ldN (by assumption) rfl ?_)
           | (refine Prs.ln (by assumption) ?_)
           | (refine Trs.ln (by assumption) ?_)
           | (refine Prs.ix (by assumption) (by omega) ?_)
           | (refine Trs.ix (by assumption) (by omega) ?_)
           | (refine Prs.ldN (by assumption) (by omega) ?_)
           | (refine Trs.ldN (by assumption) (by omega) ?_)
           | (refine At.ldN (Blk.at (by assumption)) rfl ?_)
           | (refine At.ld (Blk.at (by assumption)) rfl ?_)
           | (refine IxA.mk (by omega) ?_)
           | (refine Sl.ln (Own.sl (by assumption)) ?_)
           | (refine Ints.ix (Own.sl (by assumption)) (by omega) ?_)
           | (refine Ints.ixI (Own.sl (by assumption)) (by omega) ?_)
           | (refine Ints.ld (Own.sl (by assumption)) (by omega) ?_))
  conv => whnf
  refine VC.rc (given22_rc) ?_
  rintro _ w16 E16 ⟨g1, _, rfl, HG⟩
  replace EE := EE.ext E16
  replace HA := HA.ext E16
  replace HX := HX.ext E16
  replace HC := HC.ext E16
  replace H1 := H1.ext E16
  replace H2 := H2.ext E16
  conv => whnf
  refine VE.litI [0, 1] Try.underlying25 eInt (by decide) fun l2 w17 E17 H2 _ => ?_
  replace H2 := H2 0 (Nat.zero_le _)
  replace EE := EE.ext E17
  replace HA := HA.ext E17
  replace HX := HX.ext E17
  replace HC := HC.ext E17
  replace H1 := H1.ext E17
  replace HG := HG.ext E17
  have cc := gproves_pc HG.mat (Own.sl HA) (Own.sl H2)
  have pp := prB_bad (l := [0, 1]) v1 (fun h => absurd h.2 (by unfold wtd; decide))
  rw [pp.1, pp.2] at cc
  conv => whnf
  refine VC.pure cc ?_
  repeat' (conv => whnf
           first
           | (refine Dr.quiet tyOk (by kernel_rfl) ?_)
           | (refine Rng.mk (by omega) ?_)
           | (refine Split.pos (by omega) ?_)
           | (refine Split.neg (by omega) ?_)
           | (refine Split.mk (fun h => ?_) (fun h => ?_))
           | (refine Need.mk (by omega) ?_)
           | (refine Ints.ln (by assumption) ?_)
           | (refine Mat.ln (by assumption) ?_)
           | (refine Ints.ln (Mat.row (by assumption) _ (by omega)) ?_)
           | (refine Ints.ix (by assumption) (by omega) ?_)
           | (refine Mat.ix (by assumption) (by omega) ?_)
           | (refine Ints.ix (Mat.row (by assumption) _ (by omega)) (by omega) ?_)
           | (refine Ints.ix (c := 0) (by assumption) (by omega) ?_)
           | (refine Mat.ix (c := 0) (by assumption) (by omega) ?_)
           | (refine Ints.ix (c := 0) (Mat.row (by assumption) _ (by omega)) (by omega) ?_)
           | (refine Ints.ixI (by assumption) (by omega) ?_)
           | (refine Mat.ixI (by assumption) (by omega) ?_)
           | (refine Ints.ixI (Mat.row (by assumption) _ (by omega)) (by omega) ?_)
           | (refine Ints.ld (by assumption) (by omega) ?_)
           | (refine Mat.ld (by assumption) (by omega) ?_)
           | (refine Ints.ld (Mat.row (by assumption) _ (by omega)) (by omega) ?_)
           | (refine At.ld (by assumption) rfl ?_)
           | (refine At.ldN (by assumption) rfl ?_)
           | (refine Prs.ln (by assumption) ?_)
           | (refine Trs.ln (by assumption) ?_)
           | (refine Prs.ix (by assumption) (by omega) ?_)
           | (refine Trs.ix (by assumption) (by omega) ?_)
           | (refine Prs.ldN (by assumption) (by omega) ?_)
           | (refine Trs.ldN (by assumption) (by omega) ?_)
           | (refine At.ldN (Blk.at (by assumption)) rfl ?_)
           | (refine At.ld (Blk.at (by assumption)) rfl ?_)
           | (refine IxA.mk (by omega) ?_)
           | (refine Sl.ln (Own.sl (by assumption)) ?_)
           | (refine Ints.ix (Own.sl (by assumption)) (by omega) ?_)
           | (refine Ints.ixI (Own.sl (by assumption)) (by omega) ?_)
           | (refine Ints.ld (Own.sl (by assumption)) (by omega) ?_))
  conv => whnf
  refine VC.rc (given22_rc) ?_
  rintro _ w18 E18 ⟨g1, _, rfl, HG⟩
  replace EE := EE.ext E18
  replace HA := HA.ext E18
  replace HX := HX.ext E18
  replace HC := HC.ext E18
  replace H1 := H1.ext E18
  replace H2 := H2.ext E18
  conv => whnf
  refine VE.litI [1, 1000001] Try.underlying25 eInt (by decide) fun l2 w19 E19 H2 _ => ?_
  replace H2 := H2 0 (Nat.zero_le _)
  replace EE := EE.ext E19
  replace HA := HA.ext E19
  replace HX := HX.ext E19
  replace HC := HC.ext E19
  replace H1 := H1.ext E19
  replace HG := HG.ext E19
  have cc := gproves_pc HG.mat (Own.sl HA) (Own.sl H2)
  have pp := prB_bad (l := [1, 1000001]) v1 (fun h => absurd h.2 (by unfold wtd; decide))
  rw [pp.1, pp.2] at cc
  conv => whnf
  refine VC.pure cc ?_
  repeat' (conv => whnf
           first
           | (refine Dr.plan 93 [6] (.e 0 (.e 1 (.e 2 (.e 3 (.q 4 (.e 5 (.e 6 .nil .nil) .nil)) (.e 5 (.e 3 (.q 4 (.e 6 .nil .nil)) .nil) .nil)) (.e 5 (.e 2 (.e 3 (.q 4 (.e 6 .nil .nil)) .nil) .nil) .nil)) (.e 2 (.e 1 (.e 3 (.q 4 (.e 5 (.e 6 .nil .nil) .nil)) (.e 5 (.e 3 (.q 4 (.e 6 .nil .nil)) .nil) .nil)) (.e 5 (.e 1 (.e 3 (.q 4 (.e 6 .nil .nil)) .nil) .nil) .nil)) (.e 5 (.e 1 (.e 2 (.e 3 (.q 4 (.e 6 .nil .nil)) .nil) .nil) (.e 2 (.e 1 (.e 3 (.q 4 (.e 6 .nil .nil)) .nil) .nil) .nil)) .nil))) (.e 1 (.e 0 (.e 2 (.e 3 (.q 4 (.e 5 (.e 6 .nil .nil) .nil)) (.e 5 (.e 3 (.q 4 (.e 6 .nil .nil)) .nil) .nil)) (.e 5 (.e 2 (.e 3 (.q 4 (.e 6 .nil .nil)) .nil) .nil) .nil)) (.e 2 (.e 0 (.e 3 (.q 4 (.e 5 (.e 6 .nil .nil) .nil)) (.e 5 (.e 3 (.q 4 (.e 6 .nil .nil)) .nil) .nil)) (.e 5 (.e 0 (.e 3 (.q 4 (.e 6 .nil .nil)) .nil) .nil) .nil)) (.e 5 (.e 0 (.e 2 (.e 3 (.q 4 (.e 6 .nil .nil)) .nil) .nil) (.e 2 (.e 0 (.e 3 (.q 4 (.e 6 .nil .nil)) .nil) .nil) .nil)) .nil))) (.e 2 (.e 0 (.e 1 (.e 3 (.q 4 (.e 5 (.e 6 .nil .nil) .nil)) (.e 5 (.e 3 (.q 4 (.e 6 .nil .nil)) .nil) .nil)) (.e 5 (.e 1 (.e 3 (.q 4 (.e 6 .nil .nil)) .nil) .nil) .nil)) (.e 1 (.e 0 (.e 3 (.q 4 (.e 5 (.e 6 .nil .nil) .nil)) (.e 5 (.e 3 (.q 4 (.e 6 .nil .nil)) .nil) .nil)) (.e 5 (.e 0 (.e 3 (.q 4 (.e 6 .nil .nil)) .nil) .nil) .nil)) (.e 5 (.e 0 (.e 1 (.e 3 (.q 4 (.e 6 .nil .nil)) .nil) .nil) (.e 1 (.e 0 (.e 3 (.q 4 (.e 6 .nil .nil)) .nil) .nil) .nil)) .nil))) (.e 5 (.e 0 (.e 1 (.e 2 (.e 3 (.q 4 (.e 6 .nil .nil)) .nil) .nil) (.e 2 (.e 1 (.e 3 (.q 4 (.e 6 .nil .nil)) .nil) .nil) .nil)) (.e 1 (.e 0 (.e 2 (.e 3 (.q 4 (.e 6 .nil .nil)) .nil) .nil) (.e 2 (.e 0 (.e 3 (.q 4 (.e 6 .nil .nil)) .nil) .nil) .nil)) (.e 2 (.e 0 (.e 1 (.e 3 (.q 4 (.e 6 .nil .nil)) .nil) .nil) (.e 1 (.e 0 (.e 3 (.q 4 (.e 6 .nil .nil)) .nil) .nil) .nil)) .nil))) .nil)))) tyOk rfl (by kernel_rfl) ?_)
           | (refine Dr.plan 99 [2] (.q 0 (.e 1 (.e 2 (.q 3 (.q 4 (.q 5 (.q 6 (.q 7 .nil))))) .nil) .nil)) tyOk rfl (by kernel_rfl) ?_)
           | (refine Dr.quiet tyOk (by kernel_rfl) ?_)
           | (refine Rng.mk (by omega) ?_)
           | (refine Split.pos (by omega) ?_)
           | (refine Split.neg (by omega) ?_)
           | (refine Split.mk (fun h => ?_) (fun h => ?_))
           | (refine Need.mk (by omega) ?_)
           | (refine Ints.ln (by assumption) ?_)
           | (refine Mat.ln (by assumption) ?_)
           | (refine Ints.ln (Mat.row (by assumption) _ (by omega)) ?_)
           | (refine Ints.ix (by assumption) (by omega) ?_)
           | (refine Mat.ix (by assumption) (by omega) ?_)
           | (refine Ints.ix (Mat.row (by assumption) _ (by omega)) (by omega) ?_)
           | (refine Ints.ix (c := 0) (by assumption) (by omega) ?_)
           | (refine Mat.ix (c := 0) (by assumption) (by omega) ?_)
           | (refine Ints.ix (c := 0) (Mat.row (by assumption) _ (by omega)) (by omega) ?_)
           | (refine Ints.ixI (by assumption) (by omega) ?_)
           | (refine Mat.ixI (by assumption) (by omega) ?_)
           | (refine Ints.ixI (Mat.row (by assumption) _ (by omega)) (by omega) ?_)
           | (refine Ints.ld (by assumption) (by omega) ?_)
           | (refine Mat.ld (by assumption) (by omega) ?_)
           | (refine Ints.ld (Mat.row (by assumption) _ (by omega)) (by omega) ?_)
           | (refine At.ld (by assumption) rfl ?_)
           | (refine At.ldN (by assumption) rfl ?_)
           | (refine Prs.ln (by assumption) ?_)
           | (refine Trs.ln (by assumption) ?_)
           | (refine Prs.ix (by assumption) (by omega) ?_)
           | (refine Trs.ix (by assumption) (by omega) ?_)
           | (refine Prs.ldN (by assumption) (by omega) ?_)
           | (refine Trs.ldN (by assumption) (by omega) ?_)
           | (refine At.ldN (Blk.at (by assumption)) rfl ?_)
           | (refine At.ld (Blk.at (by assumption)) rfl ?_)
           | (refine IxA.mk (by omega) ?_)
           | (refine Sl.ln (Own.sl (by assumption)) ?_)
           | (refine Ints.ix (Own.sl (by assumption)) (by omega) ?_)
           | (refine Ints.ixI (Own.sl (by assumption)) (by omega) ?_)
           | (refine Ints.ld (Own.sl (by assumption)) (by omega) ?_))
  have ER := Ext.refl w19
  have key : ∀ (wz : World) (ra rb rc mv : Value) (bk : Nat), Ext w19 wz → OM 0 wz mv [ra, rb, rc] bign → At wz ⟨bk, 0, none⟩ [mv] → (?P : World → Value → Value → Value → Value → Nat → Prop) wz ra rb rc mv bk := ?key
  conv => whnf
  refine ⟨?_, ?_, ?_, ?_⟩
  · conv => whnf
    refine VX.made (n := 10) Try.underlying25 eInt rfl (by omega) (by omega) fun ra w20 E20 Hra _ => ?_
    replace EE := EE.ext E20
    replace HA := HA.ext E20
    replace HX := HX.ext E20
    replace HC := HC.ext E20
    replace H1 := H1.ext E20
    replace HG := HG.ext E20
    replace H2 := H2.ext E20
    replace ER := ER.ext E20
    replace Hra := OI.made (Hra 0 (Nat.zero_le _))
    conv => whnf
    refine ⟨?_, ?_, ?_⟩
    · conv => whnf
      refine VX.made (n := 10) Try.underlying25 eInt rfl (by omega) (by omega) fun rb w21 E21 Hrb _ => ?_
      replace EE := EE.ext E21
      replace HA := HA.ext E21
      replace HX := HX.ext E21
      replace HC := HC.ext E21
      replace H1 := H1.ext E21
      replace HG := HG.ext E21
      replace H2 := H2.ext E21
      replace ER := ER.ext E21
      replace Hra := Hra.ext E21
      replace Hrb := OI.made (Hrb 0 (Nat.zero_le _))
      conv => whnf
      refine ⟨?_, ?_⟩
      · conv => whnf
        refine VX.made (n := 10) Try.underlying25 eInt rfl (by omega) (by omega) fun rc w22 E22 Hrc _ => ?_
        replace EE := EE.ext E22
        replace HA := HA.ext E22
        replace HX := HX.ext E22
        replace HC := HC.ext E22
        replace H1 := H1.ext E22
        replace HG := HG.ext E22
        replace H2 := H2.ext E22
        replace ER := ER.ext E22
        replace Hra := Hra.ext E22
        replace Hrb := Hrb.ext E22
        replace Hrc := OI.made (Hrc 0 (Nat.zero_le _))
        conv => whnf
        refine ⟨?_, ?_⟩
        · conv => whnf
          refine VX.litV [ra, rb, rc] Try.underlying22 eRow (by intro v hv; simp at hv; rcases hv with rfl | rfl | rfl <;> first | rfl | exact (Sl.cells (Own.sl Hra)).1 | exact (Sl.cells (Own.sl Hrb)).1 | exact (Sl.cells (Own.sl Hrc)).1) (by simp) fun mv w23 E23 HR _ => ?_
          replace EE := EE.ext E23
          replace HA := HA.ext E23
          replace HX := HX.ext E23
          replace HC := HC.ext E23
          replace H1 := H1.ext E23
          replace HG := HG.ext E23
          replace H2 := H2.ext E23
          replace ER := ER.ext E23
          replace Hra := Hra.ext E23
          replace Hrb := Hrb.ext E23
          replace Hrc := Hrc.ext E23
          replace HR : OM 0 w23 mv [ra, rb, rc] [List.replicate 10 0, List.replicate 10 0, List.replicate 10 0] := by
            refine ⟨HR _ (Nat.zero_le _), fun i hi => ?_⟩
            match i, hi with
            | 0, _ => exact Hra
            | 1, _ => exact Hrb
            | 2, _ => exact Hrc
          conv => whnf
          refine VS.field1 Try.underlying24 eGoods (by kernel_rfl) rfl (Sl.cells (Own.sl HR.top)).1 ?_
          conv => whnf
          have he0 := ER.size
          have EE__1 := EE
          have HA__1 := HA
          have HX__1 := HX
          have HC__1 := HC
          have H1__1 := H1
          have HG__1 := HG
          have H2__1 := H2
          have ER__1 := ER
          have Hra__1 := Hra
          have Hrb__1 := Hrb
          have Hrc__1 := Hrc
          have HR__1 := HR
          refine VX.alloc eGoods fun bk w24 E24 hb_bk Hk => ?_
          replace EE := EE.ext E24
          replace HA := HA.ext E24
          replace HX := HX.ext E24
          replace HC := HC.ext E24
          replace H1 := H1.ext E24
          replace HG := HG.ext E24
          replace H2 := H2.ext E24
          replace ER := ER.ext E24
          replace Hra := Hra.ext E24
          replace Hrb := Hrb.ext E24
          replace Hrc := Hrc.ext E24
          replace HR := HR.ext E24
          have EL1 := E24
          conv => whnf
          refine Blk.all Hk (by kernel_rfl) (by decide) rfl rfl (by intro v hv; simp at hv; subst hv; exact (Sl.cells (Own.sl HR.top)).2) fun wz Gz Hkz => ?_
          exact key _ _ _ _ _ _ (ER.new Gz (fun i hi hk => by omega)) (OM.blk22 HR Hk (by decide) (by decide) Gz) Hkz.at
        · conv => whnf
          have he0 := ER.size
          have EE__1 := EE
          have HA__1 := HA
          have HX__1 := HX
          have HC__1 := HC
          have H1__1 := H1
          have HG__1 := HG
          have H2__1 := H2
          have ER__1 := ER
          have Hra__1 := Hra
          have Hrb__1 := Hrb
          have Hrc__1 := Hrc
          refine VX.alloc eGoods fun bk w25 E25 hb_bk Hk => ?_
          replace EE := EE.ext E25
          replace HA := HA.ext E25
          replace HX := HX.ext E25
          replace HC := HC.ext E25
          replace H1 := H1.ext E25
          replace HG := HG.ext E25
          replace H2 := H2.ext E25
          replace ER := ER.ext E25
          replace Hra := Hra.ext E25
          replace Hrb := Hrb.ext E25
          replace Hrc := Hrc.ext E25
          have EL1 := E25
          conv => whnf
          refine VX.litV [ra, rb, rc] Try.underlying22 eRow (by intro v hv; simp at hv; rcases hv with rfl | rfl | rfl <;> first | rfl | exact (Sl.cells (Own.sl Hra)).1 | exact (Sl.cells (Own.sl Hrb)).1 | exact (Sl.cells (Own.sl Hrc)).1) (by simp) fun mv w26 E26 HR _ => ?_
          replace EE := EE.ext E26
          replace HA := HA.ext E26
          replace HX := HX.ext E26
          replace HC := HC.ext E26
          replace H1 := H1.ext E26
          replace HG := HG.ext E26
          replace H2 := H2.ext E26
          replace ER := ER.ext E26
          replace Hra := Hra.ext E26
          replace Hrb := Hrb.ext E26
          replace Hrc := Hrc.ext E26
          replace EL1 := EL1.ext E26
          replace Hk := Hk.ext E26
          replace HR : OM 0 w26 mv [ra, rb, rc] [List.replicate 10 0, List.replicate 10 0, List.replicate 10 0] := by
            refine ⟨HR _ (Nat.zero_le _), fun i hi => ?_⟩
            match i, hi with
            | 0, _ => exact Hra
            | 1, _ => exact Hrb
            | 2, _ => exact Hrc
          conv => whnf
          refine VS.field1 Try.underlying24 eGoods (by kernel_rfl) rfl (Sl.cells (Own.sl HR.top)).1 ?_
          conv => whnf
          refine Blk.all Hk (by kernel_rfl) (by decide) rfl rfl (by intro v hv; simp at hv; subst hv; exact (Sl.cells (Own.sl HR.top)).2) fun wz Gz Hkz => ?_
          exact key _ _ _ _ _ _ (ER.new Gz (fun i hi hk => by omega)) (OM.blk22 HR Hk (by decide) (by decide) Gz) Hkz.at
      · conv => whnf
        have he0 := ER.size
        have EE__1 := EE
        have HA__1 := HA
        have HX__1 := HX
        have HC__1 := HC
        have H1__1 := H1
        have HG__1 := HG
        have H2__1 := H2
        have ER__1 := ER
        have Hra__1 := Hra
        have Hrb__1 := Hrb
        refine VX.alloc eGoods fun bk w27 E27 hb_bk Hk => ?_
        replace EE := EE.ext E27
        replace HA := HA.ext E27
        replace HX := HX.ext E27
        replace HC := HC.ext E27
        replace H1 := H1.ext E27
        replace HG := HG.ext E27
        replace H2 := H2.ext E27
        replace ER := ER.ext E27
        replace Hra := Hra.ext E27
        replace Hrb := Hrb.ext E27
        have EL1 := E27
        conv => whnf
        refine VX.made (n := 10) Try.underlying25 eInt rfl (by omega) (by omega) fun rc w28 E28 Hrc _ => ?_
        replace EE := EE.ext E28
        replace HA := HA.ext E28
        replace HX := HX.ext E28
        replace HC := HC.ext E28
        replace H1 := H1.ext E28
        replace HG := HG.ext E28
        replace H2 := H2.ext E28
        replace ER := ER.ext E28
        replace Hra := Hra.ext E28
        replace Hrb := Hrb.ext E28
        replace EL1 := EL1.ext E28
        replace Hk := Hk.ext E28
        replace Hrc := OI.made (Hrc 0 (Nat.zero_le _))
        conv => whnf
        refine VX.litV [ra, rb, rc] Try.underlying22 eRow (by intro v hv; simp at hv; rcases hv with rfl | rfl | rfl <;> first | rfl | exact (Sl.cells (Own.sl Hra)).1 | exact (Sl.cells (Own.sl Hrb)).1 | exact (Sl.cells (Own.sl Hrc)).1) (by simp) fun mv w29 E29 HR _ => ?_
        replace EE := EE.ext E29
        replace HA := HA.ext E29
        replace HX := HX.ext E29
        replace HC := HC.ext E29
        replace H1 := H1.ext E29
        replace HG := HG.ext E29
        replace H2 := H2.ext E29
        replace ER := ER.ext E29
        replace Hra := Hra.ext E29
        replace Hrb := Hrb.ext E29
        replace EL1 := EL1.ext E29
        replace Hk := Hk.ext E29
        replace Hrc := Hrc.ext E29
        replace HR : OM 0 w29 mv [ra, rb, rc] [List.replicate 10 0, List.replicate 10 0, List.replicate 10 0] := by
          refine ⟨HR _ (Nat.zero_le _), fun i hi => ?_⟩
          match i, hi with
          | 0, _ => exact Hra
          | 1, _ => exact Hrb
          | 2, _ => exact Hrc
        conv => whnf
        refine VS.field1 Try.underlying24 eGoods (by kernel_rfl) rfl (Sl.cells (Own.sl HR.top)).1 ?_
        conv => whnf
        refine Blk.all Hk (by kernel_rfl) (by decide) rfl rfl (by intro v hv; simp at hv; subst hv; exact (Sl.cells (Own.sl HR.top)).2) fun wz Gz Hkz => ?_
        exact key _ _ _ _ _ _ (ER.new Gz (fun i hi hk => by omega)) (OM.blk22 HR Hk (by decide) (by decide) Gz) Hkz.at
    · conv => whnf
      refine VX.made (n := 10) Try.underlying25 eInt rfl (by omega) (by omega) fun rc w30 E30 Hrc _ => ?_
      replace EE := EE.ext E30
      replace HA := HA.ext E30
      replace HX := HX.ext E30
      replace HC := HC.ext E30
      replace H1 := H1.ext E30
      replace HG := HG.ext E30
      replace H2 := H2.ext E30
      replace ER := ER.ext E30
      replace Hra := Hra.ext E30
      replace Hrc := OI.made (Hrc 0 (Nat.zero_le _))
      conv => whnf
      refine ⟨?_, ?_⟩
      · conv => whnf
        refine VX.made (n := 10) Try.underlying25 eInt rfl (by omega) (by omega) fun rb w31 E31 Hrb _ => ?_
        replace EE := EE.ext E31
        replace HA := HA.ext E31
        replace HX := HX.ext E31
        replace HC := HC.ext E31
        replace H1 := H1.ext E31
        replace HG := HG.ext E31
        replace H2 := H2.ext E31
        replace ER := ER.ext E31
        replace Hra := Hra.ext E31
        replace Hrc := Hrc.ext E31
        replace Hrb := OI.made (Hrb 0 (Nat.zero_le _))
        conv => whnf
        refine ⟨?_, ?_⟩
        · conv => whnf
          refine VX.litV [ra, rb, rc] Try.underlying22 eRow (by intro v hv; simp at hv; rcases hv with rfl | rfl | rfl <;> first | rfl | exact (Sl.cells (Own.sl Hra)).1 | exact (Sl.cells (Own.sl Hrb)).1 | exact (Sl.cells (Own.sl Hrc)).1) (by simp) fun mv w32 E32 HR _ => ?_
          replace EE := EE.ext E32
          replace HA := HA.ext E32
          replace HX := HX.ext E32
          replace HC := HC.ext E32
          replace H1 := H1.ext E32
          replace HG := HG.ext E32
          replace H2 := H2.ext E32
          replace ER := ER.ext E32
          replace Hra := Hra.ext E32
          replace Hrc := Hrc.ext E32
          replace Hrb := Hrb.ext E32
          replace HR : OM 0 w32 mv [ra, rb, rc] [List.replicate 10 0, List.replicate 10 0, List.replicate 10 0] := by
            refine ⟨HR _ (Nat.zero_le _), fun i hi => ?_⟩
            match i, hi with
            | 0, _ => exact Hra
            | 1, _ => exact Hrb
            | 2, _ => exact Hrc
          conv => whnf
          refine VS.field1 Try.underlying24 eGoods (by kernel_rfl) rfl (Sl.cells (Own.sl HR.top)).1 ?_
          conv => whnf
          have he0 := ER.size
          have EE__1 := EE
          have HA__1 := HA
          have HX__1 := HX
          have HC__1 := HC
          have H1__1 := H1
          have HG__1 := HG
          have H2__1 := H2
          have ER__1 := ER
          have Hra__1 := Hra
          have Hrc__1 := Hrc
          have Hrb__1 := Hrb
          have HR__1 := HR
          refine VX.alloc eGoods fun bk w33 E33 hb_bk Hk => ?_
          replace EE := EE.ext E33
          replace HA := HA.ext E33
          replace HX := HX.ext E33
          replace HC := HC.ext E33
          replace H1 := H1.ext E33
          replace HG := HG.ext E33
          replace H2 := H2.ext E33
          replace ER := ER.ext E33
          replace Hra := Hra.ext E33
          replace Hrc := Hrc.ext E33
          replace Hrb := Hrb.ext E33
          replace HR := HR.ext E33
          have EL1 := E33
          conv => whnf
          refine Blk.all Hk (by kernel_rfl) (by decide) rfl rfl (by intro v hv; simp at hv; subst hv; exact (Sl.cells (Own.sl HR.top)).2) fun wz Gz Hkz => ?_
          exact key _ _ _ _ _ _ (ER.new Gz (fun i hi hk => by omega)) (OM.blk22 HR Hk (by decide) (by decide) Gz) Hkz.at
        · conv => whnf
          have he0 := ER.size
          have EE__1 := EE
          have HA__1 := HA
          have HX__1 := HX
          have HC__1 := HC
          have H1__1 := H1
          have HG__1 := HG
          have H2__1 := H2
          have ER__1 := ER
          have Hra__1 := Hra
          have Hrc__1 := Hrc
          have Hrb__1 := Hrb
          refine VX.alloc eGoods fun bk w34 E34 hb_bk Hk => ?_
          replace EE := EE.ext E34
          replace HA := HA.ext E34
          replace HX := HX.ext E34
          replace HC := HC.ext E34
          replace H1 := H1.ext E34
          replace HG := HG.ext E34
          replace H2 := H2.ext E34
          replace ER := ER.ext E34
          replace Hra := Hra.ext E34
          replace Hrc := Hrc.ext E34
          replace Hrb := Hrb.ext E34
          have EL1 := E34
          conv => whnf
          refine VX.litV [ra, rb, rc] Try.underlying22 eRow (by intro v hv; simp at hv; rcases hv with rfl | rfl | rfl <;> first | rfl | exact (Sl.cells (Own.sl Hra)).1 | exact (Sl.cells (Own.sl Hrb)).1 | exact (Sl.cells (Own.sl Hrc)).1) (by simp) fun mv w35 E35 HR _ => ?_
          replace EE := EE.ext E35
          replace HA := HA.ext E35
          replace HX := HX.ext E35
          replace HC := HC.ext E35
          replace H1 := H1.ext E35
          replace HG := HG.ext E35
          replace H2 := H2.ext E35
          replace ER := ER.ext E35
          replace Hra := Hra.ext E35
          replace Hrc := Hrc.ext E35
          replace Hrb := Hrb.ext E35
          replace EL1 := EL1.ext E35
          replace Hk := Hk.ext E35
          replace HR : OM 0 w35 mv [ra, rb, rc] [List.replicate 10 0, List.replicate 10 0, List.replicate 10 0] := by
            refine ⟨HR _ (Nat.zero_le _), fun i hi => ?_⟩
            match i, hi with
            | 0, _ => exact Hra
            | 1, _ => exact Hrb
            | 2, _ => exact Hrc
          conv => whnf
          refine VS.field1 Try.underlying24 eGoods (by kernel_rfl) rfl (Sl.cells (Own.sl HR.top)).1 ?_
          conv => whnf
          refine Blk.all Hk (by kernel_rfl) (by decide) rfl rfl (by intro v hv; simp at hv; subst hv; exact (Sl.cells (Own.sl HR.top)).2) fun wz Gz Hkz => ?_
          exact key _ _ _ _ _ _ (ER.new Gz (fun i hi hk => by omega)) (OM.blk22 HR Hk (by decide) (by decide) Gz) Hkz.at
      · conv => whnf
        have he0 := ER.size
        have EE__1 := EE
        have HA__1 := HA
        have HX__1 := HX
        have HC__1 := HC
        have H1__1 := H1
        have HG__1 := HG
        have H2__1 := H2
        have ER__1 := ER
        have Hra__1 := Hra
        have Hrc__1 := Hrc
        refine VX.alloc eGoods fun bk w36 E36 hb_bk Hk => ?_
        replace EE := EE.ext E36
        replace HA := HA.ext E36
        replace HX := HX.ext E36
        replace HC := HC.ext E36
        replace H1 := H1.ext E36
        replace HG := HG.ext E36
        replace H2 := H2.ext E36
        replace ER := ER.ext E36
        replace Hra := Hra.ext E36
        replace Hrc := Hrc.ext E36
        have EL1 := E36
        conv => whnf
        refine VX.made (n := 10) Try.underlying25 eInt rfl (by omega) (by omega) fun rb w37 E37 Hrb _ => ?_
        replace EE := EE.ext E37
        replace HA := HA.ext E37
        replace HX := HX.ext E37
        replace HC := HC.ext E37
        replace H1 := H1.ext E37
        replace HG := HG.ext E37
        replace H2 := H2.ext E37
        replace ER := ER.ext E37
        replace Hra := Hra.ext E37
        replace Hrc := Hrc.ext E37
        replace EL1 := EL1.ext E37
        replace Hk := Hk.ext E37
        replace Hrb := OI.made (Hrb 0 (Nat.zero_le _))
        conv => whnf
        refine VX.litV [ra, rb, rc] Try.underlying22 eRow (by intro v hv; simp at hv; rcases hv with rfl | rfl | rfl <;> first | rfl | exact (Sl.cells (Own.sl Hra)).1 | exact (Sl.cells (Own.sl Hrb)).1 | exact (Sl.cells (Own.sl Hrc)).1) (by simp) fun mv w38 E38 HR _ => ?_
        replace EE := EE.ext E38
        replace HA := HA.ext E38
        replace HX := HX.ext E38
        replace HC := HC.ext E38
        replace H1 := H1.ext E38
        replace HG := HG.ext E38
        replace H2 := H2.ext E38
        replace ER := ER.ext E38
        replace Hra := Hra.ext E38
        replace Hrc := Hrc.ext E38
        replace EL1 := EL1.ext E38
        replace Hk := Hk.ext E38
        replace Hrb := Hrb.ext E38
        replace HR : OM 0 w38 mv [ra, rb, rc] [List.replicate 10 0, List.replicate 10 0, List.replicate 10 0] := by
          refine ⟨HR _ (Nat.zero_le _), fun i hi => ?_⟩
          match i, hi with
          | 0, _ => exact Hra
          | 1, _ => exact Hrb
          | 2, _ => exact Hrc
        conv => whnf
        refine VS.field1 Try.underlying24 eGoods (by kernel_rfl) rfl (Sl.cells (Own.sl HR.top)).1 ?_
        conv => whnf
        refine Blk.all Hk (by kernel_rfl) (by decide) rfl rfl (by intro v hv; simp at hv; subst hv; exact (Sl.cells (Own.sl HR.top)).2) fun wz Gz Hkz => ?_
        exact key _ _ _ _ _ _ (ER.new Gz (fun i hi hk => by omega)) (OM.blk22 HR Hk (by decide) (by decide) Gz) Hkz.at
    · conv => whnf
      have he0 := ER.size
      have EE__1 := EE
      have HA__1 := HA
      have HX__1 := HX
      have HC__1 := HC
      have H1__1 := H1
      have HG__1 := HG
      have H2__1 := H2
      have ER__1 := ER
      have Hra__1 := Hra
      refine VX.alloc eGoods fun bk w39 E39 hb_bk Hk => ?_
      replace EE := EE.ext E39
      replace HA := HA.ext E39
      replace HX := HX.ext E39
      replace HC := HC.ext E39
      replace H1 := H1.ext E39
      replace HG := HG.ext E39
      replace H2 := H2.ext E39
      replace ER := ER.ext E39
      replace Hra := Hra.ext E39
      have EL1 := E39
      conv => whnf
      refine ⟨?_, ?_⟩
      · conv => whnf
        refine VX.made (n := 10) Try.underlying25 eInt rfl (by omega) (by omega) fun rb w40 E40 Hrb _ => ?_
        replace EE := EE.ext E40
        replace HA := HA.ext E40
        replace HX := HX.ext E40
        replace HC := HC.ext E40
        replace H1 := H1.ext E40
        replace HG := HG.ext E40
        replace H2 := H2.ext E40
        replace ER := ER.ext E40
        replace Hra := Hra.ext E40
        replace EL1 := EL1.ext E40
        replace Hk := Hk.ext E40
        replace Hrb := OI.made (Hrb 0 (Nat.zero_le _))
        conv => whnf
        refine VX.made (n := 10) Try.underlying25 eInt rfl (by omega) (by omega) fun rc w41 E41 Hrc _ => ?_
        replace EE := EE.ext E41
        replace HA := HA.ext E41
        replace HX := HX.ext E41
        replace HC := HC.ext E41
        replace H1 := H1.ext E41
        replace HG := HG.ext E41
        replace H2 := H2.ext E41
        replace ER := ER.ext E41
        replace Hra := Hra.ext E41
        replace EL1 := EL1.ext E41
        replace Hk := Hk.ext E41
        replace Hrb := Hrb.ext E41
        replace Hrc := OI.made (Hrc 0 (Nat.zero_le _))
        conv => whnf
        refine VX.litV [ra, rb, rc] Try.underlying22 eRow (by intro v hv; simp at hv; rcases hv with rfl | rfl | rfl <;> first | rfl | exact (Sl.cells (Own.sl Hra)).1 | exact (Sl.cells (Own.sl Hrb)).1 | exact (Sl.cells (Own.sl Hrc)).1) (by simp) fun mv w42 E42 HR _ => ?_
        replace EE := EE.ext E42
        replace HA := HA.ext E42
        replace HX := HX.ext E42
        replace HC := HC.ext E42
        replace H1 := H1.ext E42
        replace HG := HG.ext E42
        replace H2 := H2.ext E42
        replace ER := ER.ext E42
        replace Hra := Hra.ext E42
        replace EL1 := EL1.ext E42
        replace Hk := Hk.ext E42
        replace Hrb := Hrb.ext E42
        replace Hrc := Hrc.ext E42
        replace HR : OM 0 w42 mv [ra, rb, rc] [List.replicate 10 0, List.replicate 10 0, List.replicate 10 0] := by
          refine ⟨HR _ (Nat.zero_le _), fun i hi => ?_⟩
          match i, hi with
          | 0, _ => exact Hra
          | 1, _ => exact Hrb
          | 2, _ => exact Hrc
        conv => whnf
        refine VS.field1 Try.underlying24 eGoods (by kernel_rfl) rfl (Sl.cells (Own.sl HR.top)).1 ?_
        conv => whnf
        refine Blk.all Hk (by kernel_rfl) (by decide) rfl rfl (by intro v hv; simp at hv; subst hv; exact (Sl.cells (Own.sl HR.top)).2) fun wz Gz Hkz => ?_
        exact key _ _ _ _ _ _ (ER.new Gz (fun i hi hk => by omega)) (OM.blk22 HR Hk (by decide) (by decide) Gz) Hkz.at
      · conv => whnf
        refine VX.made (n := 10) Try.underlying25 eInt rfl (by omega) (by omega) fun rc w43 E43 Hrc _ => ?_
        replace EE := EE.ext E43
        replace HA := HA.ext E43
        replace HX := HX.ext E43
        replace HC := HC.ext E43
        replace H1 := H1.ext E43
        replace HG := HG.ext E43
        replace H2 := H2.ext E43
        replace ER := ER.ext E43
        replace Hra := Hra.ext E43
        replace EL1 := EL1.ext E43
        replace Hk := Hk.ext E43
        replace Hrc := OI.made (Hrc 0 (Nat.zero_le _))
        conv => whnf
        refine VX.made (n := 10) Try.underlying25 eInt rfl (by omega) (by omega) fun rb w44 E44 Hrb _ => ?_
        replace EE := EE.ext E44
        replace HA := HA.ext E44
        replace HX := HX.ext E44
        replace HC := HC.ext E44
        replace H1 := H1.ext E44
        replace HG := HG.ext E44
        replace H2 := H2.ext E44
        replace ER := ER.ext E44
        replace Hra := Hra.ext E44
        replace EL1 := EL1.ext E44
        replace Hk := Hk.ext E44
        replace Hrc := Hrc.ext E44
        replace Hrb := OI.made (Hrb 0 (Nat.zero_le _))
        conv => whnf
        refine VX.litV [ra, rb, rc] Try.underlying22 eRow (by intro v hv; simp at hv; rcases hv with rfl | rfl | rfl <;> first | rfl | exact (Sl.cells (Own.sl Hra)).1 | exact (Sl.cells (Own.sl Hrb)).1 | exact (Sl.cells (Own.sl Hrc)).1) (by simp) fun mv w45 E45 HR _ => ?_
        replace EE := EE.ext E45
        replace HA := HA.ext E45
        replace HX := HX.ext E45
        replace HC := HC.ext E45
        replace H1 := H1.ext E45
        replace HG := HG.ext E45
        replace H2 := H2.ext E45
        replace ER := ER.ext E45
        replace Hra := Hra.ext E45
        replace EL1 := EL1.ext E45
        replace Hk := Hk.ext E45
        replace Hrc := Hrc.ext E45
        replace Hrb := Hrb.ext E45
        replace HR : OM 0 w45 mv [ra, rb, rc] [List.replicate 10 0, List.replicate 10 0, List.replicate 10 0] := by
          refine ⟨HR _ (Nat.zero_le _), fun i hi => ?_⟩
          match i, hi with
          | 0, _ => exact Hra
          | 1, _ => exact Hrb
          | 2, _ => exact Hrc
        conv => whnf
        refine VS.field1 Try.underlying24 eGoods (by kernel_rfl) rfl (Sl.cells (Own.sl HR.top)).1 ?_
        conv => whnf
        refine Blk.all Hk (by kernel_rfl) (by decide) rfl rfl (by intro v hv; simp at hv; subst hv; exact (Sl.cells (Own.sl HR.top)).2) fun wz Gz Hkz => ?_
        exact key _ _ _ _ _ _ (ER.new Gz (fun i hi hk => by omega)) (OM.blk22 HR Hk (by decide) (by decide) Gz) Hkz.at
  · conv => whnf
    refine VX.made (n := 10) Try.underlying25 eInt rfl (by omega) (by omega) fun rb w46 E46 Hrb _ => ?_
    replace EE := EE.ext E46
    replace HA := HA.ext E46
    replace HX := HX.ext E46
    replace HC := HC.ext E46
    replace H1 := H1.ext E46
    replace HG := HG.ext E46
    replace H2 := H2.ext E46
    replace ER := ER.ext E46
    replace Hrb := OI.made (Hrb 0 (Nat.zero_le _))
    conv => whnf
    refine ⟨?_, ?_, ?_⟩
    · conv => whnf
      refine VX.made (n := 10) Try.underlying25 eInt rfl (by omega) (by omega) fun ra w47 E47 Hra _ => ?_
      replace EE := EE.ext E47
      replace HA := HA.ext E47
      replace HX := HX.ext E47
      replace HC := HC.ext E47
      replace H1 := H1.ext E47
      replace HG := HG.ext E47
      replace H2 := H2.ext E47
      replace ER := ER.ext E47
      replace Hrb := Hrb.ext E47
      replace Hra := OI.made (Hra 0 (Nat.zero_le _))
      conv => whnf
      refine ⟨?_, ?_⟩
      · conv => whnf
        refine VX.made (n := 10) Try.underlying25 eInt rfl (by omega) (by omega) fun rc w48 E48 Hrc _ => ?_
        replace EE := EE.ext E48
        replace HA := HA.ext E48
        replace HX := HX.ext E48
        replace HC := HC.ext E48
        replace H1 := H1.ext E48
        replace HG := HG.ext E48
        replace H2 := H2.ext E48
        replace ER := ER.ext E48
        replace Hrb := Hrb.ext E48
        replace Hra := Hra.ext E48
        replace Hrc := OI.made (Hrc 0 (Nat.zero_le _))
        conv => whnf
        refine ⟨?_, ?_⟩
        · conv => whnf
          refine VX.litV [ra, rb, rc] Try.underlying22 eRow (by intro v hv; simp at hv; rcases hv with rfl | rfl | rfl <;> first | rfl | exact (Sl.cells (Own.sl Hra)).1 | exact (Sl.cells (Own.sl Hrb)).1 | exact (Sl.cells (Own.sl Hrc)).1) (by simp) fun mv w49 E49 HR _ => ?_
          replace EE := EE.ext E49
          replace HA := HA.ext E49
          replace HX := HX.ext E49
          replace HC := HC.ext E49
          replace H1 := H1.ext E49
          replace HG := HG.ext E49
          replace H2 := H2.ext E49
          replace ER := ER.ext E49
          replace Hrb := Hrb.ext E49
          replace Hra := Hra.ext E49
          replace Hrc := Hrc.ext E49
          replace HR : OM 0 w49 mv [ra, rb, rc] [List.replicate 10 0, List.replicate 10 0, List.replicate 10 0] := by
            refine ⟨HR _ (Nat.zero_le _), fun i hi => ?_⟩
            match i, hi with
            | 0, _ => exact Hra
            | 1, _ => exact Hrb
            | 2, _ => exact Hrc
          conv => whnf
          refine VS.field1 Try.underlying24 eGoods (by kernel_rfl) rfl (Sl.cells (Own.sl HR.top)).1 ?_
          conv => whnf
          have he0 := ER.size
          have EE__1 := EE
          have HA__1 := HA
          have HX__1 := HX
          have HC__1 := HC
          have H1__1 := H1
          have HG__1 := HG
          have H2__1 := H2
          have ER__1 := ER
          have Hrb__1 := Hrb
          have Hra__1 := Hra
          have Hrc__1 := Hrc
          have HR__1 := HR
          refine VX.alloc eGoods fun bk w50 E50 hb_bk Hk => ?_
          replace EE := EE.ext E50
          replace HA := HA.ext E50
          replace HX := HX.ext E50
          replace HC := HC.ext E50
          replace H1 := H1.ext E50
          replace HG := HG.ext E50
          replace H2 := H2.ext E50
          replace ER := ER.ext E50
          replace Hrb := Hrb.ext E50
          replace Hra := Hra.ext E50
          replace Hrc := Hrc.ext E50
          replace HR := HR.ext E50
          have EL1 := E50
          conv => whnf
          refine Blk.all Hk (by kernel_rfl) (by decide) rfl rfl (by intro v hv; simp at hv; subst hv; exact (Sl.cells (Own.sl HR.top)).2) fun wz Gz Hkz => ?_
          exact key _ _ _ _ _ _ (ER.new Gz (fun i hi hk => by omega)) (OM.blk22 HR Hk (by decide) (by decide) Gz) Hkz.at
        · conv => whnf
          have he0 := ER.size
          have EE__1 := EE
          have HA__1 := HA
          have HX__1 := HX
          have HC__1 := HC
          have H1__1 := H1
          have HG__1 := HG
          have H2__1 := H2
          have ER__1 := ER
          have Hrb__1 := Hrb
          have Hra__1 := Hra
          have Hrc__1 := Hrc
          refine VX.alloc eGoods fun bk w51 E51 hb_bk Hk => ?_
          replace EE := EE.ext E51
          replace HA := HA.ext E51
          replace HX := HX.ext E51
          replace HC := HC.ext E51
          replace H1 := H1.ext E51
          replace HG := HG.ext E51
          replace H2 := H2.ext E51
          replace ER := ER.ext E51
          replace Hrb := Hrb.ext E51
          replace Hra := Hra.ext E51
          replace Hrc := Hrc.ext E51
          have EL1 := E51
          conv => whnf
          refine VX.litV [ra, rb, rc] Try.underlying22 eRow (by intro v hv; simp at hv; rcases hv with rfl | rfl | rfl <;> first | rfl | exact (Sl.cells (Own.sl Hra)).1 | exact (Sl.cells (Own.sl Hrb)).1 | exact (Sl.cells (Own.sl Hrc)).1) (by simp) fun mv w52 E52 HR _ => ?_
          replace EE := EE.ext E52
          replace HA := HA.ext E52
          replace HX := HX.ext E52
          replace HC := HC.ext E52
          replace H1 := H1.ext E52
          replace HG := HG.ext E52
          replace H2 := H2.ext E52
          replace ER := ER.ext E52
          replace Hrb := Hrb.ext E52
          replace Hra := Hra.ext E52
          replace Hrc := Hrc.ext E52
          replace EL1 := EL1.ext E52
          replace Hk := Hk.ext E52
          replace HR : OM 0 w52 mv [ra, rb, rc] [List.replicate 10 0, List.replicate 10 0, List.replicate 10 0] := by
            refine ⟨HR _ (Nat.zero_le _), fun i hi => ?_⟩
            match i, hi with
            | 0, _ => exact Hra
            | 1, _ => exact Hrb
            | 2, _ => exact Hrc
          conv => whnf
          refine VS.field1 Try.underlying24 eGoods (by kernel_rfl) rfl (Sl.cells (Own.sl HR.top)).1 ?_
          conv => whnf
          refine Blk.all Hk (by kernel_rfl) (by decide) rfl rfl (by intro v hv; simp at hv; subst hv; exact (Sl.cells (Own.sl HR.top)).2) fun wz Gz Hkz => ?_
          exact key _ _ _ _ _ _ (ER.new Gz (fun i hi hk => by omega)) (OM.blk22 HR Hk (by decide) (by decide) Gz) Hkz.at
      · conv => whnf
        have he0 := ER.size
        have EE__1 := EE
        have HA__1 := HA
        have HX__1 := HX
        have HC__1 := HC
        have H1__1 := H1
        have HG__1 := HG
        have H2__1 := H2
        have ER__1 := ER
        have Hrb__1 := Hrb
        have Hra__1 := Hra
        refine VX.alloc eGoods fun bk w53 E53 hb_bk Hk => ?_
        replace EE := EE.ext E53
        replace HA := HA.ext E53
        replace HX := HX.ext E53
        replace HC := HC.ext E53
        replace H1 := H1.ext E53
        replace HG := HG.ext E53
        replace H2 := H2.ext E53
        replace ER := ER.ext E53
        replace Hrb := Hrb.ext E53
        replace Hra := Hra.ext E53
        have EL1 := E53
        conv => whnf
        refine VX.made (n := 10) Try.underlying25 eInt rfl (by omega) (by omega) fun rc w54 E54 Hrc _ => ?_
        replace EE := EE.ext E54
        replace HA := HA.ext E54
        replace HX := HX.ext E54
        replace HC := HC.ext E54
        replace H1 := H1.ext E54
        replace HG := HG.ext E54
        replace H2 := H2.ext E54
        replace ER := ER.ext E54
        replace Hrb := Hrb.ext E54
        replace Hra := Hra.ext E54
        replace EL1 := EL1.ext E54
        replace Hk := Hk.ext E54
        replace Hrc := OI.made (Hrc 0 (Nat.zero_le _))
        conv => whnf
        refine VX.litV [ra, rb, rc] Try.underlying22 eRow (by intro v hv; simp at hv; rcases hv with rfl | rfl | rfl <;> first | rfl | exact (Sl.cells (Own.sl Hra)).1 | exact (Sl.cells (Own.sl Hrb)).1 | exact (Sl.cells (Own.sl Hrc)).1) (by simp) fun mv w55 E55 HR _ => ?_
        replace EE := EE.ext E55
        replace HA := HA.ext E55
        replace HX := HX.ext E55
        replace HC := HC.ext E55
        replace H1 := H1.ext E55
        replace HG := HG.ext E55
        replace H2 := H2.ext E55
        replace ER := ER.ext E55
        replace Hrb := Hrb.ext E55
        replace Hra := Hra.ext E55
        replace EL1 := EL1.ext E55
        replace Hk := Hk.ext E55
        replace Hrc := Hrc.ext E55
        replace HR : OM 0 w55 mv [ra, rb, rc] [List.replicate 10 0, List.replicate 10 0, List.replicate 10 0] := by
          refine ⟨HR _ (Nat.zero_le _), fun i hi => ?_⟩
          match i, hi with
          | 0, _ => exact Hra
          | 1, _ => exact Hrb
          | 2, _ => exact Hrc
        conv => whnf
        refine VS.field1 Try.underlying24 eGoods (by kernel_rfl) rfl (Sl.cells (Own.sl HR.top)).1 ?_
        conv => whnf
        refine Blk.all Hk (by kernel_rfl) (by decide) rfl rfl (by intro v hv; simp at hv; subst hv; exact (Sl.cells (Own.sl HR.top)).2) fun wz Gz Hkz => ?_
        exact key _ _ _ _ _ _ (ER.new Gz (fun i hi hk => by omega)) (OM.blk22 HR Hk (by decide) (by decide) Gz) Hkz.at
    · conv => whnf
      refine VX.made (n := 10) Try.underlying25 eInt rfl (by omega) (by omega) fun rc w56 E56 Hrc _ => ?_
      replace EE := EE.ext E56
      replace HA := HA.ext E56
      replace HX := HX.ext E56
      replace HC := HC.ext E56
      replace H1 := H1.ext E56
      replace HG := HG.ext E56
      replace H2 := H2.ext E56
      replace ER := ER.ext E56
      replace Hrb := Hrb.ext E56
      replace Hrc := OI.made (Hrc 0 (Nat.zero_le _))
      conv => whnf
      refine ⟨?_, ?_⟩
      · conv => whnf
        refine VX.made (n := 10) Try.underlying25 eInt rfl (by omega) (by omega) fun ra w57 E57 Hra _ => ?_
        replace EE := EE.ext E57
        replace HA := HA.ext E57
        replace HX := HX.ext E57
        replace HC := HC.ext E57
        replace H1 := H1.ext E57
        replace HG := HG.ext E57
        replace H2 := H2.ext E57
        replace ER := ER.ext E57
        replace Hrb := Hrb.ext E57
        replace Hrc := Hrc.ext E57
        replace Hra := OI.made (Hra 0 (Nat.zero_le _))
        conv => whnf
        refine ⟨?_, ?_⟩
        · conv => whnf
          refine VX.litV [ra, rb, rc] Try.underlying22 eRow (by intro v hv; simp at hv; rcases hv with rfl | rfl | rfl <;> first | rfl | exact (Sl.cells (Own.sl Hra)).1 | exact (Sl.cells (Own.sl Hrb)).1 | exact (Sl.cells (Own.sl Hrc)).1) (by simp) fun mv w58 E58 HR _ => ?_
          replace EE := EE.ext E58
          replace HA := HA.ext E58
          replace HX := HX.ext E58
          replace HC := HC.ext E58
          replace H1 := H1.ext E58
          replace HG := HG.ext E58
          replace H2 := H2.ext E58
          replace ER := ER.ext E58
          replace Hrb := Hrb.ext E58
          replace Hrc := Hrc.ext E58
          replace Hra := Hra.ext E58
          replace HR : OM 0 w58 mv [ra, rb, rc] [List.replicate 10 0, List.replicate 10 0, List.replicate 10 0] := by
            refine ⟨HR _ (Nat.zero_le _), fun i hi => ?_⟩
            match i, hi with
            | 0, _ => exact Hra
            | 1, _ => exact Hrb
            | 2, _ => exact Hrc
          conv => whnf
          refine VS.field1 Try.underlying24 eGoods (by kernel_rfl) rfl (Sl.cells (Own.sl HR.top)).1 ?_
          conv => whnf
          have he0 := ER.size
          have EE__1 := EE
          have HA__1 := HA
          have HX__1 := HX
          have HC__1 := HC
          have H1__1 := H1
          have HG__1 := HG
          have H2__1 := H2
          have ER__1 := ER
          have Hrb__1 := Hrb
          have Hrc__1 := Hrc
          have Hra__1 := Hra
          have HR__1 := HR
          refine VX.alloc eGoods fun bk w59 E59 hb_bk Hk => ?_
          replace EE := EE.ext E59
          replace HA := HA.ext E59
          replace HX := HX.ext E59
          replace HC := HC.ext E59
          replace H1 := H1.ext E59
          replace HG := HG.ext E59
          replace H2 := H2.ext E59
          replace ER := ER.ext E59
          replace Hrb := Hrb.ext E59
          replace Hrc := Hrc.ext E59
          replace Hra := Hra.ext E59
          replace HR := HR.ext E59
          have EL1 := E59
          conv => whnf
          refine Blk.all Hk (by kernel_rfl) (by decide) rfl rfl (by intro v hv; simp at hv; subst hv; exact (Sl.cells (Own.sl HR.top)).2) fun wz Gz Hkz => ?_
          exact key _ _ _ _ _ _ (ER.new Gz (fun i hi hk => by omega)) (OM.blk22 HR Hk (by decide) (by decide) Gz) Hkz.at
        · conv => whnf
          have he0 := ER.size
          have EE__1 := EE
          have HA__1 := HA
          have HX__1 := HX
          have HC__1 := HC
          have H1__1 := H1
          have HG__1 := HG
          have H2__1 := H2
          have ER__1 := ER
          have Hrb__1 := Hrb
          have Hrc__1 := Hrc
          have Hra__1 := Hra
          refine VX.alloc eGoods fun bk w60 E60 hb_bk Hk => ?_
          replace EE := EE.ext E60
          replace HA := HA.ext E60
          replace HX := HX.ext E60
          replace HC := HC.ext E60
          replace H1 := H1.ext E60
          replace HG := HG.ext E60
          replace H2 := H2.ext E60
          replace ER := ER.ext E60
          replace Hrb := Hrb.ext E60
          replace Hrc := Hrc.ext E60
          replace Hra := Hra.ext E60
          have EL1 := E60
          conv => whnf
          refine VX.litV [ra, rb, rc] Try.underlying22 eRow (by intro v hv; simp at hv; rcases hv with rfl | rfl | rfl <;> first | rfl | exact (Sl.cells (Own.sl Hra)).1 | exact (Sl.cells (Own.sl Hrb)).1 | exact (Sl.cells (Own.sl Hrc)).1) (by simp) fun mv w61 E61 HR _ => ?_
          replace EE := EE.ext E61
          replace HA := HA.ext E61
          replace HX := HX.ext E61
          replace HC := HC.ext E61
          replace H1 := H1.ext E61
          replace HG := HG.ext E61
          replace H2 := H2.ext E61
          replace ER := ER.ext E61
          replace Hrb := Hrb.ext E61
          replace Hrc := Hrc.ext E61
          replace Hra := Hra.ext E61
          replace EL1 := EL1.ext E61
          replace Hk := Hk.ext E61
          replace HR : OM 0 w61 mv [ra, rb, rc] [List.replicate 10 0, List.replicate 10 0, List.replicate 10 0] := by
            refine ⟨HR _ (Nat.zero_le _), fun i hi => ?_⟩
            match i, hi with
            | 0, _ => exact Hra
            | 1, _ => exact Hrb
            | 2, _ => exact Hrc
          conv => whnf
          refine VS.field1 Try.underlying24 eGoods (by kernel_rfl) rfl (Sl.cells (Own.sl HR.top)).1 ?_
          conv => whnf
          refine Blk.all Hk (by kernel_rfl) (by decide) rfl rfl (by intro v hv; simp at hv; subst hv; exact (Sl.cells (Own.sl HR.top)).2) fun wz Gz Hkz => ?_
          exact key _ _ _ _ _ _ (ER.new Gz (fun i hi hk => by omega)) (OM.blk22 HR Hk (by decide) (by decide) Gz) Hkz.at
      · conv => whnf
        have he0 := ER.size
        have EE__1 := EE
        have HA__1 := HA
        have HX__1 := HX
        have HC__1 := HC
        have H1__1 := H1
        have HG__1 := HG
        have H2__1 := H2
        have ER__1 := ER
        have Hrb__1 := Hrb
        have Hrc__1 := Hrc
        refine VX.alloc eGoods fun bk w62 E62 hb_bk Hk => ?_
        replace EE := EE.ext E62
        replace HA := HA.ext E62
        replace HX := HX.ext E62
        replace HC := HC.ext E62
        replace H1 := H1.ext E62
        replace HG := HG.ext E62
        replace H2 := H2.ext E62
        replace ER := ER.ext E62
        replace Hrb := Hrb.ext E62
        replace Hrc := Hrc.ext E62
        have EL1 := E62
        conv => whnf
        refine VX.made (n := 10) Try.underlying25 eInt rfl (by omega) (by omega) fun ra w63 E63 Hra _ => ?_
        replace EE := EE.ext E63
        replace HA := HA.ext E63
        replace HX := HX.ext E63
        replace HC := HC.ext E63
        replace H1 := H1.ext E63
        replace HG := HG.ext E63
        replace H2 := H2.ext E63
        replace ER := ER.ext E63
        replace Hrb := Hrb.ext E63
        replace Hrc := Hrc.ext E63
        replace EL1 := EL1.ext E63
        replace Hk := Hk.ext E63
        replace Hra := OI.made (Hra 0 (Nat.zero_le _))
        conv => whnf
        refine VX.litV [ra, rb, rc] Try.underlying22 eRow (by intro v hv; simp at hv; rcases hv with rfl | rfl | rfl <;> first | rfl | exact (Sl.cells (Own.sl Hra)).1 | exact (Sl.cells (Own.sl Hrb)).1 | exact (Sl.cells (Own.sl Hrc)).1) (by simp) fun mv w64 E64 HR _ => ?_
        replace EE := EE.ext E64
        replace HA := HA.ext E64
        replace HX := HX.ext E64
        replace HC := HC.ext E64
        replace H1 := H1.ext E64
        replace HG := HG.ext E64
        replace H2 := H2.ext E64
        replace ER := ER.ext E64
        replace Hrb := Hrb.ext E64
        replace Hrc := Hrc.ext E64
        replace EL1 := EL1.ext E64
        replace Hk := Hk.ext E64
        replace Hra := Hra.ext E64
        replace HR : OM 0 w64 mv [ra, rb, rc] [List.replicate 10 0, List.replicate 10 0, List.replicate 10 0] := by
          refine ⟨HR _ (Nat.zero_le _), fun i hi => ?_⟩
          match i, hi with
          | 0, _ => exact Hra
          | 1, _ => exact Hrb
          | 2, _ => exact Hrc
        conv => whnf
        refine VS.field1 Try.underlying24 eGoods (by kernel_rfl) rfl (Sl.cells (Own.sl HR.top)).1 ?_
        conv => whnf
        refine Blk.all Hk (by kernel_rfl) (by decide) rfl rfl (by intro v hv; simp at hv; subst hv; exact (Sl.cells (Own.sl HR.top)).2) fun wz Gz Hkz => ?_
        exact key _ _ _ _ _ _ (ER.new Gz (fun i hi hk => by omega)) (OM.blk22 HR Hk (by decide) (by decide) Gz) Hkz.at
    · conv => whnf
      have he0 := ER.size
      have EE__1 := EE
      have HA__1 := HA
      have HX__1 := HX
      have HC__1 := HC
      have H1__1 := H1
      have HG__1 := HG
      have H2__1 := H2
      have ER__1 := ER
      have Hrb__1 := Hrb
      refine VX.alloc eGoods fun bk w65 E65 hb_bk Hk => ?_
      replace EE := EE.ext E65
      replace HA := HA.ext E65
      replace HX := HX.ext E65
      replace HC := HC.ext E65
      replace H1 := H1.ext E65
      replace HG := HG.ext E65
      replace H2 := H2.ext E65
      replace ER := ER.ext E65
      replace Hrb := Hrb.ext E65
      have EL1 := E65
      conv => whnf
      refine ⟨?_, ?_⟩
      · conv => whnf
        refine VX.made (n := 10) Try.underlying25 eInt rfl (by omega) (by omega) fun ra w66 E66 Hra _ => ?_
        replace EE := EE.ext E66
        replace HA := HA.ext E66
        replace HX := HX.ext E66
        replace HC := HC.ext E66
        replace H1 := H1.ext E66
        replace HG := HG.ext E66
        replace H2 := H2.ext E66
        replace ER := ER.ext E66
        replace Hrb := Hrb.ext E66
        replace EL1 := EL1.ext E66
        replace Hk := Hk.ext E66
        replace Hra := OI.made (Hra 0 (Nat.zero_le _))
        conv => whnf
        refine VX.made (n := 10) Try.underlying25 eInt rfl (by omega) (by omega) fun rc w67 E67 Hrc _ => ?_
        replace EE := EE.ext E67
        replace HA := HA.ext E67
        replace HX := HX.ext E67
        replace HC := HC.ext E67
        replace H1 := H1.ext E67
        replace HG := HG.ext E67
        replace H2 := H2.ext E67
        replace ER := ER.ext E67
        replace Hrb := Hrb.ext E67
        replace EL1 := EL1.ext E67
        replace Hk := Hk.ext E67
        replace Hra := Hra.ext E67
        replace Hrc := OI.made (Hrc 0 (Nat.zero_le _))
        conv => whnf
        refine VX.litV [ra, rb, rc] Try.underlying22 eRow (by intro v hv; simp at hv; rcases hv with rfl | rfl | rfl <;> first | rfl | exact (Sl.cells (Own.sl Hra)).1 | exact (Sl.cells (Own.sl Hrb)).1 | exact (Sl.cells (Own.sl Hrc)).1) (by simp) fun mv w68 E68 HR _ => ?_
        replace EE := EE.ext E68
        replace HA := HA.ext E68
        replace HX := HX.ext E68
        replace HC := HC.ext E68
        replace H1 := H1.ext E68
        replace HG := HG.ext E68
        replace H2 := H2.ext E68
        replace ER := ER.ext E68
        replace Hrb := Hrb.ext E68
        replace EL1 := EL1.ext E68
        replace Hk := Hk.ext E68
        replace Hra := Hra.ext E68
        replace Hrc := Hrc.ext E68
        replace HR : OM 0 w68 mv [ra, rb, rc] [List.replicate 10 0, List.replicate 10 0, List.replicate 10 0] := by
          refine ⟨HR _ (Nat.zero_le _), fun i hi => ?_⟩
          match i, hi with
          | 0, _ => exact Hra
          | 1, _ => exact Hrb
          | 2, _ => exact Hrc
        conv => whnf
        refine VS.field1 Try.underlying24 eGoods (by kernel_rfl) rfl (Sl.cells (Own.sl HR.top)).1 ?_
        conv => whnf
        refine Blk.all Hk (by kernel_rfl) (by decide) rfl rfl (by intro v hv; simp at hv; subst hv; exact (Sl.cells (Own.sl HR.top)).2) fun wz Gz Hkz => ?_
        exact key _ _ _ _ _ _ (ER.new Gz (fun i hi hk => by omega)) (OM.blk22 HR Hk (by decide) (by decide) Gz) Hkz.at
      · conv => whnf
        refine VX.made (n := 10) Try.underlying25 eInt rfl (by omega) (by omega) fun rc w69 E69 Hrc _ => ?_
        replace EE := EE.ext E69
        replace HA := HA.ext E69
        replace HX := HX.ext E69
        replace HC := HC.ext E69
        replace H1 := H1.ext E69
        replace HG := HG.ext E69
        replace H2 := H2.ext E69
        replace ER := ER.ext E69
        replace Hrb := Hrb.ext E69
        replace EL1 := EL1.ext E69
        replace Hk := Hk.ext E69
        replace Hrc := OI.made (Hrc 0 (Nat.zero_le _))
        conv => whnf
        refine VX.made (n := 10) Try.underlying25 eInt rfl (by omega) (by omega) fun ra w70 E70 Hra _ => ?_
        replace EE := EE.ext E70
        replace HA := HA.ext E70
        replace HX := HX.ext E70
        replace HC := HC.ext E70
        replace H1 := H1.ext E70
        replace HG := HG.ext E70
        replace H2 := H2.ext E70
        replace ER := ER.ext E70
        replace Hrb := Hrb.ext E70
        replace EL1 := EL1.ext E70
        replace Hk := Hk.ext E70
        replace Hrc := Hrc.ext E70
        replace Hra := OI.made (Hra 0 (Nat.zero_le _))
        conv => whnf
        refine VX.litV [ra, rb, rc] Try.underlying22 eRow (by intro v hv; simp at hv; rcases hv with rfl | rfl | rfl <;> first | rfl | exact (Sl.cells (Own.sl Hra)).1 | exact (Sl.cells (Own.sl Hrb)).1 | exact (Sl.cells (Own.sl Hrc)).1) (by simp) fun mv w71 E71 HR _ => ?_
        replace EE := EE.ext E71
        replace HA := HA.ext E71
        replace HX := HX.ext E71
        replace HC := HC.ext E71
        replace H1 := H1.ext E71
        replace HG := HG.ext E71
        replace H2 := H2.ext E71
        replace ER := ER.ext E71
        replace Hrb := Hrb.ext E71
        replace EL1 := EL1.ext E71
        replace Hk := Hk.ext E71
        replace Hrc := Hrc.ext E71
        replace Hra := Hra.ext E71
        replace HR : OM 0 w71 mv [ra, rb, rc] [List.replicate 10 0, List.replicate 10 0, List.replicate 10 0] := by
          refine ⟨HR _ (Nat.zero_le _), fun i hi => ?_⟩
          match i, hi with
          | 0, _ => exact Hra
          | 1, _ => exact Hrb
          | 2, _ => exact Hrc
        conv => whnf
        refine VS.field1 Try.underlying24 eGoods (by kernel_rfl) rfl (Sl.cells (Own.sl HR.top)).1 ?_
        conv => whnf
        refine Blk.all Hk (by kernel_rfl) (by decide) rfl rfl (by intro v hv; simp at hv; subst hv; exact (Sl.cells (Own.sl HR.top)).2) fun wz Gz Hkz => ?_
        exact key _ _ _ _ _ _ (ER.new Gz (fun i hi hk => by omega)) (OM.blk22 HR Hk (by decide) (by decide) Gz) Hkz.at
  · conv => whnf
    refine VX.made (n := 10) Try.underlying25 eInt rfl (by omega) (by omega) fun rc w72 E72 Hrc _ => ?_
    replace EE := EE.ext E72
    replace HA := HA.ext E72
    replace HX := HX.ext E72
    replace HC := HC.ext E72
    replace H1 := H1.ext E72
    replace HG := HG.ext E72
    replace H2 := H2.ext E72
    replace ER := ER.ext E72
    replace Hrc := OI.made (Hrc 0 (Nat.zero_le _))
    conv => whnf
    refine ⟨?_, ?_, ?_⟩
    · conv => whnf
      refine VX.made (n := 10) Try.underlying25 eInt rfl (by omega) (by omega) fun ra w73 E73 Hra _ => ?_
      replace EE := EE.ext E73
      replace HA := HA.ext E73
      replace HX := HX.ext E73
      replace HC := HC.ext E73
      replace H1 := H1.ext E73
      replace HG := HG.ext E73
      replace H2 := H2.ext E73
      replace ER := ER.ext E73
      replace Hrc := Hrc.ext E73
      replace Hra := OI.made (Hra 0 (Nat.zero_le _))
      conv => whnf
      refine ⟨?_, ?_⟩
      · conv => whnf
        refine VX.made (n := 10) Try.underlying25 eInt rfl (by omega) (by omega) fun rb w74 E74 Hrb _ => ?_
        replace EE := EE.ext E74
        replace HA := HA.ext E74
        replace HX := HX.ext E74
        replace HC := HC.ext E74
        replace H1 := H1.ext E74
        replace HG := HG.ext E74
        replace H2 := H2.ext E74
        replace ER := ER.ext E74
        replace Hrc := Hrc.ext E74
        replace Hra := Hra.ext E74
        replace Hrb := OI.made (Hrb 0 (Nat.zero_le _))
        conv => whnf
        refine ⟨?_, ?_⟩
        · conv => whnf
          refine VX.litV [ra, rb, rc] Try.underlying22 eRow (by intro v hv; simp at hv; rcases hv with rfl | rfl | rfl <;> first | rfl | exact (Sl.cells (Own.sl Hra)).1 | exact (Sl.cells (Own.sl Hrb)).1 | exact (Sl.cells (Own.sl Hrc)).1) (by simp) fun mv w75 E75 HR _ => ?_
          replace EE := EE.ext E75
          replace HA := HA.ext E75
          replace HX := HX.ext E75
          replace HC := HC.ext E75
          replace H1 := H1.ext E75
          replace HG := HG.ext E75
          replace H2 := H2.ext E75
          replace ER := ER.ext E75
          replace Hrc := Hrc.ext E75
          replace Hra := Hra.ext E75
          replace Hrb := Hrb.ext E75
          replace HR : OM 0 w75 mv [ra, rb, rc] [List.replicate 10 0, List.replicate 10 0, List.replicate 10 0] := by
            refine ⟨HR _ (Nat.zero_le _), fun i hi => ?_⟩
            match i, hi with
            | 0, _ => exact Hra
            | 1, _ => exact Hrb
            | 2, _ => exact Hrc
          conv => whnf
          refine VS.field1 Try.underlying24 eGoods (by kernel_rfl) rfl (Sl.cells (Own.sl HR.top)).1 ?_
          conv => whnf
          have he0 := ER.size
          have EE__1 := EE
          have HA__1 := HA
          have HX__1 := HX
          have HC__1 := HC
          have H1__1 := H1
          have HG__1 := HG
          have H2__1 := H2
          have ER__1 := ER
          have Hrc__1 := Hrc
          have Hra__1 := Hra
          have Hrb__1 := Hrb
          have HR__1 := HR
          refine VX.alloc eGoods fun bk w76 E76 hb_bk Hk => ?_
          replace EE := EE.ext E76
          replace HA := HA.ext E76
          replace HX := HX.ext E76
          replace HC := HC.ext E76
          replace H1 := H1.ext E76
          replace HG := HG.ext E76
          replace H2 := H2.ext E76
          replace ER := ER.ext E76
          replace Hrc := Hrc.ext E76
          replace Hra := Hra.ext E76
          replace Hrb := Hrb.ext E76
          replace HR := HR.ext E76
          have EL1 := E76
          conv => whnf
          refine Blk.all Hk (by kernel_rfl) (by decide) rfl rfl (by intro v hv; simp at hv; subst hv; exact (Sl.cells (Own.sl HR.top)).2) fun wz Gz Hkz => ?_
          exact key _ _ _ _ _ _ (ER.new Gz (fun i hi hk => by omega)) (OM.blk22 HR Hk (by decide) (by decide) Gz) Hkz.at
        · conv => whnf
          have he0 := ER.size
          have EE__1 := EE
          have HA__1 := HA
          have HX__1 := HX
          have HC__1 := HC
          have H1__1 := H1
          have HG__1 := HG
          have H2__1 := H2
          have ER__1 := ER
          have Hrc__1 := Hrc
          have Hra__1 := Hra
          have Hrb__1 := Hrb
          refine VX.alloc eGoods fun bk w77 E77 hb_bk Hk => ?_
          replace EE := EE.ext E77
          replace HA := HA.ext E77
          replace HX := HX.ext E77
          replace HC := HC.ext E77
          replace H1 := H1.ext E77
          replace HG := HG.ext E77
          replace H2 := H2.ext E77
          replace ER := ER.ext E77
          replace Hrc := Hrc.ext E77
          replace Hra := Hra.ext E77
          replace Hrb := Hrb.ext E77
          have EL1 := E77
          conv => whnf
          refine VX.litV [ra, rb, rc] Try.underlying22 eRow (by intro v hv; simp at hv; rcases hv with rfl | rfl | rfl <;> first | rfl | exact (Sl.cells (Own.sl Hra)).1 | exact (Sl.cells (Own.sl Hrb)).1 | exact (Sl.cells (Own.sl Hrc)).1) (by simp) fun mv w78 E78 HR _ => ?_
          replace EE := EE.ext E78
          replace HA := HA.ext E78
          replace HX := HX.ext E78
          replace HC := HC.ext E78
          replace H1 := H1.ext E78
          replace HG := HG.ext E78
          replace H2 := H2.ext E78
          replace ER := ER.ext E78
          replace Hrc := Hrc.ext E78
          replace Hra := Hra.ext E78
          replace Hrb := Hrb.ext E78
          replace EL1 := EL1.ext E78
          replace Hk := Hk.ext E78
          replace HR : OM 0 w78 mv [ra, rb, rc] [List.replicate 10 0, List.replicate 10 0, List.replicate 10 0] := by
            refine ⟨HR _ (Nat.zero_le _), fun i hi => ?_⟩
            match i, hi with
            | 0, _ => exact Hra
            | 1, _ => exact Hrb
            | 2, _ => exact Hrc
          conv => whnf
          refine VS.field1 Try.underlying24 eGoods (by kernel_rfl) rfl (Sl.cells (Own.sl HR.top)).1 ?_
          conv => whnf
          refine Blk.all Hk (by kernel_rfl) (by decide) rfl rfl (by intro v hv; simp at hv; subst hv; exact (Sl.cells (Own.sl HR.top)).2) fun wz Gz Hkz => ?_
          exact key _ _ _ _ _ _ (ER.new Gz (fun i hi hk => by omega)) (OM.blk22 HR Hk (by decide) (by decide) Gz) Hkz.at
      · conv => whnf
        have he0 := ER.size
        have EE__1 := EE
        have HA__1 := HA
        have HX__1 := HX
        have HC__1 := HC
        have H1__1 := H1
        have HG__1 := HG
        have H2__1 := H2
        have ER__1 := ER
        have Hrc__1 := Hrc
        have Hra__1 := Hra
        refine VX.alloc eGoods fun bk w79 E79 hb_bk Hk => ?_
        replace EE := EE.ext E79
        replace HA := HA.ext E79
        replace HX := HX.ext E79
        replace HC := HC.ext E79
        replace H1 := H1.ext E79
        replace HG := HG.ext E79
        replace H2 := H2.ext E79
        replace ER := ER.ext E79
        replace Hrc := Hrc.ext E79
        replace Hra := Hra.ext E79
        have EL1 := E79
        conv => whnf
        refine VX.made (n := 10) Try.underlying25 eInt rfl (by omega) (by omega) fun rb w80 E80 Hrb _ => ?_
        replace EE := EE.ext E80
        replace HA := HA.ext E80
        replace HX := HX.ext E80
        replace HC := HC.ext E80
        replace H1 := H1.ext E80
        replace HG := HG.ext E80
        replace H2 := H2.ext E80
        replace ER := ER.ext E80
        replace Hrc := Hrc.ext E80
        replace Hra := Hra.ext E80
        replace EL1 := EL1.ext E80
        replace Hk := Hk.ext E80
        replace Hrb := OI.made (Hrb 0 (Nat.zero_le _))
        conv => whnf
        refine VX.litV [ra, rb, rc] Try.underlying22 eRow (by intro v hv; simp at hv; rcases hv with rfl | rfl | rfl <;> first | rfl | exact (Sl.cells (Own.sl Hra)).1 | exact (Sl.cells (Own.sl Hrb)).1 | exact (Sl.cells (Own.sl Hrc)).1) (by simp) fun mv w81 E81 HR _ => ?_
        replace EE := EE.ext E81
        replace HA := HA.ext E81
        replace HX := HX.ext E81
        replace HC := HC.ext E81
        replace H1 := H1.ext E81
        replace HG := HG.ext E81
        replace H2 := H2.ext E81
        replace ER := ER.ext E81
        replace Hrc := Hrc.ext E81
        replace Hra := Hra.ext E81
        replace EL1 := EL1.ext E81
        replace Hk := Hk.ext E81
        replace Hrb := Hrb.ext E81
        replace HR : OM 0 w81 mv [ra, rb, rc] [List.replicate 10 0, List.replicate 10 0, List.replicate 10 0] := by
          refine ⟨HR _ (Nat.zero_le _), fun i hi => ?_⟩
          match i, hi with
          | 0, _ => exact Hra
          | 1, _ => exact Hrb
          | 2, _ => exact Hrc
        conv => whnf
        refine VS.field1 Try.underlying24 eGoods (by kernel_rfl) rfl (Sl.cells (Own.sl HR.top)).1 ?_
        conv => whnf
        refine Blk.all Hk (by kernel_rfl) (by decide) rfl rfl (by intro v hv; simp at hv; subst hv; exact (Sl.cells (Own.sl HR.top)).2) fun wz Gz Hkz => ?_
        exact key _ _ _ _ _ _ (ER.new Gz (fun i hi hk => by omega)) (OM.blk22 HR Hk (by decide) (by decide) Gz) Hkz.at
    · conv => whnf
      refine VX.made (n := 10) Try.underlying25 eInt rfl (by omega) (by omega) fun rb w82 E82 Hrb _ => ?_
      replace EE := EE.ext E82
      replace HA := HA.ext E82
      replace HX := HX.ext E82
      replace HC := HC.ext E82
      replace H1 := H1.ext E82
      replace HG := HG.ext E82
      replace H2 := H2.ext E82
      replace ER := ER.ext E82
      replace Hrc := Hrc.ext E82
      replace Hrb := OI.made (Hrb 0 (Nat.zero_le _))
      conv => whnf
      refine ⟨?_, ?_⟩
      · conv => whnf
        refine VX.made (n := 10) Try.underlying25 eInt rfl (by omega) (by omega) fun ra w83 E83 Hra _ => ?_
        replace EE := EE.ext E83
        replace HA := HA.ext E83
        replace HX := HX.ext E83
        replace HC := HC.ext E83
        replace H1 := H1.ext E83
        replace HG := HG.ext E83
        replace H2 := H2.ext E83
        replace ER := ER.ext E83
        replace Hrc := Hrc.ext E83
        replace Hrb := Hrb.ext E83
        replace Hra := OI.made (Hra 0 (Nat.zero_le _))
        conv => whnf
        refine ⟨?_, ?_⟩
        · conv => whnf
          refine VX.litV [ra, rb, rc] Try.underlying22 eRow (by intro v hv; simp at hv; rcases hv with rfl | rfl | rfl <;> first | rfl | exact (Sl.cells (Own.sl Hra)).1 | exact (Sl.cells (Own.sl Hrb)).1 | exact (Sl.cells (Own.sl Hrc)).1) (by simp) fun mv w84 E84 HR _ => ?_
          replace EE := EE.ext E84
          replace HA := HA.ext E84
          replace HX := HX.ext E84
          replace HC := HC.ext E84
          replace H1 := H1.ext E84
          replace HG := HG.ext E84
          replace H2 := H2.ext E84
          replace ER := ER.ext E84
          replace Hrc := Hrc.ext E84
          replace Hrb := Hrb.ext E84
          replace Hra := Hra.ext E84
          replace HR : OM 0 w84 mv [ra, rb, rc] [List.replicate 10 0, List.replicate 10 0, List.replicate 10 0] := by
            refine ⟨HR _ (Nat.zero_le _), fun i hi => ?_⟩
            match i, hi with
            | 0, _ => exact Hra
            | 1, _ => exact Hrb
            | 2, _ => exact Hrc
          conv => whnf
          refine VS.field1 Try.underlying24 eGoods (by kernel_rfl) rfl (Sl.cells (Own.sl HR.top)).1 ?_
          conv => whnf
          have he0 := ER.size
          have EE__1 := EE
          have HA__1 := HA
          have HX__1 := HX
          have HC__1 := HC
          have H1__1 := H1
          have HG__1 := HG
          have H2__1 := H2
          have ER__1 := ER
          have Hrc__1 := Hrc
          have Hrb__1 := Hrb
          have Hra__1 := Hra
          have HR__1 := HR
          refine VX.alloc eGoods fun bk w85 E85 hb_bk Hk => ?_
          replace EE := EE.ext E85
          replace HA := HA.ext E85
          replace HX := HX.ext E85
          replace HC := HC.ext E85
          replace H1 := H1.ext E85
          replace HG := HG.ext E85
          replace H2 := H2.ext E85
          replace ER := ER.ext E85
          replace Hrc := Hrc.ext E85
          replace Hrb := Hrb.ext E85
          replace Hra := Hra.ext E85
          replace HR := HR.ext E85
          have EL1 := E85
          conv => whnf
          refine Blk.all Hk (by kernel_rfl) (by decide) rfl rfl (by intro v hv; simp at hv; subst hv; exact (Sl.cells (Own.sl HR.top)).2) fun wz Gz Hkz => ?_
          exact key _ _ _ _ _ _ (ER.new Gz (fun i hi hk => by omega)) (OM.blk22 HR Hk (by decide) (by decide) Gz) Hkz.at
        · conv => whnf
          have he0 := ER.size
          have EE__1 := EE
          have HA__1 := HA
          have HX__1 := HX
          have HC__1 := HC
          have H1__1 := H1
          have HG__1 := HG
          have H2__1 := H2
          have ER__1 := ER
          have Hrc__1 := Hrc
          have Hrb__1 := Hrb
          have Hra__1 := Hra
          refine VX.alloc eGoods fun bk w86 E86 hb_bk Hk => ?_
          replace EE := EE.ext E86
          replace HA := HA.ext E86
          replace HX := HX.ext E86
          replace HC := HC.ext E86
          replace H1 := H1.ext E86
          replace HG := HG.ext E86
          replace H2 := H2.ext E86
          replace ER := ER.ext E86
          replace Hrc := Hrc.ext E86
          replace Hrb := Hrb.ext E86
          replace Hra := Hra.ext E86
          have EL1 := E86
          conv => whnf
          refine VX.litV [ra, rb, rc] Try.underlying22 eRow (by intro v hv; simp at hv; rcases hv with rfl | rfl | rfl <;> first | rfl | exact (Sl.cells (Own.sl Hra)).1 | exact (Sl.cells (Own.sl Hrb)).1 | exact (Sl.cells (Own.sl Hrc)).1) (by simp) fun mv w87 E87 HR _ => ?_
          replace EE := EE.ext E87
          replace HA := HA.ext E87
          replace HX := HX.ext E87
          replace HC := HC.ext E87
          replace H1 := H1.ext E87
          replace HG := HG.ext E87
          replace H2 := H2.ext E87
          replace ER := ER.ext E87
          replace Hrc := Hrc.ext E87
          replace Hrb := Hrb.ext E87
          replace Hra := Hra.ext E87
          replace EL1 := EL1.ext E87
          replace Hk := Hk.ext E87
          replace HR : OM 0 w87 mv [ra, rb, rc] [List.replicate 10 0, List.replicate 10 0, List.replicate 10 0] := by
            refine ⟨HR _ (Nat.zero_le _), fun i hi => ?_⟩
            match i, hi with
            | 0, _ => exact Hra
            | 1, _ => exact Hrb
            | 2, _ => exact Hrc
          conv => whnf
          refine VS.field1 Try.underlying24 eGoods (by kernel_rfl) rfl (Sl.cells (Own.sl HR.top)).1 ?_
          conv => whnf
          refine Blk.all Hk (by kernel_rfl) (by decide) rfl rfl (by intro v hv; simp at hv; subst hv; exact (Sl.cells (Own.sl HR.top)).2) fun wz Gz Hkz => ?_
          exact key _ _ _ _ _ _ (ER.new Gz (fun i hi hk => by omega)) (OM.blk22 HR Hk (by decide) (by decide) Gz) Hkz.at
      · conv => whnf
        have he0 := ER.size
        have EE__1 := EE
        have HA__1 := HA
        have HX__1 := HX
        have HC__1 := HC
        have H1__1 := H1
        have HG__1 := HG
        have H2__1 := H2
        have ER__1 := ER
        have Hrc__1 := Hrc
        have Hrb__1 := Hrb
        refine VX.alloc eGoods fun bk w88 E88 hb_bk Hk => ?_
        replace EE := EE.ext E88
        replace HA := HA.ext E88
        replace HX := HX.ext E88
        replace HC := HC.ext E88
        replace H1 := H1.ext E88
        replace HG := HG.ext E88
        replace H2 := H2.ext E88
        replace ER := ER.ext E88
        replace Hrc := Hrc.ext E88
        replace Hrb := Hrb.ext E88
        have EL1 := E88
        conv => whnf
        refine VX.made (n := 10) Try.underlying25 eInt rfl (by omega) (by omega) fun ra w89 E89 Hra _ => ?_
        replace EE := EE.ext E89
        replace HA := HA.ext E89
        replace HX := HX.ext E89
        replace HC := HC.ext E89
        replace H1 := H1.ext E89
        replace HG := HG.ext E89
        replace H2 := H2.ext E89
        replace ER := ER.ext E89
        replace Hrc := Hrc.ext E89
        replace Hrb := Hrb.ext E89
        replace EL1 := EL1.ext E89
        replace Hk := Hk.ext E89
        replace Hra := OI.made (Hra 0 (Nat.zero_le _))
        conv => whnf
        refine VX.litV [ra, rb, rc] Try.underlying22 eRow (by intro v hv; simp at hv; rcases hv with rfl | rfl | rfl <;> first | rfl | exact (Sl.cells (Own.sl Hra)).1 | exact (Sl.cells (Own.sl Hrb)).1 | exact (Sl.cells (Own.sl Hrc)).1) (by simp) fun mv w90 E90 HR _ => ?_
        replace EE := EE.ext E90
        replace HA := HA.ext E90
        replace HX := HX.ext E90
        replace HC := HC.ext E90
        replace H1 := H1.ext E90
        replace HG := HG.ext E90
        replace H2 := H2.ext E90
        replace ER := ER.ext E90
        replace Hrc := Hrc.ext E90
        replace Hrb := Hrb.ext E90
        replace EL1 := EL1.ext E90
        replace Hk := Hk.ext E90
        replace Hra := Hra.ext E90
        replace HR : OM 0 w90 mv [ra, rb, rc] [List.replicate 10 0, List.replicate 10 0, List.replicate 10 0] := by
          refine ⟨HR _ (Nat.zero_le _), fun i hi => ?_⟩
          match i, hi with
          | 0, _ => exact Hra
          | 1, _ => exact Hrb
          | 2, _ => exact Hrc
        conv => whnf
        refine VS.field1 Try.underlying24 eGoods (by kernel_rfl) rfl (Sl.cells (Own.sl HR.top)).1 ?_
        conv => whnf
        refine Blk.all Hk (by kernel_rfl) (by decide) rfl rfl (by intro v hv; simp at hv; subst hv; exact (Sl.cells (Own.sl HR.top)).2) fun wz Gz Hkz => ?_
        exact key _ _ _ _ _ _ (ER.new Gz (fun i hi hk => by omega)) (OM.blk22 HR Hk (by decide) (by decide) Gz) Hkz.at
    · conv => whnf
      have he0 := ER.size
      have EE__1 := EE
      have HA__1 := HA
      have HX__1 := HX
      have HC__1 := HC
      have H1__1 := H1
      have HG__1 := HG
      have H2__1 := H2
      have ER__1 := ER
      have Hrc__1 := Hrc
      refine VX.alloc eGoods fun bk w91 E91 hb_bk Hk => ?_
      replace EE := EE.ext E91
      replace HA := HA.ext E91
      replace HX := HX.ext E91
      replace HC := HC.ext E91
      replace H1 := H1.ext E91
      replace HG := HG.ext E91
      replace H2 := H2.ext E91
      replace ER := ER.ext E91
      replace Hrc := Hrc.ext E91
      have EL1 := E91
      conv => whnf
      refine ⟨?_, ?_⟩
      · conv => whnf
        refine VX.made (n := 10) Try.underlying25 eInt rfl (by omega) (by omega) fun ra w92 E92 Hra _ => ?_
        replace EE := EE.ext E92
        replace HA := HA.ext E92
        replace HX := HX.ext E92
        replace HC := HC.ext E92
        replace H1 := H1.ext E92
        replace HG := HG.ext E92
        replace H2 := H2.ext E92
        replace ER := ER.ext E92
        replace Hrc := Hrc.ext E92
        replace EL1 := EL1.ext E92
        replace Hk := Hk.ext E92
        replace Hra := OI.made (Hra 0 (Nat.zero_le _))
        conv => whnf
        refine VX.made (n := 10) Try.underlying25 eInt rfl (by omega) (by omega) fun rb w93 E93 Hrb _ => ?_
        replace EE := EE.ext E93
        replace HA := HA.ext E93
        replace HX := HX.ext E93
        replace HC := HC.ext E93
        replace H1 := H1.ext E93
        replace HG := HG.ext E93
        replace H2 := H2.ext E93
        replace ER := ER.ext E93
        replace Hrc := Hrc.ext E93
        replace EL1 := EL1.ext E93
        replace Hk := Hk.ext E93
        replace Hra := Hra.ext E93
        replace Hrb := OI.made (Hrb 0 (Nat.zero_le _))
        conv => whnf
        refine VX.litV [ra, rb, rc] Try.underlying22 eRow (by intro v hv; simp at hv; rcases hv with rfl | rfl | rfl <;> first | rfl | exact (Sl.cells (Own.sl Hra)).1 | exact (Sl.cells (Own.sl Hrb)).1 | exact (Sl.cells (Own.sl Hrc)).1) (by simp) fun mv w94 E94 HR _ => ?_
        replace EE := EE.ext E94
        replace HA := HA.ext E94
        replace HX := HX.ext E94
        replace HC := HC.ext E94
        replace H1 := H1.ext E94
        replace HG := HG.ext E94
        replace H2 := H2.ext E94
        replace ER := ER.ext E94
        replace Hrc := Hrc.ext E94
        replace EL1 := EL1.ext E94
        replace Hk := Hk.ext E94
        replace Hra := Hra.ext E94
        replace Hrb := Hrb.ext E94
        replace HR : OM 0 w94 mv [ra, rb, rc] [List.replicate 10 0, List.replicate 10 0, List.replicate 10 0] := by
          refine ⟨HR _ (Nat.zero_le _), fun i hi => ?_⟩
          match i, hi with
          | 0, _ => exact Hra
          | 1, _ => exact Hrb
          | 2, _ => exact Hrc
        conv => whnf
        refine VS.field1 Try.underlying24 eGoods (by kernel_rfl) rfl (Sl.cells (Own.sl HR.top)).1 ?_
        conv => whnf
        refine Blk.all Hk (by kernel_rfl) (by decide) rfl rfl (by intro v hv; simp at hv; subst hv; exact (Sl.cells (Own.sl HR.top)).2) fun wz Gz Hkz => ?_
        exact key _ _ _ _ _ _ (ER.new Gz (fun i hi hk => by omega)) (OM.blk22 HR Hk (by decide) (by decide) Gz) Hkz.at
      · conv => whnf
        refine VX.made (n := 10) Try.underlying25 eInt rfl (by omega) (by omega) fun rb w95 E95 Hrb _ => ?_
        replace EE := EE.ext E95
        replace HA := HA.ext E95
        replace HX := HX.ext E95
        replace HC := HC.ext E95
        replace H1 := H1.ext E95
        replace HG := HG.ext E95
        replace H2 := H2.ext E95
        replace ER := ER.ext E95
        replace Hrc := Hrc.ext E95
        replace EL1 := EL1.ext E95
        replace Hk := Hk.ext E95
        replace Hrb := OI.made (Hrb 0 (Nat.zero_le _))
        conv => whnf
        refine VX.made (n := 10) Try.underlying25 eInt rfl (by omega) (by omega) fun ra w96 E96 Hra _ => ?_
        replace EE := EE.ext E96
        replace HA := HA.ext E96
        replace HX := HX.ext E96
        replace HC := HC.ext E96
        replace H1 := H1.ext E96
        replace HG := HG.ext E96
        replace H2 := H2.ext E96
        replace ER := ER.ext E96
        replace Hrc := Hrc.ext E96
        replace EL1 := EL1.ext E96
        replace Hk := Hk.ext E96
        replace Hrb := Hrb.ext E96
        replace Hra := OI.made (Hra 0 (Nat.zero_le _))
        conv => whnf
        refine VX.litV [ra, rb, rc] Try.underlying22 eRow (by intro v hv; simp at hv; rcases hv with rfl | rfl | rfl <;> first | rfl | exact (Sl.cells (Own.sl Hra)).1 | exact (Sl.cells (Own.sl Hrb)).1 | exact (Sl.cells (Own.sl Hrc)).1) (by simp) fun mv w97 E97 HR _ => ?_
        replace EE := EE.ext E97
        replace HA := HA.ext E97
        replace HX := HX.ext E97
        replace HC := HC.ext E97
        replace H1 := H1.ext E97
        replace HG := HG.ext E97
        replace H2 := H2.ext E97
        replace ER := ER.ext E97
        replace Hrc := Hrc.ext E97
        replace EL1 := EL1.ext E97
        replace Hk := Hk.ext E97
        replace Hrb := Hrb.ext E97
        replace Hra := Hra.ext E97
        replace HR : OM 0 w97 mv [ra, rb, rc] [List.replicate 10 0, List.replicate 10 0, List.replicate 10 0] := by
          refine ⟨HR _ (Nat.zero_le _), fun i hi => ?_⟩
          match i, hi with
          | 0, _ => exact Hra
          | 1, _ => exact Hrb
          | 2, _ => exact Hrc
        conv => whnf
        refine VS.field1 Try.underlying24 eGoods (by kernel_rfl) rfl (Sl.cells (Own.sl HR.top)).1 ?_
        conv => whnf
        refine Blk.all Hk (by kernel_rfl) (by decide) rfl rfl (by intro v hv; simp at hv; subst hv; exact (Sl.cells (Own.sl HR.top)).2) fun wz Gz Hkz => ?_
        exact key _ _ _ _ _ _ (ER.new Gz (fun i hi hk => by omega)) (OM.blk22 HR Hk (by decide) (by decide) Gz) Hkz.at
  · conv => whnf
    have he0 := ER.size
    have EE__1 := EE
    have HA__1 := HA
    have HX__1 := HX
    have HC__1 := HC
    have H1__1 := H1
    have HG__1 := HG
    have H2__1 := H2
    have ER__1 := ER
    refine VX.alloc eGoods fun bk w98 E98 hb_bk Hk => ?_
    replace EE := EE.ext E98
    replace HA := HA.ext E98
    replace HX := HX.ext E98
    replace HC := HC.ext E98
    replace H1 := H1.ext E98
    replace HG := HG.ext E98
    replace H2 := H2.ext E98
    replace ER := ER.ext E98
    have EL1 := E98
    conv => whnf
    refine ⟨?_, ?_, ?_⟩
    · conv => whnf
      refine VX.made (n := 10) Try.underlying25 eInt rfl (by omega) (by omega) fun ra w99 E99 Hra _ => ?_
      replace EE := EE.ext E99
      replace HA := HA.ext E99
      replace HX := HX.ext E99
      replace HC := HC.ext E99
      replace H1 := H1.ext E99
      replace HG := HG.ext E99
      replace H2 := H2.ext E99
      replace ER := ER.ext E99
      replace EL1 := EL1.ext E99
      replace Hk := Hk.ext E99
      replace Hra := OI.made (Hra 0 (Nat.zero_le _))
      conv => whnf
      refine ⟨?_, ?_⟩
      · conv => whnf
        refine VX.made (n := 10) Try.underlying25 eInt rfl (by omega) (by omega) fun rb w100 E100 Hrb _ => ?_
        replace EE := EE.ext E100
        replace HA := HA.ext E100
        replace HX := HX.ext E100
        replace HC := HC.ext E100
        replace H1 := H1.ext E100
        replace HG := HG.ext E100
        replace H2 := H2.ext E100
        replace ER := ER.ext E100
        replace EL1 := EL1.ext E100
        replace Hk := Hk.ext E100
        replace Hra := Hra.ext E100
        replace Hrb := OI.made (Hrb 0 (Nat.zero_le _))
        conv => whnf
        refine VX.made (n := 10) Try.underlying25 eInt rfl (by omega) (by omega) fun rc w101 E101 Hrc _ => ?_
        replace EE := EE.ext E101
        replace HA := HA.ext E101
        replace HX := HX.ext E101
        replace HC := HC.ext E101
        replace H1 := H1.ext E101
        replace HG := HG.ext E101
        replace H2 := H2.ext E101
        replace ER := ER.ext E101
        replace EL1 := EL1.ext E101
        replace Hk := Hk.ext E101
        replace Hra := Hra.ext E101
        replace Hrb := Hrb.ext E101
        replace Hrc := OI.made (Hrc 0 (Nat.zero_le _))
        conv => whnf
        refine VX.litV [ra, rb, rc] Try.underlying22 eRow (by intro v hv; simp at hv; rcases hv with rfl | rfl | rfl <;> first | rfl | exact (Sl.cells (Own.sl Hra)).1 | exact (Sl.cells (Own.sl Hrb)).1 | exact (Sl.cells (Own.sl Hrc)).1) (by simp) fun mv w102 E102 HR _ => ?_
        replace EE := EE.ext E102
        replace HA := HA.ext E102
        replace HX := HX.ext E102
        replace HC := HC.ext E102
        replace H1 := H1.ext E102
        replace HG := HG.ext E102
        replace H2 := H2.ext E102
        replace ER := ER.ext E102
        replace EL1 := EL1.ext E102
        replace Hk := Hk.ext E102
        replace Hra := Hra.ext E102
        replace Hrb := Hrb.ext E102
        replace Hrc := Hrc.ext E102
        replace HR : OM 0 w102 mv [ra, rb, rc] [List.replicate 10 0, List.replicate 10 0, List.replicate 10 0] := by
          refine ⟨HR _ (Nat.zero_le _), fun i hi => ?_⟩
          match i, hi with
          | 0, _ => exact Hra
          | 1, _ => exact Hrb
          | 2, _ => exact Hrc
        conv => whnf
        refine VS.field1 Try.underlying24 eGoods (by kernel_rfl) rfl (Sl.cells (Own.sl HR.top)).1 ?_
        conv => whnf
        refine Blk.all Hk (by kernel_rfl) (by decide) rfl rfl (by intro v hv; simp at hv; subst hv; exact (Sl.cells (Own.sl HR.top)).2) fun wz Gz Hkz => ?_
        exact key _ _ _ _ _ _ (ER.new Gz (fun i hi hk => by omega)) (OM.blk22 HR Hk (by decide) (by decide) Gz) Hkz.at
      · conv => whnf
        refine VX.made (n := 10) Try.underlying25 eInt rfl (by omega) (by omega) fun rc w103 E103 Hrc _ => ?_
        replace EE := EE.ext E103
        replace HA := HA.ext E103
        replace HX := HX.ext E103
        replace HC := HC.ext E103
        replace H1 := H1.ext E103
        replace HG := HG.ext E103
        replace H2 := H2.ext E103
        replace ER := ER.ext E103
        replace EL1 := EL1.ext E103
        replace Hk := Hk.ext E103
        replace Hra := Hra.ext E103
        replace Hrc := OI.made (Hrc 0 (Nat.zero_le _))
        conv => whnf
        refine VX.made (n := 10) Try.underlying25 eInt rfl (by omega) (by omega) fun rb w104 E104 Hrb _ => ?_
        replace EE := EE.ext E104
        replace HA := HA.ext E104
        replace HX := HX.ext E104
        replace HC := HC.ext E104
        replace H1 := H1.ext E104
        replace HG := HG.ext E104
        replace H2 := H2.ext E104
        replace ER := ER.ext E104
        replace EL1 := EL1.ext E104
        replace Hk := Hk.ext E104
        replace Hra := Hra.ext E104
        replace Hrc := Hrc.ext E104
        replace Hrb := OI.made (Hrb 0 (Nat.zero_le _))
        conv => whnf
        refine VX.litV [ra, rb, rc] Try.underlying22 eRow (by intro v hv; simp at hv; rcases hv with rfl | rfl | rfl <;> first | rfl | exact (Sl.cells (Own.sl Hra)).1 | exact (Sl.cells (Own.sl Hrb)).1 | exact (Sl.cells (Own.sl Hrc)).1) (by simp) fun mv w105 E105 HR _ => ?_
        replace EE := EE.ext E105
        replace HA := HA.ext E105
        replace HX := HX.ext E105
        replace HC := HC.ext E105
        replace H1 := H1.ext E105
        replace HG := HG.ext E105
        replace H2 := H2.ext E105
        replace ER := ER.ext E105
        replace EL1 := EL1.ext E105
        replace Hk := Hk.ext E105
        replace Hra := Hra.ext E105
        replace Hrc := Hrc.ext E105
        replace Hrb := Hrb.ext E105
        replace HR : OM 0 w105 mv [ra, rb, rc] [List.replicate 10 0, List.replicate 10 0, List.replicate 10 0] := by
          refine ⟨HR _ (Nat.zero_le _), fun i hi => ?_⟩
          match i, hi with
          | 0, _ => exact Hra
          | 1, _ => exact Hrb
          | 2, _ => exact Hrc
        conv => whnf
        refine VS.field1 Try.underlying24 eGoods (by kernel_rfl) rfl (Sl.cells (Own.sl HR.top)).1 ?_
        conv => whnf
        refine Blk.all Hk (by kernel_rfl) (by decide) rfl rfl (by intro v hv; simp at hv; subst hv; exact (Sl.cells (Own.sl HR.top)).2) fun wz Gz Hkz => ?_
        exact key _ _ _ _ _ _ (ER.new Gz (fun i hi hk => by omega)) (OM.blk22 HR Hk (by decide) (by decide) Gz) Hkz.at
    · conv => whnf
      refine VX.made (n := 10) Try.underlying25 eInt rfl (by omega) (by omega) fun rb w106 E106 Hrb _ => ?_
      replace EE := EE.ext E106
      replace HA := HA.ext E106
      replace HX := HX.ext E106
      replace HC := HC.ext E106
      replace H1 := H1.ext E106
      replace HG := HG.ext E106
      replace H2 := H2.ext E106
      replace ER := ER.ext E106
      replace EL1 := EL1.ext E106
      replace Hk := Hk.ext E106
      replace Hrb := OI.made (Hrb 0 (Nat.zero_le _))
      conv => whnf
      refine ⟨?_, ?_⟩
      · conv => whnf
        refine VX.made (n := 10) Try.underlying25 eInt rfl (by omega) (by omega) fun ra w107 E107 Hra _ => ?_
        replace EE := EE.ext E107
        replace HA := HA.ext E107
        replace HX := HX.ext E107
        replace HC := HC.ext E107
        replace H1 := H1.ext E107
        replace HG := HG.ext E107
        replace H2 := H2.ext E107
        replace ER := ER.ext E107
        replace EL1 := EL1.ext E107
        replace Hk := Hk.ext E107
        replace Hrb := Hrb.ext E107
        replace Hra := OI.made (Hra 0 (Nat.zero_le _))
        conv => whnf
        refine VX.made (n := 10) Try.underlying25 eInt rfl (by omega) (by omega) fun rc w108 E108 Hrc _ => ?_
        replace EE := EE.ext E108
        replace HA := HA.ext E108
        replace HX := HX.ext E108
        replace HC := HC.ext E108
        replace H1 := H1.ext E108
        replace HG := HG.ext E108
        replace H2 := H2.ext E108
        replace ER := ER.ext E108
        replace EL1 := EL1.ext E108
        replace Hk := Hk.ext E108
        replace Hrb := Hrb.ext E108
        replace Hra := Hra.ext E108
        replace Hrc := OI.made (Hrc 0 (Nat.zero_le _))
        conv => whnf
        refine VX.litV [ra, rb, rc] Try.underlying22 eRow (by intro v hv; simp at hv; rcases hv with rfl | rfl | rfl <;> first | rfl | exact (Sl.cells (Own.sl Hra)).1 | exact (Sl.cells (Own.sl Hrb)).1 | exact (Sl.cells (Own.sl Hrc)).1) (by simp) fun mv w109 E109 HR _ => ?_
        replace EE := EE.ext E109
        replace HA := HA.ext E109
        replace HX := HX.ext E109
        replace HC := HC.ext E109
        replace H1 := H1.ext E109
        replace HG := HG.ext E109
        replace H2 := H2.ext E109
        replace ER := ER.ext E109
        replace EL1 := EL1.ext E109
        replace Hk := Hk.ext E109
        replace Hrb := Hrb.ext E109
        replace Hra := Hra.ext E109
        replace Hrc := Hrc.ext E109
        replace HR : OM 0 w109 mv [ra, rb, rc] [List.replicate 10 0, List.replicate 10 0, List.replicate 10 0] := by
          refine ⟨HR _ (Nat.zero_le _), fun i hi => ?_⟩
          match i, hi with
          | 0, _ => exact Hra
          | 1, _ => exact Hrb
          | 2, _ => exact Hrc
        conv => whnf
        refine VS.field1 Try.underlying24 eGoods (by kernel_rfl) rfl (Sl.cells (Own.sl HR.top)).1 ?_
        conv => whnf
        refine Blk.all Hk (by kernel_rfl) (by decide) rfl rfl (by intro v hv; simp at hv; subst hv; exact (Sl.cells (Own.sl HR.top)).2) fun wz Gz Hkz => ?_
        exact key _ _ _ _ _ _ (ER.new Gz (fun i hi hk => by omega)) (OM.blk22 HR Hk (by decide) (by decide) Gz) Hkz.at
      · conv => whnf
        refine VX.made (n := 10) Try.underlying25 eInt rfl (by omega) (by omega) fun rc w110 E110 Hrc _ => ?_
        replace EE := EE.ext E110
        replace HA := HA.ext E110
        replace HX := HX.ext E110
        replace HC := HC.ext E110
        replace H1 := H1.ext E110
        replace HG := HG.ext E110
        replace H2 := H2.ext E110
        replace ER := ER.ext E110
        replace EL1 := EL1.ext E110
        replace Hk := Hk.ext E110
        replace Hrb := Hrb.ext E110
        replace Hrc := OI.made (Hrc 0 (Nat.zero_le _))
        conv => whnf
        refine VX.made (n := 10) Try.underlying25 eInt rfl (by omega) (by omega) fun ra w111 E111 Hra _ => ?_
        replace EE := EE.ext E111
        replace HA := HA.ext E111
        replace HX := HX.ext E111
        replace HC := HC.ext E111
        replace H1 := H1.ext E111
        replace HG := HG.ext E111
        replace H2 := H2.ext E111
        replace ER := ER.ext E111
        replace EL1 := EL1.ext E111
        replace Hk := Hk.ext E111
        replace Hrb := Hrb.ext E111
        replace Hrc := Hrc.ext E111
        replace Hra := OI.made (Hra 0 (Nat.zero_le _))
        conv => whnf
        refine VX.litV [ra, rb, rc] Try.underlying22 eRow (by intro v hv; simp at hv; rcases hv with rfl | rfl | rfl <;> first | rfl | exact (Sl.cells (Own.sl Hra)).1 | exact (Sl.cells (Own.sl Hrb)).1 | exact (Sl.cells (Own.sl Hrc)).1) (by simp) fun mv w112 E112 HR _ => ?_
        replace EE := EE.ext E112
        replace HA := HA.ext E112
        replace HX := HX.ext E112
        replace HC := HC.ext E112
        replace H1 := H1.ext E112
        replace HG := HG.ext E112
        replace H2 := H2.ext E112
        replace ER := ER.ext E112
        replace EL1 := EL1.ext E112
        replace Hk := Hk.ext E112
        replace Hrb := Hrb.ext E112
        replace Hrc := Hrc.ext E112
        replace Hra := Hra.ext E112
        replace HR : OM 0 w112 mv [ra, rb, rc] [List.replicate 10 0, List.replicate 10 0, List.replicate 10 0] := by
          refine ⟨HR _ (Nat.zero_le _), fun i hi => ?_⟩
          match i, hi with
          | 0, _ => exact Hra
          | 1, _ => exact Hrb
          | 2, _ => exact Hrc
        conv => whnf
        refine VS.field1 Try.underlying24 eGoods (by kernel_rfl) rfl (Sl.cells (Own.sl HR.top)).1 ?_
        conv => whnf
        refine Blk.all Hk (by kernel_rfl) (by decide) rfl rfl (by intro v hv; simp at hv; subst hv; exact (Sl.cells (Own.sl HR.top)).2) fun wz Gz Hkz => ?_
        exact key _ _ _ _ _ _ (ER.new Gz (fun i hi hk => by omega)) (OM.blk22 HR Hk (by decide) (by decide) Gz) Hkz.at
    · conv => whnf
      refine VX.made (n := 10) Try.underlying25 eInt rfl (by omega) (by omega) fun rc w113 E113 Hrc _ => ?_
      replace EE := EE.ext E113
      replace HA := HA.ext E113
      replace HX := HX.ext E113
      replace HC := HC.ext E113
      replace H1 := H1.ext E113
      replace HG := HG.ext E113
      replace H2 := H2.ext E113
      replace ER := ER.ext E113
      replace EL1 := EL1.ext E113
      replace Hk := Hk.ext E113
      replace Hrc := OI.made (Hrc 0 (Nat.zero_le _))
      conv => whnf
      refine ⟨?_, ?_⟩
      · conv => whnf
        refine VX.made (n := 10) Try.underlying25 eInt rfl (by omega) (by omega) fun ra w114 E114 Hra _ => ?_
        replace EE := EE.ext E114
        replace HA := HA.ext E114
        replace HX := HX.ext E114
        replace HC := HC.ext E114
        replace H1 := H1.ext E114
        replace HG := HG.ext E114
        replace H2 := H2.ext E114
        replace ER := ER.ext E114
        replace EL1 := EL1.ext E114
        replace Hk := Hk.ext E114
        replace Hrc := Hrc.ext E114
        replace Hra := OI.made (Hra 0 (Nat.zero_le _))
        conv => whnf
        refine VX.made (n := 10) Try.underlying25 eInt rfl (by omega) (by omega) fun rb w115 E115 Hrb _ => ?_
        replace EE := EE.ext E115
        replace HA := HA.ext E115
        replace HX := HX.ext E115
        replace HC := HC.ext E115
        replace H1 := H1.ext E115
        replace HG := HG.ext E115
        replace H2 := H2.ext E115
        replace ER := ER.ext E115
        replace EL1 := EL1.ext E115
        replace Hk := Hk.ext E115
        replace Hrc := Hrc.ext E115
        replace Hra := Hra.ext E115
        replace Hrb := OI.made (Hrb 0 (Nat.zero_le _))
        conv => whnf
        refine VX.litV [ra, rb, rc] Try.underlying22 eRow (by intro v hv; simp at hv; rcases hv with rfl | rfl | rfl <;> first | rfl | exact (Sl.cells (Own.sl Hra)).1 | exact (Sl.cells (Own.sl Hrb)).1 | exact (Sl.cells (Own.sl Hrc)).1) (by simp) fun mv w116 E116 HR _ => ?_
        replace EE := EE.ext E116
        replace HA := HA.ext E116
        replace HX := HX.ext E116
        replace HC := HC.ext E116
        replace H1 := H1.ext E116
        replace HG := HG.ext E116
        replace H2 := H2.ext E116
        replace ER := ER.ext E116
        replace EL1 := EL1.ext E116
        replace Hk := Hk.ext E116
        replace Hrc := Hrc.ext E116
        replace Hra := Hra.ext E116
        replace Hrb := Hrb.ext E116
        replace HR : OM 0 w116 mv [ra, rb, rc] [List.replicate 10 0, List.replicate 10 0, List.replicate 10 0] := by
          refine ⟨HR _ (Nat.zero_le _), fun i hi => ?_⟩
          match i, hi with
          | 0, _ => exact Hra
          | 1, _ => exact Hrb
          | 2, _ => exact Hrc
        conv => whnf
        refine VS.field1 Try.underlying24 eGoods (by kernel_rfl) rfl (Sl.cells (Own.sl HR.top)).1 ?_
        conv => whnf
        refine Blk.all Hk (by kernel_rfl) (by decide) rfl rfl (by intro v hv; simp at hv; subst hv; exact (Sl.cells (Own.sl HR.top)).2) fun wz Gz Hkz => ?_
        exact key _ _ _ _ _ _ (ER.new Gz (fun i hi hk => by omega)) (OM.blk22 HR Hk (by decide) (by decide) Gz) Hkz.at
      · conv => whnf
        refine VX.made (n := 10) Try.underlying25 eInt rfl (by omega) (by omega) fun rb w117 E117 Hrb _ => ?_
        replace EE := EE.ext E117
        replace HA := HA.ext E117
        replace HX := HX.ext E117
        replace HC := HC.ext E117
        replace H1 := H1.ext E117
        replace HG := HG.ext E117
        replace H2 := H2.ext E117
        replace ER := ER.ext E117
        replace EL1 := EL1.ext E117
        replace Hk := Hk.ext E117
        replace Hrc := Hrc.ext E117
        replace Hrb := OI.made (Hrb 0 (Nat.zero_le _))
        conv => whnf
        refine VX.made (n := 10) Try.underlying25 eInt rfl (by omega) (by omega) fun ra w118 E118 Hra _ => ?_
        replace EE := EE.ext E118
        replace HA := HA.ext E118
        replace HX := HX.ext E118
        replace HC := HC.ext E118
        replace H1 := H1.ext E118
        replace HG := HG.ext E118
        replace H2 := H2.ext E118
        replace ER := ER.ext E118
        replace EL1 := EL1.ext E118
        replace Hk := Hk.ext E118
        replace Hrc := Hrc.ext E118
        replace Hrb := Hrb.ext E118
        replace Hra := OI.made (Hra 0 (Nat.zero_le _))
        conv => whnf
        refine VX.litV [ra, rb, rc] Try.underlying22 eRow (by intro v hv; simp at hv; rcases hv with rfl | rfl | rfl <;> first | rfl | exact (Sl.cells (Own.sl Hra)).1 | exact (Sl.cells (Own.sl Hrb)).1 | exact (Sl.cells (Own.sl Hrc)).1) (by simp) fun mv w119 E119 HR _ => ?_
        replace EE := EE.ext E119
        replace HA := HA.ext E119
        replace HX := HX.ext E119
        replace HC := HC.ext E119
        replace H1 := H1.ext E119
        replace HG := HG.ext E119
        replace H2 := H2.ext E119
        replace ER := ER.ext E119
        replace EL1 := EL1.ext E119
        replace Hk := Hk.ext E119
        replace Hrc := Hrc.ext E119
        replace Hrb := Hrb.ext E119
        replace Hra := Hra.ext E119
        replace HR : OM 0 w119 mv [ra, rb, rc] [List.replicate 10 0, List.replicate 10 0, List.replicate 10 0] := by
          refine ⟨HR _ (Nat.zero_le _), fun i hi => ?_⟩
          match i, hi with
          | 0, _ => exact Hra
          | 1, _ => exact Hrb
          | 2, _ => exact Hrc
        conv => whnf
        refine VS.field1 Try.underlying24 eGoods (by kernel_rfl) rfl (Sl.cells (Own.sl HR.top)).1 ?_
        conv => whnf
        refine Blk.all Hk (by kernel_rfl) (by decide) rfl rfl (by intro v hv; simp at hv; subst hv; exact (Sl.cells (Own.sl HR.top)).2) fun wz Gz Hkz => ?_
        exact key _ _ _ _ _ _ (ER.new Gz (fun i hi hk => by omega)) (OM.blk22 HR Hk (by decide) (by decide) Gz) Hkz.at
  intro wz ra rb rc mv bk Ez HR HK
  replace EE := EE.ext Ez
  replace HA := HA.ext Ez
  replace HX := HX.ext Ez
  replace HC := HC.ext Ez
  replace H1 := H1.ext Ez
  replace HG := HG.ext Ez
  replace H2 := H2.ext Ez
  replace ER := ER.ext Ez
  have bg1 : vld bign (List.replicate 10 0) = 0 := (vld_eq _ _).trans (by decide +kernel)
  have bg2 : 20000 < tot bign := by decide +kernel
  repeat' (conv => whnf
           first
           | (refine Dr.plan 93 [6] (.e 0 (.e 1 (.e 2 (.e 3 (.q 4 (.e 5 (.e 6 .nil .nil) .nil)) (.e 5 (.e 3 (.q 4 (.e 6 .nil .nil)) .nil) .nil)) (.e 5 (.e 2 (.e 3 (.q 4 (.e 6 .nil .nil)) .nil) .nil) .nil)) (.e 2 (.e 1 (.e 3 (.q 4 (.e 5 (.e 6 .nil .nil) .nil)) (.e 5 (.e 3 (.q 4 (.e 6 .nil .nil)) .nil) .nil)) (.e 5 (.e 1 (.e 3 (.q 4 (.e 6 .nil .nil)) .nil) .nil) .nil)) (.e 5 (.e 1 (.e 2 (.e 3 (.q 4 (.e 6 .nil .nil)) .nil) .nil) (.e 2 (.e 1 (.e 3 (.q 4 (.e 6 .nil .nil)) .nil) .nil) .nil)) .nil))) (.e 1 (.e 0 (.e 2 (.e 3 (.q 4 (.e 5 (.e 6 .nil .nil) .nil)) (.e 5 (.e 3 (.q 4 (.e 6 .nil .nil)) .nil) .nil)) (.e 5 (.e 2 (.e 3 (.q 4 (.e 6 .nil .nil)) .nil) .nil) .nil)) (.e 2 (.e 0 (.e 3 (.q 4 (.e 5 (.e 6 .nil .nil) .nil)) (.e 5 (.e 3 (.q 4 (.e 6 .nil .nil)) .nil) .nil)) (.e 5 (.e 0 (.e 3 (.q 4 (.e 6 .nil .nil)) .nil) .nil) .nil)) (.e 5 (.e 0 (.e 2 (.e 3 (.q 4 (.e 6 .nil .nil)) .nil) .nil) (.e 2 (.e 0 (.e 3 (.q 4 (.e 6 .nil .nil)) .nil) .nil) .nil)) .nil))) (.e 2 (.e 0 (.e 1 (.e 3 (.q 4 (.e 5 (.e 6 .nil .nil) .nil)) (.e 5 (.e 3 (.q 4 (.e 6 .nil .nil)) .nil) .nil)) (.e 5 (.e 1 (.e 3 (.q 4 (.e 6 .nil .nil)) .nil) .nil) .nil)) (.e 1 (.e 0 (.e 3 (.q 4 (.e 5 (.e 6 .nil .nil) .nil)) (.e 5 (.e 3 (.q 4 (.e 6 .nil .nil)) .nil) .nil)) (.e 5 (.e 0 (.e 3 (.q 4 (.e 6 .nil .nil)) .nil) .nil) .nil)) (.e 5 (.e 0 (.e 1 (.e 3 (.q 4 (.e 6 .nil .nil)) .nil) .nil) (.e 1 (.e 0 (.e 3 (.q 4 (.e 6 .nil .nil)) .nil) .nil) .nil)) .nil))) (.e 5 (.e 0 (.e 1 (.e 2 (.e 3 (.q 4 (.e 6 .nil .nil)) .nil) .nil) (.e 2 (.e 1 (.e 3 (.q 4 (.e 6 .nil .nil)) .nil) .nil) .nil)) (.e 1 (.e 0 (.e 2 (.e 3 (.q 4 (.e 6 .nil .nil)) .nil) .nil) (.e 2 (.e 0 (.e 3 (.q 4 (.e 6 .nil .nil)) .nil) .nil) .nil)) (.e 2 (.e 0 (.e 1 (.e 3 (.q 4 (.e 6 .nil .nil)) .nil) .nil) (.e 1 (.e 0 (.e 3 (.q 4 (.e 6 .nil .nil)) .nil) .nil) .nil)) .nil))) .nil)))) tyOk rfl (by kernel_rfl) ?_)
           | (refine Dr.plan 99 [2] (.q 0 (.e 1 (.e 2 (.q 3 (.q 4 (.q 5 (.q 6 (.q 7 .nil))))) .nil) .nil)) tyOk rfl (by kernel_rfl) ?_)
           | (refine Dr.quiet tyOk (by kernel_rfl) ?_)
           | (refine Rng.mk (by omega) ?_)
           | (refine Split.pos (by omega) ?_)
           | (refine Split.neg (by omega) ?_)
           | (refine Split.mk (fun h => ?_) (fun h => ?_))
           | (refine Need.mk (by omega) ?_)
           | (refine Ints.ln (by assumption) ?_)
           | (refine Mat.ln (by assumption) ?_)
           | (refine Ints.ln (Mat.row (by assumption) _ (by omega)) ?_)
           | (refine Ints.ix (by assumption) (by omega) ?_)
           | (refine Mat.ix (by assumption) (by omega) ?_)
           | (refine Ints.ix (Mat.row (by assumption) _ (by omega)) (by omega) ?_)
           | (refine Ints.ix (c := 0) (by assumption) (by omega) ?_)
           | (refine Mat.ix (c := 0) (by assumption) (by omega) ?_)
           | (refine Ints.ix (c := 0) (Mat.row (by assumption) _ (by omega)) (by omega) ?_)
           | (refine Ints.ixI (by assumption) (by omega) ?_)
           | (refine Mat.ixI (by assumption) (by omega) ?_)
           | (refine Ints.ixI (Mat.row (by assumption) _ (by omega)) (by omega) ?_)
           | (refine Ints.ld (by assumption) (by omega) ?_)
           | (refine Mat.ld (by assumption) (by omega) ?_)
           | (refine Ints.ld (Mat.row (by assumption) _ (by omega)) (by omega) ?_)
           | (refine At.ld (by assumption) rfl ?_)
           | (refine At.ldN (by assumption) rfl ?_)
           | (refine Prs.ln (by assumption) ?_)
           | (refine Trs.ln (by assumption) ?_)
           | (refine Prs.ix (by assumption) (by omega) ?_)
           | (refine Trs.ix (by assumption) (by omega) ?_)
           | (refine Prs.ldN (by assumption) (by omega) ?_)
           | (refine Trs.ldN (by assumption) (by omega) ?_)
           | (refine At.ldN (Blk.at (by assumption)) rfl ?_)
           | (refine At.ld (Blk.at (by assumption)) rfl ?_)
           | (refine IxA.mk (by omega) ?_)
           | (refine Sl.ln (Own.sl (by assumption)) ?_)
           | (refine Ints.ix (Own.sl (by assumption)) (by omega) ?_)
           | (refine Ints.ixI (Own.sl (by assumption)) (by omega) ?_)
           | (refine Ints.ld (Own.sl (by assumption)) (by omega) ?_))
  refine VX.made (n := 10) Try.underlying25 eInt rfl (by omega) (by omega) fun lz w201 E201 HZ _ => ?_
  replace EE := EE.ext E201
  replace HA := HA.ext E201
  replace HX := HX.ext E201
  replace HC := HC.ext E201
  replace H1 := H1.ext E201
  replace HG := HG.ext E201
  replace H2 := H2.ext E201
  replace ER := ER.ext E201
  replace HR := HR.ext E201
  replace HK := HK.ext E201
  replace HZ := OI.made (HZ 0 (Nat.zero_le _))
  conv => whnf
  conv => whnf
  refine VC.rc (gfind_rc HR.mat (Own.sl HZ)) ?_
  rintro _ w202 E202 ⟨xv, rfl, HX⟩
  replace EE := EE.ext E202
  replace HA := HA.ext E202
  replace HC := HC.ext E202
  replace H1 := H1.ext E202
  replace HG := HG.ext E202
  replace H2 := H2.ext E202
  replace ER := ER.ext E202
  replace HR := HR.ext E202
  replace HK := HK.ext E202
  replace HZ := HZ.ext E202
  rw [(fd_err (rr := bign) (a := List.replicate 10 0) (by rw [lkE_many bg1 bg2]; decide)).1, lkE_many bg1 bg2]
  repeat' (conv => whnf
           first
           | (refine Dr.plan 93 [6] (.e 0 (.e 1 (.e 2 (.e 3 (.q 4 (.e 5 (.e 6 .nil .nil) .nil)) (.e 5 (.e 3 (.q 4 (.e 6 .nil .nil)) .nil) .nil)) (.e 5 (.e 2 (.e 3 (.q 4 (.e 6 .nil .nil)) .nil) .nil) .nil)) (.e 2 (.e 1 (.e 3 (.q 4 (.e 5 (.e 6 .nil .nil) .nil)) (.e 5 (.e 3 (.q 4 (.e 6 .nil .nil)) .nil) .nil)) (.e 5 (.e 1 (.e 3 (.q 4 (.e 6 .nil .nil)) .nil) .nil) .nil)) (.e 5 (.e 1 (.e 2 (.e 3 (.q 4 (.e 6 .nil .nil)) .nil) .nil) (.e 2 (.e 1 (.e 3 (.q 4 (.e 6 .nil .nil)) .nil) .nil) .nil)) .nil))) (.e 1 (.e 0 (.e 2 (.e 3 (.q 4 (.e 5 (.e 6 .nil .nil) .nil)) (.e 5 (.e 3 (.q 4 (.e 6 .nil .nil)) .nil) .nil)) (.e 5 (.e 2 (.e 3 (.q 4 (.e 6 .nil .nil)) .nil) .nil) .nil)) (.e 2 (.e 0 (.e 3 (.q 4 (.e 5 (.e 6 .nil .nil) .nil)) (.e 5 (.e 3 (.q 4 (.e 6 .nil .nil)) .nil) .nil)) (.e 5 (.e 0 (.e 3 (.q 4 (.e 6 .nil .nil)) .nil) .nil) .nil)) (.e 5 (.e 0 (.e 2 (.e 3 (.q 4 (.e 6 .nil .nil)) .nil) .nil) (.e 2 (.e 0 (.e 3 (.q 4 (.e 6 .nil .nil)) .nil) .nil) .nil)) .nil))) (.e 2 (.e 0 (.e 1 (.e 3 (.q 4 (.e 5 (.e 6 .nil .nil) .nil)) (.e 5 (.e 3 (.q 4 (.e 6 .nil .nil)) .nil) .nil)) (.e 5 (.e 1 (.e 3 (.q 4 (.e 6 .nil .nil)) .nil) .nil) .nil)) (.e 1 (.e 0 (.e 3 (.q 4 (.e 5 (.e 6 .nil .nil) .nil)) (.e 5 (.e 3 (.q 4 (.e 6 .nil .nil)) .nil) .nil)) (.e 5 (.e 0 (.e 3 (.q 4 (.e 6 .nil .nil)) .nil) .nil) .nil)) (.e 5 (.e 0 (.e 1 (.e 3 (.q 4 (.e 6 .nil .nil)) .nil) .nil) (.e 1 (.e 0 (.e 3 (.q 4 (.e 6 .nil .nil)) .nil) .nil) .nil)) .nil))) (.e 5 (.e 0 (.e 1 (.e 2 (.e 3 (.q 4 (.e 6 .nil .nil)) .nil) .nil) (.e 2 (.e 1 (.e 3 (.q 4 (.e 6 .nil .nil)) .nil) .nil) .nil)) (.e 1 (.e 0 (.e 2 (.e 3 (.q 4 (.e 6 .nil .nil)) .nil) .nil) (.e 2 (.e 0 (.e 3 (.q 4 (.e 6 .nil .nil)) .nil) .nil) .nil)) (.e 2 (.e 0 (.e 1 (.e 3 (.q 4 (.e 6 .nil .nil)) .nil) .nil) (.e 1 (.e 0 (.e 3 (.q 4 (.e 6 .nil .nil)) .nil) .nil) .nil)) .nil))) .nil)))) tyOk rfl (by kernel_rfl) ?_)
           | (refine Dr.plan 99 [2] (.q 0 (.e 1 (.e 2 (.q 3 (.q 4 (.q 5 (.q 6 (.q 7 .nil))))) .nil) .nil)) tyOk rfl (by kernel_rfl) ?_)
           | (refine Dr.quiet tyOk (by kernel_rfl) ?_)
           | (refine Rng.mk (by omega) ?_)
           | (refine Split.pos (by omega) ?_)
           | (refine Split.neg (by omega) ?_)
           | (refine Split.mk (fun h => ?_) (fun h => ?_))
           | (refine Need.mk (by omega) ?_)
           | (refine Ints.ln (by assumption) ?_)
           | (refine Mat.ln (by assumption) ?_)
           | (refine Ints.ln (Mat.row (by assumption) _ (by omega)) ?_)
           | (refine Ints.ix (by assumption) (by omega) ?_)
           | (refine Mat.ix (by assumption) (by omega) ?_)
           | (refine Ints.ix (Mat.row (by assumption) _ (by omega)) (by omega) ?_)
           | (refine Ints.ix (c := 0) (by assumption) (by omega) ?_)
           | (refine Mat.ix (c := 0) (by assumption) (by omega) ?_)
           | (refine Ints.ix (c := 0) (Mat.row (by assumption) _ (by omega)) (by omega) ?_)
           | (refine Ints.ixI (by assumption) (by omega) ?_)
           | (refine Mat.ixI (by assumption) (by omega) ?_)
           | (refine Ints.ixI (Mat.row (by assumption) _ (by omega)) (by omega) ?_)
           | (refine Ints.ld (by assumption) (by omega) ?_)
           | (refine Mat.ld (by assumption) (by omega) ?_)
           | (refine Ints.ld (Mat.row (by assumption) _ (by omega)) (by omega) ?_)
           | (refine At.ld (by assumption) rfl ?_)
           | (refine At.ldN (by assumption) rfl ?_)
           | (refine Prs.ln (by assumption) ?_)
           | (refine Trs.ln (by assumption) ?_)
           | (refine Prs.ix (by assumption) (by omega) ?_)
           | (refine Trs.ix (by assumption) (by omega) ?_)
           | (refine Prs.ldN (by assumption) (by omega) ?_)
           | (refine Trs.ldN (by assumption) (by omega) ?_)
           | (refine At.ldN (Blk.at (by assumption)) rfl ?_)
           | (refine At.ld (Blk.at (by assumption)) rfl ?_)
           | (refine IxA.mk (by omega) ?_)
           | (refine Sl.ln (Own.sl (by assumption)) ?_)
           | (refine Ints.ix (Own.sl (by assumption)) (by omega) ?_)
           | (refine Ints.ixI (Own.sl (by assumption)) (by omega) ?_)
           | (refine Ints.ld (Own.sl (by assumption)) (by omega) ?_))
  conv => whnf
  refine VC.rc (gfront_rc HR.mat) ?_
  rintro _ w203 E203 rfl
  replace EE := EE.ext E203
  replace HA := HA.ext E203
  replace HC := HC.ext E203
  replace H1 := H1.ext E203
  replace HG := HG.ext E203
  replace H2 := H2.ext E203
  replace ER := ER.ext E203
  replace HR := HR.ext E203
  replace HK := HK.ext E203
  replace HZ := HZ.ext E203
  replace HX := HX.ext E203
  rw [(fr_many (chk_of_vld bg1) bg2).1, (fr_many (chk_of_vld bg1) bg2).2]
  repeat' (conv => whnf
           first
           | (refine Dr.quiet tyOk (by kernel_rfl) ?_)
           | (refine Rng.mk (by omega) ?_)
           | (refine Split.pos (by omega) ?_)
           | (refine Split.neg (by omega) ?_)
           | (refine Split.mk (fun h => ?_) (fun h => ?_))
           | (refine Need.mk (by omega) ?_)
           | (refine Ints.ln (by assumption) ?_)
           | (refine Mat.ln (by assumption) ?_)
           | (refine Ints.ln (Mat.row (by assumption) _ (by omega)) ?_)
           | (refine Ints.ix (by assumption) (by omega) ?_)
           | (refine Mat.ix (by assumption) (by omega) ?_)
           | (refine Ints.ix (Mat.row (by assumption) _ (by omega)) (by omega) ?_)
           | (refine Ints.ix (c := 0) (by assumption) (by omega) ?_)
           | (refine Mat.ix (c := 0) (by assumption) (by omega) ?_)
           | (refine Ints.ix (c := 0) (Mat.row (by assumption) _ (by omega)) (by omega) ?_)
           | (refine Ints.ixI (by assumption) (by omega) ?_)
           | (refine Mat.ixI (by assumption) (by omega) ?_)
           | (refine Ints.ixI (Mat.row (by assumption) _ (by omega)) (by omega) ?_)
           | (refine Ints.ld (by assumption) (by omega) ?_)
           | (refine Mat.ld (by assumption) (by omega) ?_)
           | (refine Ints.ld (Mat.row (by assumption) _ (by omega)) (by omega) ?_)
           | (refine At.ld (by assumption) rfl ?_)
           | (refine At.ldN (by assumption) rfl ?_)
           | (refine Prs.ln (by assumption) ?_)
           | (refine Trs.ln (by assumption) ?_)
           | (refine Prs.ix (by assumption) (by omega) ?_)
           | (refine Trs.ix (by assumption) (by omega) ?_)
           | (refine Prs.ldN (by assumption) (by omega) ?_)
           | (refine Trs.ldN (by assumption) (by omega) ?_)
           | (refine At.ldN (Blk.at (by assumption)) rfl ?_)
           | (refine At.ld (Blk.at (by assumption)) rfl ?_)
           | (refine IxA.mk (by omega) ?_)
           | (refine Sl.ln (Own.sl (by assumption)) ?_)
           | (refine Ints.ix (Own.sl (by assumption)) (by omega) ?_)
           | (refine Ints.ixI (Own.sl (by assumption)) (by omega) ?_)
           | (refine Ints.ld (Own.sl (by assumption)) (by omega) ?_))
  conv => whnf
  refine VE.made (n := 7) Try.underlying22 eRow rfl (by omega) (by omega) fun mv7 w204 E204 HG _ => ?_
  replace EE := EE.ext E204
  replace HA := HA.ext E204
  replace HC := HC.ext E204
  replace H1 := H1.ext E204
  replace H2 := H2.ext E204
  replace ER := ER.ext E204
  replace HR := HR.ext E204
  replace HK := HK.ext E204
  replace HZ := HZ.ext E204
  replace HX := HX.ext E204
  replace HG := OM.made (HG 0 (Nat.zero_le _))
  conv => whnf
  refine VS.field1 Try.underlying24 eGoods (by kernel_rfl) rfl (Sl.cells (Own.sl HG.top)).1 ?_
  have ch7 : chk (List.replicate 7 ([] : List Int)) = 4 := (chk_eq _).trans (by decide +kernel)
  conv => whnf
  refine VC.rc (gfront_rc HG.mat) ?_
  rintro _ w205 E205 rfl
  replace EE := EE.ext E205
  replace HA := HA.ext E205
  replace HC := HC.ext E205
  replace H1 := H1.ext E205
  replace H2 := H2.ext E205
  replace ER := ER.ext E205
  replace HR := HR.ext E205
  replace HK := HK.ext E205
  replace HZ := HZ.ext E205
  replace HX := HX.ext E205
  replace HG := HG.ext E205
  rw [(fr_err (rr := List.replicate 7 []) (by rw [ch7]; decide)).1, (fr_err (rr := List.replicate 7 []) (by rw [ch7]; decide)).2, ch7]
  repeat' (conv => whnf
           first
           | (refine Dr.quiet tyOk (by kernel_rfl) ?_)
           | (refine Rng.mk (by omega) ?_)
           | (refine Split.pos (by omega) ?_)
           | (refine Split.neg (by omega) ?_)
           | (refine Split.mk (fun h => ?_) (fun h => ?_))
           | (refine Need.mk (by omega) ?_)
           | (refine Ints.ln (by assumption) ?_)
           | (refine Mat.ln (by assumption) ?_)
           | (refine Ints.ln (Mat.row (by assumption) _ (by omega)) ?_)
           | (refine Ints.ix (by assumption) (by omega) ?_)
           | (refine Mat.ix (by assumption) (by omega) ?_)
           | (refine Ints.ix (Mat.row (by assumption) _ (by omega)) (by omega) ?_)
           | (refine Ints.ix (c := 0) (by assumption) (by omega) ?_)
           | (refine Mat.ix (c := 0) (by assumption) (by omega) ?_)
           | (refine Ints.ix (c := 0) (Mat.row (by assumption) _ (by omega)) (by omega) ?_)
           | (refine Ints.ixI (by assumption) (by omega) ?_)
           | (refine Mat.ixI (by assumption) (by omega) ?_)
           | (refine Ints.ixI (Mat.row (by assumption) _ (by omega)) (by omega) ?_)
           | (refine Ints.ld (by assumption) (by omega) ?_)
           | (refine Mat.ld (by assumption) (by omega) ?_)
           | (refine Ints.ld (Mat.row (by assumption) _ (by omega)) (by omega) ?_)
           | (refine At.ld (by assumption) rfl ?_)
           | (refine At.ldN (by assumption) rfl ?_)
           | (refine Prs.ln (by assumption) ?_)
           | (refine Trs.ln (by assumption) ?_)
           | (refine Prs.ix (by assumption) (by omega) ?_)
           | (refine Trs.ix (by assumption) (by omega) ?_)
           | (refine Prs.ldN (by assumption) (by omega) ?_)
           | (refine Trs.ldN (by assumption) (by omega) ?_)
           | (refine At.ldN (Blk.at (by assumption)) rfl ?_)
           | (refine At.ld (Blk.at (by assumption)) rfl ?_)
           | (refine IxA.mk (by omega) ?_)
           | (refine Sl.ln (Own.sl (by assumption)) ?_)
           | (refine Ints.ix (Own.sl (by assumption)) (by omega) ?_)
           | (refine Ints.ixI (Own.sl (by assumption)) (by omega) ?_)
           | (refine Ints.ld (Own.sl (by assumption)) (by omega) ?_))
  conv => whnf
  refine VC.rc (given22_rc) ?_
  rintro _ w206 E206 ⟨g1, _, rfl, HG⟩
  replace EE := EE.ext E206
  replace HA := HA.ext E206
  replace HC := HC.ext E206
  replace H1 := H1.ext E206
  replace H2 := H2.ext E206
  replace ER := ER.ext E206
  replace HR := HR.ext E206
  replace HK := HK.ext E206
  replace HZ := HZ.ext E206
  replace HX := HX.ext E206
  conv => whnf
  refine VE.litI [-1, -1, -1] Try.underlying25 eInt (by decide) fun l1 w207 E207 H1 _ => ?_
  replace H1 := H1 0 (Nat.zero_le _)
  replace EE := EE.ext E207
  replace HA := HA.ext E207
  replace HC := HC.ext E207
  replace H2 := H2.ext E207
  replace ER := ER.ext E207
  replace HR := HR.ext E207
  replace HK := HK.ext E207
  replace HZ := HZ.ext E207
  replace HX := HX.ext E207
  replace HG := HG.ext E207
  have im2 : imp gvn [-1, -1, -1] = some [0, 0, 0] := (imp_eq _ _).trans (by decide +kernel)
  conv => whnf
  refine VC.rc (gfind_rc HG.mat (Own.sl H1)) ?_
  rintro _ w208 E208 ⟨xv, rfl, HX⟩
  replace EE := EE.ext E208
  replace HA := HA.ext E208
  replace HC := HC.ext E208
  replace H2 := H2.ext E208
  replace ER := ER.ext E208
  replace HR := HR.ext E208
  replace HK := HK.ext E208
  replace HZ := HZ.ext E208
  replace HG := HG.ext E208
  replace H1 := H1.ext E208
  rw [(fd_some k2 im2).1]
  rw [(fd_some k2 im2).2] at HX
  repeat' (conv => whnf
           first
           | (refine Dr.quiet tyOk (by kernel_rfl) ?_)
           | (refine Rng.mk (by omega) ?_)
           | (refine Split.pos (by omega) ?_)
           | (refine Split.neg (by omega) ?_)
           | (refine Split.mk (fun h => ?_) (fun h => ?_))
           | (refine Need.mk (by omega) ?_)
           | (refine Ints.ln (by assumption) ?_)
           | (refine Mat.ln (by assumption) ?_)
           | (refine Ints.ln (Mat.row (by assumption) _ (by omega)) ?_)
           | (refine Ints.ix (by assumption) (by omega) ?_)
           | (refine Mat.ix (by assumption) (by omega) ?_)
           | (refine Ints.ix (Mat.row (by assumption) _ (by omega)) (by omega) ?_)
           | (refine Ints.ix (c := 0) (by assumption) (by omega) ?_)
           | (refine Mat.ix (c := 0) (by assumption) (by omega) ?_)
           | (refine Ints.ix (c := 0) (Mat.row (by assumption) _ (by omega)) (by omega) ?_)
           | (refine Ints.ixI (by assumption) (by omega) ?_)
           | (refine Mat.ixI (by assumption) (by omega) ?_)
           | (refine Ints.ixI (Mat.row (by assumption) _ (by omega)) (by omega) ?_)
           | (refine Ints.ld (by assumption) (by omega) ?_)
           | (refine Mat.ld (by assumption) (by omega) ?_)
           | (refine Ints.ld (Mat.row (by assumption) _ (by omega)) (by omega) ?_)
           | (refine At.ld (by assumption) rfl ?_)
           | (refine At.ldN (by assumption) rfl ?_)
           | (refine Prs.ln (by assumption) ?_)
           | (refine Trs.ln (by assumption) ?_)
           | (refine Prs.ix (by assumption) (by omega) ?_)
           | (refine Trs.ix (by assumption) (by omega) ?_)
           | (refine Prs.ldN (by assumption) (by omega) ?_)
           | (refine Trs.ldN (by assumption) (by omega) ?_)
           | (refine At.ldN (Blk.at (by assumption)) rfl ?_)
           | (refine At.ld (Blk.at (by assumption)) rfl ?_)
           | (refine IxA.mk (by omega) ?_)
           | (refine Sl.ln (Own.sl (by assumption)) ?_)
           | (refine Ints.ix (Own.sl (by assumption)) (by omega) ?_)
           | (refine Ints.ixI (Own.sl (by assumption)) (by omega) ?_)
           | (refine Ints.ld (Own.sl (by assumption)) (by omega) ?_))
  conv => whnf
  refine VC.rc (given22_rc) ?_
  rintro _ w209 E209 ⟨g1, _, rfl, HG⟩
  replace EE := EE.ext E209
  replace HA := HA.ext E209
  replace HC := HC.ext E209
  replace H2 := H2.ext E209
  replace ER := ER.ext E209
  replace HR := HR.ext E209
  replace HK := HK.ext E209
  replace HZ := HZ.ext E209
  replace H1 := H1.ext E209
  replace HX := HX.ext E209
  conv => whnf
  refine VE.litI [-1, 1, 1] Try.underlying25 eInt (by decide) fun l1 w210 E210 H1 _ => ?_
  replace H1 := H1 0 (Nat.zero_le _)
  replace EE := EE.ext E210
  replace HA := HA.ext E210
  replace HC := HC.ext E210
  replace H2 := H2.ext E210
  replace ER := ER.ext E210
  replace HR := HR.ext E210
  replace HK := HK.ext E210
  replace HZ := HZ.ext E210
  replace HX := HX.ext E210
  replace HG := HG.ext E210
  have im3 : imp gvn [-1, 1, 1] = some [0, 1, 1] := (imp_eq _ _).trans (by decide +kernel)
  have it1 : itr gvn [-1, 1, 1] 1 = [0, 1, 1] := by show (imp gvn [-1, 1, 1]).getD [] = _; rw [im3]; rfl
  have hch : IsCh gvn [-1, 1, 1] 1 := ⟨fun j hj => by (obtain rfl : j = 0 := (by omega)); show (imp gvn [-1, 1, 1]).isSome = true; rw [im3]; rfl, by rw [it1]; exact gvn_imp1⟩
  have ecl : chL gvn [-1, 1, 1] = [[0, 1, 1]] := by rw [chL_ok k3 hch, chP_succ, it1]; rfl
  conv => whnf
  refine VC.rc (gchain_rc HG.mat (Own.sl H1)) ?_
  rintro _ w211 E211 ⟨cv, us1, rfl, HC⟩
  replace EE := EE.ext E211
  replace HA := HA.ext E211
  replace H2 := H2.ext E211
  replace ER := ER.ext E211
  replace HR := HR.ext E211
  replace HK := HK.ext E211
  replace HZ := HZ.ext E211
  replace HX := HX.ext E211
  replace HG := HG.ext E211
  replace H1 := H1.ext E211
  rw [ecl] at HC
  rw [k3]
  repeat' (conv => whnf
           first
           | (refine Dr.quiet tyOk (by kernel_rfl) ?_)
           | (refine Rng.mk (by omega) ?_)
           | (refine Split.pos (by omega) ?_)
           | (refine Split.neg (by omega) ?_)
           | (refine Split.mk (fun h => ?_) (fun h => ?_))
           | (refine Need.mk (by omega) ?_)
           | (refine Ints.ln (by assumption) ?_)
           | (refine Mat.ln (by assumption) ?_)
           | (refine Ints.ln (Mat.row (by assumption) _ (by omega)) ?_)
           | (refine Ints.ix (by assumption) (by omega) ?_)
           | (refine Mat.ix (by assumption) (by omega) ?_)
           | (refine Ints.ix (Mat.row (by assumption) _ (by omega)) (by omega) ?_)
           | (refine Ints.ix (c := 0) (by assumption) (by omega) ?_)
           | (refine Mat.ix (c := 0) (by assumption) (by omega) ?_)
           | (refine Ints.ix (c := 0) (Mat.row (by assumption) _ (by omega)) (by omega) ?_)
           | (refine Ints.ixI (by assumption) (by omega) ?_)
           | (refine Mat.ixI (by assumption) (by omega) ?_)
           | (refine Ints.ixI (Mat.row (by assumption) _ (by omega)) (by omega) ?_)
           | (refine Ints.ld (by assumption) (by omega) ?_)
           | (refine Mat.ld (by assumption) (by omega) ?_)
           | (refine Ints.ld (Mat.row (by assumption) _ (by omega)) (by omega) ?_)
           | (refine At.ld (by assumption) rfl ?_)
           | (refine At.ldN (by assumption) rfl ?_)
           | (refine Prs.ln (by assumption) ?_)
           | (refine Trs.ln (by assumption) ?_)
           | (refine Prs.ix (by assumption) (by omega) ?_)
           | (refine Trs.ix (by assumption) (by omega) ?_)
           | (refine Prs.ldN (by assumption) (by omega) ?_)
           | (refine Trs.ldN (by assumption) (by omega) ?_)
           | (refine At.ldN (Blk.at (by assumption)) rfl ?_)
           | (refine At.ld (Blk.at (by assumption)) rfl ?_)
           | (refine IxA.mk (by omega) ?_)
           | (refine Sl.ln (Own.sl (by assumption)) ?_)
           | (refine Ints.ix (Own.sl (by assumption)) (by omega) ?_)
           | (refine Ints.ixI (Own.sl (by assumption)) (by omega) ?_)
           | (refine Ints.ld (Own.sl (by assumption)) (by omega) ?_))
  conv => whnf
  refine VC.rc (given22_rc) ?_
  rintro _ w212 E212 ⟨g1, _, rfl, HG⟩
  replace EE := EE.ext E212
  replace HA := HA.ext E212
  replace H2 := H2.ext E212
  replace ER := ER.ext E212
  replace HR := HR.ext E212
  replace HK := HK.ext E212
  replace HZ := HZ.ext E212
  replace HX := HX.ext E212
  replace H1 := H1.ext E212
  replace HC := HC.ext E212
  have hch2 : IsCh gvn [0, 1, 1] 0 := ⟨fun j hj => absurd hj (Nat.not_lt_zero _), gvn_imp1⟩
  have ecl2 : chL gvn [0, 1, 1] = [] := by rw [chL_ok k1 hch2]; rfl
  conv => whnf
  refine VC.rc (gchain_rc HG.mat (Own.sl HA)) ?_
  rintro _ w213 E213 ⟨nv, us2, rfl, HN⟩
  replace EE := EE.ext E213
  replace HA := HA.ext E213
  replace H2 := H2.ext E213
  replace ER := ER.ext E213
  replace HR := HR.ext E213
  replace HK := HK.ext E213
  replace HZ := HZ.ext E213
  replace HX := HX.ext E213
  replace H1 := H1.ext E213
  replace HC := HC.ext E213
  replace HG := HG.ext E213
  rw [ecl2] at HN
  rw [k1]
  repeat' (conv => whnf
           first
           | (refine Dr.quiet tyOk (by kernel_rfl) ?_)
           | (refine Rng.mk (by omega) ?_)
           | (refine Split.pos (by omega) ?_)
           | (refine Split.neg (by omega) ?_)
           | (refine Split.mk (fun h => ?_) (fun h => ?_))
           | (refine Need.mk (by omega) ?_)
           | (refine Ints.ln (by assumption) ?_)
           | (refine Mat.ln (by assumption) ?_)
           | (refine Ints.ln (Mat.row (by assumption) _ (by omega)) ?_)
           | (refine Ints.ix (by assumption) (by omega) ?_)
           | (refine Mat.ix (by assumption) (by omega) ?_)
           | (refine Ints.ix (Mat.row (by assumption) _ (by omega)) (by omega) ?_)
           | (refine Ints.ix (c := 0) (by assumption) (by omega) ?_)
           | (refine Mat.ix (c := 0) (by assumption) (by omega) ?_)
           | (refine Ints.ix (c := 0) (Mat.row (by assumption) _ (by omega)) (by omega) ?_)
           | (refine Ints.ixI (by assumption) (by omega) ?_)
           | (refine Mat.ixI (by assumption) (by omega) ?_)
           | (refine Ints.ixI (Mat.row (by assumption) _ (by omega)) (by omega) ?_)
           | (refine Ints.ld (by assumption) (by omega) ?_)
           | (refine Mat.ld (by assumption) (by omega) ?_)
           | (refine Ints.ld (Mat.row (by assumption) _ (by omega)) (by omega) ?_)
           | (refine At.ld (by assumption) rfl ?_)
           | (refine At.ldN (by assumption) rfl ?_)
           | (refine Prs.ln (by assumption) ?_)
           | (refine Trs.ln (by assumption) ?_)
           | (refine Prs.ix (by assumption) (by omega) ?_)
           | (refine Trs.ix (by assumption) (by omega) ?_)
           | (refine Prs.ldN (by assumption) (by omega) ?_)
           | (refine Trs.ldN (by assumption) (by omega) ?_)
           | (refine At.ldN (Blk.at (by assumption)) rfl ?_)
           | (refine At.ld (Blk.at (by assumption)) rfl ?_)
           | (refine IxA.mk (by omega) ?_)
           | (refine Sl.ln (Own.sl (by assumption)) ?_)
           | (refine Ints.ix (Own.sl (by assumption)) (by omega) ?_)
           | (refine Ints.ixI (Own.sl (by assumption)) (by omega) ?_)
           | (refine Ints.ld (Own.sl (by assumption)) (by omega) ?_))
  conv => whnf
  refine VC.rc (given22_rc) ?_
  rintro _ w214 E214 ⟨g1, _, rfl, HG⟩
  replace EE := EE.ext E214
  replace HA := HA.ext E214
  replace H2 := H2.ext E214
  replace ER := ER.ext E214
  replace HR := HR.ext E214
  replace HK := HK.ext E214
  replace HZ := HZ.ext E214
  replace HX := HX.ext E214
  replace H1 := H1.ext E214
  replace HC := HC.ext E214
  replace HN := HN.ext E214
  conv => whnf
  refine VE.litI [1, 1, 0] Try.underlying25 eInt (by decide) fun l1 w215 E215 H1 _ => ?_
  replace H1 := H1 0 (Nat.zero_le _)
  replace EE := EE.ext E215
  replace HA := HA.ext E215
  replace H2 := H2.ext E215
  replace ER := ER.ext E215
  replace HR := HR.ext E215
  replace HK := HK.ext E215
  replace HZ := HZ.ext E215
  replace HX := HX.ext E215
  replace HC := HC.ext E215
  replace HN := HN.ext E215
  replace HG := HG.ext E215
  have cc := is_ok HG.mat (Own.sl H1) (Own.sl HA) v2 v1
  rw [show ablB (ownV gvn [1, 1, 0]) (ownV gvn [0, 1, 1]) = true by decide +kernel] at cc
  conv => whnf
  refine VC.pure cc ?_
  repeat' (conv => whnf
           first
           | (refine Dr.quiet tyOk (by kernel_rfl) ?_)
           | (refine Rng.mk (by omega) ?_)
           | (refine Split.pos (by omega) ?_)
           | (refine Split.neg (by omega) ?_)
           | (refine Split.mk (fun h => ?_) (fun h => ?_))
           | (refine Need.mk (by omega) ?_)
           | (refine Ints.ln (by assumption) ?_)
           | (refine Mat.ln (by assumption) ?_)
           | (refine Ints.ln (Mat.row (by assumption) _ (by omega)) ?_)
           | (refine Ints.ix (by assumption) (by omega) ?_)
           | (refine Mat.ix (by assumption) (by omega) ?_)
           | (refine Ints.ix (Mat.row (by assumption) _ (by omega)) (by omega) ?_)
           | (refine Ints.ix (c := 0) (by assumption) (by omega) ?_)
           | (refine Mat.ix (c := 0) (by assumption) (by omega) ?_)
           | (refine Ints.ix (c := 0) (Mat.row (by assumption) _ (by omega)) (by omega) ?_)
           | (refine Ints.ixI (by assumption) (by omega) ?_)
           | (refine Mat.ixI (by assumption) (by omega) ?_)
           | (refine Ints.ixI (Mat.row (by assumption) _ (by omega)) (by omega) ?_)
           | (refine Ints.ld (by assumption) (by omega) ?_)
           | (refine Mat.ld (by assumption) (by omega) ?_)
           | (refine Ints.ld (Mat.row (by assumption) _ (by omega)) (by omega) ?_)
           | (refine At.ld (by assumption) rfl ?_)
           | (refine At.ldN (by assumption) rfl ?_)
           | (refine Prs.ln (by assumption) ?_)
           | (refine Trs.ln (by assumption) ?_)
           | (refine Prs.ix (by assumption) (by omega) ?_)
           | (refine Trs.ix (by assumption) (by omega) ?_)
           | (refine Prs.ldN (by assumption) (by omega) ?_)
           | (refine Trs.ldN (by assumption) (by omega) ?_)
           | (refine At.ldN (Blk.at (by assumption)) rfl ?_)
           | (refine At.ld (Blk.at (by assumption)) rfl ?_)
           | (refine IxA.mk (by omega) ?_)
           | (refine Sl.ln (Own.sl (by assumption)) ?_)
           | (refine Ints.ix (Own.sl (by assumption)) (by omega) ?_)
           | (refine Ints.ixI (Own.sl (by assumption)) (by omega) ?_)
           | (refine Ints.ld (Own.sl (by assumption)) (by omega) ?_))
  conv => whnf
  refine VC.rc (given22_rc) ?_
  rintro _ w216 E216 ⟨g1, _, rfl, HG⟩
  replace EE := EE.ext E216
  replace HA := HA.ext E216
  replace H2 := H2.ext E216
  replace ER := ER.ext E216
  replace HR := HR.ext E216
  replace HK := HK.ext E216
  replace HZ := HZ.ext E216
  replace HX := HX.ext E216
  replace HC := HC.ext E216
  replace HN := HN.ext E216
  replace H1 := H1.ext E216
  have cc := is_ok HG.mat (Own.sl HA) (Own.sl HA) v1 v1
  rw [show ablB (ownV gvn [0, 1, 1]) (ownV gvn [0, 1, 1]) = false by decide +kernel] at cc
  conv => whnf
  refine VC.pure cc ?_
  repeat' (conv => whnf
           first
           | (refine Dr.quiet tyOk (by kernel_rfl) ?_)
           | (refine Rng.mk (by omega) ?_)
           | (refine Split.pos (by omega) ?_)
           | (refine Split.neg (by omega) ?_)
           | (refine Split.mk (fun h => ?_) (fun h => ?_))
           | (refine Need.mk (by omega) ?_)
           | (refine Ints.ln (by assumption) ?_)
           | (refine Mat.ln (by assumption) ?_)
           | (refine Ints.ln (Mat.row (by assumption) _ (by omega)) ?_)
           | (refine Ints.ix (by assumption) (by omega) ?_)
           | (refine Mat.ix (by assumption) (by omega) ?_)
           | (refine Ints.ix (Mat.row (by assumption) _ (by omega)) (by omega) ?_)
           | (refine Ints.ix (c := 0) (by assumption) (by omega) ?_)
           | (refine Mat.ix (c := 0) (by assumption) (by omega) ?_)
           | (refine Ints.ix (c := 0) (Mat.row (by assumption) _ (by omega)) (by omega) ?_)
           | (refine Ints.ixI (by assumption) (by omega) ?_)
           | (refine Mat.ixI (by assumption) (by omega) ?_)
           | (refine Ints.ixI (Mat.row (by assumption) _ (by omega)) (by omega) ?_)
           | (refine Ints.ld (by assumption) (by omega) ?_)
           | (refine Mat.ld (by assumption) (by omega) ?_)
           | (refine Ints.ld (Mat.row (by assumption) _ (by omega)) (by omega) ?_)
           | (refine At.ld (by assumption) rfl ?_)
           | (refine At.ldN (by assumption) rfl ?_)
           | (refine Prs.ln (by assumption) ?_)
           | (refine Trs.ln (by assumption) ?_)
           | (refine Prs.ix (by assumption) (by omega) ?_)
           | (refine Trs.ix (by assumption) (by omega) ?_)
           | (refine Prs.ldN (by assumption) (by omega) ?_)
           | (refine Trs.ldN (by assumption) (by omega) ?_)
           | (refine At.ldN (Blk.at (by assumption)) rfl ?_)
           | (refine At.ld (Blk.at (by assumption)) rfl ?_)
           | (refine IxA.mk (by omega) ?_)
           | (refine Sl.ln (Own.sl (by assumption)) ?_)
           | (refine Ints.ix (Own.sl (by assumption)) (by omega) ?_)
           | (refine Ints.ixI (Own.sl (by assumption)) (by omega) ?_)
           | (refine Ints.ld (Own.sl (by assumption)) (by omega) ?_))
  conv => whnf
  refine VE.made (n := 2) Try.underlying22 eRow rfl (by omega) (by omega) fun mv2 w217 E217 HG _ => ?_
  replace EE := EE.ext E217
  replace HA := HA.ext E217
  replace H2 := H2.ext E217
  replace ER := ER.ext E217
  replace HR := HR.ext E217
  replace HK := HK.ext E217
  replace HZ := HZ.ext E217
  replace HX := HX.ext E217
  replace HC := HC.ext E217
  replace HN := HN.ext E217
  replace H1 := H1.ext E217
  replace HG := OM.made (HG 0 (Nat.zero_le _))
  conv => whnf
  refine VS.field1 Try.underlying24 eGoods (by kernel_rfl) rfl (Sl.cells (Own.sl HG.top)).1 ?_
  have ch2 : chk (List.replicate 2 ([] : List Int)) = 0 := (chk_eq _).trans (by decide +kernel)
  have fw2 : ¬ 20000 < tot (List.replicate 2 ([] : List Int)) := by decide +kernel
  conv => whnf
  refine VC.rc (gfront_rc HG.mat) ?_
  rintro _ w218 E218 rfl
  replace EE := EE.ext E218
  replace HA := HA.ext E218
  replace H2 := H2.ext E218
  replace ER := ER.ext E218
  replace HR := HR.ext E218
  replace HK := HK.ext E218
  replace HZ := HZ.ext E218
  replace HX := HX.ext E218
  replace HC := HC.ext E218
  replace HN := HN.ext E218
  replace H1 := H1.ext E218
  replace HG := HG.ext E218
  rw [(fr_ok ch2 fw2).1, (fr_ok ch2 fw2).2, show (frF (List.replicate 2 ([] : List Int))).length = 1 by decide +kernel]
  repeat' (conv => whnf
           first
           | (refine Dr.quiet tyOk (by kernel_rfl) ?_)
           | (refine Rng.mk (by omega) ?_)
           | (refine Split.pos (by omega) ?_)
           | (refine Split.neg (by omega) ?_)
           | (refine Split.mk (fun h => ?_) (fun h => ?_))
           | (refine Need.mk (by omega) ?_)
           | (refine Ints.ln (by assumption) ?_)
           | (refine Mat.ln (by assumption) ?_)
           | (refine Ints.ln (Mat.row (by assumption) _ (by omega)) ?_)
           | (refine Ints.ix (by assumption) (by omega) ?_)
           | (refine Mat.ix (by assumption) (by omega) ?_)
           | (refine Ints.ix (Mat.row (by assumption) _ (by omega)) (by omega) ?_)
           | (refine Ints.ix (c := 0) (by assumption) (by omega) ?_)
           | (refine Mat.ix (c := 0) (by assumption) (by omega) ?_)
           | (refine Ints.ix (c := 0) (Mat.row (by assumption) _ (by omega)) (by omega) ?_)
           | (refine Ints.ixI (by assumption) (by omega) ?_)
           | (refine Mat.ixI (by assumption) (by omega) ?_)
           | (refine Ints.ixI (Mat.row (by assumption) _ (by omega)) (by omega) ?_)
           | (refine Ints.ld (by assumption) (by omega) ?_)
           | (refine Mat.ld (by assumption) (by omega) ?_)
           | (refine Ints.ld (Mat.row (by assumption) _ (by omega)) (by omega) ?_)
           | (refine At.ld (by assumption) rfl ?_)
           | (refine At.ldN (by assumption) rfl ?_)
           | (refine Prs.ln (by assumption) ?_)
           | (refine Trs.ln (by assumption) ?_)
           | (refine Prs.ix (by assumption) (by omega) ?_)
           | (refine Trs.ix (by assumption) (by omega) ?_)
           | (refine Prs.ldN (by assumption) (by omega) ?_)
           | (refine Trs.ldN (by assumption) (by omega) ?_)
           | (refine At.ldN (Blk.at (by assumption)) rfl ?_)
           | (refine At.ld (Blk.at (by assumption)) rfl ?_)
           | (refine IxA.mk (by omega) ?_)
           | (refine Sl.ln (Own.sl (by assumption)) ?_)
           | (refine Ints.ix (Own.sl (by assumption)) (by omega) ?_)
           | (refine Ints.ixI (Own.sl (by assumption)) (by omega) ?_)
           | (refine Ints.ld (Own.sl (by assumption)) (by omega) ?_))
  conv => whnf
  refine VE.litI [1000] Try.underlying25 eInt (by decide) fun tv_0 w219 E219 HT_0 _ => ?_
  replace HT_0 := HT_0 0 (Nat.zero_le _)
  replace EE := EE.ext E219
  replace HA := HA.ext E219
  replace H2 := H2.ext E219
  replace ER := ER.ext E219
  replace HR := HR.ext E219
  replace HK := HK.ext E219
  replace HZ := HZ.ext E219
  replace HX := HX.ext E219
  replace HC := HC.ext E219
  replace HN := HN.ext E219
  replace H1 := H1.ext E219
  replace HG := HG.ext E219
  conv => whnf
  refine VE.litI [1000] Try.underlying25 eInt (by decide) fun tv_1 w220 E220 HT_1 _ => ?_
  replace HT_1 := HT_1 0 (Nat.zero_le _)
  replace EE := EE.ext E220
  replace HA := HA.ext E220
  replace H2 := H2.ext E220
  replace ER := ER.ext E220
  replace HR := HR.ext E220
  replace HK := HK.ext E220
  replace HZ := HZ.ext E220
  replace HX := HX.ext E220
  replace HC := HC.ext E220
  replace HN := HN.ext E220
  replace H1 := H1.ext E220
  replace HG := HG.ext E220
  replace HT_0 := HT_0.ext E220
  conv => whnf
  refine VE.litV [tv_0, tv_1] Try.underlying22 eRow (by intro v hv; simp at hv; rcases hv with rfl | rfl <;> first | exact (Sl.cells (Own.sl HT_0)).1 | exact (Sl.cells (Own.sl HT_1)).1) (by simp) fun tv w221 E221 HT _ => ?_
  replace EE := EE.ext E221
  replace HA := HA.ext E221
  replace H2 := H2.ext E221
  replace ER := ER.ext E221
  replace HR := HR.ext E221
  replace HK := HK.ext E221
  replace HZ := HZ.ext E221
  replace HX := HX.ext E221
  replace HC := HC.ext E221
  replace HN := HN.ext E221
  replace H1 := H1.ext E221
  replace HG := HG.ext E221
  replace HT_0 := HT_0.ext E221
  replace HT_1 := HT_1.ext E221
  replace HT : OM 0 w221 tv [tv_0, tv_1] [[1000], [1000]] := by
    refine ⟨HT _ (Nat.zero_le _), fun i hi => ?_⟩
    match i, hi with
    | 0, _ => exact HT_0
    | 1, _ => exact HT_1
  replace HT : OM 0 _ _ _ topn := HT
  conv => whnf
  refine VS.field1 Try.underlying24 eGoods (by kernel_rfl) rfl (Sl.cells (Own.sl HT.top)).1 ?_
  conv => whnf
  refine VE.litI [1] Try.underlying25 eInt (by decide) fun l1 w222 E222 H1 _ => ?_
  replace H1 := H1 0 (Nat.zero_le _)
  replace EE := EE.ext E222
  replace HA := HA.ext E222
  replace H2 := H2.ext E222
  replace ER := ER.ext E222
  replace HR := HR.ext E222
  replace HK := HK.ext E222
  replace HZ := HZ.ext E222
  replace HX := HX.ext E222
  replace HC := HC.ext E222
  replace HN := HN.ext E222
  replace HG := HG.ext E222
  replace HT := HT.ext E222
  conv => whnf
  refine VE.litI [1000000, 1000000] Try.underlying25 eInt (by decide) fun l2 w223 E223 H2 _ => ?_
  replace H2 := H2 0 (Nat.zero_le _)
  replace EE := EE.ext E223
  replace HA := HA.ext E223
  replace ER := ER.ext E223
  replace HR := HR.ext E223
  replace HK := HK.ext E223
  replace HZ := HZ.ext E223
  replace HX := HX.ext E223
  replace HC := HC.ext E223
  replace HN := HN.ext E223
  replace HG := HG.ext E223
  replace HT := HT.ext E223
  replace H1 := H1.ext E223
  have vt : vld topn [1] = 0 := (vld_eq _ _).trans (by decide +kernel)
  have cc := gproves_pc HT.mat (Own.sl H1) (Own.sl H2)
  have pp := prB_t (l := [1000000, 1000000]) vt (by unfold compl; decide) (by unfold wtd; decide +kernel) (by unfold pvd wvl; decide +kernel)
  rw [pp.1, pp.2] at cc
  conv => whnf
  refine VC.pure cc ?_
  repeat' (conv => whnf
           first
           | (refine Dr.quiet tyOk (by kernel_rfl) ?_)
           | (refine VC.pure alive22_pc ?_)
           | (refine VCQ.pure alive22_pc ?_)
           | (refine Rng.mk (by omega) ?_)
           | (refine Split.pos (by omega) ?_)
           | (refine Split.neg (by omega) ?_)
           | (refine Split.mk (fun h => ?_) (fun h => ?_))
           | (refine Need.mk (by omega) ?_)
           | (refine Ints.ln (by assumption) ?_)
           | (refine Mat.ln (by assumption) ?_)
           | (refine Ints.ln (Mat.row (by assumption) _ (by omega)) ?_)
           | (refine Ints.ix (by assumption) (by omega) ?_)
           | (refine Mat.ix (by assumption) (by omega) ?_)
           | (refine Ints.ix (Mat.row (by assumption) _ (by omega)) (by omega) ?_)
           | (refine Ints.ix (c := 0) (by assumption) (by omega) ?_)
           | (refine Mat.ix (c := 0) (by assumption) (by omega) ?_)
           | (refine Ints.ix (c := 0) (Mat.row (by assumption) _ (by omega)) (by omega) ?_)
           | (refine Ints.ixI (by assumption) (by omega) ?_)
           | (refine Mat.ixI (by assumption) (by omega) ?_)
           | (refine Ints.ixI (Mat.row (by assumption) _ (by omega)) (by omega) ?_)
           | (refine Ints.ld (by assumption) (by omega) ?_)
           | (refine Mat.ld (by assumption) (by omega) ?_)
           | (refine Ints.ld (Mat.row (by assumption) _ (by omega)) (by omega) ?_)
           | (refine At.ld (by assumption) rfl ?_)
           | (refine At.ldN (by assumption) rfl ?_)
           | (refine Prs.ln (by assumption) ?_)
           | (refine Trs.ln (by assumption) ?_)
           | (refine Prs.ix (by assumption) (by omega) ?_)
           | (refine Trs.ix (by assumption) (by omega) ?_)
           | (refine Prs.ldN (by assumption) (by omega) ?_)
           | (refine Trs.ldN (by assumption) (by omega) ?_)
           | (refine At.ldN (Blk.at (by assumption)) rfl ?_)
           | (refine At.ld (Blk.at (by assumption)) rfl ?_)
           | (refine IxA.mk (by omega) ?_)
           | (refine Sl.ln (Own.sl (by assumption)) ?_)
           | (refine Ints.ix (Own.sl (by assumption)) (by omega) ?_)
           | (refine Ints.ixI (Own.sl (by assumption)) (by omega) ?_)
           | (refine Ints.ld (Own.sl (by assumption)) (by omega) ?_))
  conv => whnf
  refine VE.litI [0, 0, 0] Try.underlying25 eInt (by decide) fun x1 w224 E224 X1 _ => ?_
  replace X1 := X1 0 (Nat.zero_le _)
  replace EE := EE.ext E224
  replace HA := HA.ext E224
  replace ER := ER.ext E224
  replace HR := HR.ext E224
  replace HK := HK.ext E224
  replace HZ := HZ.ext E224
  replace HX := HX.ext E224
  replace HC := HC.ext E224
  replace HN := HN.ext E224
  replace HG := HG.ext E224
  replace HT := HT.ext E224
  replace H1 := H1.ext E224
  replace H2 := H2.ext E224
  have c1 := same_pc (Own.sl HX.1) (Own.sl X1)
  rw [tf_t rfl] at c1
  conv => whnf
  refine VC.pure c1 ?_
  repeat' (conv => whnf
           first
           | (refine Dr.quiet tyOk (by kernel_rfl) ?_)
           | (refine Rng.mk (by omega) ?_)
           | (refine Split.pos (by omega) ?_)
           | (refine Split.neg (by omega) ?_)
           | (refine Split.mk (fun h => ?_) (fun h => ?_))
           | (refine Need.mk (by omega) ?_)
           | (refine Ints.ln (by assumption) ?_)
           | (refine Mat.ln (by assumption) ?_)
           | (refine Ints.ln (Mat.row (by assumption) _ (by omega)) ?_)
           | (refine Ints.ix (by assumption) (by omega) ?_)
           | (refine Mat.ix (by assumption) (by omega) ?_)
           | (refine Ints.ix (Mat.row (by assumption) _ (by omega)) (by omega) ?_)
           | (refine Ints.ix (c := 0) (by assumption) (by omega) ?_)
           | (refine Mat.ix (c := 0) (by assumption) (by omega) ?_)
           | (refine Ints.ix (c := 0) (Mat.row (by assumption) _ (by omega)) (by omega) ?_)
           | (refine Ints.ixI (by assumption) (by omega) ?_)
           | (refine Mat.ixI (by assumption) (by omega) ?_)
           | (refine Ints.ixI (Mat.row (by assumption) _ (by omega)) (by omega) ?_)
           | (refine Ints.ld (by assumption) (by omega) ?_)
           | (refine Mat.ld (by assumption) (by omega) ?_)
           | (refine Ints.ld (Mat.row (by assumption) _ (by omega)) (by omega) ?_)
           | (refine At.ld (by assumption) rfl ?_)
           | (refine At.ldN (by assumption) rfl ?_)
           | (refine Prs.ln (by assumption) ?_)
           | (refine Trs.ln (by assumption) ?_)
           | (refine Prs.ix (by assumption) (by omega) ?_)
           | (refine Trs.ix (by assumption) (by omega) ?_)
           | (refine Prs.ldN (by assumption) (by omega) ?_)
           | (refine Trs.ldN (by assumption) (by omega) ?_)
           | (refine At.ldN (Blk.at (by assumption)) rfl ?_)
           | (refine At.ld (Blk.at (by assumption)) rfl ?_)
           | (refine IxA.mk (by omega) ?_)
           | (refine Sl.ln (Own.sl (by assumption)) ?_)
           | (refine Ints.ix (Own.sl (by assumption)) (by omega) ?_)
           | (refine Ints.ixI (Own.sl (by assumption)) (by omega) ?_)
           | (refine Ints.ld (Own.sl (by assumption)) (by omega) ?_))
  conv => whnf
  refine VE.litI [0, 1, 1] Try.underlying25 eInt (by decide) fun x2_0 w225 E225 X2_0 _ => ?_
  replace X2_0 := X2_0 0 (Nat.zero_le _)
  replace EE := EE.ext E225
  replace HA := HA.ext E225
  replace ER := ER.ext E225
  replace HR := HR.ext E225
  replace HK := HK.ext E225
  replace HZ := HZ.ext E225
  replace HX := HX.ext E225
  replace HC := HC.ext E225
  replace HN := HN.ext E225
  replace HG := HG.ext E225
  replace HT := HT.ext E225
  replace H1 := H1.ext E225
  replace H2 := H2.ext E225
  replace X1 := X1.ext E225
  conv => whnf
  refine VE.litV [x2_0] Try.underlying22 eRow (by intro v hv; simp at hv; rcases hv with rfl <;> first | exact (Sl.cells (Own.sl X2_0)).1) (by simp) fun x2 w226 E226 X2 _ => ?_
  replace EE := EE.ext E226
  replace HA := HA.ext E226
  replace ER := ER.ext E226
  replace HR := HR.ext E226
  replace HK := HK.ext E226
  replace HZ := HZ.ext E226
  replace HX := HX.ext E226
  replace HC := HC.ext E226
  replace HN := HN.ext E226
  replace HG := HG.ext E226
  replace HT := HT.ext E226
  replace H1 := H1.ext E226
  replace H2 := H2.ext E226
  replace X1 := X1.ext E226
  replace X2_0 := X2_0.ext E226
  replace X2 : OM 0 w226 x2 [x2_0] [[0, 1, 1]] := by
    refine ⟨X2 _ (Nat.zero_le _), fun i hi => ?_⟩
    match i, hi with
    | 0, _ => exact X2_0
  have c2 := samelists_pc HC.mat X2.mat
  rw [tf_t rfl] at c2
  conv => whnf
  refine VC.pure c2 ?_
  have HNm := HN.mat
  have hnl : ([] : List (List Int)).length = 0 := rfl
  repeat' (conv => whnf
           first
           | (refine Dr.quiet tyOk (by kernel_rfl) ?_)
           | (refine Rng.mk (by omega) ?_)
           | (refine Split.pos (by omega) ?_)
           | (refine Split.neg (by omega) ?_)
           | (refine Split.mk (fun h => ?_) (fun h => ?_))
           | (refine Need.mk (by omega) ?_)
           | (refine Ints.ln (by assumption) ?_)
           | (refine Mat.ln (by assumption) ?_)
           | (refine Ints.ln (Mat.row (by assumption) _ (by omega)) ?_)
           | (refine Ints.ix (by assumption) (by omega) ?_)
           | (refine Mat.ix (by assumption) (by omega) ?_)
           | (refine Ints.ix (Mat.row (by assumption) _ (by omega)) (by omega) ?_)
           | (refine Ints.ix (c := 0) (by assumption) (by omega) ?_)
           | (refine Mat.ix (c := 0) (by assumption) (by omega) ?_)
           | (refine Ints.ix (c := 0) (Mat.row (by assumption) _ (by omega)) (by omega) ?_)
           | (refine Ints.ixI (by assumption) (by omega) ?_)
           | (refine Mat.ixI (by assumption) (by omega) ?_)
           | (refine Ints.ixI (Mat.row (by assumption) _ (by omega)) (by omega) ?_)
           | (refine Ints.ld (by assumption) (by omega) ?_)
           | (refine Mat.ld (by assumption) (by omega) ?_)
           | (refine Ints.ld (Mat.row (by assumption) _ (by omega)) (by omega) ?_)
           | (refine At.ld (by assumption) rfl ?_)
           | (refine At.ldN (by assumption) rfl ?_)
           | (refine Prs.ln (by assumption) ?_)
           | (refine Trs.ln (by assumption) ?_)
           | (refine Prs.ix (by assumption) (by omega) ?_)
           | (refine Trs.ix (by assumption) (by omega) ?_)
           | (refine Prs.ldN (by assumption) (by omega) ?_)
           | (refine Trs.ldN (by assumption) (by omega) ?_)
           | (refine At.ldN (Blk.at (by assumption)) rfl ?_)
           | (refine At.ld (Blk.at (by assumption)) rfl ?_)
           | (refine IxA.mk (by omega) ?_)
           | (refine Sl.ln (Own.sl (by assumption)) ?_)
           | (refine Ints.ix (Own.sl (by assumption)) (by omega) ?_)
           | (refine Ints.ixI (Own.sl (by assumption)) (by omega) ?_)
           | (refine Ints.ld (Own.sl (by assumption)) (by omega) ?_))
  exact ⟨rfl, EE⟩

open Go.ChangeShapes Go.WideShapes Go.ChangeAt Go.RowKit Go.Eng in
theorem betterNames_lifted (os : Os) (started : os.Started) (H : Type) (enc : TypeId × Value → H) :
    ReturnsInHanded {} Try.checked os 10 .any (Rows.betterNamesSpec.pre6 enc Try.prog Try.f10 Rows.betterNamesRow.domain false) (Rows.betterNamesSpec.post enc Try.prog Try.f10 false true false false) := by
  refine returnsInHanded_of_change (C := Try.checked) own started (by kernel_rfl) Try.func10
    (ChangeSpec.witness6 (enc := enc) (C := Try.checked) false ⟨#[], #[], []⟩ 8 (by kernel_rfl) (by kernel_rfl) (by kernel_rfl) (by kernel_rfl)) ?_
  intro W base args ds gs before hval0 hW hcnd _
  have hval : ∀ (j : Nat) t v, Try.f10.params[j]? = some t → args[j]? = some v → Value.okWide Try.prog W .any base t v := hval0
  have hW' := hW
  obtain ⟨p, q, hA0, hV, e0, hfz, hnd⟩ := hW
  have hA : DataW.TrodAll enc Try.prog W 0 (fun _ => true) true Try.f10.params.toList args.toList ds p := hA0
  rw [Try.params10] at hA hval
  clear hfz hnd hV e0 hval0
  obtain ⟨ee, rfl, _⟩ := trodAll_nil hA
  obtain rfl : args = #[] := Array.toList_inj.1 (by simpa using ee)
  exact law_calls laidOut (by rw [Try.params10]; intro t ht; revert t; decide +kernel) rfl Try.underlying4 rfl ⟨rfl, rfl, rfl⟩ hW' (bnames_pc)

theorem betterNames_holds : Rows.BetterNamesSaid :=
  OpenClaim.holds_of_wide 10 Try.f10 rfl rfl rfl rfl rfl rfl rfl ⟨rfl, rfl, rfl, rfl, rfl⟩ rfl rfl rfl rfl rfl (by kernel_rfl) Try.func10 (by kernel_rfl)
    (of_decide_eq_true (by kernel_rfl)) (by unfold Func.isWrapper; first | (rw [if_pos (by decide +kernel)]; kernel_rfl) | (rw [if_neg (by decide +kernel)]; exact ⟨rfl, rfl⟩))
    (fun os started H enc _ => betterNames_lifted os started H enc)
end Go.Proofs.Ytebklnmafjbhcaa
