/- The statement NashNames. -/
import Derived.Test.YtkgogljfngplnaaJ5
import Derived.Test.YtkgogljfngplnaaRows
set_option linter.unusedVariables false
set_option linter.unusedSimpArgs false
namespace Go.Proofs.Ytkgogljfngplnaa
open Go.Eng
set_option maxRecDepth 100000
set_option maxHeartbeats 4000000

def row6 (i : Nat) : List Int := (List.replicate 6 0).set (5 - i) 1000
def r6 (c : Nat) : List (List Int) := (List.range c).map row6
theorem r6_succ (c : Nat) : r6 (c + 1) = r6 c ++ [row6 c] := by unfold r6; rw [List.range_succ, List.map_append]; rfl
theorem r6_len (c : Nat) : (r6 c).length = c := by simp [r6]
def ord6 (c : Nat) : List Int := (List.range 6).map fun j => if j < c then 5 - (j : Int) else 0
theorem ord6_set : ∀ c, c < 6 → (ord6 c).set c (5 - (c : Int)) = ord6 (c + 1) := by decide +kernel
theorem ord6_len (c : Nat) : (ord6 c).length = 6 := by simp [ord6]
def big3 : List (List Int) := [List.replicate 10 0, List.replicate 10 0, List.replicate 10 0]

theorem nnames_pc {w : World} : PC Try.prog 8 [] w (.bool true) := by
  refine PC.mk tyOk Try.func8 rfl (by kernel_rfl) fun w1 E1 => ?_
  have EE := Ext.refl w1
  have z0 : ∀ w, Mat w (.slice none 0 0) [] [] := fun w => (OM.nil (B := 0)).mat
  have i0 : ∀ w, Ints w (.slice none 0 0) [] := fun w => Own.sl (B := 0) (e := 3) Own.nil
  have e3P : nbP [List.replicate 10 0, List.replicate 10 0, List.replicate 10 0] = (0, 0, 0) := by decide +kernel
  have e3E : nbE [List.replicate 10 0, List.replicate 10 0, List.replicate 10 0] = 4 := by decide +kernel
  conv => whnf
  refine VS.sparse (ps := []) Try.underlying24 eGoods (by decide +kernel) rfl (by simp) rfl ?_
  conv => whnf
  refine VC.rc (nbest_rc (z0 _)) ?_
  rintro _ w2 E2 ⟨a1, rfl, HA1⟩
  replace EE := EE.ext E2
  rw [show nbP [] = (0, 0, 0) by decide +kernel, show nbE [] = 8 by decide +kernel]
  repeat' (conv => whnf
           first
           | (refine Dr.quiet tyOk (by kernel_rfl) ?_)
           | (refine Rng.mk (by omega) ?_)
           | (refine Split.pos (by omega) ?_)
           | (refine Split.neg (by omega) ?_)
           | (refine Split.mk (fun h => ?_) (fun h => ?_))
           | (refine Need.mk (by omega) ?_)
           | (refine Ints.ln (by assumption) ?_)
           | (refine Mat.ln (by assumption) ?_)
           | (refine Ints.ln (Mat.row (by assumption) _ (by omega)) ?_)
           | (refine Ints.ix (by assumption) (by omega) ?_)
           | (refine Mat.ix (by assumption) (by omega) ?_)
           | (refine Ints.ix (Mat.row (by assumption) _ (by omega)) (by omega) ?_)
           | (refine Ints.ix (c := 0) (by assumption) (by omega) ?_)
           | (refine Mat.ix (c := 0) (by assumption) (by omega) ?_)
           | (refine Ints.ix (c := 0) (Mat.row (by assumption) _ (by omega)) (by omega) ?_)
           | (refine Ints.ixI (by assumption) (by omega) ?_)
           | (refine Mat.ixI (by assumption) (by omega) ?_)
           | (refine Ints.ixI (Mat.row (by assumption) _ (by omega)) (by omega) ?_)
           | (refine Ints.ld (by assumption) (by omega) ?_)
           | (refine Mat.ld (by assumption) (by omega) ?_)
           | (refine Ints.ld (Mat.row (by assumption) _ (by omega)) (by omega) ?_)
           | (refine At.ld (by assumption) rfl ?_)
           | (refine At.ldN (by assumption) rfl ?_)
           | (refine Prs.ln (by assumption) ?_)
           | (refine Trs.ln (by assumption) ?_)
           | (refine Prs.ix (by assumption) (by omega) ?_)
           | (refine Trs.ix (by assumption) (by omega) ?_)
           | (refine Prs.ldN (by assumption) (by omega) ?_)
           | (refine Trs.ldN (by assumption) (by omega) ?_)
           | (refine At.ldN (Blk.at (by assumption)) rfl ?_)
           | (refine At.ld (Blk.at (by assumption)) rfl ?_)
           | (refine IxA.mk (by omega) ?_)
           | (refine Sl.ln (Own.sl (by assumption)) ?_)
           | (refine Ints.ix (Own.sl (by assumption)) (by omega) ?_)
           | (refine Ints.ixI (Own.sl (by assumption)) (by omega) ?_)
           | (refine Ints.ld (Own.sl (by assumption)) (by omega) ?_))
  have EE__1 := EE
  have HA1__1 := HA1
  conv => whnf
  refine VE.alloc eProd fun p1 w3 E3 hb_p1 Hp1 => ?_
  replace EE := EE.ext E3
  replace HA1 := HA1.ext E3
  have EL1 := E3
  repeat' (conv => whnf
           first
           | (refine Dr.quiet tyOk (by kernel_rfl) ?_)
           | (refine Rng.mk (by omega) ?_)
           | (refine Split.pos (by omega) ?_)
           | (refine Split.neg (by omega) ?_)
           | (refine Split.mk (fun h => ?_) (fun h => ?_))
           | (refine Need.mk (by omega) ?_)
           | (refine Ints.ln (by assumption) ?_)
           | (refine Mat.ln (by assumption) ?_)
           | (refine Ints.ln (Mat.row (by assumption) _ (by omega)) ?_)
           | (refine Ints.ix (by assumption) (by omega) ?_)
           | (refine Mat.ix (by assumption) (by omega) ?_)
           | (refine Ints.ix (Mat.row (by assumption) _ (by omega)) (by omega) ?_)
           | (refine Ints.ix (c := 0) (by assumption) (by omega) ?_)
           | (refine Mat.ix (c := 0) (by assumption) (by omega) ?_)
           | (refine Ints.ix (c := 0) (Mat.row (by assumption) _ (by omega)) (by omega) ?_)
           | (refine Ints.ixI (by assumption) (by omega) ?_)
           | (refine Mat.ixI (by assumption) (by omega) ?_)
           | (refine Ints.ixI (Mat.row (by assumption) _ (by omega)) (by omega) ?_)
           | (refine Ints.ld (by assumption) (by omega) ?_)
           | (refine Mat.ld (by assumption) (by omega) ?_)
           | (refine Ints.ld (Mat.row (by assumption) _ (by omega)) (by omega) ?_)
           | (refine At.ld (by assumption) rfl ?_)
           | (refine At.ldN (by assumption) rfl ?_)
           | (refine Prs.ln (by assumption) ?_)
           | (refine Trs.ln (by assumption) ?_)
           | (refine Prs.ix (by assumption) (by omega) ?_)
           | (refine Trs.ix (by assumption) (by omega) ?_)
           | (refine Prs.ldN (by assumption) (by omega) ?_)
           | (refine Trs.ldN (by assumption) (by omega) ?_)
           | (refine At.ldN (Blk.at (by assumption)) rfl ?_)
           | (refine At.ld (Blk.at (by assumption)) rfl ?_)
           | (refine IxA.mk (by omega) ?_)
           | (refine Sl.ln (Own.sl (by assumption)) ?_)
           | (refine Ints.ix (Own.sl (by assumption)) (by omega) ?_)
           | (refine Ints.ixI (Own.sl (by assumption)) (by omega) ?_)
           | (refine Ints.ld (Own.sl (by assumption)) (by omega) ?_))
  refine Blk.all Hp1 (by kernel_rfl) (by first | decide | simp) rfl rfl (by intro v hv; simp at hv; rcases hv with rfl | rfl | rfl | rfl | rfl <;> rfl) fun w4 G4 Hp1' => ?_
  have E4 : Ext w2 w4 := EL1.new G4 fun i hi hk => by omega
  replace Hp1 := Hp1'
  replace EE := EE__1.ext E4
  replace HA1 := HA1__1.ext E4
  replace EL1 := E4
  repeat' (conv => whnf
           first
           | (refine Dr.quiet tyOk (by kernel_rfl) ?_)
           | (refine Rng.mk (by omega) ?_)
           | (refine Split.pos (by omega) ?_)
           | (refine Split.neg (by omega) ?_)
           | (refine Split.mk (fun h => ?_) (fun h => ?_))
           | (refine Need.mk (by omega) ?_)
           | (refine Ints.ln (by assumption) ?_)
           | (refine Mat.ln (by assumption) ?_)
           | (refine Ints.ln (Mat.row (by assumption) _ (by omega)) ?_)
           | (refine Ints.ix (by assumption) (by omega) ?_)
           | (refine Mat.ix (by assumption) (by omega) ?_)
           | (refine Ints.ix (Mat.row (by assumption) _ (by omega)) (by omega) ?_)
           | (refine Ints.ix (c := 0) (by assumption) (by omega) ?_)
           | (refine Mat.ix (c := 0) (by assumption) (by omega) ?_)
           | (refine Ints.ix (c := 0) (Mat.row (by assumption) _ (by omega)) (by omega) ?_)
           | (refine Ints.ixI (by assumption) (by omega) ?_)
           | (refine Mat.ixI (by assumption) (by omega) ?_)
           | (refine Ints.ixI (Mat.row (by assumption) _ (by omega)) (by omega) ?_)
           | (refine Ints.ld (by assumption) (by omega) ?_)
           | (refine Mat.ld (by assumption) (by omega) ?_)
           | (refine Ints.ld (Mat.row (by assumption) _ (by omega)) (by omega) ?_)
           | (refine At.ld (by assumption) rfl ?_)
           | (refine At.ldN (by assumption) rfl ?_)
           | (refine Prs.ln (by assumption) ?_)
           | (refine Trs.ln (by assumption) ?_)
           | (refine Prs.ix (by assumption) (by omega) ?_)
           | (refine Trs.ix (by assumption) (by omega) ?_)
           | (refine Prs.ldN (by assumption) (by omega) ?_)
           | (refine Trs.ldN (by assumption) (by omega) ?_)
           | (refine At.ldN (Blk.at (by assumption)) rfl ?_)
           | (refine At.ld (Blk.at (by assumption)) rfl ?_)
           | (refine IxA.mk (by omega) ?_)
           | (refine Sl.ln (Own.sl (by assumption)) ?_)
           | (refine Ints.ix (Own.sl (by assumption)) (by omega) ?_)
           | (refine Ints.ixI (Own.sl (by assumption)) (by omega) ?_)
           | (refine Ints.ld (Own.sl (by assumption)) (by omega) ?_))
  conv => whnf
  refine VE.made (n := 7) Try.underlying22 eRow rfl (by omega) (by omega) fun mv7 w5 E5 HG _ => ?_
  replace EE := EE.ext E5
  replace EL1 := EL1.ext E5
  replace HG := OM.made (HG 0 (Nat.zero_le _))
  conv => whnf
  refine VS.field1 Try.underlying24 eGoods (by kernel_rfl) rfl (Sl.cells (Own.sl HG.top)).1 ?_
  conv => whnf
  refine VC.rc (nbest_rc HG.mat) ?_
  rintro _ w6 E6 ⟨a2, rfl, HA2⟩
  replace EE := EE.ext E6
  replace EL1 := EL1.ext E6
  replace HG := HG.ext E6
  rw [show nbP (List.replicate 7 []) = (0, 0, 0) by decide +kernel, show nbE (List.replicate 7 []) = 4 by decide +kernel]
  repeat' (conv => whnf
           first
           | (refine Dr.quiet tyOk (by kernel_rfl) ?_)
           | (refine Rng.mk (by omega) ?_)
           | (refine Split.pos (by omega) ?_)
           | (refine Split.neg (by omega) ?_)
           | (refine Split.mk (fun h => ?_) (fun h => ?_))
           | (refine Need.mk (by omega) ?_)
           | (refine Ints.ln (by assumption) ?_)
           | (refine Mat.ln (by assumption) ?_)
           | (refine Ints.ln (Mat.row (by assumption) _ (by omega)) ?_)
           | (refine Ints.ix (by assumption) (by omega) ?_)
           | (refine Mat.ix (by assumption) (by omega) ?_)
           | (refine Ints.ix (Mat.row (by assumption) _ (by omega)) (by omega) ?_)
           | (refine Ints.ix (c := 0) (by assumption) (by omega) ?_)
           | (refine Mat.ix (c := 0) (by assumption) (by omega) ?_)
           | (refine Ints.ix (c := 0) (Mat.row (by assumption) _ (by omega)) (by omega) ?_)
           | (refine Ints.ixI (by assumption) (by omega) ?_)
           | (refine Mat.ixI (by assumption) (by omega) ?_)
           | (refine Ints.ixI (Mat.row (by assumption) _ (by omega)) (by omega) ?_)
           | (refine Ints.ld (by assumption) (by omega) ?_)
           | (refine Mat.ld (by assumption) (by omega) ?_)
           | (refine Ints.ld (Mat.row (by assumption) _ (by omega)) (by omega) ?_)
           | (refine At.ld (by assumption) rfl ?_)
           | (refine At.ldN (by assumption) rfl ?_)
           | (refine Prs.ln (by assumption) ?_)
           | (refine Trs.ln (by assumption) ?_)
           | (refine Prs.ix (by assumption) (by omega) ?_)
           | (refine Trs.ix (by assumption) (by omega) ?_)
           | (refine Prs.ldN (by assumption) (by omega) ?_)
           | (refine Trs.ldN (by assumption) (by omega) ?_)
           | (refine At.ldN (Blk.at (by assumption)) rfl ?_)
           | (refine At.ld (Blk.at (by assumption)) rfl ?_)
           | (refine IxA.mk (by omega) ?_)
           | (refine Sl.ln (Own.sl (by assumption)) ?_)
           | (refine Ints.ix (Own.sl (by assumption)) (by omega) ?_)
           | (refine Ints.ixI (Own.sl (by assumption)) (by omega) ?_)
           | (refine Ints.ld (Own.sl (by assumption)) (by omega) ?_))
  have EE__2 := EE
  have EL1__2 := EL1
  have HG__2 := HG
  have HA2__2 := HA2
  conv => whnf
  refine VE.alloc eProd fun p2 w7 E7 hb_p2 Hp2 => ?_
  replace EE := EE.ext E7
  replace EL1 := EL1.ext E7
  replace HG := HG.ext E7
  replace HA2 := HA2.ext E7
  have EL2 := E7
  repeat' (conv => whnf
           first
           | (refine Dr.quiet tyOk (by kernel_rfl) ?_)
           | (refine Rng.mk (by omega) ?_)
           | (refine Split.pos (by omega) ?_)
           | (refine Split.neg (by omega) ?_)
           | (refine Split.mk (fun h => ?_) (fun h => ?_))
           | (refine Need.mk (by omega) ?_)
           | (refine Ints.ln (by assumption) ?_)
           | (refine Mat.ln (by assumption) ?_)
           | (refine Ints.ln (Mat.row (by assumption) _ (by omega)) ?_)
           | (refine Ints.ix (by assumption) (by omega) ?_)
           | (refine Mat.ix (by assumption) (by omega) ?_)
           | (refine Ints.ix (Mat.row (by assumption) _ (by omega)) (by omega) ?_)
           | (refine Ints.ix (c := 0) (by assumption) (by omega) ?_)
           | (refine Mat.ix (c := 0) (by assumption) (by omega) ?_)
           | (refine Ints.ix (c := 0) (Mat.row (by assumption) _ (by omega)) (by omega) ?_)
           | (refine Ints.ixI (by assumption) (by omega) ?_)
           | (refine Mat.ixI (by assumption) (by omega) ?_)
           | (refine Ints.ixI (Mat.row (by assumption) _ (by omega)) (by omega) ?_)
           | (refine Ints.ld (by assumption) (by omega) ?_)
           | (refine Mat.ld (by assumption) (by omega) ?_)
           | (refine Ints.ld (Mat.row (by assumption) _ (by omega)) (by omega) ?_)
           | (refine At.ld (by assumption) rfl ?_)
           | (refine At.ldN (by assumption) rfl ?_)
           | (refine Prs.ln (by assumption) ?_)
           | (refine Trs.ln (by assumption) ?_)
           | (refine Prs.ix (by assumption) (by omega) ?_)
           | (refine Trs.ix (by assumption) (by omega) ?_)
           | (refine Prs.ldN (by assumption) (by omega) ?_)
           | (refine Trs.ldN (by assumption) (by omega) ?_)
           | (refine At.ldN (Blk.at (by assumption)) rfl ?_)
           | (refine At.ld (Blk.at (by assumption)) rfl ?_)
           | (refine IxA.mk (by omega) ?_)
           | (refine Sl.ln (Own.sl (by assumption)) ?_)
           | (refine Ints.ix (Own.sl (by assumption)) (by omega) ?_)
           | (refine Ints.ixI (Own.sl (by assumption)) (by omega) ?_)
           | (refine Ints.ld (Own.sl (by assumption)) (by omega) ?_))
  refine Blk.all Hp2 (by kernel_rfl) (by first | decide | simp) rfl rfl (by intro v hv; simp at hv; rcases hv with rfl | rfl | rfl | rfl | rfl <;> rfl) fun w8 G8 Hp2' => ?_
  have E8 : Ext w6 w8 := EL2.new G8 fun i hi hk => by omega
  replace Hp2 := Hp2'
  replace EE := EE__2.ext E8
  replace EL1 := EL1__2.ext E8
  replace HG := HG__2.ext E8
  replace HA2 := HA2__2.ext E8
  replace EL2 := E8
  repeat' (conv => whnf
           first
           | (refine Dr.plan 44 [12] (.e 0 (.e 1 (.e 2 (.e 3 (.q 4 (.e 5 (.q 6 (.q 7 (.q 8 (.e 9 (.e 10 (.q 11 (.e 12 (.q 13 .nil) .nil)) .nil) (.e 10 (.q 11 (.e 9 (.e 12 (.q 13 .nil) .nil) (.e 12 (.e 9 (.q 13 .nil) .nil) .nil))) .nil))))) (.e 10 (.e 5 (.q 6 (.q 7 (.q 8 (.q 11 (.e 9 (.e 12 (.q 13 .nil) .nil) (.e 12 (.e 9 (.q 13 .nil) .nil) .nil)))))) .nil) .nil))) (.e 10 (.e 3 (.q 4 (.e 5 (.q 6 (.q 7 (.q 8 (.q 11 (.e 9 (.e 12 (.q 13 .nil) .nil) (.e 12 (.e 9 (.q 13 .nil) .nil) .nil)))))) .nil)) .nil) .nil)) (.e 10 (.e 2 (.e 3 (.q 4 (.e 5 (.q 6 (.q 7 (.q 8 (.q 11 (.e 9 (.e 12 (.q 13 .nil) .nil) (.e 12 (.e 9 (.q 13 .nil) .nil) .nil)))))) .nil)) .nil) .nil) .nil)) (.e 2 (.e 1 (.e 3 (.q 4 (.e 5 (.q 6 (.q 7 (.q 8 (.e 9 (.e 10 (.q 11 (.e 12 (.q 13 .nil) .nil)) .nil) (.e 10 (.q 11 (.e 9 (.e 12 (.q 13 .nil) .nil) (.e 12 (.e 9 (.q 13 .nil) .nil) .nil))) .nil))))) (.e 10 (.e 5 (.q 6 (.q 7 (.q 8 (.q 11 (.e 9 (.e 12 (.q 13 .nil) .nil) (.e 12 (.e 9 (.q 13 .nil) .nil) .nil)))))) .nil) .nil))) (.e 10 (.e 3 (.q 4 (.e 5 (.q 6 (.q 7 (.q 8 (.q 11 (.e 9 (.e 12 (.q 13 .nil) .nil) (.e 12 (.e 9 (.q 13 .nil) .nil) .nil)))))) .nil)) .nil) .nil)) (.e 10 (.e 1 (.e 3 (.q 4 (.e 5 (.q 6 (.q 7 (.q 8 (.q 11 (.e 9 (.e 12 (.q 13 .nil) .nil) (.e 12 (.e 9 (.q 13 .nil) .nil) .nil)))))) .nil)) .nil) .nil) .nil)) (.e 10 (.e 1 (.e 2 (.e 3 (.q 4 (.e 5 (.q 6 (.q 7 (.q 8 (.q 11 (.e 9 (.e 12 (.q 13 .nil) .nil) (.e 12 (.e 9 (.q 13 .nil) .nil) .nil)))))) .nil)) .nil) .nil) (.e 2 (.e 1 (.e 3 (.q 4 (.e 5 (.q 6 (.q 7 (.q 8 (.q 11 (.e 9 (.e 12 (.q 13 .nil) .nil) (.e 12 (.e 9 (.q 13 .nil) .nil) .nil)))))) .nil)) .nil) .nil) .nil)) .nil))) (.e 1 (.e 0 (.e 2 (.e 3 (.q 4 (.e 5 (.q 6 (.q 7 (.q 8 (.e 9 (.e 10 (.q 11 (.e 12 (.q 13 .nil) .nil)) .nil) (.e 10 (.q 11 (.e 9 (.e 12 (.q 13 .nil) .nil) (.e 12 (.e 9 (.q 13 .nil) .nil) .nil))) .nil))))) (.e 10 (.e 5 (.q 6 (.q 7 (.q 8 (.q 11 (.e 9 (.e 12 (.q 13 .nil) .nil) (.e 12 (.e 9 (.q 13 .nil) .nil) .nil)))))) .nil) .nil))) (.e 10 (.e 3 (.q 4 (.e 5 (.q 6 (.q 7 (.q 8 (.q 11 (.e 9 (.e 12 (.q 13 .nil) .nil) (.e 12 (.e 9 (.q 13 .nil) .nil) .nil)))))) .nil)) .nil) .nil)) (.e 10 (.e 2 (.e 3 (.q 4 (.e 5 (.q 6 (.q 7 (.q 8 (.q 11 (.e 9 (.e 12 (.q 13 .nil) .nil) (.e 12 (.e 9 (.q 13 .nil) .nil) .nil)))))) .nil)) .nil) .nil) .nil)) (.e 2 (.e 0 (.e 3 (.q 4 (.e 5 (.q 6 (.q 7 (.q 8 (.e 9 (.e 10 (.q 11 (.e 12 (.q 13 .nil) .nil)) .nil) (.e 10 (.q 11 (.e 9 (.e 12 (.q 13 .nil) .nil) (.e 12 (.e 9 (.q 13 .nil) .nil) .nil))) .nil))))) (.e 10 (.e 5 (.q 6 (.q 7 (.q 8 (.q 11 (.e 9 (.e 12 (.q 13 .nil) .nil) (.e 12 (.e 9 (.q 13 .nil) .nil) .nil)))))) .nil) .nil))) (.e 10 (.e 3 (.q 4 (.e 5 (.q 6 (.q 7 (.q 8 (.q 11 (.e 9 (.e 12 (.q 13 .nil) .nil) (.e 12 (.e 9 (.q 13 .nil) .nil) .nil)))))) .nil)) .nil) .nil)) (.e 10 (.e 0 (.e 3 (.q 4 (.e 5 (.q 6 (.q 7 (.q 8 (.q 11 (.e 9 (.e 12 (.q 13 .nil) .nil) (.e 12 (.e 9 (.q 13 .nil) .nil) .nil)))))) .nil)) .nil) .nil) .nil)) (.e 10 (.e 0 (.e 2 (.e 3 (.q 4 (.e 5 (.q 6 (.q 7 (.q 8 (.q 11 (.e 9 (.e 12 (.q 13 .nil) .nil) (.e 12 (.e 9 (.q 13 .nil) .nil) .nil)))))) .nil)) .nil) .nil) (.e 2 (.e 0 (.e 3 (.q 4 (.e 5 (.q 6 (.q 7 (.q 8 (.q 11 (.e 9 (.e 12 (.q 13 .nil) .nil) (.e 12 (.e 9 (.q 13 .nil) .nil) .nil)))))) .nil)) .nil) .nil) .nil)) .nil))) (.e 2 (.e 0 (.e 1 (.e 3 (.q 4 (.e 5 (.q 6 (.q 7 (.q 8 (.e 9 (.e 10 (.q 11 (.e 12 (.q 13 .nil) .nil)) .nil) (.e 10 (.q 11 (.e 9 (.e 12 (.q 13 .nil) .nil) (.e 12 (.e 9 (.q 13 .nil) .nil) .nil))) .nil))))) (.e 10 (.e 5 (.q 6 (.q 7 (.q 8 (.q 11 (.e 9 (.e 12 (.q 13 .nil) .nil) (.e 12 (.e 9 (.q 13 .nil) .nil) .nil)))))) .nil) .nil))) (.e 10 (.e 3 (.q 4 (.e 5 (.q 6 (.q 7 (.q 8 (.q 11 (.e 9 (.e 12 (.q 13 .nil) .nil) (.e 12 (.e 9 (.q 13 .nil) .nil) .nil)))))) .nil)) .nil) .nil)) (.e 10 (.e 1 (.e 3 (.q 4 (.e 5 (.q 6 (.q 7 (.q 8 (.q 11 (.e 9 (.e 12 (.q 13 .nil) .nil) (.e 12 (.e 9 (.q 13 .nil) .nil) .nil)))))) .nil)) .nil) .nil) .nil)) (.e 1 (.e 0 (.e 3 (.q 4 (.e 5 (.q 6 (.q 7 (.q 8 (.e 9 (.e 10 (.q 11 (.e 12 (.q 13 .nil) .nil)) .nil) (.e 10 (.q 11 (.e 9 (.e 12 (.q 13 .nil) .nil) (.e 12 (.e 9 (.q 13 .nil) .nil) .nil))) .nil))))) (.e 10 (.e 5 (.q 6 (.q 7 (.q 8 (.q 11 (.e 9 (.e 12 (.q 13 .nil) .nil) (.e 12 (.e 9 (.q 13 .nil) .nil) .nil)))))) .nil) .nil))) (.e 10 (.e 3 (.q 4 (.e 5 (.q 6 (.q 7 (.q 8 (.q 11 (.e 9 (.e 12 (.q 13 .nil) .nil) (.e 12 (.e 9 (.q 13 .nil) .nil) .nil)))))) .nil)) .nil) .nil)) (.e 10 (.e 0 (.e 3 (.q 4 (.e 5 (.q 6 (.q 7 (.q 8 (.q 11 (.e 9 (.e 12 (.q 13 .nil) .nil) (.e 12 (.e 9 (.q 13 .nil) .nil) .nil)))))) .nil)) .nil) .nil) .nil)) (.e 10 (.e 0 (.e 1 (.e 3 (.q 4 (.e 5 (.q 6 (.q 7 (.q 8 (.q 11 (.e 9 (.e 12 (.q 13 .nil) .nil) (.e 12 (.e 9 (.q 13 .nil) .nil) .nil)))))) .nil)) .nil) .nil) (.e 1 (.e 0 (.e 3 (.q 4 (.e 5 (.q 6 (.q 7 (.q 8 (.q 11 (.e 9 (.e 12 (.q 13 .nil) .nil) (.e 12 (.e 9 (.q 13 .nil) .nil) .nil)))))) .nil)) .nil) .nil) .nil)) .nil))) (.e 10 (.e 0 (.e 1 (.e 2 (.e 3 (.q 4 (.e 5 (.q 6 (.q 7 (.q 8 (.q 11 (.e 9 (.e 12 (.q 13 .nil) .nil) (.e 12 (.e 9 (.q 13 .nil) .nil) .nil)))))) .nil)) .nil) .nil) (.e 2 (.e 1 (.e 3 (.q 4 (.e 5 (.q 6 (.q 7 (.q 8 (.q 11 (.e 9 (.e 12 (.q 13 .nil) .nil) (.e 12 (.e 9 (.q 13 .nil) .nil) .nil)))))) .nil)) .nil) .nil) .nil)) (.e 1 (.e 0 (.e 2 (.e 3 (.q 4 (.e 5 (.q 6 (.q 7 (.q 8 (.q 11 (.e 9 (.e 12 (.q 13 .nil) .nil) (.e 12 (.e 9 (.q 13 .nil) .nil) .nil)))))) .nil)) .nil) .nil) (.e 2 (.e 0 (.e 3 (.q 4 (.e 5 (.q 6 (.q 7 (.q 8 (.q 11 (.e 9 (.e 12 (.q 13 .nil) .nil) (.e 12 (.e 9 (.q 13 .nil) .nil) .nil)))))) .nil)) .nil) .nil) .nil)) (.e 2 (.e 0 (.e 1 (.e 3 (.q 4 (.e 5 (.q 6 (.q 7 (.q 8 (.q 11 (.e 9 (.e 12 (.q 13 .nil) .nil) (.e 12 (.e 9 (.q 13 .nil) .nil) .nil)))))) .nil)) .nil) .nil) (.e 1 (.e 0 (.e 3 (.q 4 (.e 5 (.q 6 (.q 7 (.q 8 (.q 11 (.e 9 (.e 12 (.q 13 .nil) .nil) (.e 12 (.e 9 (.q 13 .nil) .nil) .nil)))))) .nil)) .nil) .nil) .nil)) .nil))) .nil)))) tyOk rfl (by kernel_rfl) ?_)
           | (refine Dr.quiet tyOk (by kernel_rfl) ?_)
           | (refine Rng.mk (by omega) ?_)
           | (refine Split.pos (by omega) ?_)
           | (refine Split.neg (by omega) ?_)
           | (refine Split.mk (fun h => ?_) (fun h => ?_))
           | (refine Need.mk (by omega) ?_)
           | (refine Ints.ln (by assumption) ?_)
           | (refine Mat.ln (by assumption) ?_)
           | (refine Ints.ln (Mat.row (by assumption) _ (by omega)) ?_)
           | (refine Ints.ix (by assumption) (by omega) ?_)
           | (refine Mat.ix (by assumption) (by omega) ?_)
           | (refine Ints.ix (Mat.row (by assumption) _ (by omega)) (by omega) ?_)
           | (refine Ints.ix (c := 0) (by assumption) (by omega) ?_)
           | (refine Mat.ix (c := 0) (by assumption) (by omega) ?_)
           | (refine Ints.ix (c := 0) (Mat.row (by assumption) _ (by omega)) (by omega) ?_)
           | (refine Ints.ixI (by assumption) (by omega) ?_)
           | (refine Mat.ixI (by assumption) (by omega) ?_)
           | (refine Ints.ixI (Mat.row (by assumption) _ (by omega)) (by omega) ?_)
           | (refine Ints.ld (by assumption) (by omega) ?_)
           | (refine Mat.ld (by assumption) (by omega) ?_)
           | (refine Ints.ld (Mat.row (by assumption) _ (by omega)) (by omega) ?_)
           | (refine At.ld (by assumption) rfl ?_)
           | (refine At.ldN (by assumption) rfl ?_)
           | (refine Prs.ln (by assumption) ?_)
           | (refine Trs.ln (by assumption) ?_)
           | (refine Prs.ix (by assumption) (by omega) ?_)
           | (refine Trs.ix (by assumption) (by omega) ?_)
           | (refine Prs.ldN (by assumption) (by omega) ?_)
           | (refine Trs.ldN (by assumption) (by omega) ?_)
           | (refine At.ldN (Blk.at (by assumption)) rfl ?_)
           | (refine At.ld (Blk.at (by assumption)) rfl ?_)
           | (refine IxA.mk (by omega) ?_)
           | (refine Sl.ln (Own.sl (by assumption)) ?_)
           | (refine Ints.ix (Own.sl (by assumption)) (by omega) ?_)
           | (refine Ints.ixI (Own.sl (by assumption)) (by omega) ?_)
           | (refine Ints.ld (Own.sl (by assumption)) (by omega) ?_))
  have ER := Ext.refl w8
  have key : ∀ (wz : World) (ra rb rc mv ba : Value) (bk : Nat), Ext w8 wz → (?P : World → Value → Value → Value → Value → Value → Nat → Prop) wz ra rb rc mv ba bk := ?key
  conv => whnf
  refine ⟨?_, ?_, ?_, ?_⟩
  · conv => whnf
    refine VX.made (n := 10) Try.underlying27 eInt rfl (by omega) (by omega) fun ra w9 E9 Hra _ => ?_
    replace EE := EE.ext E9
    replace EL1 := EL1.ext E9
    replace EL2 := EL2.ext E9
    replace ER := ER.ext E9
    replace Hra := OI.made (Hra 0 (Nat.zero_le _))
    conv => whnf
    refine ⟨?_, ?_, ?_⟩
    · conv => whnf
      refine VX.made (n := 10) Try.underlying27 eInt rfl (by omega) (by omega) fun rb w10 E10 Hrb _ => ?_
      replace EE := EE.ext E10
      replace EL1 := EL1.ext E10
      replace EL2 := EL2.ext E10
      replace ER := ER.ext E10
      replace Hra := Hra.ext E10
      replace Hrb := OI.made (Hrb 0 (Nat.zero_le _))
      conv => whnf
      refine ⟨?_, ?_⟩
      · conv => whnf
        refine VX.made (n := 10) Try.underlying27 eInt rfl (by omega) (by omega) fun rc w11 E11 Hrc _ => ?_
        replace EE := EE.ext E11
        replace EL1 := EL1.ext E11
        replace EL2 := EL2.ext E11
        replace ER := ER.ext E11
        replace Hra := Hra.ext E11
        replace Hrb := Hrb.ext E11
        replace Hrc := OI.made (Hrc 0 (Nat.zero_le _))
        conv => whnf
        refine ⟨?_, ?_⟩
        · conv => whnf
          refine VX.litV [ra, rb, rc] Try.underlying22 eRow (by intro v hv; simp at hv; rcases hv with rfl | rfl | rfl <;> first | rfl | exact (Sl.cells (Own.sl Hra)).1 | exact (Sl.cells (Own.sl Hrb)).1 | exact (Sl.cells (Own.sl Hrc)).1) (by simp) fun mv w12 E12 HR _ => ?_
          replace EE := EE.ext E12
          replace EL1 := EL1.ext E12
          replace EL2 := EL2.ext E12
          replace ER := ER.ext E12
          replace Hra := Hra.ext E12
          replace Hrb := Hrb.ext E12
          replace Hrc := Hrc.ext E12
          replace HR : OM 0 w12 mv [ra, rb, rc] [List.replicate 10 0, List.replicate 10 0, List.replicate 10 0] := by
            refine ⟨HR _ (Nat.zero_le _), fun i hi => ?_⟩
            match i, hi with
            | 0, _ => exact Hra
            | 1, _ => exact Hrb
            | 2, _ => exact Hrc
          conv => whnf
          refine VS.field1 Try.underlying24 eGoods (by kernel_rfl) rfl (Sl.cells (Own.sl HR.top)).1 ?_
          conv => whnf
          refine ⟨?_, ?_⟩
          · conv => whnf
            refine VCX.rc (nbest_rc HR.mat) ?_
            rintro _ w13 E13 ⟨ba, rfl, HBA⟩
            replace EE := EE.ext E13
            replace EL1 := EL1.ext E13
            replace EL2 := EL2.ext E13
            replace ER := ER.ext E13
            replace Hra := Hra.ext E13
            replace Hrb := Hrb.ext E13
            replace Hrc := Hrc.ext E13
            replace HR := HR.ext E13
            rw [e3P, e3E]
            conv => whnf
            refine ⟨?_, ?_⟩
            · conv => whnf
              conv => whnf
              have he0 := ER.size
              have EE__3 := EE
              have EL1__3 := EL1
              have EL2__3 := EL2
              have ER__3 := ER
              have Hra__3 := Hra
              have Hrb__3 := Hrb
              have Hrc__3 := Hrc
              have HR__3 := HR
              have HBA__3 := HBA
              refine VX.alloc eProd fun bk w14 E14 hb_bk Hk => ?_
              replace EE := EE.ext E14
              replace EL1 := EL1.ext E14
              replace EL2 := EL2.ext E14
              replace ER := ER.ext E14
              replace Hra := Hra.ext E14
              replace Hrb := Hrb.ext E14
              replace Hrc := Hrc.ext E14
              replace HR := HR.ext E14
              replace HBA := HBA.ext E14
              have EL3 := E14
              conv => whnf
              refine Blk.all Hk (by kernel_rfl) (by first | decide | simp) rfl rfl (by intro v hv; simp at hv; rcases hv with rfl | rfl | rfl <;> rfl) fun wz Gz Hkz => ?_
              exact key wz ra rb rc mv ba bk (ER.new Gz (fun i hi hk => by omega))
            · conv => whnf
              have he0 := ER.size
              have EE__3 := EE
              have EL1__3 := EL1
              have EL2__3 := EL2
              have ER__3 := ER
              have Hra__3 := Hra
              have Hrb__3 := Hrb
              have Hrc__3 := Hrc
              have HR__3 := HR
              have HBA__3 := HBA
              refine VX.alloc eProd fun bk w15 E15 hb_bk Hk => ?_
              replace EE := EE.ext E15
              replace EL1 := EL1.ext E15
              replace EL2 := EL2.ext E15
              replace ER := ER.ext E15
              replace Hra := Hra.ext E15
              replace Hrb := Hrb.ext E15
              replace Hrc := Hrc.ext E15
              replace HR := HR.ext E15
              replace HBA := HBA.ext E15
              have EL3 := E15
              conv => whnf
              refine ⟨?_, ?_⟩
              · conv => whnf
                conv => whnf
                refine Blk.all Hk (by kernel_rfl) (by first | decide | simp) rfl rfl (by intro v hv; simp at hv; rcases hv with rfl | rfl | rfl <;> rfl) fun wz Gz Hkz => ?_
                exact key wz ra rb rc mv ba bk (ER.new Gz (fun i hi hk => by omega))
              · conv => whnf
                refine Blk.all Hk (by kernel_rfl) (by first | decide | simp) rfl rfl (by intro v hv; simp at hv; rcases hv with rfl | rfl | rfl <;> rfl) fun wz Gz Hkz => ?_
                conv => whnf
                exact key wz ra rb rc mv ba bk (ER.new Gz (fun i hi hk => by omega))
          · conv => whnf
            have he0 := ER.size
            have EE__3 := EE
            have EL1__3 := EL1
            have EL2__3 := EL2
            have ER__3 := ER
            have Hra__3 := Hra
            have Hrb__3 := Hrb
            have Hrc__3 := Hrc
            have HR__3 := HR
            refine VX.alloc eProd fun bk w16 E16 hb_bk Hk => ?_
            replace EE := EE.ext E16
            replace EL1 := EL1.ext E16
            replace EL2 := EL2.ext E16
            replace ER := ER.ext E16
            replace Hra := Hra.ext E16
            replace Hrb := Hrb.ext E16
            replace Hrc := Hrc.ext E16
            replace HR := HR.ext E16
            have EL3 := E16
            conv => whnf
            refine VCX.rc (nbest_rc HR.mat) ?_
            rintro _ w17 E17 ⟨ba, rfl, HBA⟩
            replace EE := EE.ext E17
            replace EL1 := EL1.ext E17
            replace EL2 := EL2.ext E17
            replace ER := ER.ext E17
            replace Hra := Hra.ext E17
            replace Hrb := Hrb.ext E17
            replace Hrc := Hrc.ext E17
            replace HR := HR.ext E17
            replace EL3 := EL3.ext E17
            replace Hk := Hk.ext E17
            rw [e3P, e3E]
            conv => whnf
            refine ⟨?_, ?_⟩
            · conv => whnf
              conv => whnf
              refine Blk.all Hk (by kernel_rfl) (by first | decide | simp) rfl rfl (by intro v hv; simp at hv; rcases hv with rfl | rfl | rfl <;> rfl) fun wz Gz Hkz => ?_
              exact key wz ra rb rc mv ba bk (ER.new Gz (fun i hi hk => by omega))
            · conv => whnf
              refine Blk.all Hk (by kernel_rfl) (by first | decide | simp) rfl rfl (by intro v hv; simp at hv; rcases hv with rfl | rfl | rfl <;> rfl) fun wz Gz Hkz => ?_
              conv => whnf
              exact key wz ra rb rc mv ba bk (ER.new Gz (fun i hi hk => by omega))
        · conv => whnf
          have he0 := ER.size
          have EE__3 := EE
          have EL1__3 := EL1
          have EL2__3 := EL2
          have ER__3 := ER
          have Hra__3 := Hra
          have Hrb__3 := Hrb
          have Hrc__3 := Hrc
          refine VX.alloc eProd fun bk w18 E18 hb_bk Hk => ?_
          replace EE := EE.ext E18
          replace EL1 := EL1.ext E18
          replace EL2 := EL2.ext E18
          replace ER := ER.ext E18
          replace Hra := Hra.ext E18
          replace Hrb := Hrb.ext E18
          replace Hrc := Hrc.ext E18
          have EL3 := E18
          conv => whnf
          refine VX.litV [ra, rb, rc] Try.underlying22 eRow (by intro v hv; simp at hv; rcases hv with rfl | rfl | rfl <;> first | rfl | exact (Sl.cells (Own.sl Hra)).1 | exact (Sl.cells (Own.sl Hrb)).1 | exact (Sl.cells (Own.sl Hrc)).1) (by simp) fun mv w19 E19 HR _ => ?_
          replace EE := EE.ext E19
          replace EL1 := EL1.ext E19
          replace EL2 := EL2.ext E19
          replace ER := ER.ext E19
          replace Hra := Hra.ext E19
          replace Hrb := Hrb.ext E19
          replace Hrc := Hrc.ext E19
          replace EL3 := EL3.ext E19
          replace Hk := Hk.ext E19
          replace HR : OM 0 w19 mv [ra, rb, rc] [List.replicate 10 0, List.replicate 10 0, List.replicate 10 0] := by
            refine ⟨HR _ (Nat.zero_le _), fun i hi => ?_⟩
            match i, hi with
            | 0, _ => exact Hra
            | 1, _ => exact Hrb
            | 2, _ => exact Hrc
          conv => whnf
          refine VS.field1 Try.underlying24 eGoods (by kernel_rfl) rfl (Sl.cells (Own.sl HR.top)).1 ?_
          conv => whnf
          refine VCX.rc (nbest_rc HR.mat) ?_
          rintro _ w20 E20 ⟨ba, rfl, HBA⟩
          replace EE := EE.ext E20
          replace EL1 := EL1.ext E20
          replace EL2 := EL2.ext E20
          replace ER := ER.ext E20
          replace Hra := Hra.ext E20
          replace Hrb := Hrb.ext E20
          replace Hrc := Hrc.ext E20
          replace EL3 := EL3.ext E20
          replace Hk := Hk.ext E20
          replace HR := HR.ext E20
          rw [e3P, e3E]
          conv => whnf
          refine ⟨?_, ?_⟩
          · conv => whnf
            conv => whnf
            refine Blk.all Hk (by kernel_rfl) (by first | decide | simp) rfl rfl (by intro v hv; simp at hv; rcases hv with rfl | rfl | rfl <;> rfl) fun wz Gz Hkz => ?_
            exact key wz ra rb rc mv ba bk (ER.new Gz (fun i hi hk => by omega))
          · conv => whnf
            refine Blk.all Hk (by kernel_rfl) (by first | decide | simp) rfl rfl (by intro v hv; simp at hv; rcases hv with rfl | rfl | rfl <;> rfl) fun wz Gz Hkz => ?_
            conv => whnf
            exact key wz ra rb rc mv ba bk (ER.new Gz (fun i hi hk => by omega))
      · conv => whnf
        have he0 := ER.size
        have EE__3 := EE
        have EL1__3 := EL1
        have EL2__3 := EL2
        have ER__3 := ER
        have Hra__3 := Hra
        have Hrb__3 := Hrb
        refine VX.alloc eProd fun bk w21 E21 hb_bk Hk => ?_
        replace EE := EE.ext E21
        replace EL1 := EL1.ext E21
        replace EL2 := EL2.ext E21
        replace ER := ER.ext E21
        replace Hra := Hra.ext E21
        replace Hrb := Hrb.ext E21
        have EL3 := E21
        conv => whnf
        refine VX.made (n := 10) Try.underlying27 eInt rfl (by omega) (by omega) fun rc w22 E22 Hrc _ => ?_
        replace EE := EE.ext E22
        replace EL1 := EL1.ext E22
        replace EL2 := EL2.ext E22
        replace ER := ER.ext E22
        replace Hra := Hra.ext E22
        replace Hrb := Hrb.ext E22
        replace EL3 := EL3.ext E22
        replace Hk := Hk.ext E22
        replace Hrc := OI.made (Hrc 0 (Nat.zero_le _))
        conv => whnf
        refine VX.litV [ra, rb, rc] Try.underlying22 eRow (by intro v hv; simp at hv; rcases hv with rfl | rfl | rfl <;> first | rfl | exact (Sl.cells (Own.sl Hra)).1 | exact (Sl.cells (Own.sl Hrb)).1 | exact (Sl.cells (Own.sl Hrc)).1) (by simp) fun mv w23 E23 HR _ => ?_
        replace EE := EE.ext E23
        replace EL1 := EL1.ext E23
        replace EL2 := EL2.ext E23
        replace ER := ER.ext E23
        replace Hra := Hra.ext E23
        replace Hrb := Hrb.ext E23
        replace EL3 := EL3.ext E23
        replace Hk := Hk.ext E23
        replace Hrc := Hrc.ext E23
        replace HR : OM 0 w23 mv [ra, rb, rc] [List.replicate 10 0, List.replicate 10 0, List.replicate 10 0] := by
          refine ⟨HR _ (Nat.zero_le _), fun i hi => ?_⟩
          match i, hi with
          | 0, _ => exact Hra
          | 1, _ => exact Hrb
          | 2, _ => exact Hrc
        conv => whnf
        refine VS.field1 Try.underlying24 eGoods (by kernel_rfl) rfl (Sl.cells (Own.sl HR.top)).1 ?_
        conv => whnf
        refine VCX.rc (nbest_rc HR.mat) ?_
        rintro _ w24 E24 ⟨ba, rfl, HBA⟩
        replace EE := EE.ext E24
        replace EL1 := EL1.ext E24
        replace EL2 := EL2.ext E24
        replace ER := ER.ext E24
        replace Hra := Hra.ext E24
        replace Hrb := Hrb.ext E24
        replace EL3 := EL3.ext E24
        replace Hk := Hk.ext E24
        replace Hrc := Hrc.ext E24
        replace HR := HR.ext E24
        rw [e3P, e3E]
        conv => whnf
        refine ⟨?_, ?_⟩
        · conv => whnf
          conv => whnf
          refine Blk.all Hk (by kernel_rfl) (by first | decide | simp) rfl rfl (by intro v hv; simp at hv; rcases hv with rfl | rfl | rfl <;> rfl) fun wz Gz Hkz => ?_
          exact key wz ra rb rc mv ba bk (ER.new Gz (fun i hi hk => by omega))
        · conv => whnf
          refine Blk.all Hk (by kernel_rfl) (by first | decide | simp) rfl rfl (by intro v hv; simp at hv; rcases hv with rfl | rfl | rfl <;> rfl) fun wz Gz Hkz => ?_
          conv => whnf
          exact key wz ra rb rc mv ba bk (ER.new Gz (fun i hi hk => by omega))
    · conv => whnf
      refine VX.made (n := 10) Try.underlying27 eInt rfl (by omega) (by omega) fun rc w25 E25 Hrc _ => ?_
      replace EE := EE.ext E25
      replace EL1 := EL1.ext E25
      replace EL2 := EL2.ext E25
      replace ER := ER.ext E25
      replace Hra := Hra.ext E25
      replace Hrc := OI.made (Hrc 0 (Nat.zero_le _))
      conv => whnf
      refine ⟨?_, ?_⟩
      · conv => whnf
        refine VX.made (n := 10) Try.underlying27 eInt rfl (by omega) (by omega) fun rb w26 E26 Hrb _ => ?_
        replace EE := EE.ext E26
        replace EL1 := EL1.ext E26
        replace EL2 := EL2.ext E26
        replace ER := ER.ext E26
        replace Hra := Hra.ext E26
        replace Hrc := Hrc.ext E26
        replace Hrb := OI.made (Hrb 0 (Nat.zero_le _))
        conv => whnf
        refine ⟨?_, ?_⟩
        · conv => whnf
          refine VX.litV [ra, rb, rc] Try.underlying22 eRow (by intro v hv; simp at hv; rcases hv with rfl | rfl | rfl <;> first | rfl | exact (Sl.cells (Own.sl Hra)).1 | exact (Sl.cells (Own.sl Hrb)).1 | exact (Sl.cells (Own.sl Hrc)).1) (by simp) fun mv w27 E27 HR _ => ?_
          replace EE := EE.ext E27
          replace EL1 := EL1.ext E27
          replace EL2 := EL2.ext E27
          replace ER := ER.ext E27
          replace Hra := Hra.ext E27
          replace Hrc := Hrc.ext E27
          replace Hrb := Hrb.ext E27
          replace HR : OM 0 w27 mv [ra, rb, rc] [List.replicate 10 0, List.replicate 10 0, List.replicate 10 0] := by
            refine ⟨HR _ (Nat.zero_le _), fun i hi => ?_⟩
            match i, hi with
            | 0, _ => exact Hra
            | 1, _ => exact Hrb
            | 2, _ => exact Hrc
          conv => whnf
          refine VS.field1 Try.underlying24 eGoods (by kernel_rfl) rfl (Sl.cells (Own.sl HR.top)).1 ?_
          conv => whnf
          refine ⟨?_, ?_⟩
          · conv => whnf
            refine VCX.rc (nbest_rc HR.mat) ?_
            rintro _ w28 E28 ⟨ba, rfl, HBA⟩
            replace EE := EE.ext E28
            replace EL1 := EL1.ext E28
            replace EL2 := EL2.ext E28
            replace ER := ER.ext E28
            replace Hra := Hra.ext E28
            replace Hrc := Hrc.ext E28
            replace Hrb := Hrb.ext E28
            replace HR := HR.ext E28
            rw [e3P, e3E]
            conv => whnf
            refine ⟨?_, ?_⟩
            · conv => whnf
              conv => whnf
              have he0 := ER.size
              have EE__3 := EE
              have EL1__3 := EL1
              have EL2__3 := EL2
              have ER__3 := ER
              have Hra__3 := Hra
              have Hrc__3 := Hrc
              have Hrb__3 := Hrb
              have HR__3 := HR
              have HBA__3 := HBA
              refine VX.alloc eProd fun bk w29 E29 hb_bk Hk => ?_
              replace EE := EE.ext E29
              replace EL1 := EL1.ext E29
              replace EL2 := EL2.ext E29
              replace ER := ER.ext E29
              replace Hra := Hra.ext E29
              replace Hrc := Hrc.ext E29
              replace Hrb := Hrb.ext E29
              replace HR := HR.ext E29
              replace HBA := HBA.ext E29
              have EL3 := E29
              conv => whnf
              refine Blk.all Hk (by kernel_rfl) (by first | decide | simp) rfl rfl (by intro v hv; simp at hv; rcases hv with rfl | rfl | rfl <;> rfl) fun wz Gz Hkz => ?_
              exact key wz ra rb rc mv ba bk (ER.new Gz (fun i hi hk => by omega))
            · conv => whnf
              have he0 := ER.size
              have EE__3 := EE
              have EL1__3 := EL1
              have EL2__3 := EL2
              have ER__3 := ER
              have Hra__3 := Hra
              have Hrc__3 := Hrc
              have Hrb__3 := Hrb
              have HR__3 := HR
              have HBA__3 := HBA
              refine VX.alloc eProd fun bk w30 E30 hb_bk Hk => ?_
              replace EE := EE.ext E30
              replace EL1 := EL1.ext E30
              replace EL2 := EL2.ext E30
              replace ER := ER.ext E30
              replace Hra := Hra.ext E30
              replace Hrc := Hrc.ext E30
              replace Hrb := Hrb.ext E30
              replace HR := HR.ext E30
              replace HBA := HBA.ext E30
              have EL3 := E30
              conv => whnf
              refine ⟨?_, ?_⟩
              · conv => whnf
                conv => whnf
                refine Blk.all Hk (by kernel_rfl) (by first | decide | simp) rfl rfl (by intro v hv; simp at hv; rcases hv with rfl | rfl | rfl <;> rfl) fun wz Gz Hkz => ?_
                exact key wz ra rb rc mv ba bk (ER.new Gz (fun i hi hk => by omega))
              · conv => whnf
                refine Blk.all Hk (by kernel_rfl) (by first | decide | simp) rfl rfl (by intro v hv; simp at hv; rcases hv with rfl | rfl | rfl <;> rfl) fun wz Gz Hkz => ?_
                conv => whnf
                exact key wz ra rb rc mv ba bk (ER.new Gz (fun i hi hk => by omega))
          · conv => whnf
            have he0 := ER.size
            have EE__3 := EE
            have EL1__3 := EL1
            have EL2__3 := EL2
            have ER__3 := ER
            have Hra__3 := Hra
            have Hrc__3 := Hrc
            have Hrb__3 := Hrb
            have HR__3 := HR
            refine VX.alloc eProd fun bk w31 E31 hb_bk Hk => ?_
            replace EE := EE.ext E31
            replace EL1 := EL1.ext E31
            replace EL2 := EL2.ext E31
            replace ER := ER.ext E31
            replace Hra := Hra.ext E31
            replace Hrc := Hrc.ext E31
            replace Hrb := Hrb.ext E31
            replace HR := HR.ext E31
            have EL3 := E31
            conv => whnf
            refine VCX.rc (nbest_rc HR.mat) ?_
            rintro _ w32 E32 ⟨ba, rfl, HBA⟩
            replace EE := EE.ext E32
            replace EL1 := EL1.ext E32
            replace EL2 := EL2.ext E32
            replace ER := ER.ext E32
            replace Hra := Hra.ext E32
            replace Hrc := Hrc.ext E32
            replace Hrb := Hrb.ext E32
            replace HR := HR.ext E32
            replace EL3 := EL3.ext E32
            replace Hk := Hk.ext E32
            rw [e3P, e3E]
            conv => whnf
            refine ⟨?_, ?_⟩
            · conv => whnf
              conv => whnf
              refine Blk.all Hk (by kernel_rfl) (by first | decide | simp) rfl rfl (by intro v hv; simp at hv; rcases hv with rfl | rfl | rfl <;> rfl) fun wz Gz Hkz => ?_
              exact key wz ra rb rc mv ba bk (ER.new Gz (fun i hi hk => by omega))
            · conv => whnf
              refine Blk.all Hk (by kernel_rfl) (by first | decide | simp) rfl rfl (by intro v hv; simp at hv; rcases hv with rfl | rfl | rfl <;> rfl) fun wz Gz Hkz => ?_
              conv => whnf
              exact key wz ra rb rc mv ba bk (ER.new Gz (fun i hi hk => by omega))
        · conv => whnf
          have he0 := ER.size
          have EE__3 := EE
          have EL1__3 := EL1
          have EL2__3 := EL2
          have ER__3 := ER
          have Hra__3 := Hra
          have Hrc__3 := Hrc
          have Hrb__3 := Hrb
          refine VX.alloc eProd fun bk w33 E33 hb_bk Hk => ?_
          replace EE := EE.ext E33
          replace EL1 := EL1.ext E33
          replace EL2 := EL2.ext E33
          replace ER := ER.ext E33
          replace Hra := Hra.ext E33
          replace Hrc := Hrc.ext E33
          replace Hrb := Hrb.ext E33
          have EL3 := E33
          conv => whnf
          refine VX.litV [ra, rb, rc] Try.underlying22 eRow (by intro v hv; simp at hv; rcases hv with rfl | rfl | rfl <;> first | rfl | exact (Sl.cells (Own.sl Hra)).1 | exact (Sl.cells (Own.sl Hrb)).1 | exact (Sl.cells (Own.sl Hrc)).1) (by simp) fun mv w34 E34 HR _ => ?_
          replace EE := EE.ext E34
          replace EL1 := EL1.ext E34
          replace EL2 := EL2.ext E34
          replace ER := ER.ext E34
          replace Hra := Hra.ext E34
          replace Hrc := Hrc.ext E34
          replace Hrb := Hrb.ext E34
          replace EL3 := EL3.ext E34
          replace Hk := Hk.ext E34
          replace HR : OM 0 w34 mv [ra, rb, rc] [List.replicate 10 0, List.replicate 10 0, List.replicate 10 0] := by
            refine ⟨HR _ (Nat.zero_le _), fun i hi => ?_⟩
            match i, hi with
            | 0, _ => exact Hra
            | 1, _ => exact Hrb
            | 2, _ => exact Hrc
          conv => whnf
          refine VS.field1 Try.underlying24 eGoods (by kernel_rfl) rfl (Sl.cells (Own.sl HR.top)).1 ?_
          conv => whnf
          refine VCX.rc (nbest_rc HR.mat) ?_
          rintro _ w35 E35 ⟨ba, rfl, HBA⟩
          replace EE := EE.ext E35
          replace EL1 := EL1.ext E35
          replace EL2 := EL2.ext E35
          replace ER := ER.ext E35
          replace Hra := Hra.ext E35
          replace Hrc := Hrc.ext E35
          replace Hrb := Hrb.ext E35
          replace EL3 := EL3.ext E35
          replace Hk := Hk.ext E35
          replace HR := HR.ext E35
          rw [e3P, e3E]
          conv => whnf
          refine ⟨?_, ?_⟩
          · conv => whnf
            conv => whnf
            refine Blk.all Hk (by kernel_rfl) (by first | decide | simp) rfl rfl (by intro v hv; simp at hv; rcases hv with rfl | rfl | rfl <;> rfl) fun wz Gz Hkz => ?_
            exact key wz ra rb rc mv ba bk (ER.new Gz (fun i hi hk => by omega))
          · conv => whnf
            refine Blk.all Hk (by kernel_rfl) (by first | decide | simp) rfl rfl (by intro v hv; simp at hv; rcases hv with rfl | rfl | rfl <;> rfl) fun wz Gz Hkz => ?_
            conv => whnf
            exact key wz ra rb rc mv ba bk (ER.new Gz (fun i hi hk => by omega))
      · conv => whnf
        have he0 := ER.size
        have EE__3 := EE
        have EL1__3 := EL1
        have EL2__3 := EL2
        have ER__3 := ER
        have Hra__3 := Hra
        have Hrc__3 := Hrc
        refine VX.alloc eProd fun bk w36 E36 hb_bk Hk => ?_
        replace EE := EE.ext E36
        replace EL1 := EL1.ext E36
        replace EL2 := EL2.ext E36
        replace ER := ER.ext E36
        replace Hra := Hra.ext E36
        replace Hrc := Hrc.ext E36
        have EL3 := E36
        conv => whnf
        refine VX.made (n := 10) Try.underlying27 eInt rfl (by omega) (by omega) fun rb w37 E37 Hrb _ => ?_
        replace EE := EE.ext E37
        replace EL1 := EL1.ext E37
        replace EL2 := EL2.ext E37
        replace ER := ER.ext E37
        replace Hra := Hra.ext E37
        replace Hrc := Hrc.ext E37
        replace EL3 := EL3.ext E37
        replace Hk := Hk.ext E37
        replace Hrb := OI.made (Hrb 0 (Nat.zero_le _))
        conv => whnf
        refine VX.litV [ra, rb, rc] Try.underlying22 eRow (by intro v hv; simp at hv; rcases hv with rfl | rfl | rfl <;> first | rfl | exact (Sl.cells (Own.sl Hra)).1 | exact (Sl.cells (Own.sl Hrb)).1 | exact (Sl.cells (Own.sl Hrc)).1) (by simp) fun mv w38 E38 HR _ => ?_
        replace EE := EE.ext E38
        replace EL1 := EL1.ext E38
        replace EL2 := EL2.ext E38
        replace ER := ER.ext E38
        replace Hra := Hra.ext E38
        replace Hrc := Hrc.ext E38
        replace EL3 := EL3.ext E38
        replace Hk := Hk.ext E38
        replace Hrb := Hrb.ext E38
        replace HR : OM 0 w38 mv [ra, rb, rc] [List.replicate 10 0, List.replicate 10 0, List.replicate 10 0] := by
          refine ⟨HR _ (Nat.zero_le _), fun i hi => ?_⟩
          match i, hi with
          | 0, _ => exact Hra
          | 1, _ => exact Hrb
          | 2, _ => exact Hrc
        conv => whnf
        refine VS.field1 Try.underlying24 eGoods (by kernel_rfl) rfl (Sl.cells (Own.sl HR.top)).1 ?_
        conv => whnf
        refine VCX.rc (nbest_rc HR.mat) ?_
        rintro _ w39 E39 ⟨ba, rfl, HBA⟩
        replace EE := EE.ext E39
        replace EL1 := EL1.ext E39
        replace EL2 := EL2.ext E39
        replace ER := ER.ext E39
        replace Hra := Hra.ext E39
        replace Hrc := Hrc.ext E39
        replace EL3 := EL3.ext E39
        replace Hk := Hk.ext E39
        replace Hrb := Hrb.ext E39
        replace HR := HR.ext E39
        rw [e3P, e3E]
        conv => whnf
        refine ⟨?_, ?_⟩
        · conv => whnf
          conv => whnf
          refine Blk.all Hk (by kernel_rfl) (by first | decide | simp) rfl rfl (by intro v hv; simp at hv; rcases hv with rfl | rfl | rfl <;> rfl) fun wz Gz Hkz => ?_
          exact key wz ra rb rc mv ba bk (ER.new Gz (fun i hi hk => by omega))
        · conv => whnf
          refine Blk.all Hk (by kernel_rfl) (by first | decide | simp) rfl rfl (by intro v hv; simp at hv; rcases hv with rfl | rfl | rfl <;> rfl) fun wz Gz Hkz => ?_
          conv => whnf
          exact key wz ra rb rc mv ba bk (ER.new Gz (fun i hi hk => by omega))
    · conv => whnf
      have he0 := ER.size
      have EE__3 := EE
      have EL1__3 := EL1
      have EL2__3 := EL2
      have ER__3 := ER
      have Hra__3 := Hra
      refine VX.alloc eProd fun bk w40 E40 hb_bk Hk => ?_
      replace EE := EE.ext E40
      replace EL1 := EL1.ext E40
      replace EL2 := EL2.ext E40
      replace ER := ER.ext E40
      replace Hra := Hra.ext E40
      have EL3 := E40
      conv => whnf
      refine ⟨?_, ?_⟩
      · conv => whnf
        refine VX.made (n := 10) Try.underlying27 eInt rfl (by omega) (by omega) fun rb w41 E41 Hrb _ => ?_
        replace EE := EE.ext E41
        replace EL1 := EL1.ext E41
        replace EL2 := EL2.ext E41
        replace ER := ER.ext E41
        replace Hra := Hra.ext E41
        replace EL3 := EL3.ext E41
        replace Hk := Hk.ext E41
        replace Hrb := OI.made (Hrb 0 (Nat.zero_le _))
        conv => whnf
        refine VX.made (n := 10) Try.underlying27 eInt rfl (by omega) (by omega) fun rc w42 E42 Hrc _ => ?_
        replace EE := EE.ext E42
        replace EL1 := EL1.ext E42
        replace EL2 := EL2.ext E42
        replace ER := ER.ext E42
        replace Hra := Hra.ext E42
        replace EL3 := EL3.ext E42
        replace Hk := Hk.ext E42
        replace Hrb := Hrb.ext E42
        replace Hrc := OI.made (Hrc 0 (Nat.zero_le _))
        conv => whnf
        refine VX.litV [ra, rb, rc] Try.underlying22 eRow (by intro v hv; simp at hv; rcases hv with rfl | rfl | rfl <;> first | rfl | exact (Sl.cells (Own.sl Hra)).1 | exact (Sl.cells (Own.sl Hrb)).1 | exact (Sl.cells (Own.sl Hrc)).1) (by simp) fun mv w43 E43 HR _ => ?_
        replace EE := EE.ext E43
        replace EL1 := EL1.ext E43
        replace EL2 := EL2.ext E43
        replace ER := ER.ext E43
        replace Hra := Hra.ext E43
        replace EL3 := EL3.ext E43
        replace Hk := Hk.ext E43
        replace Hrb := Hrb.ext E43
        replace Hrc := Hrc.ext E43
        replace HR : OM 0 w43 mv [ra, rb, rc] [List.replicate 10 0, List.replicate 10 0, List.replicate 10 0] := by
          refine ⟨HR _ (Nat.zero_le _), fun i hi => ?_⟩
          match i, hi with
          | 0, _ => exact Hra
          | 1, _ => exact Hrb
          | 2, _ => exact Hrc
        conv => whnf
        refine VS.field1 Try.underlying24 eGoods (by kernel_rfl) rfl (Sl.cells (Own.sl HR.top)).1 ?_
        conv => whnf
        refine VCX.rc (nbest_rc HR.mat) ?_
        rintro _ w44 E44 ⟨ba, rfl, HBA⟩
        replace EE := EE.ext E44
        replace EL1 := EL1.ext E44
        replace EL2 := EL2.ext E44
        replace ER := ER.ext E44
        replace Hra := Hra.ext E44
        replace EL3 := EL3.ext E44
        replace Hk := Hk.ext E44
        replace Hrb := Hrb.ext E44
        replace Hrc := Hrc.ext E44
        replace HR := HR.ext E44
        rw [e3P, e3E]
        conv => whnf
        refine ⟨?_, ?_⟩
        · conv => whnf
          conv => whnf
          refine Blk.all Hk (by kernel_rfl) (by first | decide | simp) rfl rfl (by intro v hv; simp at hv; rcases hv with rfl | rfl | rfl <;> rfl) fun wz Gz Hkz => ?_
          exact key wz ra rb rc mv ba bk (ER.new Gz (fun i hi hk => by omega))
        · conv => whnf
          refine Blk.all Hk (by kernel_rfl) (by first | decide | simp) rfl rfl (by intro v hv; simp at hv; rcases hv with rfl | rfl | rfl <;> rfl) fun wz Gz Hkz => ?_
          conv => whnf
          exact key wz ra rb rc mv ba bk (ER.new Gz (fun i hi hk => by omega))
      · conv => whnf
        refine VX.made (n := 10) Try.underlying27 eInt rfl (by omega) (by omega) fun rc w45 E45 Hrc _ => ?_
        replace EE := EE.ext E45
        replace EL1 := EL1.ext E45
        replace EL2 := EL2.ext E45
        replace ER := ER.ext E45
        replace Hra := Hra.ext E45
        replace EL3 := EL3.ext E45
        replace Hk := Hk.ext E45
        replace Hrc := OI.made (Hrc 0 (Nat.zero_le _))
        conv => whnf
        refine VX.made (n := 10) Try.underlying27 eInt rfl (by omega) (by omega) fun rb w46 E46 Hrb _ => ?_
        replace EE := EE.ext E46
        replace EL1 := EL1.ext E46
        replace EL2 := EL2.ext E46
        replace ER := ER.ext E46
        replace Hra := Hra.ext E46
        replace EL3 := EL3.ext E46
        replace Hk := Hk.ext E46
        replace Hrc := Hrc.ext E46
        replace Hrb := OI.made (Hrb 0 (Nat.zero_le _))
        conv => whnf
        refine VX.litV [ra, rb, rc] Try.underlying22 eRow (by intro v hv; simp at hv; rcases hv with rfl | rfl | rfl <;> first | rfl | exact (Sl.cells (Own.sl Hra)).1 | exact (Sl.cells (Own.sl Hrb)).1 | exact (Sl.cells (Own.sl Hrc)).1) (by simp) fun mv w47 E47 HR _ => ?_
        replace EE := EE.ext E47
        replace EL1 := EL1.ext E47
        replace EL2 := EL2.ext E47
        replace ER := ER.ext E47
        replace Hra := Hra.ext E47
        replace EL3 := EL3.ext E47
        replace Hk := Hk.ext E47
        replace Hrc := Hrc.ext E47
        replace Hrb := Hrb.ext E47
        replace HR : OM 0 w47 mv [ra, rb, rc] [List.replicate 10 0, List.replicate 10 0, List.replicate 10 0] := by
          refine ⟨HR _ (Nat.zero_le _), fun i hi => ?_⟩
          match i, hi with
          | 0, _ => exact Hra
          | 1, _ => exact Hrb
          | 2, _ => exact Hrc
        conv => whnf
        refine VS.field1 Try.underlying24 eGoods (by kernel_rfl) rfl (Sl.cells (Own.sl HR.top)).1 ?_
        conv => whnf
        refine VCX.rc (nbest_rc HR.mat) ?_
        rintro _ w48 E48 ⟨ba, rfl, HBA⟩
        replace EE := EE.ext E48
        replace EL1 := EL1.ext E48
        replace EL2 := EL2.ext E48
        replace ER := ER.ext E48
        replace Hra := Hra.ext E48
        replace EL3 := EL3.ext E48
        replace Hk := Hk.ext E48
        replace Hrc := Hrc.ext E48
        replace Hrb := Hrb.ext E48
        replace HR := HR.ext E48
        rw [e3P, e3E]
        conv => whnf
        refine ⟨?_, ?_⟩
        · conv => whnf
          conv => whnf
          refine Blk.all Hk (by kernel_rfl) (by first | decide | simp) rfl rfl (by intro v hv; simp at hv; rcases hv with rfl | rfl | rfl <;> rfl) fun wz Gz Hkz => ?_
          exact key wz ra rb rc mv ba bk (ER.new Gz (fun i hi hk => by omega))
        · conv => whnf
          refine Blk.all Hk (by kernel_rfl) (by first | decide | simp) rfl rfl (by intro v hv; simp at hv; rcases hv with rfl | rfl | rfl <;> rfl) fun wz Gz Hkz => ?_
          conv => whnf
          exact key wz ra rb rc mv ba bk (ER.new Gz (fun i hi hk => by omega))
  · conv => whnf
    refine VX.made (n := 10) Try.underlying27 eInt rfl (by omega) (by omega) fun rb w49 E49 Hrb _ => ?_
    replace EE := EE.ext E49
    replace EL1 := EL1.ext E49
    replace EL2 := EL2.ext E49
    replace ER := ER.ext E49
    replace Hrb := OI.made (Hrb 0 (Nat.zero_le _))
    conv => whnf
    refine ⟨?_, ?_, ?_⟩
    · conv => whnf
      refine VX.made (n := 10) Try.underlying27 eInt rfl (by omega) (by omega) fun ra w50 E50 Hra _ => ?_
      replace EE := EE.ext E50
      replace EL1 := EL1.ext E50
      replace EL2 := EL2.ext E50
      replace ER := ER.ext E50
      replace Hrb := Hrb.ext E50
      replace Hra := OI.made (Hra 0 (Nat.zero_le _))
      conv => whnf
      refine ⟨?_, ?_⟩
      · conv => whnf
        refine VX.made (n := 10) Try.underlying27 eInt rfl (by omega) (by omega) fun rc w51 E51 Hrc _ => ?_
        replace EE := EE.ext E51
        replace EL1 := EL1.ext E51
        replace EL2 := EL2.ext E51
        replace ER := ER.ext E51
        replace Hrb := Hrb.ext E51
        replace Hra := Hra.ext E51
        replace Hrc := OI.made (Hrc 0 (Nat.zero_le _))
        conv => whnf
        refine ⟨?_, ?_⟩
        · conv => whnf
          refine VX.litV [ra, rb, rc] Try.underlying22 eRow (by intro v hv; simp at hv; rcases hv with rfl | rfl | rfl <;> first | rfl | exact (Sl.cells (Own.sl Hra)).1 | exact (Sl.cells (Own.sl Hrb)).1 | exact (Sl.cells (Own.sl Hrc)).1) (by simp) fun mv w52 E52 HR _ => ?_
          replace EE := EE.ext E52
          replace EL1 := EL1.ext E52
          replace EL2 := EL2.ext E52
          replace ER := ER.ext E52
          replace Hrb := Hrb.ext E52
          replace Hra := Hra.ext E52
          replace Hrc := Hrc.ext E52
          replace HR : OM 0 w52 mv [ra, rb, rc] [List.replicate 10 0, List.replicate 10 0, List.replicate 10 0] := by
            refine ⟨HR _ (Nat.zero_le _), fun i hi => ?_⟩
            match i, hi with
            | 0, _ => exact Hra
            | 1, _ => exact Hrb
            | 2, _ => exact Hrc
          conv => whnf
          refine VS.field1 Try.underlying24 eGoods (by kernel_rfl) rfl (Sl.cells (Own.sl HR.top)).1 ?_
          conv => whnf
          refine ⟨?_, ?_⟩
          · conv => whnf
            refine VCX.rc (nbest_rc HR.mat) ?_
            rintro _ w53 E53 ⟨ba, rfl, HBA⟩
            replace EE := EE.ext E53
            replace EL1 := EL1.ext E53
            replace EL2 := EL2.ext E53
            replace ER := ER.ext E53
            replace Hrb := Hrb.ext E53
            replace Hra := Hra.ext E53
            replace Hrc := Hrc.ext E53
            replace HR := HR.ext E53
            rw [e3P, e3E]
            conv => whnf
            refine ⟨?_, ?_⟩
            · conv => whnf
              conv => whnf
              have he0 := ER.size
              have EE__3 := EE
              have EL1__3 := EL1
              have EL2__3 := EL2
              have ER__3 := ER
              have Hrb__3 := Hrb
              have Hra__3 := Hra
              have Hrc__3 := Hrc
              have HR__3 := HR
              have HBA__3 := HBA
              refine VX.alloc eProd fun bk w54 E54 hb_bk Hk => ?_
              replace EE := EE.ext E54
              replace EL1 := EL1.ext E54
              replace EL2 := EL2.ext E54
              replace ER := ER.ext E54
              replace Hrb := Hrb.ext E54
              replace Hra := Hra.ext E54
              replace Hrc := Hrc.ext E54
              replace HR := HR.ext E54
              replace HBA := HBA.ext E54
              have EL3 := E54
              conv => whnf
              refine Blk.all Hk (by kernel_rfl) (by first | decide | simp) rfl rfl (by intro v hv; simp at hv; rcases hv with rfl | rfl | rfl <;> rfl) fun wz Gz Hkz => ?_
              exact key wz ra rb rc mv ba bk (ER.new Gz (fun i hi hk => by omega))
            · conv => whnf
              have he0 := ER.size
              have EE__3 := EE
              have EL1__3 := EL1
              have EL2__3 := EL2
              have ER__3 := ER
              have Hrb__3 := Hrb
              have Hra__3 := Hra
              have Hrc__3 := Hrc
              have HR__3 := HR
              have HBA__3 := HBA
              refine VX.alloc eProd fun bk w55 E55 hb_bk Hk => ?_
              replace EE := EE.ext E55
              replace EL1 := EL1.ext E55
              replace EL2 := EL2.ext E55
              replace ER := ER.ext E55
              replace Hrb := Hrb.ext E55
              replace Hra := Hra.ext E55
              replace Hrc := Hrc.ext E55
              replace HR := HR.ext E55
              replace HBA := HBA.ext E55
              have EL3 := E55
              conv => whnf
              refine ⟨?_, ?_⟩
              · conv => whnf
                conv => whnf
                refine Blk.all Hk (by kernel_rfl) (by first | decide | simp) rfl rfl (by intro v hv; simp at hv; rcases hv with rfl | rfl | rfl <;> rfl) fun wz Gz Hkz => ?_
                exact key wz ra rb rc mv ba bk (ER.new Gz (fun i hi hk => by omega))
              · conv => whnf
                refine Blk.all Hk (by kernel_rfl) (by first | decide | simp) rfl rfl (by intro v hv; simp at hv; rcases hv with rfl | rfl | rfl <;> rfl) fun wz Gz Hkz => ?_
                conv => whnf
                exact key wz ra rb rc mv ba bk (ER.new Gz (fun i hi hk => by omega))
          · conv => whnf
            have he0 := ER.size
            have EE__3 := EE
            have EL1__3 := EL1
            have EL2__3 := EL2
            have ER__3 := ER
            have Hrb__3 := Hrb
            have Hra__3 := Hra
            have Hrc__3 := Hrc
            have HR__3 := HR
            refine VX.alloc eProd fun bk w56 E56 hb_bk Hk => ?_
            replace EE := EE.ext E56
            replace EL1 := EL1.ext E56
            replace EL2 := EL2.ext E56
            replace ER := ER.ext E56
            replace Hrb := Hrb.ext E56
            replace Hra := Hra.ext E56
            replace Hrc := Hrc.ext E56
            replace HR := HR.ext E56
            have EL3 := E56
            conv => whnf
            refine VCX.rc (nbest_rc HR.mat) ?_
            rintro _ w57 E57 ⟨ba, rfl, HBA⟩
            replace EE := EE.ext E57
            replace EL1 := EL1.ext E57
            replace EL2 := EL2.ext E57
            replace ER := ER.ext E57
            replace Hrb := Hrb.ext E57
            replace Hra := Hra.ext E57
            replace Hrc := Hrc.ext E57
            replace HR := HR.ext E57
            replace EL3 := EL3.ext E57
            replace Hk := Hk.ext E57
            rw [e3P, e3E]
            conv => whnf
            refine ⟨?_, ?_⟩
            · conv => whnf
              conv => whnf
              refine Blk.all Hk (by kernel_rfl) (by first | decide | simp) rfl rfl (by intro v hv; simp at hv; rcases hv with rfl | rfl | rfl <;> rfl) fun wz Gz Hkz => ?_
              exact key wz ra rb rc mv ba bk (ER.new Gz (fun i hi hk => by omega))
            · conv => whnf
              refine Blk.all Hk (by kernel_rfl) (by first | decide | simp) rfl rfl (by intro v hv; simp at hv; rcases hv with rfl | rfl | rfl <;> rfl) fun wz Gz Hkz => ?_
              conv => whnf
              exact key wz ra rb rc mv ba bk (ER.new Gz (fun i hi hk => by omega))
        · conv => whnf
          have he0 := ER.size
          have EE__3 := EE
          have EL1__3 := EL1
          have EL2__3 := EL2
          have ER__3 := ER
          have Hrb__3 := Hrb
          have Hra__3 := Hra
          have Hrc__3 := Hrc
          refine VX.alloc eProd fun bk w58 E58 hb_bk Hk => ?_
          replace EE := EE.ext E58
          replace EL1 := EL1.ext E58
          replace EL2 := EL2.ext E58
          replace ER := ER.ext E58
          replace Hrb := Hrb.ext E58
          replace Hra := Hra.ext E58
          replace Hrc := Hrc.ext E58
          have EL3 := E58
          conv => whnf
          refine VX.litV [ra, rb, rc] Try.underlying22 eRow (by intro v hv; simp at hv; rcases hv with rfl | rfl | rfl <;> first | rfl | exact (Sl.cells (Own.sl Hra)).1 | exact (Sl.cells (Own.sl Hrb)).1 | exact (Sl.cells (Own.sl Hrc)).1) (by simp) fun mv w59 E59 HR _ => ?_
          replace EE := EE.ext E59
          replace EL1 := EL1.ext E59
          replace EL2 := EL2.ext E59
          replace ER := ER.ext E59
          replace Hrb := Hrb.ext E59
          replace Hra := Hra.ext E59
          replace Hrc := Hrc.ext E59
          replace EL3 := EL3.ext E59
          replace Hk := Hk.ext E59
          replace HR : OM 0 w59 mv [ra, rb, rc] [List.replicate 10 0, List.replicate 10 0, List.replicate 10 0] := by
            refine ⟨HR _ (Nat.zero_le _), fun i hi => ?_⟩
            match i, hi with
            | 0, _ => exact Hra
            | 1, _ => exact Hrb
            | 2, _ => exact Hrc
          conv => whnf
          refine VS.field1 Try.underlying24 eGoods (by kernel_rfl) rfl (Sl.cells (Own.sl HR.top)).1 ?_
          conv => whnf
          refine VCX.rc (nbest_rc HR.mat) ?_
          rintro _ w60 E60 ⟨ba, rfl, HBA⟩
          replace EE := EE.ext E60
          replace EL1 := EL1.ext E60
          replace EL2 := EL2.ext E60
          replace ER := ER.ext E60
          replace Hrb := Hrb.ext E60
          replace Hra := Hra.ext E60
          replace Hrc := Hrc.ext E60
          replace EL3 := EL3.ext E60
          replace Hk := Hk.ext E60
          replace HR := HR.ext E60
          rw [e3P, e3E]
          conv => whnf
          refine ⟨?_, ?_⟩
          · conv => whnf
            conv => whnf
            refine Blk.all Hk (by kernel_rfl) (by first | decide | simp) rfl rfl (by intro v hv; simp at hv; rcases hv with rfl | rfl | rfl <;> rfl) fun wz Gz Hkz => ?_
            exact key wz ra rb rc mv ba bk (ER.new Gz (fun i hi hk => by omega))
          · conv => whnf
            refine Blk.all Hk (by kernel_rfl) (by first | decide | simp) rfl rfl (by intro v hv; simp at hv; rcases hv with rfl | rfl | rfl <;> rfl) fun wz Gz Hkz => ?_
            conv => whnf
            exact key wz ra rb rc mv ba bk (ER.new Gz (fun i hi hk => by omega))
      · conv => whnf
        have he0 := ER.size
        have EE__3 := EE
        have EL1__3 := EL1
        have EL2__3 := EL2
        have ER__3 := ER
        have Hrb__3 := Hrb
        have Hra__3 := Hra
        refine VX.alloc eProd fun bk w61 E61 hb_bk Hk => ?_
        replace EE := EE.ext E61
        replace EL1 := EL1.ext E61
        replace EL2 := EL2.ext E61
        replace ER := ER.ext E61
        replace Hrb := Hrb.ext E61
        replace Hra := Hra.ext E61
        have EL3 := E61
        conv => whnf
        refine VX.made (n := 10) Try.underlying27 eInt rfl (by omega) (by omega) fun rc w62 E62 Hrc _ => ?_
        replace EE := EE.ext E62
        replace EL1 := EL1.ext E62
        replace EL2 := EL2.ext E62
        replace ER := ER.ext E62
        replace Hrb := Hrb.ext E62
        replace Hra := Hra.ext E62
        replace EL3 := EL3.ext E62
        replace Hk := Hk.ext E62
        replace Hrc := OI.made (Hrc 0 (Nat.zero_le _))
        conv => whnf
        refine VX.litV [ra, rb, rc] Try.underlying22 eRow (by intro v hv; simp at hv; rcases hv with rfl | rfl | rfl <;> first | rfl | exact (Sl.cells (Own.sl Hra)).1 | exact (Sl.cells (Own.sl Hrb)).1 | exact (Sl.cells (Own.sl Hrc)).1) (by simp) fun mv w63 E63 HR _ => ?_
        replace EE := EE.ext E63
        replace EL1 := EL1.ext E63
        replace EL2 := EL2.ext E63
        replace ER := ER.ext E63
        replace Hrb := Hrb.ext E63
        replace Hra := Hra.ext E63
        replace EL3 := EL3.ext E63
        replace Hk := Hk.ext E63
        replace Hrc := Hrc.ext E63
        replace HR : OM 0 w63 mv [ra, rb, rc] [List.replicate 10 0, List.replicate 10 0, List.replicate 10 0] := by
          refine ⟨HR _ (Nat.zero_le _), fun i hi => ?_⟩
          match i, hi with
          | 0, _ => exact Hra
          | 1, _ => exact Hrb
          | 2, _ => exact Hrc
        conv => whnf
        refine VS.field1 Try.underlying24 eGoods (by kernel_rfl) rfl (Sl.cells (Own.sl HR.top)).1 ?_
        conv => whnf
        refine VCX.rc (nbest_rc HR.mat) ?_
        rintro _ w64 E64 ⟨ba, rfl, HBA⟩
        replace EE := EE.ext E64
        replace EL1 := EL1.ext E64
        replace EL2 := EL2.ext E64
        replace ER := ER.ext E64
        replace Hrb := Hrb.ext E64
        replace Hra := Hra.ext E64
        replace EL3 := EL3.ext E64
        replace Hk := Hk.ext E64
        replace Hrc := Hrc.ext E64
        replace HR := HR.ext E64
        rw [e3P, e3E]
        conv => whnf
        refine ⟨?_, ?_⟩
        · conv => whnf
          conv => whnf
          refine Blk.all Hk (by kernel_rfl) (by first | decide | simp) rfl rfl (by intro v hv; simp at hv; rcases hv with rfl | rfl | rfl <;> rfl) fun wz Gz Hkz => ?_
          exact key wz ra rb rc mv ba bk (ER.new Gz (fun i hi hk => by omega))
        · conv => whnf
          refine Blk.all Hk (by kernel_rfl) (by first | decide | simp) rfl rfl (by intro v hv; simp at hv; rcases hv with rfl | rfl | rfl <;> rfl) fun wz Gz Hkz => ?_
          conv => whnf
          exact key wz ra rb rc mv ba bk (ER.new Gz (fun i hi hk => by omega))
    · conv => whnf
      refine VX.made (n := 10) Try.underlying27 eInt rfl (by omega) (by omega) fun rc w65 E65 Hrc _ => ?_
      replace EE := EE.ext E65
      replace EL1 := EL1.ext E65
      replace EL2 := EL2.ext E65
      replace ER := ER.ext E65
      replace Hrb := Hrb.ext E65
      replace Hrc := OI.made (Hrc 0 (Nat.zero_le _))
      conv => whnf
      refine ⟨?_, ?_⟩
      · conv => whnf
        refine VX.made (n := 10) Try.underlying27 eInt rfl (by omega) (by omega) fun ra w66 E66 Hra _ => ?_
        replace EE := EE.ext E66
        replace EL1 := EL1.ext E66
        replace EL2 := EL2.ext E66
        replace ER := ER.ext E66
        replace Hrb := Hrb.ext E66
        replace Hrc := Hrc.ext E66
        replace Hra := OI.made (Hra 0 (Nat.zero_le _))
        conv => whnf
        refine ⟨?_, ?_⟩
        · conv => whnf
          refine VX.litV [ra, rb, rc] Try.underlying22 eRow (by intro v hv; simp at hv; rcases hv with rfl | rfl | rfl <;> first | rfl | exact (Sl.cells (Own.sl Hra)).1 | exact (Sl.cells (Own.sl Hrb)).1 | exact (Sl.cells (Own.sl Hrc)).1) (by simp) fun mv w67 E67 HR _ => ?_
          replace EE := EE.ext E67
          replace EL1 := EL1.ext E67
          replace EL2 := EL2.ext E67
          replace ER := ER.ext E67
          replace Hrb := Hrb.ext E67
          replace Hrc := Hrc.ext E67
          replace Hra := Hra.ext E67
          replace HR : OM 0 w67 mv [ra, rb, rc] [List.replicate 10 0, List.replicate 10 0, List.replicate 10 0] := by
            refine ⟨HR _ (Nat.zero_le _), fun i hi => ?_⟩
            match i, hi with
            | 0, _ => exact Hra
            | 1, _ => exact Hrb
            | 2, _ => exact Hrc
          conv => whnf
          refine VS.field1 Try.underlying24 eGoods (by kernel_rfl) rfl (Sl.cells (Own.sl HR.top)).1 ?_
          conv => whnf
          refine ⟨?_, ?_⟩
          · conv => whnf
            refine VCX.rc (nbest_rc HR.mat) ?_
            rintro _ w68 E68 ⟨ba, rfl, HBA⟩
            replace EE := EE.ext E68
            replace EL1 := EL1.ext E68
            replace EL2 := EL2.ext E68
            replace ER := ER.ext E68
            replace Hrb := Hrb.ext E68
            replace Hrc := Hrc.ext E68
            replace Hra := Hra.ext E68
            replace HR := HR.ext E68
            rw [e3P, e3E]
            conv => whnf
            refine ⟨?_, ?_⟩
            · conv => whnf
              conv => whnf
              have he0 := ER.size
              have EE__3 := EE
              have EL1__3 := EL1
              have EL2__3 := EL2
              have ER__3 := ER
              have Hrb__3 := Hrb
              have Hrc__3 := Hrc
              have Hra__3 := Hra
              have HR__3 := HR
              have HBA__3 := HBA
              refine VX.alloc eProd fun bk w69 E69 hb_bk Hk => ?_
              replace EE := EE.ext E69
              replace EL1 := EL1.ext E69
              replace EL2 := EL2.ext E69
              replace ER := ER.ext E69
              replace Hrb := Hrb.ext E69
              replace Hrc := Hrc.ext E69
              replace Hra := Hra.ext E69
              replace HR := HR.ext E69
              replace HBA := HBA.ext E69
              have EL3 := E69
              conv => whnf
              refine Blk.all Hk (by kernel_rfl) (by first | decide | simp) rfl rfl (by intro v hv; simp at hv; rcases hv with rfl | rfl | rfl <;> rfl) fun wz Gz Hkz => ?_
              exact key wz ra rb rc mv ba bk (ER.new Gz (fun i hi hk => by omega))
            · conv => whnf
              have he0 := ER.size
              have EE__3 := EE
              have EL1__3 := EL1
              have EL2__3 := EL2
              have ER__3 := ER
              have Hrb__3 := Hrb
              have Hrc__3 := Hrc
              have Hra__3 := Hra
              have HR__3 := HR
              have HBA__3 := HBA
              refine VX.alloc eProd fun bk w70 E70 hb_bk Hk => ?_
              replace EE := EE.ext E70
              replace EL1 := EL1.ext E70
              replace EL2 := EL2.ext E70
              replace ER := ER.ext E70
              replace Hrb := Hrb.ext E70
              replace Hrc := Hrc.ext E70
              replace Hra := Hra.ext E70
              replace HR := HR.ext E70
              replace HBA := HBA.ext E70
              have EL3 := E70
              conv => whnf
              refine ⟨?_, ?_⟩
              · conv => whnf
                conv => whnf
                refine Blk.all Hk (by kernel_rfl) (by first | decide | simp) rfl rfl (by intro v hv; simp at hv; rcases hv with rfl | rfl | rfl <;> rfl) fun wz Gz Hkz => ?_
                exact key wz ra rb rc mv ba bk (ER.new Gz (fun i hi hk => by omega))
              · conv => whnf
                refine Blk.all Hk (by kernel_rfl) (by first | decide | simp) rfl rfl (by intro v hv; simp at hv; rcases hv with rfl | rfl | rfl <;> rfl) fun wz Gz Hkz => ?_
                conv => whnf
                exact key wz ra rb rc mv ba bk (ER.new Gz (fun i hi hk => by omega))
          · conv => whnf
            have he0 := ER.size
            have EE__3 := EE
            have EL1__3 := EL1
            have EL2__3 := EL2
            have ER__3 := ER
            have Hrb__3 := Hrb
            have Hrc__3 := Hrc
            have Hra__3 := Hra
            have HR__3 := HR
            refine VX.alloc eProd fun bk w71 E71 hb_bk Hk => ?_
            replace EE := EE.ext E71
            replace EL1 := EL1.ext E71
            replace EL2 := EL2.ext E71
            replace ER := ER.ext E71
            replace Hrb := Hrb.ext E71
            replace Hrc := Hrc.ext E71
            replace Hra := Hra.ext E71
            replace HR := HR.ext E71
            have EL3 := E71
            conv => whnf
            refine VCX.rc (nbest_rc HR.mat) ?_
            rintro _ w72 E72 ⟨ba, rfl, HBA⟩
            replace EE := EE.ext E72
            replace EL1 := EL1.ext E72
            replace EL2 := EL2.ext E72
            replace ER := ER.ext E72
            replace Hrb := Hrb.ext E72
            replace Hrc := Hrc.ext E72
            replace Hra := Hra.ext E72
            replace HR := HR.ext E72
            replace EL3 := EL3.ext E72
            replace Hk := Hk.ext E72
            rw [e3P, e3E]
            conv => whnf
            refine ⟨?_, ?_⟩
            · conv => whnf
              conv => whnf
              refine Blk.all Hk (by kernel_rfl) (by first | decide | simp) rfl rfl (by intro v hv; simp at hv; rcases hv with rfl | rfl | rfl <;> rfl) fun wz Gz Hkz => ?_
              exact key wz ra rb rc mv ba bk (ER.new Gz (fun i hi hk => by omega))
            · conv => whnf
              refine Blk.all Hk (by kernel_rfl) (by first | decide | simp) rfl rfl (by intro v hv; simp at hv; rcases hv with rfl | rfl | rfl <;> rfl) fun wz Gz Hkz => ?_
              conv => whnf
              exact key wz ra rb rc mv ba bk (ER.new Gz (fun i hi hk => by omega))
        · conv => whnf
          have he0 := ER.size
          have EE__3 := EE
          have EL1__3 := EL1
          have EL2__3 := EL2
          have ER__3 := ER
          have Hrb__3 := Hrb
          have Hrc__3 := Hrc
          have Hra__3 := Hra
          refine VX.alloc eProd fun bk w73 E73 hb_bk Hk => ?_
          replace EE := EE.ext E73
          replace EL1 := EL1.ext E73
          replace EL2 := EL2.ext E73
          replace ER := ER.ext E73
          replace Hrb := Hrb.ext E73
          replace Hrc := Hrc.ext E73
          replace Hra := Hra.ext E73
          have EL3 := E73
          conv => whnf
          refine VX.litV [ra, rb, rc] Try.underlying22 eRow (by intro v hv; simp at hv; rcases hv with rfl | rfl | rfl <;> first | rfl | exact (Sl.cells (Own.sl Hra)).1 | exact (Sl.cells (Own.sl Hrb)).1 | exact (Sl.cells (Own.sl Hrc)).1) (by simp) fun mv w74 E74 HR _ => ?_
          replace EE := EE.ext E74
          replace EL1 := EL1.ext E74
          replace EL2 := EL2.ext E74
          replace ER := ER.ext E74
          replace Hrb := Hrb.ext E74
          replace Hrc := Hrc.ext E74
          replace Hra := Hra.ext E74
          replace EL3 := EL3.ext E74
          replace Hk := Hk.ext E74
          replace HR : OM 0 w74 mv [ra, rb, rc] [List.replicate 10 0, List.replicate 10 0, List.replicate 10 0] := by
            refine ⟨HR _ (Nat.zero_le _), fun i hi => ?_⟩
            match i, hi with
            | 0, _ => exact Hra
            | 1, _ => exact Hrb
            | 2, _ => exact Hrc
          conv => whnf
          refine VS.field1 Try.underlying24 eGoods (by kernel_rfl) rfl (Sl.cells (Own.sl HR.top)).1 ?_
          conv => whnf
          refine VCX.rc (nbest_rc HR.mat) ?_
          rintro _ w75 E75 ⟨ba, rfl, HBA⟩
          replace EE := EE.ext E75
          replace EL1 := EL1.ext E75
          replace EL2 := EL2.ext E75
          replace ER := ER.ext E75
          replace Hrb := Hrb.ext E75
          replace Hrc := Hrc.ext E75
          replace Hra := Hra.ext E75
          replace EL3 := EL3.ext E75
          replace Hk := Hk.ext E75
          replace HR := HR.ext E75
          rw [e3P, e3E]
          conv => whnf
          refine ⟨?_, ?_⟩
          · conv => whnf
            conv => whnf
            refine Blk.all Hk (by kernel_rfl) (by first | decide | simp) rfl rfl (by intro v hv; simp at hv; rcases hv with rfl | rfl | rfl <;> rfl) fun wz Gz Hkz => ?_
            exact key wz ra rb rc mv ba bk (ER.new Gz (fun i hi hk => by omega))
          · conv => whnf
            refine Blk.all Hk (by kernel_rfl) (by first | decide | simp) rfl rfl (by intro v hv; simp at hv; rcases hv with rfl | rfl | rfl <;> rfl) fun wz Gz Hkz => ?_
            conv => whnf
            exact key wz ra rb rc mv ba bk (ER.new Gz (fun i hi hk => by omega))
      · conv => whnf
        have he0 := ER.size
        have EE__3 := EE
        have EL1__3 := EL1
        have EL2__3 := EL2
        have ER__3 := ER
        have Hrb__3 := Hrb
        have Hrc__3 := Hrc
        refine VX.alloc eProd fun bk w76 E76 hb_bk Hk => ?_
        replace EE := EE.ext E76
        replace EL1 := EL1.ext E76
        replace EL2 := EL2.ext E76
        replace ER := ER.ext E76
        replace Hrb := Hrb.ext E76
        replace Hrc := Hrc.ext E76
        have EL3 := E76
        conv => whnf
        refine VX.made (n := 10) Try.underlying27 eInt rfl (by omega) (by omega) fun ra w77 E77 Hra _ => ?_
        replace EE := EE.ext E77
        replace EL1 := EL1.ext E77
        replace EL2 := EL2.ext E77
        replace ER := ER.ext E77
        replace Hrb := Hrb.ext E77
        replace Hrc := Hrc.ext E77
        replace EL3 := EL3.ext E77
        replace Hk := Hk.ext E77
        replace Hra := OI.made (Hra 0 (Nat.zero_le _))
        conv => whnf
        refine VX.litV [ra, rb, rc] Try.underlying22 eRow (by intro v hv; simp at hv; rcases hv with rfl | rfl | rfl <;> first | rfl | exact (Sl.cells (Own.sl Hra)).1 | exact (Sl.cells (Own.sl Hrb)).1 | exact (Sl.cells (Own.sl Hrc)).1) (by simp) fun mv w78 E78 HR _ => ?_
        replace EE := EE.ext E78
        replace EL1 := EL1.ext E78
        replace EL2 := EL2.ext E78
        replace ER := ER.ext E78
        replace Hrb := Hrb.ext E78
        replace Hrc := Hrc.ext E78
        replace EL3 := EL3.ext E78
        replace Hk := Hk.ext E78
        replace Hra := Hra.ext E78
        replace HR : OM 0 w78 mv [ra, rb, rc] [List.replicate 10 0, List.replicate 10 0, List.replicate 10 0] := by
          refine ⟨HR _ (Nat.zero_le _), fun i hi => ?_⟩
          match i, hi with
          | 0, _ => exact Hra
          | 1, _ => exact Hrb
          | 2, _ => exact Hrc
        conv => whnf
        refine VS.field1 Try.underlying24 eGoods (by kernel_rfl) rfl (Sl.cells (Own.sl HR.top)).1 ?_
        conv => whnf
        refine VCX.rc (nbest_rc HR.mat) ?_
        rintro _ w79 E79 ⟨ba, rfl, HBA⟩
        replace EE := EE.ext E79
        replace EL1 := EL1.ext E79
        replace EL2 := EL2.ext E79
        replace ER := ER.ext E79
        replace Hrb := Hrb.ext E79
        replace Hrc := Hrc.ext E79
        replace EL3 := EL3.ext E79
        replace Hk := Hk.ext E79
        replace Hra := Hra.ext E79
        replace HR := HR.ext E79
        rw [e3P, e3E]
        conv => whnf
        refine ⟨?_, ?_⟩
        · conv => whnf
          conv => whnf
          refine Blk.all Hk (by kernel_rfl) (by first | decide | simp) rfl rfl (by intro v hv; simp at hv; rcases hv with rfl | rfl | rfl <;> rfl) fun wz Gz Hkz => ?_
          exact key wz ra rb rc mv ba bk (ER.new Gz (fun i hi hk => by omega))
        · conv => whnf
          refine Blk.all Hk (by kernel_rfl) (by first | decide | simp) rfl rfl (by intro v hv; simp at hv; rcases hv with rfl | rfl | rfl <;> rfl) fun wz Gz Hkz => ?_
          conv => whnf
          exact key wz ra rb rc mv ba bk (ER.new Gz (fun i hi hk => by omega))
    · conv => whnf
      have he0 := ER.size
      have EE__3 := EE
      have EL1__3 := EL1
      have EL2__3 := EL2
      have ER__3 := ER
      have Hrb__3 := Hrb
      refine VX.alloc eProd fun bk w80 E80 hb_bk Hk => ?_
      replace EE := EE.ext E80
      replace EL1 := EL1.ext E80
      replace EL2 := EL2.ext E80
      replace ER := ER.ext E80
      replace Hrb := Hrb.ext E80
      have EL3 := E80
      conv => whnf
      refine ⟨?_, ?_⟩
      · conv => whnf
        refine VX.made (n := 10) Try.underlying27 eInt rfl (by omega) (by omega) fun ra w81 E81 Hra _ => ?_
        replace EE := EE.ext E81
        replace EL1 := EL1.ext E81
        replace EL2 := EL2.ext E81
        replace ER := ER.ext E81
        replace Hrb := Hrb.ext E81
        replace EL3 := EL3.ext E81
        replace Hk := Hk.ext E81
        replace Hra := OI.made (Hra 0 (Nat.zero_le _))
        conv => whnf
        refine VX.made (n := 10) Try.underlying27 eInt rfl (by omega) (by omega) fun rc w82 E82 Hrc _ => ?_
        replace EE := EE.ext E82
        replace EL1 := EL1.ext E82
        replace EL2 := EL2.ext E82
        replace ER := ER.ext E82
        replace Hrb := Hrb.ext E82
        replace EL3 := EL3.ext E82
        replace Hk := Hk.ext E82
        replace Hra := Hra.ext E82
        replace Hrc := OI.made (Hrc 0 (Nat.zero_le _))
        conv => whnf
        refine VX.litV [ra, rb, rc] Try.underlying22 eRow (by intro v hv; simp at hv; rcases hv with rfl | rfl | rfl <;> first | rfl | exact (Sl.cells (Own.sl Hra)).1 | exact (Sl.cells (Own.sl Hrb)).1 | exact (Sl.cells (Own.sl Hrc)).1) (by simp) fun mv w83 E83 HR _ => ?_
        replace EE := EE.ext E83
        replace EL1 := EL1.ext E83
        replace EL2 := EL2.ext E83
        replace ER := ER.ext E83
        replace Hrb := Hrb.ext E83
        replace EL3 := EL3.ext E83
        replace Hk := Hk.ext E83
        replace Hra := Hra.ext E83
        replace Hrc := Hrc.ext E83
        replace HR : OM 0 w83 mv [ra, rb, rc] [List.replicate 10 0, List.replicate 10 0, List.replicate 10 0] := by
          refine ⟨HR _ (Nat.zero_le _), fun i hi => ?_⟩
          match i, hi with
          | 0, _ => exact Hra
          | 1, _ => exact Hrb
          | 2, _ => exact Hrc
        conv => whnf
        refine VS.field1 Try.underlying24 eGoods (by kernel_rfl) rfl (Sl.cells (Own.sl HR.top)).1 ?_
        conv => whnf
        refine VCX.rc (nbest_rc HR.mat) ?_
        rintro _ w84 E84 ⟨ba, rfl, HBA⟩
        replace EE := EE.ext E84
        replace EL1 := EL1.ext E84
        replace EL2 := EL2.ext E84
        replace ER := ER.ext E84
        replace Hrb := Hrb.ext E84
        replace EL3 := EL3.ext E84
        replace Hk := Hk.ext E84
        replace Hra := Hra.ext E84
        replace Hrc := Hrc.ext E84
        replace HR := HR.ext E84
        rw [e3P, e3E]
        conv => whnf
        refine ⟨?_, ?_⟩
        · conv => whnf
          conv => whnf
          refine Blk.all Hk (by kernel_rfl) (by first | decide | simp) rfl rfl (by intro v hv; simp at hv; rcases hv with rfl | rfl | rfl <;> rfl) fun wz Gz Hkz => ?_
          exact key wz ra rb rc mv ba bk (ER.new Gz (fun i hi hk => by omega))
        · conv => whnf
          refine Blk.all Hk (by kernel_rfl) (by first | decide | simp) rfl rfl (by intro v hv; simp at hv; rcases hv with rfl | rfl | rfl <;> rfl) fun wz Gz Hkz => ?_
          conv => whnf
          exact key wz ra rb rc mv ba bk (ER.new Gz (fun i hi hk => by omega))
      · conv => whnf
        refine VX.made (n := 10) Try.underlying27 eInt rfl (by omega) (by omega) fun rc w85 E85 Hrc _ => ?_
        replace EE := EE.ext E85
        replace EL1 := EL1.ext E85
        replace EL2 := EL2.ext E85
        replace ER := ER.ext E85
        replace Hrb := Hrb.ext E85
        replace EL3 := EL3.ext E85
        replace Hk := Hk.ext E85
        replace Hrc := OI.made (Hrc 0 (Nat.zero_le _))
        conv => whnf
        refine VX.made (n := 10) Try.underlying27 eInt rfl (by omega) (by omega) fun ra w86 E86 Hra _ => ?_
        replace EE := EE.ext E86
        replace EL1 := EL1.ext E86
        replace EL2 := EL2.ext E86
        replace ER := ER.ext E86
        replace Hrb := Hrb.ext E86
        replace EL3 := EL3.ext E86
        replace Hk := Hk.ext E86
        replace Hrc := Hrc.ext E86
        replace Hra := OI.made (Hra 0 (Nat.zero_le _))
        conv => whnf
        refine VX.litV [ra, rb, rc] Try.underlying22 eRow (by intro v hv; simp at hv; rcases hv with rfl | rfl | rfl <;> first | rfl | exact (Sl.cells (Own.sl Hra)).1 | exact (Sl.cells (Own.sl Hrb)).1 | exact (Sl.cells (Own.sl Hrc)).1) (by simp) fun mv w87 E87 HR _ => ?_
        replace EE := EE.ext E87
        replace EL1 := EL1.ext E87
        replace EL2 := EL2.ext E87
        replace ER := ER.ext E87
        replace Hrb := Hrb.ext E87
        replace EL3 := EL3.ext E87
        replace Hk := Hk.ext E87
        replace Hrc := Hrc.ext E87
        replace Hra := Hra.ext E87
        replace HR : OM 0 w87 mv [ra, rb, rc] [List.replicate 10 0, List.replicate 10 0, List.replicate 10 0] := by
          refine ⟨HR _ (Nat.zero_le _), fun i hi => ?_⟩
          match i, hi with
          | 0, _ => exact Hra
          | 1, _ => exact Hrb
          | 2, _ => exact Hrc
        conv => whnf
        refine VS.field1 Try.underlying24 eGoods (by kernel_rfl) rfl (Sl.cells (Own.sl HR.top)).1 ?_
        conv => whnf
        refine VCX.rc (nbest_rc HR.mat) ?_
        rintro _ w88 E88 ⟨ba, rfl, HBA⟩
        replace EE := EE.ext E88
        replace EL1 := EL1.ext E88
        replace EL2 := EL2.ext E88
        replace ER := ER.ext E88
        replace Hrb := Hrb.ext E88
        replace EL3 := EL3.ext E88
        replace Hk := Hk.ext E88
        replace Hrc := Hrc.ext E88
        replace Hra := Hra.ext E88
        replace HR := HR.ext E88
        rw [e3P, e3E]
        conv => whnf
        refine ⟨?_, ?_⟩
        · conv => whnf
          conv => whnf
          refine Blk.all Hk (by kernel_rfl) (by first | decide | simp) rfl rfl (by intro v hv; simp at hv; rcases hv with rfl | rfl | rfl <;> rfl) fun wz Gz Hkz => ?_
          exact key wz ra rb rc mv ba bk (ER.new Gz (fun i hi hk => by omega))
        · conv => whnf
          refine Blk.all Hk (by kernel_rfl) (by first | decide | simp) rfl rfl (by intro v hv; simp at hv; rcases hv with rfl | rfl | rfl <;> rfl) fun wz Gz Hkz => ?_
          conv => whnf
          exact key wz ra rb rc mv ba bk (ER.new Gz (fun i hi hk => by omega))
  · conv => whnf
    refine VX.made (n := 10) Try.underlying27 eInt rfl (by omega) (by omega) fun rc w89 E89 Hrc _ => ?_
    replace EE := EE.ext E89
    replace EL1 := EL1.ext E89
    replace EL2 := EL2.ext E89
    replace ER := ER.ext E89
    replace Hrc := OI.made (Hrc 0 (Nat.zero_le _))
    conv => whnf
    refine ⟨?_, ?_, ?_⟩
    · conv => whnf
      refine VX.made (n := 10) Try.underlying27 eInt rfl (by omega) (by omega) fun ra w90 E90 Hra _ => ?_
      replace EE := EE.ext E90
      replace EL1 := EL1.ext E90
      replace EL2 := EL2.ext E90
      replace ER := ER.ext E90
      replace Hrc := Hrc.ext E90
      replace Hra := OI.made (Hra 0 (Nat.zero_le _))
      conv => whnf
      refine ⟨?_, ?_⟩
      · conv => whnf
        refine VX.made (n := 10) Try.underlying27 eInt rfl (by omega) (by omega) fun rb w91 E91 Hrb _ => ?_
        replace EE := EE.ext E91
        replace EL1 := EL1.ext E91
        replace EL2 := EL2.ext E91
        replace ER := ER.ext E91
        replace Hrc := Hrc.ext E91
        replace Hra := Hra.ext E91
        replace Hrb := OI.made (Hrb 0 (Nat.zero_le _))
        conv => whnf
        refine ⟨?_, ?_⟩
        · conv => whnf
          refine VX.litV [ra, rb, rc] Try.underlying22 eRow (by intro v hv; simp at hv; rcases hv with rfl | rfl | rfl <;> first | rfl | exact (Sl.cells (Own.sl Hra)).1 | exact (Sl.cells (Own.sl Hrb)).1 | exact (Sl.cells (Own.sl Hrc)).1) (by simp) fun mv w92 E92 HR _ => ?_
          replace EE := EE.ext E92
          replace EL1 := EL1.ext E92
          replace EL2 := EL2.ext E92
          replace ER := ER.ext E92
          replace Hrc := Hrc.ext E92
          replace Hra := Hra.ext E92
          replace Hrb := Hrb.ext E92
          replace HR : OM 0 w92 mv [ra, rb, rc] [List.replicate 10 0, List.replicate 10 0, List.replicate 10 0] := by
            refine ⟨HR _ (Nat.zero_le _), fun i hi => ?_⟩
            match i, hi with
            | 0, _ => exact Hra
            | 1, _ => exact Hrb
            | 2, _ => exact Hrc
          conv => whnf
          refine VS.field1 Try.underlying24 eGoods (by kernel_rfl) rfl (Sl.cells (Own.sl HR.top)).1 ?_
          conv => whnf
          refine ⟨?_, ?_⟩
          · conv => whnf
            refine VCX.rc (nbest_rc HR.mat) ?_
            rintro _ w93 E93 ⟨ba, rfl, HBA⟩
            replace EE := EE.ext E93
            replace EL1 := EL1.ext E93
            replace EL2 := EL2.ext E93
            replace ER := ER.ext E93
            replace Hrc := Hrc.ext E93
            replace Hra := Hra.ext E93
            replace Hrb := Hrb.ext E93
            replace HR := HR.ext E93
            rw [e3P, e3E]
            conv => whnf
            refine ⟨?_, ?_⟩
            · conv => whnf
              conv => whnf
              have he0 := ER.size
              have EE__3 := EE
              have EL1__3 := EL1
              have EL2__3 := EL2
              have ER__3 := ER
              have Hrc__3 := Hrc
              have Hra__3 := Hra
              have Hrb__3 := Hrb
              have HR__3 := HR
              have HBA__3 := HBA
              refine VX.alloc eProd fun bk w94 E94 hb_bk Hk => ?_
              replace EE := EE.ext E94
              replace EL1 := EL1.ext E94
              replace EL2 := EL2.ext E94
              replace ER := ER.ext E94
              replace Hrc := Hrc.ext E94
              replace Hra := Hra.ext E94
              replace Hrb := Hrb.ext E94
              replace HR := HR.ext E94
              replace HBA := HBA.ext E94
              have EL3 := E94
              conv => whnf
              refine Blk.all Hk (by kernel_rfl) (by first | decide | simp) rfl rfl (by intro v hv; simp at hv; rcases hv with rfl | rfl | rfl <;> rfl) fun wz Gz Hkz => ?_
              exact key wz ra rb rc mv ba bk (ER.new Gz (fun i hi hk => by omega))
            · conv => whnf
              have he0 := ER.size
              have EE__3 := EE
              have EL1__3 := EL1
              have EL2__3 := EL2
              have ER__3 := ER
              have Hrc__3 := Hrc
              have Hra__3 := Hra
              have Hrb__3 := Hrb
              have HR__3 := HR
              have HBA__3 := HBA
              refine VX.alloc eProd fun bk w95 E95 hb_bk Hk => ?_
              replace EE := EE.ext E95
              replace EL1 := EL1.ext E95
              replace EL2 := EL2.ext E95
              replace ER := ER.ext E95
              replace Hrc := Hrc.ext E95
              replace Hra := Hra.ext E95
              replace Hrb := Hrb.ext E95
              replace HR := HR.ext E95
              replace HBA := HBA.ext E95
              have EL3 := E95
              conv => whnf
              refine ⟨?_, ?_⟩
              · conv => whnf
                conv => whnf
                refine Blk.all Hk (by kernel_rfl) (by first | decide | simp) rfl rfl (by intro v hv; simp at hv; rcases hv with rfl | rfl | rfl <;> rfl) fun wz Gz Hkz => ?_
                exact key wz ra rb rc mv ba bk (ER.new Gz (fun i hi hk => by omega))
              · conv => whnf
                refine Blk.all Hk (by kernel_rfl) (by first | decide | simp) rfl rfl (by intro v hv; simp at hv; rcases hv with rfl | rfl | rfl <;> rfl) fun wz Gz Hkz => ?_
                conv => whnf
                exact key wz ra rb rc mv ba bk (ER.new Gz (fun i hi hk => by omega))
          · conv => whnf
            have he0 := ER.size
            have EE__3 := EE
            have EL1__3 := EL1
            have EL2__3 := EL2
            have ER__3 := ER
            have Hrc__3 := Hrc
            have Hra__3 := Hra
            have Hrb__3 := Hrb
            have HR__3 := HR
            refine VX.alloc eProd fun bk w96 E96 hb_bk Hk => ?_
            replace EE := EE.ext E96
            replace EL1 := EL1.ext E96
            replace EL2 := EL2.ext E96
            replace ER := ER.ext E96
            replace Hrc := Hrc.ext E96
            replace Hra := Hra.ext E96
            replace Hrb := Hrb.ext E96
            replace HR := HR.ext E96
            have EL3 := E96
            conv => whnf
            refine VCX.rc (nbest_rc HR.mat) ?_
            rintro _ w97 E97 ⟨ba, rfl, HBA⟩
            replace EE := EE.ext E97
            replace EL1 := EL1.ext E97
            replace EL2 := EL2.ext E97
            replace ER := ER.ext E97
            replace Hrc := Hrc.ext E97
            replace Hra := Hra.ext E97
            replace Hrb := Hrb.ext E97
            replace HR := HR.ext E97
            replace EL3 := EL3.ext E97
            replace Hk := Hk.ext E97
            rw [e3P, e3E]
            conv => whnf
            refine ⟨?_, ?_⟩
            · conv => whnf
              conv => whnf
              refine Blk.all Hk (by kernel_rfl) (by first | decide | simp) rfl rfl (by intro v hv; simp at hv; rcases hv with rfl | rfl | rfl <;> rfl) fun wz Gz Hkz => ?_
              exact key wz ra rb rc mv ba bk (ER.new Gz (fun i hi hk => by omega))
            · conv => whnf
              refine Blk.all Hk (by kernel_rfl) (by first | decide | simp) rfl rfl (by intro v hv; simp at hv; rcases hv with rfl | rfl | rfl <;> rfl) fun wz Gz Hkz => ?_
              conv => whnf
              exact key wz ra rb rc mv ba bk (ER.new Gz (fun i hi hk => by omega))
        · conv => whnf
          have he0 := ER.size
          have EE__3 := EE
          have EL1__3 := EL1
          have EL2__3 := EL2
          have ER__3 := ER
          have Hrc__3 := Hrc
          have Hra__3 := Hra
          have Hrb__3 := Hrb
          refine VX.alloc eProd fun bk w98 E98 hb_bk Hk => ?_
          replace EE := EE.ext E98
          replace EL1 := EL1.ext E98
          replace EL2 := EL2.ext E98
          replace ER := ER.ext E98
          replace Hrc := Hrc.ext E98
          replace Hra := Hra.ext E98
          replace Hrb := Hrb.ext E98
          have EL3 := E98
          conv => whnf
          refine VX.litV [ra, rb, rc] Try.underlying22 eRow (by intro v hv; simp at hv; rcases hv with rfl | rfl | rfl <;> first | rfl | exact (Sl.cells (Own.sl Hra)).1 | exact (Sl.cells (Own.sl Hrb)).1 | exact (Sl.cells (Own.sl Hrc)).1) (by simp) fun mv w99 E99 HR _ => ?_
          replace EE := EE.ext E99
          replace EL1 := EL1.ext E99
          replace EL2 := EL2.ext E99
          replace ER := ER.ext E99
          replace Hrc := Hrc.ext E99
          replace Hra := Hra.ext E99
          replace Hrb := Hrb.ext E99
          replace EL3 := EL3.ext E99
          replace Hk := Hk.ext E99
          replace HR : OM 0 w99 mv [ra, rb, rc] [List.replicate 10 0, List.replicate 10 0, List.replicate 10 0] := by
            refine ⟨HR _ (Nat.zero_le _), fun i hi => ?_⟩
            match i, hi with
            | 0, _ => exact Hra
            | 1, _ => exact Hrb
            | 2, _ => exact Hrc
          conv => whnf
          refine VS.field1 Try.underlying24 eGoods (by kernel_rfl) rfl (Sl.cells (Own.sl HR.top)).1 ?_
          conv => whnf
          refine VCX.rc (nbest_rc HR.mat) ?_
          rintro _ w100 E100 ⟨ba, rfl, HBA⟩
          replace EE := EE.ext E100
          replace EL1 := EL1.ext E100
          replace EL2 := EL2.ext E100
          replace ER := ER.ext E100
          replace Hrc := Hrc.ext E100
          replace Hra := Hra.ext E100
          replace Hrb := Hrb.ext E100
          replace EL3 := EL3.ext E100
          replace Hk := Hk.ext E100
          replace HR := HR.ext E100
          rw [e3P, e3E]
          conv => whnf
          refine ⟨?_, ?_⟩
          · conv => whnf
            conv => whnf
            refine Blk.all Hk (by kernel_rfl) (by first | decide | simp) rfl rfl (by intro v hv; simp at hv; rcases hv with rfl | rfl | rfl <;> rfl) fun wz Gz Hkz => ?_
            exact key wz ra rb rc mv ba bk (ER.new Gz (fun i hi hk => by omega))
          · conv => whnf
            refine Blk.all Hk (by kernel_rfl) (by first | decide | simp) rfl rfl (by intro v hv; simp at hv; rcases hv with rfl | rfl | rfl <;> rfl) fun wz Gz Hkz => ?_
            conv => whnf
            exact key wz ra rb rc mv ba bk (ER.new Gz (fun i hi hk => by omega))
      · conv => whnf
        have he0 := ER.size
        have EE__3 := EE
        have EL1__3 := EL1
        have EL2__3 := EL2
        have ER__3 := ER
        have Hrc__3 := Hrc
        have Hra__3 := Hra
        refine VX.alloc eProd fun bk w101 E101 hb_bk Hk => ?_
        replace EE := EE.ext E101
        replace EL1 := EL1.ext E101
        replace EL2 := EL2.ext E101
        replace ER := ER.ext E101
        replace Hrc := Hrc.ext E101
        replace Hra := Hra.ext E101
        have EL3 := E101
        conv => whnf
        refine VX.made (n := 10) Try.underlying27 eInt rfl (by omega) (by omega) fun rb w102 E102 Hrb _ => ?_
        replace EE := EE.ext E102
        replace EL1 := EL1.ext E102
        replace EL2 := EL2.ext E102
        replace ER := ER.ext E102
        replace Hrc := Hrc.ext E102
        replace Hra := Hra.ext E102
        replace EL3 := EL3.ext E102
        replace Hk := Hk.ext E102
        replace Hrb := OI.made (Hrb 0 (Nat.zero_le _))
        conv => whnf
        refine VX.litV [ra, rb, rc] Try.underlying22 eRow (by intro v hv; simp at hv; rcases hv with rfl | rfl | rfl <;> first | rfl | exact (Sl.cells (Own.sl Hra)).1 | exact (Sl.cells (Own.sl Hrb)).1 | exact (Sl.cells (Own.sl Hrc)).1) (by simp) fun mv w103 E103 HR _ => ?_
        replace EE := EE.ext E103
        replace EL1 := EL1.ext E103
        replace EL2 := EL2.ext E103
        replace ER := ER.ext E103
        replace Hrc := Hrc.ext E103
        replace Hra := Hra.ext E103
        replace EL3 := EL3.ext E103
        replace Hk := Hk.ext E103
        replace Hrb := Hrb.ext E103
        replace HR : OM 0 w103 mv [ra, rb, rc] [List.replicate 10 0, List.replicate 10 0, List.replicate 10 0] := by
          refine ⟨HR _ (Nat.zero_le _), fun i hi => ?_⟩
          match i, hi with
          | 0, _ => exact Hra
          | 1, _ => exact Hrb
          | 2, _ => exact Hrc
        conv => whnf
        refine VS.field1 Try.underlying24 eGoods (by kernel_rfl) rfl (Sl.cells (Own.sl HR.top)).1 ?_
        conv => whnf
        refine VCX.rc (nbest_rc HR.mat) ?_
        rintro _ w104 E104 ⟨ba, rfl, HBA⟩
        replace EE := EE.ext E104
        replace EL1 := EL1.ext E104
        replace EL2 := EL2.ext E104
        replace ER := ER.ext E104
        replace Hrc := Hrc.ext E104
        replace Hra := Hra.ext E104
        replace EL3 := EL3.ext E104
        replace Hk := Hk.ext E104
        replace Hrb := Hrb.ext E104
        replace HR := HR.ext E104
        rw [e3P, e3E]
        conv => whnf
        refine ⟨?_, ?_⟩
        · conv => whnf
          conv => whnf
          refine Blk.all Hk (by kernel_rfl) (by first | decide | simp) rfl rfl (by intro v hv; simp at hv; rcases hv with rfl | rfl | rfl <;> rfl) fun wz Gz Hkz => ?_
          exact key wz ra rb rc mv ba bk (ER.new Gz (fun i hi hk => by omega))
        · conv => whnf
          refine Blk.all Hk (by kernel_rfl) (by first | decide | simp) rfl rfl (by intro v hv; simp at hv; rcases hv with rfl | rfl | rfl <;> rfl) fun wz Gz Hkz => ?_
          conv => whnf
          exact key wz ra rb rc mv ba bk (ER.new Gz (fun i hi hk => by omega))
    · conv => whnf
      refine VX.made (n := 10) Try.underlying27 eInt rfl (by omega) (by omega) fun rb w105 E105 Hrb _ => ?_
      replace EE := EE.ext E105
      replace EL1 := EL1.ext E105
      replace EL2 := EL2.ext E105
      replace ER := ER.ext E105
      replace Hrc := Hrc.ext E105
      replace Hrb := OI.made (Hrb 0 (Nat.zero_le _))
      conv => whnf
      refine ⟨?_, ?_⟩
      · conv => whnf
        refine VX.made (n := 10) Try.underlying27 eInt rfl (by omega) (by omega) fun ra w106 E106 Hra _ => ?_
        replace EE := EE.ext E106
        replace EL1 := EL1.ext E106
        replace EL2 := EL2.ext E106
        replace ER := ER.ext E106
        replace Hrc := Hrc.ext E106
        replace Hrb := Hrb.ext E106
        replace Hra := OI.made (Hra 0 (Nat.zero_le _))
        conv => whnf
        refine ⟨?_, ?_⟩
        · conv => whnf
          refine VX.litV [ra, rb, rc] Try.underlying22 eRow (by intro v hv; simp at hv; rcases hv with rfl | rfl | rfl <;> first | rfl | exact (Sl.cells (Own.sl Hra)).1 | exact (Sl.cells (Own.sl Hrb)).1 | exact (Sl.cells (Own.sl Hrc)).1) (by simp) fun mv w107 E107 HR _ => ?_
          replace EE := EE.ext E107
          replace EL1 := EL1.ext E107
          replace EL2 := EL2.ext E107
          replace ER := ER.ext E107
          replace Hrc := Hrc.ext E107
          replace Hrb := Hrb.ext E107
          replace Hra := Hra.ext E107
          replace HR : OM 0 w107 mv [ra, rb, rc] [List.replicate 10 0, List.replicate 10 0, List.replicate 10 0] := by
            refine ⟨HR _ (Nat.zero_le _), fun i hi => ?_⟩
            match i, hi with
            | 0, _ => exact Hra
            | 1, _ => exact Hrb
            | 2, _ => exact Hrc
          conv => whnf
          refine VS.field1 Try.underlying24 eGoods (by kernel_rfl) rfl (Sl.cells (Own.sl HR.top)).1 ?_
          conv => whnf
          refine ⟨?_, ?_⟩
          · conv => whnf
            refine VCX.rc (nbest_rc HR.mat) ?_
            rintro _ w108 E108 ⟨ba, rfl, HBA⟩
            replace EE := EE.ext E108
            replace EL1 := EL1.ext E108
            replace EL2 := EL2.ext E108
            replace ER := ER.ext E108
            replace Hrc := Hrc.ext E108
            replace Hrb := Hrb.ext E108
            replace Hra := Hra.ext E108
            replace HR := HR.ext E108
            rw [e3P, e3E]
            conv => whnf
            refine ⟨?_, ?_⟩
            · conv => whnf
              conv => whnf
              have he0 := ER.size
              have EE__3 := EE
              have EL1__3 := EL1
              have EL2__3 := EL2
              have ER__3 := ER
              have Hrc__3 := Hrc
              have Hrb__3 := Hrb
              have Hra__3 := Hra
              have HR__3 := HR
              have HBA__3 := HBA
              refine VX.alloc eProd fun bk w109 E109 hb_bk Hk => ?_
              replace EE := EE.ext E109
              replace EL1 := EL1.ext E109
              replace EL2 := EL2.ext E109
              replace ER := ER.ext E109
              replace Hrc := Hrc.ext E109
              replace Hrb := Hrb.ext E109
              replace Hra := Hra.ext E109
              replace HR := HR.ext E109
              replace HBA := HBA.ext E109
              have EL3 := E109
              conv => whnf
              refine Blk.all Hk (by kernel_rfl) (by first | decide | simp) rfl rfl (by intro v hv; simp at hv; rcases hv with rfl | rfl | rfl <;> rfl) fun wz Gz Hkz => ?_
              exact key wz ra rb rc mv ba bk (ER.new Gz (fun i hi hk => by omega))
            · conv => whnf
              have he0 := ER.size
              have EE__3 := EE
              have EL1__3 := EL1
              have EL2__3 := EL2
              have ER__3 := ER
              have Hrc__3 := Hrc
              have Hrb__3 := Hrb
              have Hra__3 := Hra
              have HR__3 := HR
              have HBA__3 := HBA
              refine VX.alloc eProd fun bk w110 E110 hb_bk Hk => ?_
              replace EE := EE.ext E110
              replace EL1 := EL1.ext E110
              replace EL2 := EL2.ext E110
              replace ER := ER.ext E110
              replace Hrc := Hrc.ext E110
              replace Hrb := Hrb.ext E110
              replace Hra := Hra.ext E110
              replace HR := HR.ext E110
              replace HBA := HBA.ext E110
              have EL3 := E110
              conv => whnf
              refine ⟨?_, ?_⟩
              · conv => whnf
                conv => whnf
                refine Blk.all Hk (by kernel_rfl) (by first | decide | simp) rfl rfl (by intro v hv; simp at hv; rcases hv with rfl | rfl | rfl <;> rfl) fun wz Gz Hkz => ?_
                exact key wz ra rb rc mv ba bk (ER.new Gz (fun i hi hk => by omega))
              · conv => whnf
                refine Blk.all Hk (by kernel_rfl) (by first | decide | simp) rfl rfl (by intro v hv; simp at hv; rcases hv with rfl | rfl | rfl <;> rfl) fun wz Gz Hkz => ?_
                conv => whnf
                exact key wz ra rb rc mv ba bk (ER.new Gz (fun i hi hk => by omega))
          · conv => whnf
            have he0 := ER.size
            have EE__3 := EE
            have EL1__3 := EL1
            have EL2__3 := EL2
            have ER__3 := ER
            have Hrc__3 := Hrc
            have Hrb__3 := Hrb
            have Hra__3 := Hra
            have HR__3 := HR
            refine VX.alloc eProd fun bk w111 E111 hb_bk Hk => ?_
            replace EE := EE.ext E111
            replace EL1 := EL1.ext E111
            replace EL2 := EL2.ext E111
            replace ER := ER.ext E111
            replace Hrc := Hrc.ext E111
            replace Hrb := Hrb.ext E111
            replace Hra := Hra.ext E111
            replace HR := HR.ext E111
            have EL3 := E111
            conv => whnf
            refine VCX.rc (nbest_rc HR.mat) ?_
            rintro _ w112 E112 ⟨ba, rfl, HBA⟩
            replace EE := EE.ext E112
            replace EL1 := EL1.ext E112
            replace EL2 := EL2.ext E112
            replace ER := ER.ext E112
            replace Hrc := Hrc.ext E112
            replace Hrb := Hrb.ext E112
            replace Hra := Hra.ext E112
            replace HR := HR.ext E112
            replace EL3 := EL3.ext E112
            replace Hk := Hk.ext E112
            rw [e3P, e3E]
            conv => whnf
            refine ⟨?_, ?_⟩
            · conv => whnf
              conv => whnf
              refine Blk.all Hk (by kernel_rfl) (by first | decide | simp) rfl rfl (by intro v hv; simp at hv; rcases hv with rfl | rfl | rfl <;> rfl) fun wz Gz Hkz => ?_
              exact key wz ra rb rc mv ba bk (ER.new Gz (fun i hi hk => by omega))
            · conv => whnf
              refine Blk.all Hk (by kernel_rfl) (by first | decide | simp) rfl rfl (by intro v hv; simp at hv; rcases hv with rfl | rfl | rfl <;> rfl) fun wz Gz Hkz => ?_
              conv => whnf
              exact key wz ra rb rc mv ba bk (ER.new Gz (fun i hi hk => by omega))
        · conv => whnf
          have he0 := ER.size
          have EE__3 := EE
          have EL1__3 := EL1
          have EL2__3 := EL2
          have ER__3 := ER
          have Hrc__3 := Hrc
          have Hrb__3 := Hrb
          have Hra__3 := Hra
          refine VX.alloc eProd fun bk w113 E113 hb_bk Hk => ?_
          replace EE := EE.ext E113
          replace EL1 := EL1.ext E113
          replace EL2 := EL2.ext E113
          replace ER := ER.ext E113
          replace Hrc := Hrc.ext E113
          replace Hrb := Hrb.ext E113
          replace Hra := Hra.ext E113
          have EL3 := E113
          conv => whnf
          refine VX.litV [ra, rb, rc] Try.underlying22 eRow (by intro v hv; simp at hv; rcases hv with rfl | rfl | rfl <;> first | rfl | exact (Sl.cells (Own.sl Hra)).1 | exact (Sl.cells (Own.sl Hrb)).1 | exact (Sl.cells (Own.sl Hrc)).1) (by simp) fun mv w114 E114 HR _ => ?_
          replace EE := EE.ext E114
          replace EL1 := EL1.ext E114
          replace EL2 := EL2.ext E114
          replace ER := ER.ext E114
          replace Hrc := Hrc.ext E114
          replace Hrb := Hrb.ext E114
          replace Hra := Hra.ext E114
          replace EL3 := EL3.ext E114
          replace Hk := Hk.ext E114
          replace HR : OM 0 w114 mv [ra, rb, rc] [List.replicate 10 0, List.replicate 10 0, List.replicate 10 0] := by
            refine ⟨HR _ (Nat.zero_le _), fun i hi => ?_⟩
            match i, hi with
            | 0, _ => exact Hra
            | 1, _ => exact Hrb
            | 2, _ => exact Hrc
          conv => whnf
          refine VS.field1 Try.underlying24 eGoods (by kernel_rfl) rfl (Sl.cells (Own.sl HR.top)).1 ?_
          conv => whnf
          refine VCX.rc (nbest_rc HR.mat) ?_
          rintro _ w115 E115 ⟨ba, rfl, HBA⟩
          replace EE := EE.ext E115
          replace EL1 := EL1.ext E115
          replace EL2 := EL2.ext E115
          replace ER := ER.ext E115
          replace Hrc := Hrc.ext E115
          replace Hrb := Hrb.ext E115
          replace Hra := Hra.ext E115
          replace EL3 := EL3.ext E115
          replace Hk := Hk.ext E115
          replace HR := HR.ext E115
          rw [e3P, e3E]
          conv => whnf
          refine ⟨?_, ?_⟩
          · conv => whnf
            conv => whnf
            refine Blk.all Hk (by kernel_rfl) (by first | decide | simp) rfl rfl (by intro v hv; simp at hv; rcases hv with rfl | rfl | rfl <;> rfl) fun wz Gz Hkz => ?_
            exact key wz ra rb rc mv ba bk (ER.new Gz (fun i hi hk => by omega))
          · conv => whnf
            refine Blk.all Hk (by kernel_rfl) (by first | decide | simp) rfl rfl (by intro v hv; simp at hv; rcases hv with rfl | rfl | rfl <;> rfl) fun wz Gz Hkz => ?_
            conv => whnf
            exact key wz ra rb rc mv ba bk (ER.new Gz (fun i hi hk => by omega))
      · conv => whnf
        have he0 := ER.size
        have EE__3 := EE
        have EL1__3 := EL1
        have EL2__3 := EL2
        have ER__3 := ER
        have Hrc__3 := Hrc
        have Hrb__3 := Hrb
        refine VX.alloc eProd fun bk w116 E116 hb_bk Hk => ?_
        replace EE := EE.ext E116
        replace EL1 := EL1.ext E116
        replace EL2 := EL2.ext E116
        replace ER := ER.ext E116
        replace Hrc := Hrc.ext E116
        replace Hrb := Hrb.ext E116
        have EL3 := E116
        conv => whnf
        refine VX.made (n := 10) Try.underlying27 eInt rfl (by omega) (by omega) fun ra w117 E117 Hra _ => ?_
        replace EE := EE.ext E117
        replace EL1 := EL1.ext E117
        replace EL2 := EL2.ext E117
        replace ER := ER.ext E117
        replace Hrc := Hrc.ext E117
        replace Hrb := Hrb.ext E117
        replace EL3 := EL3.ext E117
        replace Hk := Hk.ext E117
        replace Hra := OI.made (Hra 0 (Nat.zero_le _))
        conv => whnf
        refine VX.litV [ra, rb, rc] Try.underlying22 eRow (by intro v hv; simp at hv; rcases hv with rfl | rfl | rfl <;> first | rfl | exact (Sl.cells (Own.sl Hra)).1 | exact (Sl.cells (Own.sl Hrb)).1 | exact (Sl.cells (Own.sl Hrc)).1) (by simp) fun mv w118 E118 HR _ => ?_
        replace EE := EE.ext E118
        replace EL1 := EL1.ext E118
        replace EL2 := EL2.ext E118
        replace ER := ER.ext E118
        replace Hrc := Hrc.ext E118
        replace Hrb := Hrb.ext E118
        replace EL3 := EL3.ext E118
        replace Hk := Hk.ext E118
        replace Hra := Hra.ext E118
        replace HR : OM 0 w118 mv [ra, rb, rc] [List.replicate 10 0, List.replicate 10 0, List.replicate 10 0] := by
          refine ⟨HR _ (Nat.zero_le _), fun i hi => ?_⟩
          match i, hi with
          | 0, _ => exact Hra
          | 1, _ => exact Hrb
          | 2, _ => exact Hrc
        conv => whnf
        refine VS.field1 Try.underlying24 eGoods (by kernel_rfl) rfl (Sl.cells (Own.sl HR.top)).1 ?_
        conv => whnf
        refine VCX.rc (nbest_rc HR.mat) ?_
        rintro _ w119 E119 ⟨ba, rfl, HBA⟩
        replace EE := EE.ext E119
        replace EL1 := EL1.ext E119
        replace EL2 := EL2.ext E119
        replace ER := ER.ext E119
        replace Hrc := Hrc.ext E119
        replace Hrb := Hrb.ext E119
        replace EL3 := EL3.ext E119
        replace Hk := Hk.ext E119
        replace Hra := Hra.ext E119
        replace HR := HR.ext E119
        rw [e3P, e3E]
        conv => whnf
        refine ⟨?_, ?_⟩
        · conv => whnf
          conv => whnf
          refine Blk.all Hk (by kernel_rfl) (by first | decide | simp) rfl rfl (by intro v hv; simp at hv; rcases hv with rfl | rfl | rfl <;> rfl) fun wz Gz Hkz => ?_
          exact key wz ra rb rc mv ba bk (ER.new Gz (fun i hi hk => by omega))
        · conv => whnf
          refine Blk.all Hk (by kernel_rfl) (by first | decide | simp) rfl rfl (by intro v hv; simp at hv; rcases hv with rfl | rfl | rfl <;> rfl) fun wz Gz Hkz => ?_
          conv => whnf
          exact key wz ra rb rc mv ba bk (ER.new Gz (fun i hi hk => by omega))
    · conv => whnf
      have he0 := ER.size
      have EE__3 := EE
      have EL1__3 := EL1
      have EL2__3 := EL2
      have ER__3 := ER
      have Hrc__3 := Hrc
      refine VX.alloc eProd fun bk w120 E120 hb_bk Hk => ?_
      replace EE := EE.ext E120
      replace EL1 := EL1.ext E120
      replace EL2 := EL2.ext E120
      replace ER := ER.ext E120
      replace Hrc := Hrc.ext E120
      have EL3 := E120
      conv => whnf
      refine ⟨?_, ?_⟩
      · conv => whnf
        refine VX.made (n := 10) Try.underlying27 eInt rfl (by omega) (by omega) fun ra w121 E121 Hra _ => ?_
        replace EE := EE.ext E121
        replace EL1 := EL1.ext E121
        replace EL2 := EL2.ext E121
        replace ER := ER.ext E121
        replace Hrc := Hrc.ext E121
        replace EL3 := EL3.ext E121
        replace Hk := Hk.ext E121
        replace Hra := OI.made (Hra 0 (Nat.zero_le _))
        conv => whnf
        refine VX.made (n := 10) Try.underlying27 eInt rfl (by omega) (by omega) fun rb w122 E122 Hrb _ => ?_
        replace EE := EE.ext E122
        replace EL1 := EL1.ext E122
        replace EL2 := EL2.ext E122
        replace ER := ER.ext E122
        replace Hrc := Hrc.ext E122
        replace EL3 := EL3.ext E122
        replace Hk := Hk.ext E122
        replace Hra := Hra.ext E122
        replace Hrb := OI.made (Hrb 0 (Nat.zero_le _))
        conv => whnf
        refine VX.litV [ra, rb, rc] Try.underlying22 eRow (by intro v hv; simp at hv; rcases hv with rfl | rfl | rfl <;> first | rfl | exact (Sl.cells (Own.sl Hra)).1 | exact (Sl.cells (Own.sl Hrb)).1 | exact (Sl.cells (Own.sl Hrc)).1) (by simp) fun mv w123 E123 HR _ => ?_
        replace EE := EE.ext E123
        replace EL1 := EL1.ext E123
        replace EL2 := EL2.ext E123
        replace ER := ER.ext E123
        replace Hrc := Hrc.ext E123
        replace EL3 := EL3.ext E123
        replace Hk := Hk.ext E123
        replace Hra := Hra.ext E123
        replace Hrb := Hrb.ext E123
        replace HR : OM 0 w123 mv [ra, rb, rc] [List.replicate 10 0, List.replicate 10 0, List.replicate 10 0] := by
          refine ⟨HR _ (Nat.zero_le _), fun i hi => ?_⟩
          match i, hi with
          | 0, _ => exact Hra
          | 1, _ => exact Hrb
          | 2, _ => exact Hrc
        conv => whnf
        refine VS.field1 Try.underlying24 eGoods (by kernel_rfl) rfl (Sl.cells (Own.sl HR.top)).1 ?_
        conv => whnf
        refine VCX.rc (nbest_rc HR.mat) ?_
        rintro _ w124 E124 ⟨ba, rfl, HBA⟩
        replace EE := EE.ext E124
        replace EL1 := EL1.ext E124
        replace EL2 := EL2.ext E124
        replace ER := ER.ext E124
        replace Hrc := Hrc.ext E124
        replace EL3 := EL3.ext E124
        replace Hk := Hk.ext E124
        replace Hra := Hra.ext E124
        replace Hrb := Hrb.ext E124
        replace HR := HR.ext E124
        rw [e3P, e3E]
        conv => whnf
        refine ⟨?_, ?_⟩
        · conv => whnf
          conv => whnf
          refine Blk.all Hk (by kernel_rfl) (by first | decide | simp) rfl rfl (by intro v hv; simp at hv; rcases hv with rfl | rfl | rfl <;> rfl) fun wz Gz Hkz => ?_
          exact key wz ra rb rc mv ba bk (ER.new Gz (fun i hi hk => by omega))
        · conv => whnf
          refine Blk.all Hk (by kernel_rfl) (by first | decide | simp) rfl rfl (by intro v hv; simp at hv; rcases hv with rfl | rfl | rfl <;> rfl) fun wz Gz Hkz => ?_
          conv => whnf
          exact key wz ra rb rc mv ba bk (ER.new Gz (fun i hi hk => by omega))
      · conv => whnf
        refine VX.made (n := 10) Try.underlying27 eInt rfl (by omega) (by omega) fun rb w125 E125 Hrb _ => ?_
        replace EE := EE.ext E125
        replace EL1 := EL1.ext E125
        replace EL2 := EL2.ext E125
        replace ER := ER.ext E125
        replace Hrc := Hrc.ext E125
        replace EL3 := EL3.ext E125
        replace Hk := Hk.ext E125
        replace Hrb := OI.made (Hrb 0 (Nat.zero_le _))
        conv => whnf
        refine VX.made (n := 10) Try.underlying27 eInt rfl (by omega) (by omega) fun ra w126 E126 Hra _ => ?_
        replace EE := EE.ext E126
        replace EL1 := EL1.ext E126
        replace EL2 := EL2.ext E126
        replace ER := ER.ext E126
        replace Hrc := Hrc.ext E126
        replace EL3 := EL3.ext E126
        replace Hk := Hk.ext E126
        replace Hrb := Hrb.ext E126
        replace Hra := OI.made (Hra 0 (Nat.zero_le _))
        conv => whnf
        refine VX.litV [ra, rb, rc] Try.underlying22 eRow (by intro v hv; simp at hv; rcases hv with rfl | rfl | rfl <;> first | rfl | exact (Sl.cells (Own.sl Hra)).1 | exact (Sl.cells (Own.sl Hrb)).1 | exact (Sl.cells (Own.sl Hrc)).1) (by simp) fun mv w127 E127 HR _ => ?_
        replace EE := EE.ext E127
        replace EL1 := EL1.ext E127
        replace EL2 := EL2.ext E127
        replace ER := ER.ext E127
        replace Hrc := Hrc.ext E127
        replace EL3 := EL3.ext E127
        replace Hk := Hk.ext E127
        replace Hrb := Hrb.ext E127
        replace Hra := Hra.ext E127
        replace HR : OM 0 w127 mv [ra, rb, rc] [List.replicate 10 0, List.replicate 10 0, List.replicate 10 0] := by
          refine ⟨HR _ (Nat.zero_le _), fun i hi => ?_⟩
          match i, hi with
          | 0, _ => exact Hra
          | 1, _ => exact Hrb
          | 2, _ => exact Hrc
        conv => whnf
        refine VS.field1 Try.underlying24 eGoods (by kernel_rfl) rfl (Sl.cells (Own.sl HR.top)).1 ?_
        conv => whnf
        refine VCX.rc (nbest_rc HR.mat) ?_
        rintro _ w128 E128 ⟨ba, rfl, HBA⟩
        replace EE := EE.ext E128
        replace EL1 := EL1.ext E128
        replace EL2 := EL2.ext E128
        replace ER := ER.ext E128
        replace Hrc := Hrc.ext E128
        replace EL3 := EL3.ext E128
        replace Hk := Hk.ext E128
        replace Hrb := Hrb.ext E128
        replace Hra := Hra.ext E128
        replace HR := HR.ext E128
        rw [e3P, e3E]
        conv => whnf
        refine ⟨?_, ?_⟩
        · conv => whnf
          conv => whnf
          refine Blk.all Hk (by kernel_rfl) (by first | decide | simp) rfl rfl (by intro v hv; simp at hv; rcases hv with rfl | rfl | rfl <;> rfl) fun wz Gz Hkz => ?_
          exact key wz ra rb rc mv ba bk (ER.new Gz (fun i hi hk => by omega))
        · conv => whnf
          refine Blk.all Hk (by kernel_rfl) (by first | decide | simp) rfl rfl (by intro v hv; simp at hv; rcases hv with rfl | rfl | rfl <;> rfl) fun wz Gz Hkz => ?_
          conv => whnf
          exact key wz ra rb rc mv ba bk (ER.new Gz (fun i hi hk => by omega))
  · conv => whnf
    have he0 := ER.size
    have EE__3 := EE
    have EL1__3 := EL1
    have EL2__3 := EL2
    have ER__3 := ER
    refine VX.alloc eProd fun bk w129 E129 hb_bk Hk => ?_
    replace EE := EE.ext E129
    replace EL1 := EL1.ext E129
    replace EL2 := EL2.ext E129
    replace ER := ER.ext E129
    have EL3 := E129
    conv => whnf
    refine ⟨?_, ?_, ?_⟩
    · conv => whnf
      refine VX.made (n := 10) Try.underlying27 eInt rfl (by omega) (by omega) fun ra w130 E130 Hra _ => ?_
      replace EE := EE.ext E130
      replace EL1 := EL1.ext E130
      replace EL2 := EL2.ext E130
      replace ER := ER.ext E130
      replace EL3 := EL3.ext E130
      replace Hk := Hk.ext E130
      replace Hra := OI.made (Hra 0 (Nat.zero_le _))
      conv => whnf
      refine ⟨?_, ?_⟩
      · conv => whnf
        refine VX.made (n := 10) Try.underlying27 eInt rfl (by omega) (by omega) fun rb w131 E131 Hrb _ => ?_
        replace EE := EE.ext E131
        replace EL1 := EL1.ext E131
        replace EL2 := EL2.ext E131
        replace ER := ER.ext E131
        replace EL3 := EL3.ext E131
        replace Hk := Hk.ext E131
        replace Hra := Hra.ext E131
        replace Hrb := OI.made (Hrb 0 (Nat.zero_le _))
        conv => whnf
        refine VX.made (n := 10) Try.underlying27 eInt rfl (by omega) (by omega) fun rc w132 E132 Hrc _ => ?_
        replace EE := EE.ext E132
        replace EL1 := EL1.ext E132
        replace EL2 := EL2.ext E132
        replace ER := ER.ext E132
        replace EL3 := EL3.ext E132
        replace Hk := Hk.ext E132
        replace Hra := Hra.ext E132
        replace Hrb := Hrb.ext E132
        replace Hrc := OI.made (Hrc 0 (Nat.zero_le _))
        conv => whnf
        refine VX.litV [ra, rb, rc] Try.underlying22 eRow (by intro v hv; simp at hv; rcases hv with rfl | rfl | rfl <;> first | rfl | exact (Sl.cells (Own.sl Hra)).1 | exact (Sl.cells (Own.sl Hrb)).1 | exact (Sl.cells (Own.sl Hrc)).1) (by simp) fun mv w133 E133 HR _ => ?_
        replace EE := EE.ext E133
        replace EL1 := EL1.ext E133
        replace EL2 := EL2.ext E133
        replace ER := ER.ext E133
        replace EL3 := EL3.ext E133
        replace Hk := Hk.ext E133
        replace Hra := Hra.ext E133
        replace Hrb := Hrb.ext E133
        replace Hrc := Hrc.ext E133
        replace HR : OM 0 w133 mv [ra, rb, rc] [List.replicate 10 0, List.replicate 10 0, List.replicate 10 0] := by
          refine ⟨HR _ (Nat.zero_le _), fun i hi => ?_⟩
          match i, hi with
          | 0, _ => exact Hra
          | 1, _ => exact Hrb
          | 2, _ => exact Hrc
        conv => whnf
        refine VS.field1 Try.underlying24 eGoods (by kernel_rfl) rfl (Sl.cells (Own.sl HR.top)).1 ?_
        conv => whnf
        refine VCX.rc (nbest_rc HR.mat) ?_
        rintro _ w134 E134 ⟨ba, rfl, HBA⟩
        replace EE := EE.ext E134
        replace EL1 := EL1.ext E134
        replace EL2 := EL2.ext E134
        replace ER := ER.ext E134
        replace EL3 := EL3.ext E134
        replace Hk := Hk.ext E134
        replace Hra := Hra.ext E134
        replace Hrb := Hrb.ext E134
        replace Hrc := Hrc.ext E134
        replace HR := HR.ext E134
        rw [e3P, e3E]
        conv => whnf
        refine ⟨?_, ?_⟩
        · conv => whnf
          conv => whnf
          refine Blk.all Hk (by kernel_rfl) (by first | decide | simp) rfl rfl (by intro v hv; simp at hv; rcases hv with rfl | rfl | rfl <;> rfl) fun wz Gz Hkz => ?_
          exact key wz ra rb rc mv ba bk (ER.new Gz (fun i hi hk => by omega))
        · conv => whnf
          refine Blk.all Hk (by kernel_rfl) (by first | decide | simp) rfl rfl (by intro v hv; simp at hv; rcases hv with rfl | rfl | rfl <;> rfl) fun wz Gz Hkz => ?_
          conv => whnf
          exact key wz ra rb rc mv ba bk (ER.new Gz (fun i hi hk => by omega))
      · conv => whnf
        refine VX.made (n := 10) Try.underlying27 eInt rfl (by omega) (by omega) fun rc w135 E135 Hrc _ => ?_
        replace EE := EE.ext E135
        replace EL1 := EL1.ext E135
        replace EL2 := EL2.ext E135
        replace ER := ER.ext E135
        replace EL3 := EL3.ext E135
        replace Hk := Hk.ext E135
        replace Hra := Hra.ext E135
        replace Hrc := OI.made (Hrc 0 (Nat.zero_le _))
        conv => whnf
        refine VX.made (n := 10) Try.underlying27 eInt rfl (by omega) (by omega) fun rb w136 E136 Hrb _ => ?_
        replace EE := EE.ext E136
        replace EL1 := EL1.ext E136
        replace EL2 := EL2.ext E136
        replace ER := ER.ext E136
        replace EL3 := EL3.ext E136
        replace Hk := Hk.ext E136
        replace Hra := Hra.ext E136
        replace Hrc := Hrc.ext E136
        replace Hrb := OI.made (Hrb 0 (Nat.zero_le _))
        conv => whnf
        refine VX.litV [ra, rb, rc] Try.underlying22 eRow (by intro v hv; simp at hv; rcases hv with rfl | rfl | rfl <;> first | rfl | exact (Sl.cells (Own.sl Hra)).1 | exact (Sl.cells (Own.sl Hrb)).1 | exact (Sl.cells (Own.sl Hrc)).1) (by simp) fun mv w137 E137 HR _ => ?_
        replace EE := EE.ext E137
        replace EL1 := EL1.ext E137
        replace EL2 := EL2.ext E137
        replace ER := ER.ext E137
        replace EL3 := EL3.ext E137
        replace Hk := Hk.ext E137
        replace Hra := Hra.ext E137
        replace Hrc := Hrc.ext E137
        replace Hrb := Hrb.ext E137
        replace HR : OM 0 w137 mv [ra, rb, rc] [List.replicate 10 0, List.replicate 10 0, List.replicate 10 0] := by
          refine ⟨HR _ (Nat.zero_le _), fun i hi => ?_⟩
          match i, hi with
          | 0, _ => exact Hra
          | 1, _ => exact Hrb
          | 2, _ => exact Hrc
        conv => whnf
        refine VS.field1 Try.underlying24 eGoods (by kernel_rfl) rfl (Sl.cells (Own.sl HR.top)).1 ?_
        conv => whnf
        refine VCX.rc (nbest_rc HR.mat) ?_
        rintro _ w138 E138 ⟨ba, rfl, HBA⟩
        replace EE := EE.ext E138
        replace EL1 := EL1.ext E138
        replace EL2 := EL2.ext E138
        replace ER := ER.ext E138
        replace EL3 := EL3.ext E138
        replace Hk := Hk.ext E138
        replace Hra := Hra.ext E138
        replace Hrc := Hrc.ext E138
        replace Hrb := Hrb.ext E138
        replace HR := HR.ext E138
        rw [e3P, e3E]
        conv => whnf
        refine ⟨?_, ?_⟩
        · conv => whnf
          conv => whnf
          refine Blk.all Hk (by kernel_rfl) (by first | decide | simp) rfl rfl (by intro v hv; simp at hv; rcases hv with rfl | rfl | rfl <;> rfl) fun wz Gz Hkz => ?_
          exact key wz ra rb rc mv ba bk (ER.new Gz (fun i hi hk => by omega))
        · conv => whnf
          refine Blk.all Hk (by kernel_rfl) (by first | decide | simp) rfl rfl (by intro v hv; simp at hv; rcases hv with rfl | rfl | rfl <;> rfl) fun wz Gz Hkz => ?_
          conv => whnf
          exact key wz ra rb rc mv ba bk (ER.new Gz (fun i hi hk => by omega))
    · conv => whnf
      refine VX.made (n := 10) Try.underlying27 eInt rfl (by omega) (by omega) fun rb w139 E139 Hrb _ => ?_
      replace EE := EE.ext E139
      replace EL1 := EL1.ext E139
      replace EL2 := EL2.ext E139
      replace ER := ER.ext E139
      replace EL3 := EL3.ext E139
      replace Hk := Hk.ext E139
      replace Hrb := OI.made (Hrb 0 (Nat.zero_le _))
      conv => whnf
      refine ⟨?_, ?_⟩
      · conv => whnf
        refine VX.made (n := 10) Try.underlying27 eInt rfl (by omega) (by omega) fun ra w140 E140 Hra _ => ?_
        replace EE := EE.ext E140
        replace EL1 := EL1.ext E140
        replace EL2 := EL2.ext E140
        replace ER := ER.ext E140
        replace EL3 := EL3.ext E140
        replace Hk := Hk.ext E140
        replace Hrb := Hrb.ext E140
        replace Hra := OI.made (Hra 0 (Nat.zero_le _))
        conv => whnf
        refine VX.made (n := 10) Try.underlying27 eInt rfl (by omega) (by omega) fun rc w141 E141 Hrc _ => ?_
        replace EE := EE.ext E141
        replace EL1 := EL1.ext E141
        replace EL2 := EL2.ext E141
        replace ER := ER.ext E141
        replace EL3 := EL3.ext E141
        replace Hk := Hk.ext E141
        replace Hrb := Hrb.ext E141
        replace Hra := Hra.ext E141
        replace Hrc := OI.made (Hrc 0 (Nat.zero_le _))
        conv => whnf
        refine VX.litV [ra, rb, rc] Try.underlying22 eRow (by intro v hv; simp at hv; rcases hv with rfl | rfl | rfl <;> first | rfl | exact (Sl.cells (Own.sl Hra)).1 | exact (Sl.cells (Own.sl Hrb)).1 | exact (Sl.cells (Own.sl Hrc)).1) (by simp) fun mv w142 E142 HR _ => ?_
        replace EE := EE.ext E142
        replace EL1 := EL1.ext E142
        replace EL2 := EL2.ext E142
        replace ER := ER.ext E142
        replace EL3 := EL3.ext E142
        replace Hk := Hk.ext E142
        replace Hrb := Hrb.ext E142
        replace Hra := Hra.ext E142
        replace Hrc := Hrc.ext E142
        replace HR : OM 0 w142 mv [ra, rb, rc] [List.replicate 10 0, List.replicate 10 0, List.replicate 10 0] := by
          refine ⟨HR _ (Nat.zero_le _), fun i hi => ?_⟩
          match i, hi with
          | 0, _ => exact Hra
          | 1, _ => exact Hrb
          | 2, _ => exact Hrc
        conv => whnf
        refine VS.field1 Try.underlying24 eGoods (by kernel_rfl) rfl (Sl.cells (Own.sl HR.top)).1 ?_
        conv => whnf
        refine VCX.rc (nbest_rc HR.mat) ?_
        rintro _ w143 E143 ⟨ba, rfl, HBA⟩
        replace EE := EE.ext E143
        replace EL1 := EL1.ext E143
        replace EL2 := EL2.ext E143
        replace ER := ER.ext E143
        replace EL3 := EL3.ext E143
        replace Hk := Hk.ext E143
        replace Hrb := Hrb.ext E143
        replace Hra := Hra.ext E143
        replace Hrc := Hrc.ext E143
        replace HR := HR.ext E143
        rw [e3P, e3E]
        conv => whnf
        refine ⟨?_, ?_⟩
        · conv => whnf
          conv => whnf
          refine Blk.all Hk (by kernel_rfl) (by first | decide | simp) rfl rfl (by intro v hv; simp at hv; rcases hv with rfl | rfl | rfl <;> rfl) fun wz Gz Hkz => ?_
          exact key wz ra rb rc mv ba bk (ER.new Gz (fun i hi hk => by omega))
        · conv => whnf
          refine Blk.all Hk (by kernel_rfl) (by first | decide | simp) rfl rfl (by intro v hv; simp at hv; rcases hv with rfl | rfl | rfl <;> rfl) fun wz Gz Hkz => ?_
          conv => whnf
          exact key wz ra rb rc mv ba bk (ER.new Gz (fun i hi hk => by omega))
      · conv => whnf
        refine VX.made (n := 10) Try.underlying27 eInt rfl (by omega) (by omega) fun rc w144 E144 Hrc _ => ?_
        replace EE := EE.ext E144
        replace EL1 := EL1.ext E144
        replace EL2 := EL2.ext E144
        replace ER := ER.ext E144
        replace EL3 := EL3.ext E144
        replace Hk := Hk.ext E144
        replace Hrb := Hrb.ext E144
        replace Hrc := OI.made (Hrc 0 (Nat.zero_le _))
        conv => whnf
        refine VX.made (n := 10) Try.underlying27 eInt rfl (by omega) (by omega) fun ra w145 E145 Hra _ => ?_
        replace EE := EE.ext E145
        replace EL1 := EL1.ext E145
        replace EL2 := EL2.ext E145
        replace ER := ER.ext E145
        replace EL3 := EL3.ext E145
        replace Hk := Hk.ext E145
        replace Hrb := Hrb.ext E145
        replace Hrc := Hrc.ext E145
        replace Hra := OI.made (Hra 0 (Nat.zero_le _))
        conv => whnf
        refine VX.litV [ra, rb, rc] Try.underlying22 eRow (by intro v hv; simp at hv; rcases hv with rfl | rfl | rfl <;> first | rfl | exact (Sl.cells (Own.sl Hra)).1 | exact (Sl.cells (Own.sl Hrb)).1 | exact (Sl.cells (Own.sl Hrc)).1) (by simp) fun mv w146 E146 HR _ => ?_
        replace EE := EE.ext E146
        replace EL1 := EL1.ext E146
        replace EL2 := EL2.ext E146
        replace ER := ER.ext E146
        replace EL3 := EL3.ext E146
        replace Hk := Hk.ext E146
        replace Hrb := Hrb.ext E146
        replace Hrc := Hrc.ext E146
        replace Hra := Hra.ext E146
        replace HR : OM 0 w146 mv [ra, rb, rc] [List.replicate 10 0, List.replicate 10 0, List.replicate 10 0] := by
          refine ⟨HR _ (Nat.zero_le _), fun i hi => ?_⟩
          match i, hi with
          | 0, _ => exact Hra
          | 1, _ => exact Hrb
          | 2, _ => exact Hrc
        conv => whnf
        refine VS.field1 Try.underlying24 eGoods (by kernel_rfl) rfl (Sl.cells (Own.sl HR.top)).1 ?_
        conv => whnf
        refine VCX.rc (nbest_rc HR.mat) ?_
        rintro _ w147 E147 ⟨ba, rfl, HBA⟩
        replace EE := EE.ext E147
        replace EL1 := EL1.ext E147
        replace EL2 := EL2.ext E147
        replace ER := ER.ext E147
        replace EL3 := EL3.ext E147
        replace Hk := Hk.ext E147
        replace Hrb := Hrb.ext E147
        replace Hrc := Hrc.ext E147
        replace Hra := Hra.ext E147
        replace HR := HR.ext E147
        rw [e3P, e3E]
        conv => whnf
        refine ⟨?_, ?_⟩
        · conv => whnf
          conv => whnf
          refine Blk.all Hk (by kernel_rfl) (by first | decide | simp) rfl rfl (by intro v hv; simp at hv; rcases hv with rfl | rfl | rfl <;> rfl) fun wz Gz Hkz => ?_
          exact key wz ra rb rc mv ba bk (ER.new Gz (fun i hi hk => by omega))
        · conv => whnf
          refine Blk.all Hk (by kernel_rfl) (by first | decide | simp) rfl rfl (by intro v hv; simp at hv; rcases hv with rfl | rfl | rfl <;> rfl) fun wz Gz Hkz => ?_
          conv => whnf
          exact key wz ra rb rc mv ba bk (ER.new Gz (fun i hi hk => by omega))
    · conv => whnf
      refine VX.made (n := 10) Try.underlying27 eInt rfl (by omega) (by omega) fun rc w148 E148 Hrc _ => ?_
      replace EE := EE.ext E148
      replace EL1 := EL1.ext E148
      replace EL2 := EL2.ext E148
      replace ER := ER.ext E148
      replace EL3 := EL3.ext E148
      replace Hk := Hk.ext E148
      replace Hrc := OI.made (Hrc 0 (Nat.zero_le _))
      conv => whnf
      refine ⟨?_, ?_⟩
      · conv => whnf
        refine VX.made (n := 10) Try.underlying27 eInt rfl (by omega) (by omega) fun ra w149 E149 Hra _ => ?_
        replace EE := EE.ext E149
        replace EL1 := EL1.ext E149
        replace EL2 := EL2.ext E149
        replace ER := ER.ext E149
        replace EL3 := EL3.ext E149
        replace Hk := Hk.ext E149
        replace Hrc := Hrc.ext E149
        replace Hra := OI.made (Hra 0 (Nat.zero_le _))
        conv => whnf
        refine VX.made (n := 10) Try.underlying27 eInt rfl (by omega) (by omega) fun rb w150 E150 Hrb _ => ?_
        replace EE := EE.ext E150
        replace EL1 := EL1.ext E150
        replace EL2 := EL2.ext E150
        replace ER := ER.ext E150
        replace EL3 := EL3.ext E150
        replace Hk := Hk.ext E150
        replace Hrc := Hrc.ext E150
        replace Hra := Hra.ext E150
        replace Hrb := OI.made (Hrb 0 (Nat.zero_le _))
        conv => whnf
        refine VX.litV [ra, rb, rc] Try.underlying22 eRow (by intro v hv; simp at hv; rcases hv with rfl | rfl | rfl <;> first | rfl | exact (Sl.cells (Own.sl Hra)).1 | exact (Sl.cells (Own.sl Hrb)).1 | exact (Sl.cells (Own.sl Hrc)).1) (by simp) fun mv w151 E151 HR _ => ?_
        replace EE := EE.ext E151
        replace EL1 := EL1.ext E151
        replace EL2 := EL2.ext E151
        replace ER := ER.ext E151
        replace EL3 := EL3.ext E151
        replace Hk := Hk.ext E151
        replace Hrc := Hrc.ext E151
        replace Hra := Hra.ext E151
        replace Hrb := Hrb.ext E151
        replace HR : OM 0 w151 mv [ra, rb, rc] [List.replicate 10 0, List.replicate 10 0, List.replicate 10 0] := by
          refine ⟨HR _ (Nat.zero_le _), fun i hi => ?_⟩
          match i, hi with
          | 0, _ => exact Hra
          | 1, _ => exact Hrb
          | 2, _ => exact Hrc
        conv => whnf
        refine VS.field1 Try.underlying24 eGoods (by kernel_rfl) rfl (Sl.cells (Own.sl HR.top)).1 ?_
        conv => whnf
        refine VCX.rc (nbest_rc HR.mat) ?_
        rintro _ w152 E152 ⟨ba, rfl, HBA⟩
        replace EE := EE.ext E152
        replace EL1 := EL1.ext E152
        replace EL2 := EL2.ext E152
        replace ER := ER.ext E152
        replace EL3 := EL3.ext E152
        replace Hk := Hk.ext E152
        replace Hrc := Hrc.ext E152
        replace Hra := Hra.ext E152
        replace Hrb := Hrb.ext E152
        replace HR := HR.ext E152
        rw [e3P, e3E]
        conv => whnf
        refine ⟨?_, ?_⟩
        · conv => whnf
          conv => whnf
          refine Blk.all Hk (by kernel_rfl) (by first | decide | simp) rfl rfl (by intro v hv; simp at hv; rcases hv with rfl | rfl | rfl <;> rfl) fun wz Gz Hkz => ?_
          exact key wz ra rb rc mv ba bk (ER.new Gz (fun i hi hk => by omega))
        · conv => whnf
          refine Blk.all Hk (by kernel_rfl) (by first | decide | simp) rfl rfl (by intro v hv; simp at hv; rcases hv with rfl | rfl | rfl <;> rfl) fun wz Gz Hkz => ?_
          conv => whnf
          exact key wz ra rb rc mv ba bk (ER.new Gz (fun i hi hk => by omega))
      · conv => whnf
        refine VX.made (n := 10) Try.underlying27 eInt rfl (by omega) (by omega) fun rb w153 E153 Hrb _ => ?_
        replace EE := EE.ext E153
        replace EL1 := EL1.ext E153
        replace EL2 := EL2.ext E153
        replace ER := ER.ext E153
        replace EL3 := EL3.ext E153
        replace Hk := Hk.ext E153
        replace Hrc := Hrc.ext E153
        replace Hrb := OI.made (Hrb 0 (Nat.zero_le _))
        conv => whnf
        refine VX.made (n := 10) Try.underlying27 eInt rfl (by omega) (by omega) fun ra w154 E154 Hra _ => ?_
        replace EE := EE.ext E154
        replace EL1 := EL1.ext E154
        replace EL2 := EL2.ext E154
        replace ER := ER.ext E154
        replace EL3 := EL3.ext E154
        replace Hk := Hk.ext E154
        replace Hrc := Hrc.ext E154
        replace Hrb := Hrb.ext E154
        replace Hra := OI.made (Hra 0 (Nat.zero_le _))
        conv => whnf
        refine VX.litV [ra, rb, rc] Try.underlying22 eRow (by intro v hv; simp at hv; rcases hv with rfl | rfl | rfl <;> first | rfl | exact (Sl.cells (Own.sl Hra)).1 | exact (Sl.cells (Own.sl Hrb)).1 | exact (Sl.cells (Own.sl Hrc)).1) (by simp) fun mv w155 E155 HR _ => ?_
        replace EE := EE.ext E155
        replace EL1 := EL1.ext E155
        replace EL2 := EL2.ext E155
        replace ER := ER.ext E155
        replace EL3 := EL3.ext E155
        replace Hk := Hk.ext E155
        replace Hrc := Hrc.ext E155
        replace Hrb := Hrb.ext E155
        replace Hra := Hra.ext E155
        replace HR : OM 0 w155 mv [ra, rb, rc] [List.replicate 10 0, List.replicate 10 0, List.replicate 10 0] := by
          refine ⟨HR _ (Nat.zero_le _), fun i hi => ?_⟩
          match i, hi with
          | 0, _ => exact Hra
          | 1, _ => exact Hrb
          | 2, _ => exact Hrc
        conv => whnf
        refine VS.field1 Try.underlying24 eGoods (by kernel_rfl) rfl (Sl.cells (Own.sl HR.top)).1 ?_
        conv => whnf
        refine VCX.rc (nbest_rc HR.mat) ?_
        rintro _ w156 E156 ⟨ba, rfl, HBA⟩
        replace EE := EE.ext E156
        replace EL1 := EL1.ext E156
        replace EL2 := EL2.ext E156
        replace ER := ER.ext E156
        replace EL3 := EL3.ext E156
        replace Hk := Hk.ext E156
        replace Hrc := Hrc.ext E156
        replace Hrb := Hrb.ext E156
        replace Hra := Hra.ext E156
        replace HR := HR.ext E156
        rw [e3P, e3E]
        conv => whnf
        refine ⟨?_, ?_⟩
        · conv => whnf
          conv => whnf
          refine Blk.all Hk (by kernel_rfl) (by first | decide | simp) rfl rfl (by intro v hv; simp at hv; rcases hv with rfl | rfl | rfl <;> rfl) fun wz Gz Hkz => ?_
          exact key wz ra rb rc mv ba bk (ER.new Gz (fun i hi hk => by omega))
        · conv => whnf
          refine Blk.all Hk (by kernel_rfl) (by first | decide | simp) rfl rfl (by intro v hv; simp at hv; rcases hv with rfl | rfl | rfl <;> rfl) fun wz Gz Hkz => ?_
          conv => whnf
          exact key wz ra rb rc mv ba bk (ER.new Gz (fun i hi hk => by omega))
  intro wz ra rb rc mv ba bk Ez
  replace EE := EE.ext Ez
  replace EL1 := EL1.ext Ez
  replace EL2 := EL2.ext Ez
  replace ER := ER.ext Ez
  repeat' (conv => whnf
           first
           | (refine Dr.quiet tyOk (by kernel_rfl) ?_)
           | (refine Rng.mk (by omega) ?_)
           | (refine Split.pos (by omega) ?_)
           | (refine Split.neg (by omega) ?_)
           | (refine Split.mk (fun h => ?_) (fun h => ?_))
           | (refine Need.mk (by omega) ?_)
           | (refine Ints.ln (by assumption) ?_)
           | (refine Mat.ln (by assumption) ?_)
           | (refine Ints.ln (Mat.row (by assumption) _ (by omega)) ?_)
           | (refine Ints.ix (by assumption) (by omega) ?_)
           | (refine Mat.ix (by assumption) (by omega) ?_)
           | (refine Ints.ix (Mat.row (by assumption) _ (by omega)) (by omega) ?_)
           | (refine Ints.ix (c := 0) (by assumption) (by omega) ?_)
           | (refine Mat.ix (c := 0) (by assumption) (by omega) ?_)
           | (refine Ints.ix (c := 0) (Mat.row (by assumption) _ (by omega)) (by omega) ?_)
           | (refine Ints.ixI (by assumption) (by omega) ?_)
           | (refine Mat.ixI (by assumption) (by omega) ?_)
           | (refine Ints.ixI (Mat.row (by assumption) _ (by omega)) (by omega) ?_)
           | (refine Ints.ld (by assumption) (by omega) ?_)
           | (refine Mat.ld (by assumption) (by omega) ?_)
           | (refine Ints.ld (Mat.row (by assumption) _ (by omega)) (by omega) ?_)
           | (refine At.ld (by assumption) rfl ?_)
           | (refine At.ldN (by assumption) rfl ?_)
           | (refine Prs.ln (by assumption) ?_)
           | (refine Trs.ln (by assumption) ?_)
           | (refine Prs.ix (by assumption) (by omega) ?_)
           | (refine Trs.ix (by assumption) (by omega) ?_)
           | (refine Prs.ldN (by assumption) (by omega) ?_)
           | (refine Trs.ldN (by assumption) (by omega) ?_)
           | (refine At.ldN (Blk.at (by assumption)) rfl ?_)
           | (refine At.ld (Blk.at (by assumption)) rfl ?_)
           | (refine IxA.mk (by omega) ?_)
           | (refine Sl.ln (Own.sl (by assumption)) ?_)
           | (refine Ints.ix (Own.sl (by assumption)) (by omega) ?_)
           | (refine Ints.ixI (Own.sl (by assumption)) (by omega) ?_)
           | (refine Ints.ld (Own.sl (by assumption)) (by omega) ?_))
  conv => whnf
  refine VE.litI [1001] Try.underlying27 eInt (by decide) fun tv_0 w301 E301 HT_0 _ => ?_
  replace HT_0 := HT_0 0 (Nat.zero_le _)
  replace EE := EE.ext E301
  replace EL1 := EL1.ext E301
  replace EL2 := EL2.ext E301
  conv => whnf
  refine VE.litV [tv_0] Try.underlying22 eRow (by intro v hv; simp at hv; rcases hv with rfl <;> first | exact (Sl.cells (Own.sl HT_0)).1) (by simp) fun tv w302 E302 HT _ => ?_
  replace EE := EE.ext E302
  replace EL1 := EL1.ext E302
  replace EL2 := EL2.ext E302
  replace HT_0 := HT_0.ext E302
  replace HT : OM 0 w302 tv [tv_0] [[1001]] := by
    refine ⟨HT _ (Nat.zero_le _), fun i hi => ?_⟩
    match i, hi with
    | 0, _ => exact HT_0
  conv => whnf
  refine VS.field1 Try.underlying24 eGoods (by kernel_rfl) rfl (Sl.cells (Own.sl HT.top)).1 ?_
  conv => whnf
  refine VC.rc (ngain_rc HT.mat) ?_
  rintro _ w303 E303 ⟨gv, rfl, HGV⟩
  replace EE := EE.ext E303
  replace EL1 := EL1.ext E303
  replace EL2 := EL2.ext E303
  replace HT := HT.ext E303
  rw [show nbE [[1001]] = 8 by decide +kernel]
  repeat' (conv => whnf
           first
           | (refine Dr.quiet tyOk (by kernel_rfl) ?_)
           | (refine Rng.mk (by omega) ?_)
           | (refine Split.pos (by omega) ?_)
           | (refine Split.neg (by omega) ?_)
           | (refine Split.mk (fun h => ?_) (fun h => ?_))
           | (refine Need.mk (by omega) ?_)
           | (refine Ints.ln (by assumption) ?_)
           | (refine Mat.ln (by assumption) ?_)
           | (refine Ints.ln (Mat.row (by assumption) _ (by omega)) ?_)
           | (refine Ints.ix (by assumption) (by omega) ?_)
           | (refine Mat.ix (by assumption) (by omega) ?_)
           | (refine Ints.ix (Mat.row (by assumption) _ (by omega)) (by omega) ?_)
           | (refine Ints.ix (c := 0) (by assumption) (by omega) ?_)
           | (refine Mat.ix (c := 0) (by assumption) (by omega) ?_)
           | (refine Ints.ix (c := 0) (Mat.row (by assumption) _ (by omega)) (by omega) ?_)
           | (refine Ints.ixI (by assumption) (by omega) ?_)
           | (refine Mat.ixI (by assumption) (by omega) ?_)
           | (refine Ints.ixI (Mat.row (by assumption) _ (by omega)) (by omega) ?_)
           | (refine Ints.ld (by assumption) (by omega) ?_)
           | (refine Mat.ld (by assumption) (by omega) ?_)
           | (refine Ints.ld (Mat.row (by assumption) _ (by omega)) (by omega) ?_)
           | (refine At.ld (by assumption) rfl ?_)
           | (refine At.ldN (by assumption) rfl ?_)
           | (refine Prs.ln (by assumption) ?_)
           | (refine Trs.ln (by assumption) ?_)
           | (refine Prs.ix (by assumption) (by omega) ?_)
           | (refine Trs.ix (by assumption) (by omega) ?_)
           | (refine Prs.ldN (by assumption) (by omega) ?_)
           | (refine Trs.ldN (by assumption) (by omega) ?_)
           | (refine At.ldN (Blk.at (by assumption)) rfl ?_)
           | (refine At.ld (Blk.at (by assumption)) rfl ?_)
           | (refine IxA.mk (by omega) ?_)
           | (refine Sl.ln (Own.sl (by assumption)) ?_)
           | (refine Ints.ix (Own.sl (by assumption)) (by omega) ?_)
           | (refine Ints.ixI (Own.sl (by assumption)) (by omega) ?_)
           | (refine Ints.ld (Own.sl (by assumption)) (by omega) ?_))
  conv => whnf
  refine VC.rc (given21_rc) ?_
  rintro _ w304 E304 ⟨g1, _, rfl, HG1⟩
  replace EE := EE.ext E304
  replace EL1 := EL1.ext E304
  replace EL2 := EL2.ext E304
  conv => whnf
  refine VE.litI [0] Try.underlying27 eInt (by decide) fun l1 w305 E305 H1 _ => ?_
  replace H1 := H1 0 (Nat.zero_le _)
  replace EE := EE.ext E305
  replace EL1 := EL1.ext E305
  replace EL2 := EL2.ext E305
  replace HG1 := HG1.ext E305
  have v1 : vld gvn [0] = 8 := (vld_eq _ _).trans (by decide +kernel)
  have co := nof_pc HG1.mat (Own.sl H1)
  rw [nofP, if_neg (by rw [v1]; decide), v1] at co
  conv => whnf
  refine VC.pure co ?_
  repeat' (conv => whnf
           first
           | (refine Dr.quiet tyOk (by kernel_rfl) ?_)
           | (refine Rng.mk (by omega) ?_)
           | (refine Split.pos (by omega) ?_)
           | (refine Split.neg (by omega) ?_)
           | (refine Split.mk (fun h => ?_) (fun h => ?_))
           | (refine Need.mk (by omega) ?_)
           | (refine Ints.ln (by assumption) ?_)
           | (refine Mat.ln (by assumption) ?_)
           | (refine Ints.ln (Mat.row (by assumption) _ (by omega)) ?_)
           | (refine Ints.ix (by assumption) (by omega) ?_)
           | (refine Mat.ix (by assumption) (by omega) ?_)
           | (refine Ints.ix (Mat.row (by assumption) _ (by omega)) (by omega) ?_)
           | (refine Ints.ix (c := 0) (by assumption) (by omega) ?_)
           | (refine Mat.ix (c := 0) (by assumption) (by omega) ?_)
           | (refine Ints.ix (c := 0) (Mat.row (by assumption) _ (by omega)) (by omega) ?_)
           | (refine Ints.ixI (by assumption) (by omega) ?_)
           | (refine Mat.ixI (by assumption) (by omega) ?_)
           | (refine Ints.ixI (Mat.row (by assumption) _ (by omega)) (by omega) ?_)
           | (refine Ints.ld (by assumption) (by omega) ?_)
           | (refine Mat.ld (by assumption) (by omega) ?_)
           | (refine Ints.ld (Mat.row (by assumption) _ (by omega)) (by omega) ?_)
           | (refine At.ld (by assumption) rfl ?_)
           | (refine At.ldN (by assumption) rfl ?_)
           | (refine Prs.ln (by assumption) ?_)
           | (refine Trs.ln (by assumption) ?_)
           | (refine Prs.ix (by assumption) (by omega) ?_)
           | (refine Trs.ix (by assumption) (by omega) ?_)
           | (refine Prs.ldN (by assumption) (by omega) ?_)
           | (refine Trs.ldN (by assumption) (by omega) ?_)
           | (refine At.ldN (Blk.at (by assumption)) rfl ?_)
           | (refine At.ld (Blk.at (by assumption)) rfl ?_)
           | (refine IxA.mk (by omega) ?_)
           | (refine Sl.ln (Own.sl (by assumption)) ?_)
           | (refine Ints.ix (Own.sl (by assumption)) (by omega) ?_)
           | (refine Ints.ixI (Own.sl (by assumption)) (by omega) ?_)
           | (refine Ints.ld (Own.sl (by assumption)) (by omega) ?_))
  have EE__3 := EE
  have EL1__3 := EL1
  have EL2__3 := EL2
  have HG1__3 := HG1
  have H1__3 := H1
  conv => whnf
  refine VE.alloc eProd fun p3 w306 E306 hb_p3 Hp3 => ?_
  replace EE := EE.ext E306
  replace EL1 := EL1.ext E306
  replace EL2 := EL2.ext E306
  replace HG1 := HG1.ext E306
  replace H1 := H1.ext E306
  have EL3 := E306
  repeat' (conv => whnf
           first
           | (refine Dr.quiet tyOk (by kernel_rfl) ?_)
           | (refine Rng.mk (by omega) ?_)
           | (refine Split.pos (by omega) ?_)
           | (refine Split.neg (by omega) ?_)
           | (refine Split.mk (fun h => ?_) (fun h => ?_))
           | (refine Need.mk (by omega) ?_)
           | (refine Ints.ln (by assumption) ?_)
           | (refine Mat.ln (by assumption) ?_)
           | (refine Ints.ln (Mat.row (by assumption) _ (by omega)) ?_)
           | (refine Ints.ix (by assumption) (by omega) ?_)
           | (refine Mat.ix (by assumption) (by omega) ?_)
           | (refine Ints.ix (Mat.row (by assumption) _ (by omega)) (by omega) ?_)
           | (refine Ints.ix (c := 0) (by assumption) (by omega) ?_)
           | (refine Mat.ix (c := 0) (by assumption) (by omega) ?_)
           | (refine Ints.ix (c := 0) (Mat.row (by assumption) _ (by omega)) (by omega) ?_)
           | (refine Ints.ixI (by assumption) (by omega) ?_)
           | (refine Mat.ixI (by assumption) (by omega) ?_)
           | (refine Ints.ixI (Mat.row (by assumption) _ (by omega)) (by omega) ?_)
           | (refine Ints.ld (by assumption) (by omega) ?_)
           | (refine Mat.ld (by assumption) (by omega) ?_)
           | (refine Ints.ld (Mat.row (by assumption) _ (by omega)) (by omega) ?_)
           | (refine At.ld (by assumption) rfl ?_)
           | (refine At.ldN (by assumption) rfl ?_)
           | (refine Prs.ln (by assumption) ?_)
           | (refine Trs.ln (by assumption) ?_)
           | (refine Prs.ix (by assumption) (by omega) ?_)
           | (refine Trs.ix (by assumption) (by omega) ?_)
           | (refine Prs.ldN (by assumption) (by omega) ?_)
           | (refine Trs.ldN (by assumption) (by omega) ?_)
           | (refine At.ldN (Blk.at (by assumption)) rfl ?_)
           | (refine At.ld (Blk.at (by assumption)) rfl ?_)
           | (refine IxA.mk (by omega) ?_)
           | (refine Sl.ln (Own.sl (by assumption)) ?_)
           | (refine Ints.ix (Own.sl (by assumption)) (by omega) ?_)
           | (refine Ints.ixI (Own.sl (by assumption)) (by omega) ?_)
           | (refine Ints.ld (Own.sl (by assumption)) (by omega) ?_))
  refine Blk.all Hp3 (by kernel_rfl) (by first | decide | simp) rfl rfl (by intro v hv; simp at hv; rcases hv with rfl | rfl | rfl | rfl | rfl <;> rfl) fun w307 G307 Hp3' => ?_
  have E307 : Ext w305 w307 := EL3.new G307 fun i hi hk => by omega
  replace Hp3 := Hp3'
  replace EE := EE__3.ext E307
  replace EL1 := EL1__3.ext E307
  replace EL2 := EL2__3.ext E307
  replace HG1 := HG1__3.ext E307
  replace H1 := H1__3.ext E307
  replace EL3 := E307
  repeat' (conv => whnf
           first
           | (refine Dr.quiet tyOk (by kernel_rfl) ?_)
           | (refine Rng.mk (by omega) ?_)
           | (refine Split.pos (by omega) ?_)
           | (refine Split.neg (by omega) ?_)
           | (refine Split.mk (fun h => ?_) (fun h => ?_))
           | (refine Need.mk (by omega) ?_)
           | (refine Ints.ln (by assumption) ?_)
           | (refine Mat.ln (by assumption) ?_)
           | (refine Ints.ln (Mat.row (by assumption) _ (by omega)) ?_)
           | (refine Ints.ix (by assumption) (by omega) ?_)
           | (refine Mat.ix (by assumption) (by omega) ?_)
           | (refine Ints.ix (Mat.row (by assumption) _ (by omega)) (by omega) ?_)
           | (refine Ints.ix (c := 0) (by assumption) (by omega) ?_)
           | (refine Mat.ix (c := 0) (by assumption) (by omega) ?_)
           | (refine Ints.ix (c := 0) (Mat.row (by assumption) _ (by omega)) (by omega) ?_)
           | (refine Ints.ixI (by assumption) (by omega) ?_)
           | (refine Mat.ixI (by assumption) (by omega) ?_)
           | (refine Ints.ixI (Mat.row (by assumption) _ (by omega)) (by omega) ?_)
           | (refine Ints.ld (by assumption) (by omega) ?_)
           | (refine Mat.ld (by assumption) (by omega) ?_)
           | (refine Ints.ld (Mat.row (by assumption) _ (by omega)) (by omega) ?_)
           | (refine At.ld (by assumption) rfl ?_)
           | (refine At.ldN (by assumption) rfl ?_)
           | (refine Prs.ln (by assumption) ?_)
           | (refine Trs.ln (by assumption) ?_)
           | (refine Prs.ix (by assumption) (by omega) ?_)
           | (refine Trs.ix (by assumption) (by omega) ?_)
           | (refine Prs.ldN (by assumption) (by omega) ?_)
           | (refine Trs.ldN (by assumption) (by omega) ?_)
           | (refine At.ldN (Blk.at (by assumption)) rfl ?_)
           | (refine At.ld (Blk.at (by assumption)) rfl ?_)
           | (refine IxA.mk (by omega) ?_)
           | (refine Sl.ln (Own.sl (by assumption)) ?_)
           | (refine Ints.ix (Own.sl (by assumption)) (by omega) ?_)
           | (refine Ints.ixI (Own.sl (by assumption)) (by omega) ?_)
           | (refine Ints.ld (Own.sl (by assumption)) (by omega) ?_))
  conv => whnf
  refine VE.made (n := 3) Try.underlying22 eRow rfl (by omega) (by omega) fun mv3 w308 E308 HG3 _ => ?_
  replace EE := EE.ext E308
  replace EL1 := EL1.ext E308
  replace EL2 := EL2.ext E308
  replace EL3 := EL3.ext E308
  replace HG3 := OM.made (HG3 0 (Nat.zero_le _))
  conv => whnf
  refine VS.field1 Try.underlying24 eGoods (by kernel_rfl) rfl (Sl.cells (Own.sl HG3.top)).1 ?_
  conv => whnf
  refine VC.rc (nbest_rc HG3.mat) ?_
  rintro _ w309 E309 ⟨xv, rfl, HX⟩
  replace EE := EE.ext E309
  replace EL1 := EL1.ext E309
  replace EL2 := EL2.ext E309
  replace EL3 := EL3.ext E309
  replace HG3 := HG3.ext E309
  rw [show nbA (List.replicate 3 []) = [] by decide +kernel] at HX
  rw [show nbP (List.replicate 3 []) = (0, 0, 1) by decide +kernel, show nbE (List.replicate 3 []) = 0 by decide +kernel]
  repeat' (conv => whnf
           first
           | (refine Dr.quiet tyOk (by kernel_rfl) ?_)
           | (refine Rng.mk (by omega) ?_)
           | (refine Split.pos (by omega) ?_)
           | (refine Split.neg (by omega) ?_)
           | (refine Split.mk (fun h => ?_) (fun h => ?_))
           | (refine Need.mk (by omega) ?_)
           | (refine Ints.ln (by assumption) ?_)
           | (refine Mat.ln (by assumption) ?_)
           | (refine Ints.ln (Mat.row (by assumption) _ (by omega)) ?_)
           | (refine Ints.ix (by assumption) (by omega) ?_)
           | (refine Mat.ix (by assumption) (by omega) ?_)
           | (refine Ints.ix (Mat.row (by assumption) _ (by omega)) (by omega) ?_)
           | (refine Ints.ix (c := 0) (by assumption) (by omega) ?_)
           | (refine Mat.ix (c := 0) (by assumption) (by omega) ?_)
           | (refine Ints.ix (c := 0) (Mat.row (by assumption) _ (by omega)) (by omega) ?_)
           | (refine Ints.ixI (by assumption) (by omega) ?_)
           | (refine Mat.ixI (by assumption) (by omega) ?_)
           | (refine Ints.ixI (Mat.row (by assumption) _ (by omega)) (by omega) ?_)
           | (refine Ints.ld (by assumption) (by omega) ?_)
           | (refine Mat.ld (by assumption) (by omega) ?_)
           | (refine Ints.ld (Mat.row (by assumption) _ (by omega)) (by omega) ?_)
           | (refine At.ld (by assumption) rfl ?_)
           | (refine At.ldN (by assumption) rfl ?_)
           | (refine Prs.ln (by assumption) ?_)
           | (refine Trs.ln (by assumption) ?_)
           | (refine Prs.ix (by assumption) (by omega) ?_)
           | (refine Trs.ix (by assumption) (by omega) ?_)
           | (refine Prs.ldN (by assumption) (by omega) ?_)
           | (refine Trs.ldN (by assumption) (by omega) ?_)
           | (refine At.ldN (Blk.at (by assumption)) rfl ?_)
           | (refine At.ld (Blk.at (by assumption)) rfl ?_)
           | (refine IxA.mk (by omega) ?_)
           | (refine Sl.ln (Own.sl (by assumption)) ?_)
           | (refine Ints.ix (Own.sl (by assumption)) (by omega) ?_)
           | (refine Ints.ixI (Own.sl (by assumption)) (by omega) ?_)
           | (refine Ints.ld (Own.sl (by assumption)) (by omega) ?_))
  have EE__4 := EE
  have EL1__4 := EL1
  have EL2__4 := EL2
  have EL3__4 := EL3
  have HX__4 := HX
  conv => whnf
  refine VE.alloc eProd fun pp w310 E310 hb_pp Hpp => ?_
  replace EE := EE.ext E310
  replace EL1 := EL1.ext E310
  replace EL2 := EL2.ext E310
  replace EL3 := EL3.ext E310
  replace HX := HX.ext E310
  have EL4 := E310
  repeat' (conv => whnf
           first
           | (refine Dr.quiet tyOk (by kernel_rfl) ?_)
           | (refine Rng.mk (by omega) ?_)
           | (refine Split.pos (by omega) ?_)
           | (refine Split.neg (by omega) ?_)
           | (refine Split.mk (fun h => ?_) (fun h => ?_))
           | (refine Need.mk (by omega) ?_)
           | (refine Ints.ln (by assumption) ?_)
           | (refine Mat.ln (by assumption) ?_)
           | (refine Ints.ln (Mat.row (by assumption) _ (by omega)) ?_)
           | (refine Ints.ix (by assumption) (by omega) ?_)
           | (refine Mat.ix (by assumption) (by omega) ?_)
           | (refine Ints.ix (Mat.row (by assumption) _ (by omega)) (by omega) ?_)
           | (refine Ints.ix (c := 0) (by assumption) (by omega) ?_)
           | (refine Mat.ix (c := 0) (by assumption) (by omega) ?_)
           | (refine Ints.ix (c := 0) (Mat.row (by assumption) _ (by omega)) (by omega) ?_)
           | (refine Ints.ixI (by assumption) (by omega) ?_)
           | (refine Mat.ixI (by assumption) (by omega) ?_)
           | (refine Ints.ixI (Mat.row (by assumption) _ (by omega)) (by omega) ?_)
           | (refine Ints.ld (by assumption) (by omega) ?_)
           | (refine Mat.ld (by assumption) (by omega) ?_)
           | (refine Ints.ld (Mat.row (by assumption) _ (by omega)) (by omega) ?_)
           | (refine At.ld (by assumption) rfl ?_)
           | (refine At.ldN (by assumption) rfl ?_)
           | (refine Prs.ln (by assumption) ?_)
           | (refine Trs.ln (by assumption) ?_)
           | (refine Prs.ix (by assumption) (by omega) ?_)
           | (refine Trs.ix (by assumption) (by omega) ?_)
           | (refine Prs.ldN (by assumption) (by omega) ?_)
           | (refine Trs.ldN (by assumption) (by omega) ?_)
           | (refine At.ldN (Blk.at (by assumption)) rfl ?_)
           | (refine At.ld (Blk.at (by assumption)) rfl ?_)
           | (refine IxA.mk (by omega) ?_)
           | (refine Sl.ln (Own.sl (by assumption)) ?_)
           | (refine Ints.ix (Own.sl (by assumption)) (by omega) ?_)
           | (refine Ints.ixI (Own.sl (by assumption)) (by omega) ?_)
           | (refine Ints.ld (Own.sl (by assumption)) (by omega) ?_))
  refine Blk.all Hpp (by kernel_rfl) (by first | decide | simp) rfl rfl (by intro v hv; simp at hv; rcases hv with rfl | rfl | rfl | rfl | rfl <;> rfl) fun w311 G311 Hpp' => ?_
  have E311 : Ext w309 w311 := EL4.new G311 fun i hi hk => by omega
  replace Hpp := Hpp'
  replace EE := EE__4.ext E311
  replace EL1 := EL1__4.ext E311
  replace EL2 := EL2__4.ext E311
  replace EL3 := EL3__4.ext E311
  replace HX := HX__4.ext E311
  replace EL4 := E311
  repeat' (conv => whnf
           first
           | (refine Dr.quiet tyOk (by kernel_rfl) ?_)
           | (refine Rng.mk (by omega) ?_)
           | (refine Split.pos (by omega) ?_)
           | (refine Split.neg (by omega) ?_)
           | (refine Split.mk (fun h => ?_) (fun h => ?_))
           | (refine Need.mk (by omega) ?_)
           | (refine Ints.ln (by assumption) ?_)
           | (refine Mat.ln (by assumption) ?_)
           | (refine Ints.ln (Mat.row (by assumption) _ (by omega)) ?_)
           | (refine Ints.ix (by assumption) (by omega) ?_)
           | (refine Mat.ix (by assumption) (by omega) ?_)
           | (refine Ints.ix (Mat.row (by assumption) _ (by omega)) (by omega) ?_)
           | (refine Ints.ix (c := 0) (by assumption) (by omega) ?_)
           | (refine Mat.ix (c := 0) (by assumption) (by omega) ?_)
           | (refine Ints.ix (c := 0) (Mat.row (by assumption) _ (by omega)) (by omega) ?_)
           | (refine Ints.ixI (by assumption) (by omega) ?_)
           | (refine Mat.ixI (by assumption) (by omega) ?_)
           | (refine Ints.ixI (Mat.row (by assumption) _ (by omega)) (by omega) ?_)
           | (refine Ints.ld (by assumption) (by omega) ?_)
           | (refine Mat.ld (by assumption) (by omega) ?_)
           | (refine Ints.ld (Mat.row (by assumption) _ (by omega)) (by omega) ?_)
           | (refine At.ld (by assumption) rfl ?_)
           | (refine At.ldN (by assumption) rfl ?_)
           | (refine Prs.ln (by assumption) ?_)
           | (refine Trs.ln (by assumption) ?_)
           | (refine Prs.ix (by assumption) (by omega) ?_)
           | (refine Trs.ix (by assumption) (by omega) ?_)
           | (refine Prs.ldN (by assumption) (by omega) ?_)
           | (refine Trs.ldN (by assumption) (by omega) ?_)
           | (refine At.ldN (Blk.at (by assumption)) rfl ?_)
           | (refine At.ld (Blk.at (by assumption)) rfl ?_)
           | (refine IxA.mk (by omega) ?_)
           | (refine Sl.ln (Own.sl (by assumption)) ?_)
           | (refine Ints.ix (Own.sl (by assumption)) (by omega) ?_)
           | (refine Ints.ixI (Own.sl (by assumption)) (by omega) ?_)
           | (refine Ints.ld (Own.sl (by assumption)) (by omega) ?_))
  have EE__5 := EE
  have EL1__5 := EL1
  have EL2__5 := EL2
  have EL3__5 := EL3
  have HX__5 := HX
  have EL4__5 := EL4
  have Hpp__5 := Hpp
  conv => whnf
  refine VE.alloc eGoods fun sb w312 E312 hb_sb Hs => ?_
  replace EE := EE.ext E312
  replace EL1 := EL1.ext E312
  replace EL2 := EL2.ext E312
  replace EL3 := EL3.ext E312
  replace HX := HX.ext E312
  replace EL4 := EL4.ext E312
  replace Hpp := Hpp.ext E312
  have EL5 := E312
  have hs0 := Blk.lt Hs
  repeat' (conv => whnf
           first
           | (refine Dr.quiet tyOk (by kernel_rfl) ?_)
           | (refine Rng.mk (by omega) ?_)
           | (refine Split.pos (by omega) ?_)
           | (refine Split.neg (by omega) ?_)
           | (refine Split.mk (fun h => ?_) (fun h => ?_))
           | (refine Need.mk (by omega) ?_)
           | (refine Ints.ln (by assumption) ?_)
           | (refine Mat.ln (by assumption) ?_)
           | (refine Ints.ln (Mat.row (by assumption) _ (by omega)) ?_)
           | (refine Ints.ix (by assumption) (by omega) ?_)
           | (refine Mat.ix (by assumption) (by omega) ?_)
           | (refine Ints.ix (Mat.row (by assumption) _ (by omega)) (by omega) ?_)
           | (refine Ints.ix (c := 0) (by assumption) (by omega) ?_)
           | (refine Mat.ix (c := 0) (by assumption) (by omega) ?_)
           | (refine Ints.ix (c := 0) (Mat.row (by assumption) _ (by omega)) (by omega) ?_)
           | (refine Ints.ixI (by assumption) (by omega) ?_)
           | (refine Mat.ixI (by assumption) (by omega) ?_)
           | (refine Ints.ixI (Mat.row (by assumption) _ (by omega)) (by omega) ?_)
           | (refine Ints.ld (by assumption) (by omega) ?_)
           | (refine Mat.ld (by assumption) (by omega) ?_)
           | (refine Ints.ld (Mat.row (by assumption) _ (by omega)) (by omega) ?_)
           | (refine At.ld (by assumption) rfl ?_)
           | (refine At.ldN (by assumption) rfl ?_)
           | (refine Prs.ln (by assumption) ?_)
           | (refine Trs.ln (by assumption) ?_)
           | (refine Prs.ix (by assumption) (by omega) ?_)
           | (refine Trs.ix (by assumption) (by omega) ?_)
           | (refine Prs.ldN (by assumption) (by omega) ?_)
           | (refine Trs.ldN (by assumption) (by omega) ?_)
           | (refine At.ldN (Blk.at (by assumption)) rfl ?_)
           | (refine At.ld (Blk.at (by assumption)) rfl ?_)
           | (refine IxA.mk (by omega) ?_)
           | (refine Sl.ln (Own.sl (by assumption)) ?_)
           | (refine Ints.ix (Own.sl (by assumption)) (by omega) ?_)
           | (refine Ints.ixI (Own.sl (by assumption)) (by omega) ?_)
           | (refine Ints.ld (Own.sl (by assumption)) (by omega) ?_))
  obtain ⟨n1, hn1⟩ : ∃ n, n = w312.heap.size := ⟨_, rfl⟩
  have EE__6 := EE
  have EL1__6 := EL1
  have EL2__6 := EL2
  have EL3__6 := EL3
  have HX__6 := HX
  have EL4__6 := EL4
  have Hpp__6 := Hpp
  have EL5__6 := EL5
  have Hs__6 := Hs
  conv => whnf
  refine VE.made (n := 6) Try.underlying27 eInt rfl (by omega) (by omega) fun ov w313 E313 HO hb_ov => ?_
  replace EE := EE.ext E313
  replace EL1 := EL1.ext E313
  replace EL2 := EL2.ext E313
  replace EL3 := EL3.ext E313
  replace HX := HX.ext E313
  replace EL4 := EL4.ext E313
  replace Hpp := Hpp.ext E313
  replace EL5 := EL5.ext E313
  replace Hs := Hs.ext E313
  replace HO := OB.made (HO _ (Nat.le_refl _))
  have EL6 := E313
  obtain ⟨n2, hn2⟩ : ∃ n, n = w313.heap.size := ⟨_, rfl⟩
  have hov : ∀ q, ov.ownBlock = some q → n1 ≤ q ∧ q < n2 := fun q hq => by rw [hn1, hn2]; exact Own.lt HO q hq
  rw [← hn1] at HO
  rw [show List.replicate 6 (0 : Int) = ord6 0 by decide +kernel] at HO
  have hz0 : n1 ≤ n2 := by have := E313.size; omega
  repeat' (conv => whnf
           first
           | (refine Dr.quiet tyOk (by kernel_rfl) ?_)
           | (refine Rng.mk (by omega) ?_)
           | (refine Split.pos (by omega) ?_)
           | (refine Split.neg (by omega) ?_)
           | (refine Split.mk (fun h => ?_) (fun h => ?_))
           | (refine Need.mk (by omega) ?_)
           | (refine Ints.ln (by assumption) ?_)
           | (refine Mat.ln (by assumption) ?_)
           | (refine Ints.ln (Mat.row (by assumption) _ (by omega)) ?_)
           | (refine Ints.ix (by assumption) (by omega) ?_)
           | (refine Mat.ix (by assumption) (by omega) ?_)
           | (refine Ints.ix (Mat.row (by assumption) _ (by omega)) (by omega) ?_)
           | (refine Ints.ix (c := 0) (by assumption) (by omega) ?_)
           | (refine Mat.ix (c := 0) (by assumption) (by omega) ?_)
           | (refine Ints.ix (c := 0) (Mat.row (by assumption) _ (by omega)) (by omega) ?_)
           | (refine Ints.ixI (by assumption) (by omega) ?_)
           | (refine Mat.ixI (by assumption) (by omega) ?_)
           | (refine Ints.ixI (Mat.row (by assumption) _ (by omega)) (by omega) ?_)
           | (refine Ints.ld (by assumption) (by omega) ?_)
           | (refine Mat.ld (by assumption) (by omega) ?_)
           | (refine Ints.ld (Mat.row (by assumption) _ (by omega)) (by omega) ?_)
           | (refine At.ld (by assumption) rfl ?_)
           | (refine At.ldN (by assumption) rfl ?_)
           | (refine Prs.ln (by assumption) ?_)
           | (refine Trs.ln (by assumption) ?_)
           | (refine Prs.ix (by assumption) (by omega) ?_)
           | (refine Trs.ix (by assumption) (by omega) ?_)
           | (refine Prs.ldN (by assumption) (by omega) ?_)
           | (refine Trs.ldN (by assumption) (by omega) ?_)
           | (refine At.ldN (Blk.at (by assumption)) rfl ?_)
           | (refine At.ld (Blk.at (by assumption)) rfl ?_)
           | (refine IxA.mk (by omega) ?_)
           | (refine Sl.ln (Own.sl (by assumption)) ?_)
           | (refine Ints.ix (Own.sl (by assumption)) (by omega) ?_)
           | (refine Ints.ixI (Own.sl (by assumption)) (by omega) ?_)
           | (refine Ints.ld (Own.sl (by assumption)) (by omega) ?_))
  refine Lp.mk tyOk [false, false, false, false, false, false, false, false, false, false, false, false, false, false, false, false, false, false, false, true, true, false, false, false, false, false, false, false, false, false, false, false, false, false, false, false, false, false, false, false, false, false, false, false, false, false, false, false, false, false, false, false, false, false, false, false, false, false, false, false, false, false, false, false, false, false, false, false, false, false, false, false, false, false, true, true, true, true, true, true, true, true, true, true, true, true, true, true, true, true, true, true, true, true] (fun m fr wr => getK fr 19 fun i => ∃ c : Nat, c ≤ 6 ∧ m = 6 - c ∧ i = .int .i64 (c : Int) ∧ (OB n1 wr ov (ord6 c)) ∧ ((∃ sv us, Blk wr sb 24 [sv] ∧ FR n2 n2 wr sv us (r6 c))) ∧ (n2 ≤ wr.heap.size) ∧ Ext w311 wr) (6) ?_ ?_
  · exact ⟨0, Nat.zero_le _, rfl, rfl, HO, ⟨_, [], Hs, FR.nil⟩, (by omega), EL5⟩
  · intro m w314 u19 u20 u74 u75 u76 u77 u78 u79 u80 u81 u82 u83 u84 u85 u86 u87 u88 u89 u90 u91 u92 u93 hR
    obtain ⟨c, hc, rfl, rfl, HO, HY, hz, EL5⟩ := hR
    replace EE := EE__5.ext EL5
    replace EL1 := EL1__5.ext EL5
    replace EL2 := EL2__5.ext EL5
    replace EL3 := EL3__5.ext EL5
    replace HX := HX__5.ext EL5
    replace EL4 := EL4__5.ext EL5
    replace Hpp := Hpp__5.ext EL5
    obtain ⟨sv, us, HS, HF⟩ := HY
    have hol := ord6_len c
    by_cases hc6 : c < 6
    · obtain ⟨wc, hwc⟩ : ∃ wc, wc = w314 := ⟨_, rfl⟩
      have hrl := r6_len c
      have hfb : ∀ k, sv.ownBlock = some k → n2 ≤ k ∧ k < w314.heap.size := Own.lt HF.om.top
      repeat' (conv => whnf
               first
               | (refine Dr.quiet tyOk (by kernel_rfl) ?_)
               | (refine Rng.mk (by omega) ?_)
               | (refine Split.pos (by omega) ?_)
               | (refine Split.neg (by omega) ?_)
               | (refine Split.mk (fun h => ?_) (fun h => ?_))
               | (refine Need.mk (by omega) ?_)
               | (refine Ints.ln (by assumption) ?_)
               | (refine Mat.ln (by assumption) ?_)
               | (refine Ints.ln (Mat.row (by assumption) _ (by omega)) ?_)
               | (refine Ints.ix (by assumption) (by omega) ?_)
               | (refine Mat.ix (by assumption) (by omega) ?_)
               | (refine Ints.ix (Mat.row (by assumption) _ (by omega)) (by omega) ?_)
               | (refine Ints.ix (c := 0) (by assumption) (by omega) ?_)
               | (refine Mat.ix (c := 0) (by assumption) (by omega) ?_)
               | (refine Ints.ix (c := 0) (Mat.row (by assumption) _ (by omega)) (by omega) ?_)
               | (refine Ints.ixI (by assumption) (by omega) ?_)
               | (refine Mat.ixI (by assumption) (by omega) ?_)
               | (refine Ints.ixI (Mat.row (by assumption) _ (by omega)) (by omega) ?_)
               | (refine Ints.ld (by assumption) (by omega) ?_)
               | (refine Mat.ld (by assumption) (by omega) ?_)
               | (refine Ints.ld (Mat.row (by assumption) _ (by omega)) (by omega) ?_)
               | (refine At.ld (by assumption) rfl ?_)
               | (refine At.ldN (by assumption) rfl ?_)
               | (refine Prs.ln (by assumption) ?_)
               | (refine Trs.ln (by assumption) ?_)
               | (refine Prs.ix (by assumption) (by omega) ?_)
               | (refine Trs.ix (by assumption) (by omega) ?_)
               | (refine Prs.ldN (by assumption) (by omega) ?_)
               | (refine Trs.ldN (by assumption) (by omega) ?_)
               | (refine At.ldN (Blk.at (by assumption)) rfl ?_)
               | (refine At.ld (Blk.at (by assumption)) rfl ?_)
               | (refine IxA.mk (by omega) ?_)
               | (refine Sl.ln (Own.sl (by assumption)) ?_)
               | (refine Ints.ix (Own.sl (by assumption)) (by omega) ?_)
               | (refine Ints.ixI (Own.sl (by assumption)) (by omega) ?_)
               | (refine Ints.ld (Own.sl (by assumption)) (by omega) ?_))
      refine VE.made (n := 6) Try.underlying27 eInt rfl (by omega) (by omega) fun nv w400 E400 HN hbn => ?_
      have HN1 : OB n2 w400 nv (List.replicate 6 0) := OB.made (HN n2 hz)
      have hnl : (List.replicate 6 (0 : Int)).length = 6 := rfl
      have h400 := E400.size
      repeat' (conv => whnf
               first
               | (refine Dr.quiet tyOk (by kernel_rfl) ?_)
               | (refine Ints.ixI (Own.sl HN1) (by omega) ?_)
               | (refine Rng.mk (by omega) ?_)
               | (refine Split.pos (by omega) ?_)
               | (refine Split.neg (by omega) ?_)
               | (refine Split.mk (fun h => ?_) (fun h => ?_))
               | (refine Need.mk (by omega) ?_)
               | (refine Ints.ln (by assumption) ?_)
               | (refine Mat.ln (by assumption) ?_)
               | (refine Ints.ln (Mat.row (by assumption) _ (by omega)) ?_)
               | (refine Ints.ix (by assumption) (by omega) ?_)
               | (refine Mat.ix (by assumption) (by omega) ?_)
               | (refine Ints.ix (Mat.row (by assumption) _ (by omega)) (by omega) ?_)
               | (refine Ints.ix (c := 0) (by assumption) (by omega) ?_)
               | (refine Mat.ix (c := 0) (by assumption) (by omega) ?_)
               | (refine Ints.ix (c := 0) (Mat.row (by assumption) _ (by omega)) (by omega) ?_)
               | (refine Ints.ixI (by assumption) (by omega) ?_)
               | (refine Mat.ixI (by assumption) (by omega) ?_)
               | (refine Ints.ixI (Mat.row (by assumption) _ (by omega)) (by omega) ?_)
               | (refine Ints.ld (by assumption) (by omega) ?_)
               | (refine Mat.ld (by assumption) (by omega) ?_)
               | (refine Ints.ld (Mat.row (by assumption) _ (by omega)) (by omega) ?_)
               | (refine At.ld (by assumption) rfl ?_)
               | (refine At.ldN (by assumption) rfl ?_)
               | (refine Prs.ln (by assumption) ?_)
               | (refine Trs.ln (by assumption) ?_)
               | (refine Prs.ix (by assumption) (by omega) ?_)
               | (refine Trs.ix (by assumption) (by omega) ?_)
               | (refine Prs.ldN (by assumption) (by omega) ?_)
               | (refine Trs.ldN (by assumption) (by omega) ?_)
               | (refine At.ldN (Blk.at (by assumption)) rfl ?_)
               | (refine At.ld (Blk.at (by assumption)) rfl ?_)
               | (refine IxA.mk (by omega) ?_)
               | (refine Sl.ln (Own.sl (by assumption)) ?_)
               | (refine Ints.ix (Own.sl (by assumption)) (by omega) ?_)
               | (refine Ints.ixI (Own.sl (by assumption)) (by omega) ?_)
               | (refine Ints.ld (Own.sl (by assumption)) (by omega) ?_))
      refine OB.set HN1 (by omega) fun w401 G401 HN2 => ?_
      rw [show (5 - (c : Int)).toNat = 5 - c by omega] at HN2
      have E401 : Ext w314 w401 := E400.new G401 (fun i hi hk => by have := hbn i hk; omega)
      have HS1 := HS.ext E401
      have HF1 := HF.ext E401
      have HO1 := Own.ext HO E401
      repeat' (conv => whnf
               first
               | (refine Dr.quiet tyOk (by kernel_rfl) ?_)
               | (refine At.ld (Blk.at HS1) rfl ?_)
               | (refine Rng.mk (by omega) ?_)
               | (refine Split.pos (by omega) ?_)
               | (refine Split.neg (by omega) ?_)
               | (refine Split.mk (fun h => ?_) (fun h => ?_))
               | (refine Need.mk (by omega) ?_)
               | (refine Ints.ln (by assumption) ?_)
               | (refine Mat.ln (by assumption) ?_)
               | (refine Ints.ln (Mat.row (by assumption) _ (by omega)) ?_)
               | (refine Ints.ix (by assumption) (by omega) ?_)
               | (refine Mat.ix (by assumption) (by omega) ?_)
               | (refine Ints.ix (Mat.row (by assumption) _ (by omega)) (by omega) ?_)
               | (refine Ints.ix (c := 0) (by assumption) (by omega) ?_)
               | (refine Mat.ix (c := 0) (by assumption) (by omega) ?_)
               | (refine Ints.ix (c := 0) (Mat.row (by assumption) _ (by omega)) (by omega) ?_)
               | (refine Ints.ixI (by assumption) (by omega) ?_)
               | (refine Mat.ixI (by assumption) (by omega) ?_)
               | (refine Ints.ixI (Mat.row (by assumption) _ (by omega)) (by omega) ?_)
               | (refine Ints.ld (by assumption) (by omega) ?_)
               | (refine Mat.ld (by assumption) (by omega) ?_)
               | (refine Ints.ld (Mat.row (by assumption) _ (by omega)) (by omega) ?_)
               | (refine At.ld (by assumption) rfl ?_)
               | (refine At.ldN (by assumption) rfl ?_)
               | (refine Prs.ln (by assumption) ?_)
               | (refine Trs.ln (by assumption) ?_)
               | (refine Prs.ix (by assumption) (by omega) ?_)
               | (refine Trs.ix (by assumption) (by omega) ?_)
               | (refine Prs.ldN (by assumption) (by omega) ?_)
               | (refine Trs.ldN (by assumption) (by omega) ?_)
               | (refine At.ldN (Blk.at (by assumption)) rfl ?_)
               | (refine At.ld (Blk.at (by assumption)) rfl ?_)
               | (refine IxA.mk (by omega) ?_)
               | (refine Sl.ln (Own.sl (by assumption)) ?_)
               | (refine Ints.ix (Own.sl (by assumption)) (by omega) ?_)
               | (refine Ints.ixI (Own.sl (by assumption)) (by omega) ?_)
               | (refine Ints.ld (Own.sl (by assumption)) (by omega) ?_))
      refine VE.lit1 Try.underlying22 eRow (Sl.cells (Own.sl HN2)).1 fun lv w402 E402 Hl => ?_
      conv => whnf
      have hsz1 := G401.size
      have hsz2 := E402.size
      refine VE.append Try.underlying22 eRow rfl (by omega) (HF1.ext E402).om.top Hl (by intro u hu; simp only [List.mem_singleton] at hu; subst hu; exact (Sl.cells (Own.sl HN2)).2) (by omega) (by omega) (by omega) fun v8 w403 G403 H8 => ?_
      have HF3 := (HF1.ext E402).push (Own.ext HN2 E402) G403 H8
      have HS3 := (HS1.ext E402).gr G403 (fun h => by have := hfb _ h; omega)
      have HO3 : OB n1 w403 ov (ord6 c) := Own.gr (Own.ext HO1 E402) G403 (fun q hq hS => by have := hfb _ hS; have := hov q hq; omega)
      repeat' (conv => whnf
               first
               | (refine Dr.quiet tyOk (by kernel_rfl) ?_)
               | (refine Rng.mk (by omega) ?_)
               | (refine Split.pos (by omega) ?_)
               | (refine Split.neg (by omega) ?_)
               | (refine Split.mk (fun h => ?_) (fun h => ?_))
               | (refine Need.mk (by omega) ?_)
               | (refine Ints.ln (by assumption) ?_)
               | (refine Mat.ln (by assumption) ?_)
               | (refine Ints.ln (Mat.row (by assumption) _ (by omega)) ?_)
               | (refine Ints.ix (by assumption) (by omega) ?_)
               | (refine Mat.ix (by assumption) (by omega) ?_)
               | (refine Ints.ix (Mat.row (by assumption) _ (by omega)) (by omega) ?_)
               | (refine Ints.ix (c := 0) (by assumption) (by omega) ?_)
               | (refine Mat.ix (c := 0) (by assumption) (by omega) ?_)
               | (refine Ints.ix (c := 0) (Mat.row (by assumption) _ (by omega)) (by omega) ?_)
               | (refine Ints.ixI (by assumption) (by omega) ?_)
               | (refine Mat.ixI (by assumption) (by omega) ?_)
               | (refine Ints.ixI (Mat.row (by assumption) _ (by omega)) (by omega) ?_)
               | (refine Ints.ld (by assumption) (by omega) ?_)
               | (refine Mat.ld (by assumption) (by omega) ?_)
               | (refine Ints.ld (Mat.row (by assumption) _ (by omega)) (by omega) ?_)
               | (refine At.ld (by assumption) rfl ?_)
               | (refine At.ldN (by assumption) rfl ?_)
               | (refine Prs.ln (by assumption) ?_)
               | (refine Trs.ln (by assumption) ?_)
               | (refine Prs.ix (by assumption) (by omega) ?_)
               | (refine Trs.ix (by assumption) (by omega) ?_)
               | (refine Prs.ldN (by assumption) (by omega) ?_)
               | (refine Trs.ldN (by assumption) (by omega) ?_)
               | (refine At.ldN (Blk.at (by assumption)) rfl ?_)
               | (refine At.ld (Blk.at (by assumption)) rfl ?_)
               | (refine IxA.mk (by omega) ?_)
               | (refine Sl.ln (Own.sl (by assumption)) ?_)
               | (refine Ints.ix (Own.sl (by assumption)) (by omega) ?_)
               | (refine Ints.ixI (Own.sl (by assumption)) (by omega) ?_)
               | (refine Ints.ld (Own.sl (by assumption)) (by omega) ?_))
      refine Blk.setA HS3 (by simp) (Sl.cells (Own.sl H8)).2 fun w404 G404 HS4 => ?_
      have HF4 := HF3.gr G404 (fun k hk hS => by have := (Own.lt H8 k hk).1; omega) (fun k h1 h2 hS => by omega)
      have HO4 : OB n1 w404 ov (ord6 c) := Own.gr HO3 G404 (fun q hq hS => by have := hov q hq; omega)
      repeat' (conv => whnf
               first
               | (refine Dr.quiet tyOk (by kernel_rfl) ?_)
               | (refine Ints.ix (Own.sl HO4) (by omega) ?_)
               | (refine Rng.mk (by omega) ?_)
               | (refine Split.pos (by omega) ?_)
               | (refine Split.neg (by omega) ?_)
               | (refine Split.mk (fun h => ?_) (fun h => ?_))
               | (refine Need.mk (by omega) ?_)
               | (refine Ints.ln (by assumption) ?_)
               | (refine Mat.ln (by assumption) ?_)
               | (refine Ints.ln (Mat.row (by assumption) _ (by omega)) ?_)
               | (refine Ints.ix (by assumption) (by omega) ?_)
               | (refine Mat.ix (by assumption) (by omega) ?_)
               | (refine Ints.ix (Mat.row (by assumption) _ (by omega)) (by omega) ?_)
               | (refine Ints.ix (c := 0) (by assumption) (by omega) ?_)
               | (refine Mat.ix (c := 0) (by assumption) (by omega) ?_)
               | (refine Ints.ix (c := 0) (Mat.row (by assumption) _ (by omega)) (by omega) ?_)
               | (refine Ints.ixI (by assumption) (by omega) ?_)
               | (refine Mat.ixI (by assumption) (by omega) ?_)
               | (refine Ints.ixI (Mat.row (by assumption) _ (by omega)) (by omega) ?_)
               | (refine Ints.ld (by assumption) (by omega) ?_)
               | (refine Mat.ld (by assumption) (by omega) ?_)
               | (refine Ints.ld (Mat.row (by assumption) _ (by omega)) (by omega) ?_)
               | (refine At.ld (by assumption) rfl ?_)
               | (refine At.ldN (by assumption) rfl ?_)
               | (refine Prs.ln (by assumption) ?_)
               | (refine Trs.ln (by assumption) ?_)
               | (refine Prs.ix (by assumption) (by omega) ?_)
               | (refine Trs.ix (by assumption) (by omega) ?_)
               | (refine Prs.ldN (by assumption) (by omega) ?_)
               | (refine Trs.ldN (by assumption) (by omega) ?_)
               | (refine At.ldN (Blk.at (by assumption)) rfl ?_)
               | (refine At.ld (Blk.at (by assumption)) rfl ?_)
               | (refine IxA.mk (by omega) ?_)
               | (refine Sl.ln (Own.sl (by assumption)) ?_)
               | (refine Ints.ix (Own.sl (by assumption)) (by omega) ?_)
               | (refine Ints.ixI (Own.sl (by assumption)) (by omega) ?_)
               | (refine Ints.ld (Own.sl (by assumption)) (by omega) ?_))
      refine OB.set HO4 (by omega) fun w405 G405 HO5 => ?_
      rw [ord6_set c hc6] at HO5
      have HS5 := HS4.gr G405 (fun h => by have := hov _ h; omega)
      have HF5 := HF4.gr G405 (fun k hk hS => by have := (Own.lt HF4.om.top k hk).1; have := hov _ hS; omega) (fun k h1 h2 hS => by have := hov _ hS; omega)
      rw [show (List.replicate 6 (0 : Int)).set (5 - c) 1000 = row6 c from rfl, ← r6_succ] at HF5
      have hsz3 := G403.size
      have hsz4 := G404.size
      have hsz5 := G405.size
      have EZ := ((((EL5.ext E401).ext E402).new G403 (fun i hi hk => by have := hfb _ hk; omega)).new G404 (fun i hi hk => by omega)).new G405 (fun i hi hk => by have := hov _ hk; omega)
      repeat' (conv => whnf
               first
               | (refine Dr.quiet tyOk (by kernel_rfl) ?_)
               | (refine Rng.mk (by omega) ?_)
               | (refine Split.pos (by omega) ?_)
               | (refine Split.neg (by omega) ?_)
               | (refine Split.mk (fun h => ?_) (fun h => ?_))
               | (refine Need.mk (by omega) ?_)
               | (refine Ints.ln (by assumption) ?_)
               | (refine Mat.ln (by assumption) ?_)
               | (refine Ints.ln (Mat.row (by assumption) _ (by omega)) ?_)
               | (refine Ints.ix (by assumption) (by omega) ?_)
               | (refine Mat.ix (by assumption) (by omega) ?_)
               | (refine Ints.ix (Mat.row (by assumption) _ (by omega)) (by omega) ?_)
               | (refine Ints.ix (c := 0) (by assumption) (by omega) ?_)
               | (refine Mat.ix (c := 0) (by assumption) (by omega) ?_)
               | (refine Ints.ix (c := 0) (Mat.row (by assumption) _ (by omega)) (by omega) ?_)
               | (refine Ints.ixI (by assumption) (by omega) ?_)
               | (refine Mat.ixI (by assumption) (by omega) ?_)
               | (refine Ints.ixI (Mat.row (by assumption) _ (by omega)) (by omega) ?_)
               | (refine Ints.ld (by assumption) (by omega) ?_)
               | (refine Mat.ld (by assumption) (by omega) ?_)
               | (refine Ints.ld (Mat.row (by assumption) _ (by omega)) (by omega) ?_)
               | (refine At.ld (by assumption) rfl ?_)
               | (refine At.ldN (by assumption) rfl ?_)
               | (refine Prs.ln (by assumption) ?_)
               | (refine Trs.ln (by assumption) ?_)
               | (refine Prs.ix (by assumption) (by omega) ?_)
               | (refine Trs.ix (by assumption) (by omega) ?_)
               | (refine Prs.ldN (by assumption) (by omega) ?_)
               | (refine Trs.ldN (by assumption) (by omega) ?_)
               | (refine At.ldN (Blk.at (by assumption)) rfl ?_)
               | (refine At.ld (Blk.at (by assumption)) rfl ?_)
               | (refine IxA.mk (by omega) ?_)
               | (refine Sl.ln (Own.sl (by assumption)) ?_)
               | (refine Ints.ix (Own.sl (by assumption)) (by omega) ?_)
               | (refine Ints.ixI (Own.sl (by assumption)) (by omega) ?_)
               | (refine Ints.ld (Own.sl (by assumption)) (by omega) ?_))
      refine ⟨_, (by omega : 6 - (c + 1) < 6 - c), rfl, c + 1, by omega, rfl, rfl, HO5, ⟨_, _, HS5, HF5⟩, (by omega), EZ⟩
    · obtain rfl : c = 6 := by omega
      have HM := HF.om.mat
      have v6 : vld (r6 6) (ord6 6) = 0 := (vld_eq _ _).trans (by decide +kernel)
      have v7 : vld (r6 6) [5, 4, 3, 2, 0, 1] = 0 := (vld_eq _ _).trans (by decide +kernel)
      have co := nof_pc HM (Own.sl HO)
      rw [nofP, if_pos v6, v6, show prd (r6 6) (ord6 6) = (6, 1000000, 0) by decide +kernel] at co
      repeat' (conv => whnf
               first
               | (refine Dr.quiet tyOk (by kernel_rfl) ?_)
               | (refine VC.pure co ?_)
               | (refine Rng.mk (by omega) ?_)
               | (refine Split.pos (by omega) ?_)
               | (refine Split.neg (by omega) ?_)
               | (refine Split.mk (fun h => ?_) (fun h => ?_))
               | (refine Need.mk (by omega) ?_)
               | (refine Ints.ln (by assumption) ?_)
               | (refine Mat.ln (by assumption) ?_)
               | (refine Ints.ln (Mat.row (by assumption) _ (by omega)) ?_)
               | (refine Ints.ix (by assumption) (by omega) ?_)
               | (refine Mat.ix (by assumption) (by omega) ?_)
               | (refine Ints.ix (Mat.row (by assumption) _ (by omega)) (by omega) ?_)
               | (refine Ints.ix (c := 0) (by assumption) (by omega) ?_)
               | (refine Mat.ix (c := 0) (by assumption) (by omega) ?_)
               | (refine Ints.ix (c := 0) (Mat.row (by assumption) _ (by omega)) (by omega) ?_)
               | (refine Ints.ixI (by assumption) (by omega) ?_)
               | (refine Mat.ixI (by assumption) (by omega) ?_)
               | (refine Ints.ixI (Mat.row (by assumption) _ (by omega)) (by omega) ?_)
               | (refine Ints.ld (by assumption) (by omega) ?_)
               | (refine Mat.ld (by assumption) (by omega) ?_)
               | (refine Ints.ld (Mat.row (by assumption) _ (by omega)) (by omega) ?_)
               | (refine At.ld (by assumption) rfl ?_)
               | (refine At.ldN (by assumption) rfl ?_)
               | (refine Prs.ln (by assumption) ?_)
               | (refine Trs.ln (by assumption) ?_)
               | (refine Prs.ix (by assumption) (by omega) ?_)
               | (refine Trs.ix (by assumption) (by omega) ?_)
               | (refine Prs.ldN (by assumption) (by omega) ?_)
               | (refine Trs.ldN (by assumption) (by omega) ?_)
               | (refine At.ldN (Blk.at (by assumption)) rfl ?_)
               | (refine At.ld (Blk.at (by assumption)) rfl ?_)
               | (refine IxA.mk (by omega) ?_)
               | (refine Sl.ln (Own.sl (by assumption)) ?_)
               | (refine Ints.ix (Own.sl (by assumption)) (by omega) ?_)
               | (refine Ints.ixI (Own.sl (by assumption)) (by omega) ?_)
               | (refine Ints.ld (Own.sl (by assumption)) (by omega) ?_))
      have EE__7 := EE
      have EL1__7 := EL1
      have EL2__7 := EL2
      have EL3__7 := EL3
      have HX__7 := HX
      have EL4__7 := EL4
      have Hpp__7 := Hpp
      have EL5__7 := EL5
      have HO__7 := HO
      have HS__7 := HS
      have HM__7 := HM
      conv => whnf
      refine VE.alloc eProd fun qb w315 E315 hb_qb HQ => ?_
      replace EE := EE.ext E315
      replace EL1 := EL1.ext E315
      replace EL2 := EL2.ext E315
      replace EL3 := EL3.ext E315
      replace HX := HX.ext E315
      replace EL4 := EL4.ext E315
      replace Hpp := Hpp.ext E315
      replace EL5 := EL5.ext E315
      replace HO := HO.ext E315
      replace HS := HS.ext E315
      replace HM := HM.ext E315
      have EL7 := E315
      repeat' (conv => whnf
               first
               | (refine Dr.quiet tyOk (by kernel_rfl) ?_)
               | (refine Rng.mk (by omega) ?_)
               | (refine Split.pos (by omega) ?_)
               | (refine Split.neg (by omega) ?_)
               | (refine Split.mk (fun h => ?_) (fun h => ?_))
               | (refine Need.mk (by omega) ?_)
               | (refine Ints.ln (by assumption) ?_)
               | (refine Mat.ln (by assumption) ?_)
               | (refine Ints.ln (Mat.row (by assumption) _ (by omega)) ?_)
               | (refine Ints.ix (by assumption) (by omega) ?_)
               | (refine Mat.ix (by assumption) (by omega) ?_)
               | (refine Ints.ix (Mat.row (by assumption) _ (by omega)) (by omega) ?_)
               | (refine Ints.ix (c := 0) (by assumption) (by omega) ?_)
               | (refine Mat.ix (c := 0) (by assumption) (by omega) ?_)
               | (refine Ints.ix (c := 0) (Mat.row (by assumption) _ (by omega)) (by omega) ?_)
               | (refine Ints.ixI (by assumption) (by omega) ?_)
               | (refine Mat.ixI (by assumption) (by omega) ?_)
               | (refine Ints.ixI (Mat.row (by assumption) _ (by omega)) (by omega) ?_)
               | (refine Ints.ld (by assumption) (by omega) ?_)
               | (refine Mat.ld (by assumption) (by omega) ?_)
               | (refine Ints.ld (Mat.row (by assumption) _ (by omega)) (by omega) ?_)
               | (refine At.ld (by assumption) rfl ?_)
               | (refine At.ldN (by assumption) rfl ?_)
               | (refine Prs.ln (by assumption) ?_)
               | (refine Trs.ln (by assumption) ?_)
               | (refine Prs.ix (by assumption) (by omega) ?_)
               | (refine Trs.ix (by assumption) (by omega) ?_)
               | (refine Prs.ldN (by assumption) (by omega) ?_)
               | (refine Trs.ldN (by assumption) (by omega) ?_)
               | (refine At.ldN (Blk.at (by assumption)) rfl ?_)
               | (refine At.ld (Blk.at (by assumption)) rfl ?_)
               | (refine IxA.mk (by omega) ?_)
               | (refine Sl.ln (Own.sl (by assumption)) ?_)
               | (refine Ints.ix (Own.sl (by assumption)) (by omega) ?_)
               | (refine Ints.ixI (Own.sl (by assumption)) (by omega) ?_)
               | (refine Ints.ld (Own.sl (by assumption)) (by omega) ?_))
      refine Blk.all HQ (by kernel_rfl) (by first | decide | simp) rfl rfl (by intro v hv; simp at hv; rcases hv with rfl | rfl | rfl | rfl | rfl <;> rfl) fun w316 G316 HQ' => ?_
      have E316 : Ext w314 w316 := EL7.new G316 fun i hi hk => by omega
      replace HQ := HQ'
      replace EE := EE__7.ext E316
      replace EL1 := EL1__7.ext E316
      replace EL2 := EL2__7.ext E316
      replace EL3 := EL3__7.ext E316
      replace HX := HX__7.ext E316
      replace EL4 := EL4__7.ext E316
      replace Hpp := Hpp__7.ext E316
      replace EL5 := EL5__7.ext E316
      replace HO := HO__7.ext E316
      replace HS := HS__7.ext E316
      replace HM := HM__7.ext E316
      replace EL7 := E316
      repeat' (conv => whnf
               first
               | (refine Dr.quiet tyOk (by kernel_rfl) ?_)
               | (refine Rng.mk (by omega) ?_)
               | (refine Split.pos (by omega) ?_)
               | (refine Split.neg (by omega) ?_)
               | (refine Split.mk (fun h => ?_) (fun h => ?_))
               | (refine Need.mk (by omega) ?_)
               | (refine Ints.ln (by assumption) ?_)
               | (refine Mat.ln (by assumption) ?_)
               | (refine Ints.ln (Mat.row (by assumption) _ (by omega)) ?_)
               | (refine Ints.ix (by assumption) (by omega) ?_)
               | (refine Mat.ix (by assumption) (by omega) ?_)
               | (refine Ints.ix (Mat.row (by assumption) _ (by omega)) (by omega) ?_)
               | (refine Ints.ix (c := 0) (by assumption) (by omega) ?_)
               | (refine Mat.ix (c := 0) (by assumption) (by omega) ?_)
               | (refine Ints.ix (c := 0) (Mat.row (by assumption) _ (by omega)) (by omega) ?_)
               | (refine Ints.ixI (by assumption) (by omega) ?_)
               | (refine Mat.ixI (by assumption) (by omega) ?_)
               | (refine Ints.ixI (Mat.row (by assumption) _ (by omega)) (by omega) ?_)
               | (refine Ints.ld (by assumption) (by omega) ?_)
               | (refine Mat.ld (by assumption) (by omega) ?_)
               | (refine Ints.ld (Mat.row (by assumption) _ (by omega)) (by omega) ?_)
               | (refine At.ld (by assumption) rfl ?_)
               | (refine At.ldN (by assumption) rfl ?_)
               | (refine Prs.ln (by assumption) ?_)
               | (refine Trs.ln (by assumption) ?_)
               | (refine Prs.ix (by assumption) (by omega) ?_)
               | (refine Trs.ix (by assumption) (by omega) ?_)
               | (refine Prs.ldN (by assumption) (by omega) ?_)
               | (refine Trs.ldN (by assumption) (by omega) ?_)
               | (refine At.ldN (Blk.at (by assumption)) rfl ?_)
               | (refine At.ld (Blk.at (by assumption)) rfl ?_)
               | (refine IxA.mk (by omega) ?_)
               | (refine Sl.ln (Own.sl (by assumption)) ?_)
               | (refine Ints.ix (Own.sl (by assumption)) (by omega) ?_)
               | (refine Ints.ixI (Own.sl (by assumption)) (by omega) ?_)
               | (refine Ints.ld (Own.sl (by assumption)) (by omega) ?_))
      conv => whnf
      refine VE.litI [5, 4, 3, 2, 0, 1] Try.underlying27 eInt (by decide) fun l7 w317 E317 H7 _ => ?_
      replace H7 := H7 0 (Nat.zero_le _)
      replace EE := EE.ext E317
      replace EL1 := EL1.ext E317
      replace EL2 := EL2.ext E317
      replace EL3 := EL3.ext E317
      replace HX := HX.ext E317
      replace EL4 := EL4.ext E317
      replace Hpp := Hpp.ext E317
      replace EL5 := EL5.ext E317
      replace HO := HO.ext E317
      replace HS := HS.ext E317
      replace HM := HM.ext E317
      replace EL7 := EL7.ext E317
      replace HQ := HQ.ext E317
      have co := nof_pc HM (Own.sl H7)
      rw [nofP, if_pos v7, v7, show prd (r6 6) [5, 4, 3, 2, 0, 1] = (4, 1, 0) by decide +kernel] at co
      conv => whnf
      refine VC.pure co ?_
      repeat' (conv => whnf
               first
               | (refine Dr.quiet tyOk (by kernel_rfl) ?_)
               | (refine Rng.mk (by omega) ?_)
               | (refine Split.pos (by omega) ?_)
               | (refine Split.neg (by omega) ?_)
               | (refine Split.mk (fun h => ?_) (fun h => ?_))
               | (refine Need.mk (by omega) ?_)
               | (refine Ints.ln (by assumption) ?_)
               | (refine Mat.ln (by assumption) ?_)
               | (refine Ints.ln (Mat.row (by assumption) _ (by omega)) ?_)
               | (refine Ints.ix (by assumption) (by omega) ?_)
               | (refine Mat.ix (by assumption) (by omega) ?_)
               | (refine Ints.ix (Mat.row (by assumption) _ (by omega)) (by omega) ?_)
               | (refine Ints.ix (c := 0) (by assumption) (by omega) ?_)
               | (refine Mat.ix (c := 0) (by assumption) (by omega) ?_)
               | (refine Ints.ix (c := 0) (Mat.row (by assumption) _ (by omega)) (by omega) ?_)
               | (refine Ints.ixI (by assumption) (by omega) ?_)
               | (refine Mat.ixI (by assumption) (by omega) ?_)
               | (refine Ints.ixI (Mat.row (by assumption) _ (by omega)) (by omega) ?_)
               | (refine Ints.ld (by assumption) (by omega) ?_)
               | (refine Mat.ld (by assumption) (by omega) ?_)
               | (refine Ints.ld (Mat.row (by assumption) _ (by omega)) (by omega) ?_)
               | (refine At.ld (by assumption) rfl ?_)
               | (refine At.ldN (by assumption) rfl ?_)
               | (refine Prs.ln (by assumption) ?_)
               | (refine Trs.ln (by assumption) ?_)
               | (refine Prs.ix (by assumption) (by omega) ?_)
               | (refine Trs.ix (by assumption) (by omega) ?_)
               | (refine Prs.ldN (by assumption) (by omega) ?_)
               | (refine Trs.ldN (by assumption) (by omega) ?_)
               | (refine At.ldN (Blk.at (by assumption)) rfl ?_)
               | (refine At.ld (Blk.at (by assumption)) rfl ?_)
               | (refine IxA.mk (by omega) ?_)
               | (refine Sl.ln (Own.sl (by assumption)) ?_)
               | (refine Ints.ix (Own.sl (by assumption)) (by omega) ?_)
               | (refine Ints.ixI (Own.sl (by assumption)) (by omega) ?_)
               | (refine Ints.ld (Own.sl (by assumption)) (by omega) ?_))
      have EE__8 := EE
      have EL1__8 := EL1
      have EL2__8 := EL2
      have EL3__8 := EL3
      have HX__8 := HX
      have EL4__8 := EL4
      have Hpp__8 := Hpp
      have EL5__8 := EL5
      have HO__8 := HO
      have HS__8 := HS
      have HM__8 := HM
      have EL7__8 := EL7
      have HQ__8 := HQ
      have H7__8 := H7
      conv => whnf
      refine VE.alloc eProd fun rb7 w318 E318 hb_rb7 HR7 => ?_
      replace EE := EE.ext E318
      replace EL1 := EL1.ext E318
      replace EL2 := EL2.ext E318
      replace EL3 := EL3.ext E318
      replace HX := HX.ext E318
      replace EL4 := EL4.ext E318
      replace Hpp := Hpp.ext E318
      replace EL5 := EL5.ext E318
      replace HO := HO.ext E318
      replace HS := HS.ext E318
      replace HM := HM.ext E318
      replace EL7 := EL7.ext E318
      replace HQ := HQ.ext E318
      replace H7 := H7.ext E318
      have EL8 := E318
      repeat' (conv => whnf
               first
               | (refine Dr.quiet tyOk (by kernel_rfl) ?_)
               | (refine Rng.mk (by omega) ?_)
               | (refine Split.pos (by omega) ?_)
               | (refine Split.neg (by omega) ?_)
               | (refine Split.mk (fun h => ?_) (fun h => ?_))
               | (refine Need.mk (by omega) ?_)
               | (refine Ints.ln (by assumption) ?_)
               | (refine Mat.ln (by assumption) ?_)
               | (refine Ints.ln (Mat.row (by assumption) _ (by omega)) ?_)
               | (refine Ints.ix (by assumption) (by omega) ?_)
               | (refine Mat.ix (by assumption) (by omega) ?_)
               | (refine Ints.ix (Mat.row (by assumption) _ (by omega)) (by omega) ?_)
               | (refine Ints.ix (c := 0) (by assumption) (by omega) ?_)
               | (refine Mat.ix (c := 0) (by assumption) (by omega) ?_)
               | (refine Ints.ix (c := 0) (Mat.row (by assumption) _ (by omega)) (by omega) ?_)
               | (refine Ints.ixI (by assumption) (by omega) ?_)
               | (refine Mat.ixI (by assumption) (by omega) ?_)
               | (refine Ints.ixI (Mat.row (by assumption) _ (by omega)) (by omega) ?_)
               | (refine Ints.ld (by assumption) (by omega) ?_)
               | (refine Mat.ld (by assumption) (by omega) ?_)
               | (refine Ints.ld (Mat.row (by assumption) _ (by omega)) (by omega) ?_)
               | (refine At.ld (by assumption) rfl ?_)
               | (refine At.ldN (by assumption) rfl ?_)
               | (refine Prs.ln (by assumption) ?_)
               | (refine Trs.ln (by assumption) ?_)
               | (refine Prs.ix (by assumption) (by omega) ?_)
               | (refine Trs.ix (by assumption) (by omega) ?_)
               | (refine Prs.ldN (by assumption) (by omega) ?_)
               | (refine Trs.ldN (by assumption) (by omega) ?_)
               | (refine At.ldN (Blk.at (by assumption)) rfl ?_)
               | (refine At.ld (Blk.at (by assumption)) rfl ?_)
               | (refine IxA.mk (by omega) ?_)
               | (refine Sl.ln (Own.sl (by assumption)) ?_)
               | (refine Ints.ix (Own.sl (by assumption)) (by omega) ?_)
               | (refine Ints.ixI (Own.sl (by assumption)) (by omega) ?_)
               | (refine Ints.ld (Own.sl (by assumption)) (by omega) ?_))
      refine Blk.all HR7 (by kernel_rfl) (by first | decide | simp) rfl rfl (by intro v hv; simp at hv; rcases hv with rfl | rfl | rfl | rfl | rfl <;> rfl) fun w319 G319 HR7' => ?_
      have E319 : Ext w317 w319 := EL8.new G319 fun i hi hk => by omega
      replace HR7 := HR7'
      replace EE := EE__8.ext E319
      replace EL1 := EL1__8.ext E319
      replace EL2 := EL2__8.ext E319
      replace EL3 := EL3__8.ext E319
      replace HX := HX__8.ext E319
      replace EL4 := EL4__8.ext E319
      replace Hpp := Hpp__8.ext E319
      replace EL5 := EL5__8.ext E319
      replace HO := HO__8.ext E319
      replace HS := HS__8.ext E319
      replace HM := HM__8.ext E319
      replace EL7 := EL7__8.ext E319
      replace HQ := HQ__8.ext E319
      replace H7 := H7__8.ext E319
      replace EL8 := E319
      have k1 : PC Try.prog 27 [PV (4, 1, 0), PV (6, 1000000, 0)] w319 (.int .i64 (-1)) := by have := ncmp_pc (w := w319) (p := (4, 1, 0)) (q := (6, 1000000, 0)); rw [show cmpP (4, 1, 0) (6, 1000000, 0) = -1 by decide +kernel] at this; exact this
      have k2 : PC Try.prog 27 [PV (6, 1000000, 0), PV (4, 1, 0)] w319 (.int .i64 1) := by have := ncmp_pc (w := w319) (p := (6, 1000000, 0)) (q := (4, 1, 0)); rw [show cmpP (6, 1000000, 0) (4, 1, 0) = 1 by decide +kernel] at this; exact this
      have k3 : PC Try.prog 27 [PV (6, 1000000, 0), PV (6, 1000000, 0)] w319 (.int .i64 0) := by have := ncmp_pc (w := w319) (p := (6, 1000000, 0)) (q := (6, 1000000, 0)); rw [show cmpP (6, 1000000, 0) (6, 1000000, 0) = 0 by decide +kernel] at this; exact this
      have k4 : PC Try.prog 27 [PV (0, 1, 0), PV (0, 0, 5)] w319 (.int .i64 1) := by have := ncmp_pc (w := w319) (p := (0, 1, 0)) (q := (0, 0, 5)); rw [show cmpP (0, 1, 0) (0, 0, 5) = 1 by decide +kernel] at this; exact this
      have k5 : PC Try.prog 27 [PV (1, 0, 0), PV (0, 9, 0)] w319 (.int .i64 1) := by have := ncmp_pc (w := w319) (p := (1, 0, 0)) (q := (0, 9, 0)); rw [show cmpP (1, 0, 0) (0, 9, 0) = 1 by decide +kernel] at this; exact this
      repeat' (conv => whnf
               first
               | (refine Dr.quiet tyOk (by kernel_rfl) ?_)
               | (refine VC.pure k1 ?_)
               | (refine VC.pure k2 ?_)
               | (refine VC.pure k3 ?_)
               | (refine Rng.mk (by omega) ?_)
               | (refine Split.pos (by omega) ?_)
               | (refine Split.neg (by omega) ?_)
               | (refine Split.mk (fun h => ?_) (fun h => ?_))
               | (refine Need.mk (by omega) ?_)
               | (refine Ints.ln (by assumption) ?_)
               | (refine Mat.ln (by assumption) ?_)
               | (refine Ints.ln (Mat.row (by assumption) _ (by omega)) ?_)
               | (refine Ints.ix (by assumption) (by omega) ?_)
               | (refine Mat.ix (by assumption) (by omega) ?_)
               | (refine Ints.ix (Mat.row (by assumption) _ (by omega)) (by omega) ?_)
               | (refine Ints.ix (c := 0) (by assumption) (by omega) ?_)
               | (refine Mat.ix (c := 0) (by assumption) (by omega) ?_)
               | (refine Ints.ix (c := 0) (Mat.row (by assumption) _ (by omega)) (by omega) ?_)
               | (refine Ints.ixI (by assumption) (by omega) ?_)
               | (refine Mat.ixI (by assumption) (by omega) ?_)
               | (refine Ints.ixI (Mat.row (by assumption) _ (by omega)) (by omega) ?_)
               | (refine Ints.ld (by assumption) (by omega) ?_)
               | (refine Mat.ld (by assumption) (by omega) ?_)
               | (refine Ints.ld (Mat.row (by assumption) _ (by omega)) (by omega) ?_)
               | (refine At.ld (by assumption) rfl ?_)
               | (refine At.ldN (by assumption) rfl ?_)
               | (refine Prs.ln (by assumption) ?_)
               | (refine Trs.ln (by assumption) ?_)
               | (refine Prs.ix (by assumption) (by omega) ?_)
               | (refine Trs.ix (by assumption) (by omega) ?_)
               | (refine Prs.ldN (by assumption) (by omega) ?_)
               | (refine Trs.ldN (by assumption) (by omega) ?_)
               | (refine At.ldN (Blk.at (by assumption)) rfl ?_)
               | (refine At.ld (Blk.at (by assumption)) rfl ?_)
               | (refine IxA.mk (by omega) ?_)
               | (refine Sl.ln (Own.sl (by assumption)) ?_)
               | (refine Ints.ix (Own.sl (by assumption)) (by omega) ?_)
               | (refine Ints.ixI (Own.sl (by assumption)) (by omega) ?_)
               | (refine Ints.ld (Own.sl (by assumption)) (by omega) ?_))
      conv => whnf
      refine VS.sparse (ps := [(1, .int .i64 1)]) Try.underlying41 eProd (by decide +kernel) rfl (by intro p hp; simp at hp; rcases hp with rfl <;> exact ⟨by decide, rfl⟩) rfl ?_
      repeat' (conv => whnf
               first
               | (refine Dr.quiet tyOk (by kernel_rfl) ?_)
               | (refine Rng.mk (by omega) ?_)
               | (refine Split.pos (by omega) ?_)
               | (refine Split.neg (by omega) ?_)
               | (refine Split.mk (fun h => ?_) (fun h => ?_))
               | (refine Need.mk (by omega) ?_)
               | (refine Ints.ln (by assumption) ?_)
               | (refine Mat.ln (by assumption) ?_)
               | (refine Ints.ln (Mat.row (by assumption) _ (by omega)) ?_)
               | (refine Ints.ix (by assumption) (by omega) ?_)
               | (refine Mat.ix (by assumption) (by omega) ?_)
               | (refine Ints.ix (Mat.row (by assumption) _ (by omega)) (by omega) ?_)
               | (refine Ints.ix (c := 0) (by assumption) (by omega) ?_)
               | (refine Mat.ix (c := 0) (by assumption) (by omega) ?_)
               | (refine Ints.ix (c := 0) (Mat.row (by assumption) _ (by omega)) (by omega) ?_)
               | (refine Ints.ixI (by assumption) (by omega) ?_)
               | (refine Mat.ixI (by assumption) (by omega) ?_)
               | (refine Ints.ixI (Mat.row (by assumption) _ (by omega)) (by omega) ?_)
               | (refine Ints.ld (by assumption) (by omega) ?_)
               | (refine Mat.ld (by assumption) (by omega) ?_)
               | (refine Ints.ld (Mat.row (by assumption) _ (by omega)) (by omega) ?_)
               | (refine At.ld (by assumption) rfl ?_)
               | (refine At.ldN (by assumption) rfl ?_)
               | (refine Prs.ln (by assumption) ?_)
               | (refine Trs.ln (by assumption) ?_)
               | (refine Prs.ix (by assumption) (by omega) ?_)
               | (refine Trs.ix (by assumption) (by omega) ?_)
               | (refine Prs.ldN (by assumption) (by omega) ?_)
               | (refine Trs.ldN (by assumption) (by omega) ?_)
               | (refine At.ldN (Blk.at (by assumption)) rfl ?_)
               | (refine At.ld (Blk.at (by assumption)) rfl ?_)
               | (refine IxA.mk (by omega) ?_)
               | (refine Sl.ln (Own.sl (by assumption)) ?_)
               | (refine Ints.ix (Own.sl (by assumption)) (by omega) ?_)
               | (refine Ints.ixI (Own.sl (by assumption)) (by omega) ?_)
               | (refine Ints.ld (Own.sl (by assumption)) (by omega) ?_))
      conv => whnf
      refine VS.sparse (ps := [(2, .int .i64 5)]) Try.underlying41 eProd (by decide +kernel) rfl (by intro p hp; simp at hp; rcases hp with rfl <;> exact ⟨by decide, rfl⟩) rfl ?_
      repeat' (conv => whnf
               first
               | (refine Dr.quiet tyOk (by kernel_rfl) ?_)
               | (refine VC.pure k4 ?_)
               | (refine Rng.mk (by omega) ?_)
               | (refine Split.pos (by omega) ?_)
               | (refine Split.neg (by omega) ?_)
               | (refine Split.mk (fun h => ?_) (fun h => ?_))
               | (refine Need.mk (by omega) ?_)
               | (refine Ints.ln (by assumption) ?_)
               | (refine Mat.ln (by assumption) ?_)
               | (refine Ints.ln (Mat.row (by assumption) _ (by omega)) ?_)
               | (refine Ints.ix (by assumption) (by omega) ?_)
               | (refine Mat.ix (by assumption) (by omega) ?_)
               | (refine Ints.ix (Mat.row (by assumption) _ (by omega)) (by omega) ?_)
               | (refine Ints.ix (c := 0) (by assumption) (by omega) ?_)
               | (refine Mat.ix (c := 0) (by assumption) (by omega) ?_)
               | (refine Ints.ix (c := 0) (Mat.row (by assumption) _ (by omega)) (by omega) ?_)
               | (refine Ints.ixI (by assumption) (by omega) ?_)
               | (refine Mat.ixI (by assumption) (by omega) ?_)
               | (refine Ints.ixI (Mat.row (by assumption) _ (by omega)) (by omega) ?_)
               | (refine Ints.ld (by assumption) (by omega) ?_)
               | (refine Mat.ld (by assumption) (by omega) ?_)
               | (refine Ints.ld (Mat.row (by assumption) _ (by omega)) (by omega) ?_)
               | (refine At.ld (by assumption) rfl ?_)
               | (refine At.ldN (by assumption) rfl ?_)
               | (refine Prs.ln (by assumption) ?_)
               | (refine Trs.ln (by assumption) ?_)
               | (refine Prs.ix (by assumption) (by omega) ?_)
               | (refine Trs.ix (by assumption) (by omega) ?_)
               | (refine Prs.ldN (by assumption) (by omega) ?_)
               | (refine Trs.ldN (by assumption) (by omega) ?_)
               | (refine At.ldN (Blk.at (by assumption)) rfl ?_)
               | (refine At.ld (Blk.at (by assumption)) rfl ?_)
               | (refine IxA.mk (by omega) ?_)
               | (refine Sl.ln (Own.sl (by assumption)) ?_)
               | (refine Ints.ix (Own.sl (by assumption)) (by omega) ?_)
               | (refine Ints.ixI (Own.sl (by assumption)) (by omega) ?_)
               | (refine Ints.ld (Own.sl (by assumption)) (by omega) ?_))
      conv => whnf
      refine VS.sparse (ps := [(0, .int .i64 1)]) Try.underlying41 eProd (by decide +kernel) rfl (by intro p hp; simp at hp; rcases hp with rfl <;> exact ⟨by decide, rfl⟩) rfl ?_
      repeat' (conv => whnf
               first
               | (refine Dr.quiet tyOk (by kernel_rfl) ?_)
               | (refine Rng.mk (by omega) ?_)
               | (refine Split.pos (by omega) ?_)
               | (refine Split.neg (by omega) ?_)
               | (refine Split.mk (fun h => ?_) (fun h => ?_))
               | (refine Need.mk (by omega) ?_)
               | (refine Ints.ln (by assumption) ?_)
               | (refine Mat.ln (by assumption) ?_)
               | (refine Ints.ln (Mat.row (by assumption) _ (by omega)) ?_)
               | (refine Ints.ix (by assumption) (by omega) ?_)
               | (refine Mat.ix (by assumption) (by omega) ?_)
               | (refine Ints.ix (Mat.row (by assumption) _ (by omega)) (by omega) ?_)
               | (refine Ints.ix (c := 0) (by assumption) (by omega) ?_)
               | (refine Mat.ix (c := 0) (by assumption) (by omega) ?_)
               | (refine Ints.ix (c := 0) (Mat.row (by assumption) _ (by omega)) (by omega) ?_)
               | (refine Ints.ixI (by assumption) (by omega) ?_)
               | (refine Mat.ixI (by assumption) (by omega) ?_)
               | (refine Ints.ixI (Mat.row (by assumption) _ (by omega)) (by omega) ?_)
               | (refine Ints.ld (by assumption) (by omega) ?_)
               | (refine Mat.ld (by assumption) (by omega) ?_)
               | (refine Ints.ld (Mat.row (by assumption) _ (by omega)) (by omega) ?_)
               | (refine At.ld (by assumption) rfl ?_)
               | (refine At.ldN (by assumption) rfl ?_)
               | (refine Prs.ln (by assumption) ?_)
               | (refine Trs.ln (by assumption) ?_)
               | (refine Prs.ix (by assumption) (by omega) ?_)
               | (refine Trs.ix (by assumption) (by omega) ?_)
               | (refine Prs.ldN (by assumption) (by omega) ?_)
               | (refine Trs.ldN (by assumption) (by omega) ?_)
               | (refine At.ldN (Blk.at (by assumption)) rfl ?_)
               | (refine At.ld (Blk.at (by assumption)) rfl ?_)
               | (refine IxA.mk (by omega) ?_)
               | (refine Sl.ln (Own.sl (by assumption)) ?_)
               | (refine Ints.ix (Own.sl (by assumption)) (by omega) ?_)
               | (refine Ints.ixI (Own.sl (by assumption)) (by omega) ?_)
               | (refine Ints.ld (Own.sl (by assumption)) (by omega) ?_))
      conv => whnf
      refine VS.sparse (ps := [(1, .int .i64 9)]) Try.underlying41 eProd (by decide +kernel) rfl (by intro p hp; simp at hp; rcases hp with rfl <;> exact ⟨by decide, rfl⟩) rfl ?_
      repeat' (conv => whnf
               first
               | (refine Dr.quiet tyOk (by kernel_rfl) ?_)
               | (refine VC.pure k5 ?_)
               | (refine Rng.mk (by omega) ?_)
               | (refine Split.pos (by omega) ?_)
               | (refine Split.neg (by omega) ?_)
               | (refine Split.mk (fun h => ?_) (fun h => ?_))
               | (refine Need.mk (by omega) ?_)
               | (refine Ints.ln (by assumption) ?_)
               | (refine Mat.ln (by assumption) ?_)
               | (refine Ints.ln (Mat.row (by assumption) _ (by omega)) ?_)
               | (refine Ints.ix (by assumption) (by omega) ?_)
               | (refine Mat.ix (by assumption) (by omega) ?_)
               | (refine Ints.ix (Mat.row (by assumption) _ (by omega)) (by omega) ?_)
               | (refine Ints.ix (c := 0) (by assumption) (by omega) ?_)
               | (refine Mat.ix (c := 0) (by assumption) (by omega) ?_)
               | (refine Ints.ix (c := 0) (Mat.row (by assumption) _ (by omega)) (by omega) ?_)
               | (refine Ints.ixI (by assumption) (by omega) ?_)
               | (refine Mat.ixI (by assumption) (by omega) ?_)
               | (refine Ints.ixI (Mat.row (by assumption) _ (by omega)) (by omega) ?_)
               | (refine Ints.ld (by assumption) (by omega) ?_)
               | (refine Mat.ld (by assumption) (by omega) ?_)
               | (refine Ints.ld (Mat.row (by assumption) _ (by omega)) (by omega) ?_)
               | (refine At.ld (by assumption) rfl ?_)
               | (refine At.ldN (by assumption) rfl ?_)
               | (refine Prs.ln (by assumption) ?_)
               | (refine Trs.ln (by assumption) ?_)
               | (refine Prs.ix (by assumption) (by omega) ?_)
               | (refine Trs.ix (by assumption) (by omega) ?_)
               | (refine Prs.ldN (by assumption) (by omega) ?_)
               | (refine Trs.ldN (by assumption) (by omega) ?_)
               | (refine At.ldN (Blk.at (by assumption)) rfl ?_)
               | (refine At.ld (Blk.at (by assumption)) rfl ?_)
               | (refine IxA.mk (by omega) ?_)
               | (refine Sl.ln (Own.sl (by assumption)) ?_)
               | (refine Ints.ix (Own.sl (by assumption)) (by omega) ?_)
               | (refine Ints.ixI (Own.sl (by assumption)) (by omega) ?_)
               | (refine Ints.ld (Own.sl (by assumption)) (by omega) ?_))
      conv => whnf
      refine VE.litI [1000, 1000] Try.underlying27 eInt (by decide) fun zv_0 w320 E320 HZ_0 _ => ?_
      replace HZ_0 := HZ_0 0 (Nat.zero_le _)
      replace EE := EE.ext E320
      replace EL1 := EL1.ext E320
      replace EL2 := EL2.ext E320
      replace EL3 := EL3.ext E320
      replace HX := HX.ext E320
      replace EL4 := EL4.ext E320
      replace Hpp := Hpp.ext E320
      replace EL5 := EL5.ext E320
      replace HO := HO.ext E320
      replace HS := HS.ext E320
      replace HM := HM.ext E320
      replace EL7 := EL7.ext E320
      replace HQ := HQ.ext E320
      replace H7 := H7.ext E320
      replace EL8 := EL8.ext E320
      replace HR7 := HR7.ext E320
      conv => whnf
      refine VE.litI [999, 1000] Try.underlying27 eInt (by decide) fun zv_1 w321 E321 HZ_1 _ => ?_
      replace HZ_1 := HZ_1 0 (Nat.zero_le _)
      replace EE := EE.ext E321
      replace EL1 := EL1.ext E321
      replace EL2 := EL2.ext E321
      replace EL3 := EL3.ext E321
      replace HX := HX.ext E321
      replace EL4 := EL4.ext E321
      replace Hpp := Hpp.ext E321
      replace EL5 := EL5.ext E321
      replace HO := HO.ext E321
      replace HS := HS.ext E321
      replace HM := HM.ext E321
      replace EL7 := EL7.ext E321
      replace HQ := HQ.ext E321
      replace H7 := H7.ext E321
      replace EL8 := EL8.ext E321
      replace HR7 := HR7.ext E321
      replace HZ_0 := HZ_0.ext E321
      conv => whnf
      refine VE.litV [zv_0, zv_1] Try.underlying22 eRow (by intro v hv; simp at hv; rcases hv with rfl | rfl <;> first | exact (Sl.cells (Own.sl HZ_0)).1 | exact (Sl.cells (Own.sl HZ_1)).1) (by simp) fun zv w322 E322 HZ _ => ?_
      replace EE := EE.ext E322
      replace EL1 := EL1.ext E322
      replace EL2 := EL2.ext E322
      replace EL3 := EL3.ext E322
      replace HX := HX.ext E322
      replace EL4 := EL4.ext E322
      replace Hpp := Hpp.ext E322
      replace EL5 := EL5.ext E322
      replace HO := HO.ext E322
      replace HS := HS.ext E322
      replace HM := HM.ext E322
      replace EL7 := EL7.ext E322
      replace HQ := HQ.ext E322
      replace H7 := H7.ext E322
      replace EL8 := EL8.ext E322
      replace HR7 := HR7.ext E322
      replace HZ_0 := HZ_0.ext E322
      replace HZ_1 := HZ_1.ext E322
      replace HZ : OM 0 w322 zv [zv_0, zv_1] [[1000, 1000], [999, 1000]] := by
        refine ⟨HZ _ (Nat.zero_le _), fun i hi => ?_⟩
        match i, hi with
        | 0, _ => exact HZ_0
        | 1, _ => exact HZ_1
      conv => whnf
      refine VS.field1 Try.underlying24 eGoods (by kernel_rfl) rfl (Sl.cells (Own.sl HZ.top)).1 ?_
      have EE__9 := EE
      have EL1__9 := EL1
      have EL2__9 := EL2
      have EL3__9 := EL3
      have HX__9 := HX
      have EL4__9 := EL4
      have Hpp__9 := Hpp
      have EL5__9 := EL5
      have HO__9 := HO
      have HS__9 := HS
      have HM__9 := HM
      have EL7__9 := EL7
      have HQ__9 := HQ
      have H7__9 := H7
      have EL8__9 := EL8
      have HR7__9 := HR7
      have HZ__9 := HZ
      conv => whnf
      refine VE.alloc eGoods fun zb w323 E323 hb_zb HZb => ?_
      replace EE := EE.ext E323
      replace EL1 := EL1.ext E323
      replace EL2 := EL2.ext E323
      replace EL3 := EL3.ext E323
      replace HX := HX.ext E323
      replace EL4 := EL4.ext E323
      replace Hpp := Hpp.ext E323
      replace EL5 := EL5.ext E323
      replace HO := HO.ext E323
      replace HS := HS.ext E323
      replace HM := HM.ext E323
      replace EL7 := EL7.ext E323
      replace HQ := HQ.ext E323
      replace H7 := H7.ext E323
      replace EL8 := EL8.ext E323
      replace HR7 := HR7.ext E323
      replace HZ := HZ.ext E323
      have EL9 := E323
      conv => whnf
      refine Blk.all HZb (by kernel_rfl) (by decide) rfl rfl (by intro v hv; simp at hv; subst hv; exact (Sl.cells (Own.sl HZ.top)).2) fun w324 G324 HZb' => ?_
      have E324 : Ext w322 w324 := EL9.new G324 fun i hi hk => by omega
      replace HZb := HZb'.at
      replace EE := EE__9.ext E324
      replace EL1 := EL1__9.ext E324
      replace EL2 := EL2__9.ext E324
      replace EL3 := EL3__9.ext E324
      replace HX := HX__9.ext E324
      replace EL4 := EL4__9.ext E324
      replace Hpp := Hpp__9.ext E324
      replace EL5 := EL5__9.ext E324
      replace HO := HO__9.ext E324
      replace HS := HS__9.ext E324
      replace HM := HM__9.ext E324
      replace EL7 := EL7__9.ext E324
      replace HQ := HQ__9.ext E324
      replace H7 := H7__9.ext E324
      replace EL8 := EL8__9.ext E324
      replace HR7 := HR7__9.ext E324
      replace HZ := HZ__9.ext E324
      replace EL9 := E324
      repeat' (conv => whnf
               first
               | (refine Dr.quiet tyOk (by kernel_rfl) ?_)
               | (refine Rng.mk (by omega) ?_)
               | (refine Split.pos (by omega) ?_)
               | (refine Split.neg (by omega) ?_)
               | (refine Split.mk (fun h => ?_) (fun h => ?_))
               | (refine Need.mk (by omega) ?_)
               | (refine Ints.ln (by assumption) ?_)
               | (refine Mat.ln (by assumption) ?_)
               | (refine Ints.ln (Mat.row (by assumption) _ (by omega)) ?_)
               | (refine Ints.ix (by assumption) (by omega) ?_)
               | (refine Mat.ix (by assumption) (by omega) ?_)
               | (refine Ints.ix (Mat.row (by assumption) _ (by omega)) (by omega) ?_)
               | (refine Ints.ix (c := 0) (by assumption) (by omega) ?_)
               | (refine Mat.ix (c := 0) (by assumption) (by omega) ?_)
               | (refine Ints.ix (c := 0) (Mat.row (by assumption) _ (by omega)) (by omega) ?_)
               | (refine Ints.ixI (by assumption) (by omega) ?_)
               | (refine Mat.ixI (by assumption) (by omega) ?_)
               | (refine Ints.ixI (Mat.row (by assumption) _ (by omega)) (by omega) ?_)
               | (refine Ints.ld (by assumption) (by omega) ?_)
               | (refine Mat.ld (by assumption) (by omega) ?_)
               | (refine Ints.ld (Mat.row (by assumption) _ (by omega)) (by omega) ?_)
               | (refine At.ld (by assumption) rfl ?_)
               | (refine At.ldN (by assumption) rfl ?_)
               | (refine Prs.ln (by assumption) ?_)
               | (refine Trs.ln (by assumption) ?_)
               | (refine Prs.ix (by assumption) (by omega) ?_)
               | (refine Trs.ix (by assumption) (by omega) ?_)
               | (refine Prs.ldN (by assumption) (by omega) ?_)
               | (refine Trs.ldN (by assumption) (by omega) ?_)
               | (refine At.ldN (Blk.at (by assumption)) rfl ?_)
               | (refine At.ld (Blk.at (by assumption)) rfl ?_)
               | (refine IxA.mk (by omega) ?_)
               | (refine Sl.ln (Own.sl (by assumption)) ?_)
               | (refine Ints.ix (Own.sl (by assumption)) (by omega) ?_)
               | (refine Ints.ixI (Own.sl (by assumption)) (by omega) ?_)
               | (refine Ints.ld (Own.sl (by assumption)) (by omega) ?_))
      conv => whnf
      refine VC.rc (nbest_rc HZ.mat) ?_
      rintro _ w325 E325 ⟨yv, rfl, HYY⟩
      replace EE := EE.ext E325
      replace EL1 := EL1.ext E325
      replace EL2 := EL2.ext E325
      replace EL3 := EL3.ext E325
      replace HX := HX.ext E325
      replace EL4 := EL4.ext E325
      replace Hpp := Hpp.ext E325
      replace EL5 := EL5.ext E325
      replace HO := HO.ext E325
      replace HS := HS.ext E325
      replace HM := HM.ext E325
      replace EL7 := EL7.ext E325
      replace HQ := HQ.ext E325
      replace H7 := H7.ext E325
      replace EL8 := EL8.ext E325
      replace HR7 := HR7.ext E325
      replace HZ := HZ.ext E325
      replace EL9 := EL9.ext E325
      replace HZb := HZb.ext E325
      rw [show nbA [[1000, 1000], [999, 1000]] = [0, 1] by decide +kernel] at HYY
      rw [show nbP [[1000, 1000], [999, 1000]] = (2, 0, 1000000) by decide +kernel, show nbE [[1000, 1000], [999, 1000]] = 0 by decide +kernel]
      repeat' (conv => whnf
               first
               | (refine Dr.quiet tyOk (by kernel_rfl) ?_)
               | (refine Rng.mk (by omega) ?_)
               | (refine Split.pos (by omega) ?_)
               | (refine Split.neg (by omega) ?_)
               | (refine Split.mk (fun h => ?_) (fun h => ?_))
               | (refine Need.mk (by omega) ?_)
               | (refine Ints.ln (by assumption) ?_)
               | (refine Mat.ln (by assumption) ?_)
               | (refine Ints.ln (Mat.row (by assumption) _ (by omega)) ?_)
               | (refine Ints.ix (by assumption) (by omega) ?_)
               | (refine Mat.ix (by assumption) (by omega) ?_)
               | (refine Ints.ix (Mat.row (by assumption) _ (by omega)) (by omega) ?_)
               | (refine Ints.ix (c := 0) (by assumption) (by omega) ?_)
               | (refine Mat.ix (c := 0) (by assumption) (by omega) ?_)
               | (refine Ints.ix (c := 0) (Mat.row (by assumption) _ (by omega)) (by omega) ?_)
               | (refine Ints.ixI (by assumption) (by omega) ?_)
               | (refine Mat.ixI (by assumption) (by omega) ?_)
               | (refine Ints.ixI (Mat.row (by assumption) _ (by omega)) (by omega) ?_)
               | (refine Ints.ld (by assumption) (by omega) ?_)
               | (refine Mat.ld (by assumption) (by omega) ?_)
               | (refine Ints.ld (Mat.row (by assumption) _ (by omega)) (by omega) ?_)
               | (refine At.ld (by assumption) rfl ?_)
               | (refine At.ldN (by assumption) rfl ?_)
               | (refine Prs.ln (by assumption) ?_)
               | (refine Trs.ln (by assumption) ?_)
               | (refine Prs.ix (by assumption) (by omega) ?_)
               | (refine Trs.ix (by assumption) (by omega) ?_)
               | (refine Prs.ldN (by assumption) (by omega) ?_)
               | (refine Trs.ldN (by assumption) (by omega) ?_)
               | (refine At.ldN (Blk.at (by assumption)) rfl ?_)
               | (refine At.ld (Blk.at (by assumption)) rfl ?_)
               | (refine IxA.mk (by omega) ?_)
               | (refine Sl.ln (Own.sl (by assumption)) ?_)
               | (refine Ints.ix (Own.sl (by assumption)) (by omega) ?_)
               | (refine Ints.ixI (Own.sl (by assumption)) (by omega) ?_)
               | (refine Ints.ld (Own.sl (by assumption)) (by omega) ?_))
      have EE__10 := EE
      have EL1__10 := EL1
      have EL2__10 := EL2
      have EL3__10 := EL3
      have HX__10 := HX
      have EL4__10 := EL4
      have Hpp__10 := Hpp
      have EL5__10 := EL5
      have HO__10 := HO
      have HS__10 := HS
      have HM__10 := HM
      have EL7__10 := EL7
      have HQ__10 := HQ
      have H7__10 := H7
      have EL8__10 := EL8
      have HR7__10 := HR7
      have HZ__10 := HZ
      have EL9__10 := EL9
      have HZb__10 := HZb
      have HYY__10 := HYY
      conv => whnf
      refine VE.alloc eProd fun sb9 w326 E326 hb_sb9 HSS => ?_
      replace EE := EE.ext E326
      replace EL1 := EL1.ext E326
      replace EL2 := EL2.ext E326
      replace EL3 := EL3.ext E326
      replace HX := HX.ext E326
      replace EL4 := EL4.ext E326
      replace Hpp := Hpp.ext E326
      replace EL5 := EL5.ext E326
      replace HO := HO.ext E326
      replace HS := HS.ext E326
      replace HM := HM.ext E326
      replace EL7 := EL7.ext E326
      replace HQ := HQ.ext E326
      replace H7 := H7.ext E326
      replace EL8 := EL8.ext E326
      replace HR7 := HR7.ext E326
      replace HZ := HZ.ext E326
      replace EL9 := EL9.ext E326
      replace HZb := HZb.ext E326
      replace HYY := HYY.ext E326
      have EL10 := E326
      repeat' (conv => whnf
               first
               | (refine Dr.quiet tyOk (by kernel_rfl) ?_)
               | (refine Rng.mk (by omega) ?_)
               | (refine Split.pos (by omega) ?_)
               | (refine Split.neg (by omega) ?_)
               | (refine Split.mk (fun h => ?_) (fun h => ?_))
               | (refine Need.mk (by omega) ?_)
               | (refine Ints.ln (by assumption) ?_)
               | (refine Mat.ln (by assumption) ?_)
               | (refine Ints.ln (Mat.row (by assumption) _ (by omega)) ?_)
               | (refine Ints.ix (by assumption) (by omega) ?_)
               | (refine Mat.ix (by assumption) (by omega) ?_)
               | (refine Ints.ix (Mat.row (by assumption) _ (by omega)) (by omega) ?_)
               | (refine Ints.ix (c := 0) (by assumption) (by omega) ?_)
               | (refine Mat.ix (c := 0) (by assumption) (by omega) ?_)
               | (refine Ints.ix (c := 0) (Mat.row (by assumption) _ (by omega)) (by omega) ?_)
               | (refine Ints.ixI (by assumption) (by omega) ?_)
               | (refine Mat.ixI (by assumption) (by omega) ?_)
               | (refine Ints.ixI (Mat.row (by assumption) _ (by omega)) (by omega) ?_)
               | (refine Ints.ld (by assumption) (by omega) ?_)
               | (refine Mat.ld (by assumption) (by omega) ?_)
               | (refine Ints.ld (Mat.row (by assumption) _ (by omega)) (by omega) ?_)
               | (refine At.ld (by assumption) rfl ?_)
               | (refine At.ldN (by assumption) rfl ?_)
               | (refine Prs.ln (by assumption) ?_)
               | (refine Trs.ln (by assumption) ?_)
               | (refine Prs.ix (by assumption) (by omega) ?_)
               | (refine Trs.ix (by assumption) (by omega) ?_)
               | (refine Prs.ldN (by assumption) (by omega) ?_)
               | (refine Trs.ldN (by assumption) (by omega) ?_)
               | (refine At.ldN (Blk.at (by assumption)) rfl ?_)
               | (refine At.ld (Blk.at (by assumption)) rfl ?_)
               | (refine IxA.mk (by omega) ?_)
               | (refine Sl.ln (Own.sl (by assumption)) ?_)
               | (refine Ints.ix (Own.sl (by assumption)) (by omega) ?_)
               | (refine Ints.ixI (Own.sl (by assumption)) (by omega) ?_)
               | (refine Ints.ld (Own.sl (by assumption)) (by omega) ?_))
      refine Blk.all HSS (by kernel_rfl) (by first | decide | simp) rfl rfl (by intro v hv; simp at hv; rcases hv with rfl | rfl | rfl | rfl | rfl <;> rfl) fun w327 G327 HSS' => ?_
      have E327 : Ext w325 w327 := EL10.new G327 fun i hi hk => by omega
      replace HSS := HSS'
      replace EE := EE__10.ext E327
      replace EL1 := EL1__10.ext E327
      replace EL2 := EL2__10.ext E327
      replace EL3 := EL3__10.ext E327
      replace HX := HX__10.ext E327
      replace EL4 := EL4__10.ext E327
      replace Hpp := Hpp__10.ext E327
      replace EL5 := EL5__10.ext E327
      replace HO := HO__10.ext E327
      replace HS := HS__10.ext E327
      replace HM := HM__10.ext E327
      replace EL7 := EL7__10.ext E327
      replace HQ := HQ__10.ext E327
      replace H7 := H7__10.ext E327
      replace EL8 := EL8__10.ext E327
      replace HR7 := HR7__10.ext E327
      replace HZ := HZ__10.ext E327
      replace EL9 := EL9__10.ext E327
      replace HZb := HZb__10.ext E327
      replace HYY := HYY__10.ext E327
      replace EL10 := E327
      have hnl : ([] : List Int).length = 0 := rfl
      repeat' (conv => whnf
               first
               | (refine Dr.quiet tyOk (by kernel_rfl) ?_)
               | (refine VC.pure alive21_pc ?_)
               | (refine VCQ.pure alive21_pc ?_)
               | (refine Rng.mk (by omega) ?_)
               | (refine Split.pos (by omega) ?_)
               | (refine Split.neg (by omega) ?_)
               | (refine Split.mk (fun h => ?_) (fun h => ?_))
               | (refine Need.mk (by omega) ?_)
               | (refine Ints.ln (by assumption) ?_)
               | (refine Mat.ln (by assumption) ?_)
               | (refine Ints.ln (Mat.row (by assumption) _ (by omega)) ?_)
               | (refine Ints.ix (by assumption) (by omega) ?_)
               | (refine Mat.ix (by assumption) (by omega) ?_)
               | (refine Ints.ix (Mat.row (by assumption) _ (by omega)) (by omega) ?_)
               | (refine Ints.ix (c := 0) (by assumption) (by omega) ?_)
               | (refine Mat.ix (c := 0) (by assumption) (by omega) ?_)
               | (refine Ints.ix (c := 0) (Mat.row (by assumption) _ (by omega)) (by omega) ?_)
               | (refine Ints.ixI (by assumption) (by omega) ?_)
               | (refine Mat.ixI (by assumption) (by omega) ?_)
               | (refine Ints.ixI (Mat.row (by assumption) _ (by omega)) (by omega) ?_)
               | (refine Ints.ld (by assumption) (by omega) ?_)
               | (refine Mat.ld (by assumption) (by omega) ?_)
               | (refine Ints.ld (Mat.row (by assumption) _ (by omega)) (by omega) ?_)
               | (refine At.ld (by assumption) rfl ?_)
               | (refine At.ldN (by assumption) rfl ?_)
               | (refine Prs.ln (by assumption) ?_)
               | (refine Trs.ln (by assumption) ?_)
               | (refine Prs.ix (by assumption) (by omega) ?_)
               | (refine Trs.ix (by assumption) (by omega) ?_)
               | (refine Prs.ldN (by assumption) (by omega) ?_)
               | (refine Trs.ldN (by assumption) (by omega) ?_)
               | (refine At.ldN (Blk.at (by assumption)) rfl ?_)
               | (refine At.ld (Blk.at (by assumption)) rfl ?_)
               | (refine IxA.mk (by omega) ?_)
               | (refine Sl.ln (Own.sl (by assumption)) ?_)
               | (refine Ints.ix (Own.sl (by assumption)) (by omega) ?_)
               | (refine Ints.ixI (Own.sl (by assumption)) (by omega) ?_)
               | (refine Ints.ld (Own.sl (by assumption)) (by omega) ?_))
      conv => whnf
      refine VS.sparse (ps := [(2, .int .i64 1)]) Try.underlying41 eProd (by decide +kernel) rfl (by intro p hp; simp at hp; rcases hp with rfl <;> exact ⟨by decide, rfl⟩) rfl ?_
      repeat' (conv => whnf
               first
               | (refine Dr.quiet tyOk (by kernel_rfl) ?_)
               | (refine VS.eq3 Try.underlying41 (by kernel_rfl) (by decide) ⟨rfl, rfl, rfl⟩ (by kernel_rfl) (by kernel_rfl) (by kernel_rfl) guardP ?_)
               | (refine Split.pos ⟨rfl, rfl, rfl⟩ ?_)
               | (refine Rng.mk (by omega) ?_)
               | (refine Split.pos (by omega) ?_)
               | (refine Split.neg (by omega) ?_)
               | (refine Split.mk (fun h => ?_) (fun h => ?_))
               | (refine Need.mk (by omega) ?_)
               | (refine Ints.ln (by assumption) ?_)
               | (refine Mat.ln (by assumption) ?_)
               | (refine Ints.ln (Mat.row (by assumption) _ (by omega)) ?_)
               | (refine Ints.ix (by assumption) (by omega) ?_)
               | (refine Mat.ix (by assumption) (by omega) ?_)
               | (refine Ints.ix (Mat.row (by assumption) _ (by omega)) (by omega) ?_)
               | (refine Ints.ix (c := 0) (by assumption) (by omega) ?_)
               | (refine Mat.ix (c := 0) (by assumption) (by omega) ?_)
               | (refine Ints.ix (c := 0) (Mat.row (by assumption) _ (by omega)) (by omega) ?_)
               | (refine Ints.ixI (by assumption) (by omega) ?_)
               | (refine Mat.ixI (by assumption) (by omega) ?_)
               | (refine Ints.ixI (Mat.row (by assumption) _ (by omega)) (by omega) ?_)
               | (refine Ints.ld (by assumption) (by omega) ?_)
               | (refine Mat.ld (by assumption) (by omega) ?_)
               | (refine Ints.ld (Mat.row (by assumption) _ (by omega)) (by omega) ?_)
               | (refine At.ld (by assumption) rfl ?_)
               | (refine At.ldN (by assumption) rfl ?_)
               | (refine Prs.ln (by assumption) ?_)
               | (refine Trs.ln (by assumption) ?_)
               | (refine Prs.ix (by assumption) (by omega) ?_)
               | (refine Trs.ix (by assumption) (by omega) ?_)
               | (refine Prs.ldN (by assumption) (by omega) ?_)
               | (refine Trs.ldN (by assumption) (by omega) ?_)
               | (refine At.ldN (Blk.at (by assumption)) rfl ?_)
               | (refine At.ld (Blk.at (by assumption)) rfl ?_)
               | (refine IxA.mk (by omega) ?_)
               | (refine Sl.ln (Own.sl (by assumption)) ?_)
               | (refine Ints.ix (Own.sl (by assumption)) (by omega) ?_)
               | (refine Ints.ixI (Own.sl (by assumption)) (by omega) ?_)
               | (refine Ints.ld (Own.sl (by assumption)) (by omega) ?_))
      conv => whnf
      refine VS.sparse (ps := [(0, .int .i64 6), (1, .int .i64 1000000)]) Try.underlying41 eProd (by decide +kernel) rfl (by intro p hp; simp at hp; rcases hp with rfl | rfl <;> exact ⟨by decide, rfl⟩) rfl ?_
      repeat' (conv => whnf
               first
               | (refine Dr.quiet tyOk (by kernel_rfl) ?_)
               | (refine VS.eq3 Try.underlying41 (by kernel_rfl) (by decide) ⟨rfl, rfl, rfl⟩ (by kernel_rfl) (by kernel_rfl) (by kernel_rfl) guardP ?_)
               | (refine Split.pos ⟨rfl, rfl, rfl⟩ ?_)
               | (refine Rng.mk (by omega) ?_)
               | (refine Split.pos (by omega) ?_)
               | (refine Split.neg (by omega) ?_)
               | (refine Split.mk (fun h => ?_) (fun h => ?_))
               | (refine Need.mk (by omega) ?_)
               | (refine Ints.ln (by assumption) ?_)
               | (refine Mat.ln (by assumption) ?_)
               | (refine Ints.ln (Mat.row (by assumption) _ (by omega)) ?_)
               | (refine Ints.ix (by assumption) (by omega) ?_)
               | (refine Mat.ix (by assumption) (by omega) ?_)
               | (refine Ints.ix (Mat.row (by assumption) _ (by omega)) (by omega) ?_)
               | (refine Ints.ix (c := 0) (by assumption) (by omega) ?_)
               | (refine Mat.ix (c := 0) (by assumption) (by omega) ?_)
               | (refine Ints.ix (c := 0) (Mat.row (by assumption) _ (by omega)) (by omega) ?_)
               | (refine Ints.ixI (by assumption) (by omega) ?_)
               | (refine Mat.ixI (by assumption) (by omega) ?_)
               | (refine Ints.ixI (Mat.row (by assumption) _ (by omega)) (by omega) ?_)
               | (refine Ints.ld (by assumption) (by omega) ?_)
               | (refine Mat.ld (by assumption) (by omega) ?_)
               | (refine Ints.ld (Mat.row (by assumption) _ (by omega)) (by omega) ?_)
               | (refine At.ld (by assumption) rfl ?_)
               | (refine At.ldN (by assumption) rfl ?_)
               | (refine Prs.ln (by assumption) ?_)
               | (refine Trs.ln (by assumption) ?_)
               | (refine Prs.ix (by assumption) (by omega) ?_)
               | (refine Trs.ix (by assumption) (by omega) ?_)
               | (refine Prs.ldN (by assumption) (by omega) ?_)
               | (refine Trs.ldN (by assumption) (by omega) ?_)
               | (refine At.ldN (Blk.at (by assumption)) rfl ?_)
               | (refine At.ld (Blk.at (by assumption)) rfl ?_)
               | (refine IxA.mk (by omega) ?_)
               | (refine Sl.ln (Own.sl (by assumption)) ?_)
               | (refine Ints.ix (Own.sl (by assumption)) (by omega) ?_)
               | (refine Ints.ixI (Own.sl (by assumption)) (by omega) ?_)
               | (refine Ints.ld (Own.sl (by assumption)) (by omega) ?_))
      conv => whnf
      refine VS.sparse (ps := [(0, .int .i64 4), (1, .int .i64 1)]) Try.underlying41 eProd (by decide +kernel) rfl (by intro p hp; simp at hp; rcases hp with rfl | rfl <;> exact ⟨by decide, rfl⟩) rfl ?_
      repeat' (conv => whnf
               first
               | (refine Dr.quiet tyOk (by kernel_rfl) ?_)
               | (refine VS.eq3 Try.underlying41 (by kernel_rfl) (by decide) ⟨rfl, rfl, rfl⟩ (by kernel_rfl) (by kernel_rfl) (by kernel_rfl) guardP ?_)
               | (refine Split.pos ⟨rfl, rfl, rfl⟩ ?_)
               | (refine Rng.mk (by omega) ?_)
               | (refine Split.pos (by omega) ?_)
               | (refine Split.neg (by omega) ?_)
               | (refine Split.mk (fun h => ?_) (fun h => ?_))
               | (refine Need.mk (by omega) ?_)
               | (refine Ints.ln (by assumption) ?_)
               | (refine Mat.ln (by assumption) ?_)
               | (refine Ints.ln (Mat.row (by assumption) _ (by omega)) ?_)
               | (refine Ints.ix (by assumption) (by omega) ?_)
               | (refine Mat.ix (by assumption) (by omega) ?_)
               | (refine Ints.ix (Mat.row (by assumption) _ (by omega)) (by omega) ?_)
               | (refine Ints.ix (c := 0) (by assumption) (by omega) ?_)
               | (refine Mat.ix (c := 0) (by assumption) (by omega) ?_)
               | (refine Ints.ix (c := 0) (Mat.row (by assumption) _ (by omega)) (by omega) ?_)
               | (refine Ints.ixI (by assumption) (by omega) ?_)
               | (refine Mat.ixI (by assumption) (by omega) ?_)
               | (refine Ints.ixI (Mat.row (by assumption) _ (by omega)) (by omega) ?_)
               | (refine Ints.ld (by assumption) (by omega) ?_)
               | (refine Mat.ld (by assumption) (by omega) ?_)
               | (refine Ints.ld (Mat.row (by assumption) _ (by omega)) (by omega) ?_)
               | (refine At.ld (by assumption) rfl ?_)
               | (refine At.ldN (by assumption) rfl ?_)
               | (refine Prs.ln (by assumption) ?_)
               | (refine Trs.ln (by assumption) ?_)
               | (refine Prs.ix (by assumption) (by omega) ?_)
               | (refine Trs.ix (by assumption) (by omega) ?_)
               | (refine Prs.ldN (by assumption) (by omega) ?_)
               | (refine Trs.ldN (by assumption) (by omega) ?_)
               | (refine At.ldN (Blk.at (by assumption)) rfl ?_)
               | (refine At.ld (Blk.at (by assumption)) rfl ?_)
               | (refine IxA.mk (by omega) ?_)
               | (refine Sl.ln (Own.sl (by assumption)) ?_)
               | (refine Ints.ix (Own.sl (by assumption)) (by omega) ?_)
               | (refine Ints.ixI (Own.sl (by assumption)) (by omega) ?_)
               | (refine Ints.ld (Own.sl (by assumption)) (by omega) ?_))
      conv => whnf
      refine VE.litI [0, 1] Try.underlying27 eInt (by decide) fun x1 w328 E328 X1 _ => ?_
      replace X1 := X1 0 (Nat.zero_le _)
      replace EE := EE.ext E328
      replace EL1 := EL1.ext E328
      replace EL2 := EL2.ext E328
      replace EL3 := EL3.ext E328
      replace HX := HX.ext E328
      replace EL4 := EL4.ext E328
      replace Hpp := Hpp.ext E328
      replace EL5 := EL5.ext E328
      replace HO := HO.ext E328
      replace HS := HS.ext E328
      replace HM := HM.ext E328
      replace EL7 := EL7.ext E328
      replace HQ := HQ.ext E328
      replace H7 := H7.ext E328
      replace EL8 := EL8.ext E328
      replace HR7 := HR7.ext E328
      replace HZ := HZ.ext E328
      replace EL9 := EL9.ext E328
      replace HZb := HZb.ext E328
      replace HYY := HYY.ext E328
      replace EL10 := EL10.ext E328
      replace HSS := HSS.ext E328
      have c1 := same_pc (Own.sl HYY) (Own.sl X1)
      rw [tf_t rfl] at c1
      conv => whnf
      refine VC.pure c1 ?_
      repeat' (conv => whnf
               first
               | (refine Dr.quiet tyOk (by kernel_rfl) ?_)
               | (refine Rng.mk (by omega) ?_)
               | (refine Split.pos (by omega) ?_)
               | (refine Split.neg (by omega) ?_)
               | (refine Split.mk (fun h => ?_) (fun h => ?_))
               | (refine Need.mk (by omega) ?_)
               | (refine Ints.ln (by assumption) ?_)
               | (refine Mat.ln (by assumption) ?_)
               | (refine Ints.ln (Mat.row (by assumption) _ (by omega)) ?_)
               | (refine Ints.ix (by assumption) (by omega) ?_)
               | (refine Mat.ix (by assumption) (by omega) ?_)
               | (refine Ints.ix (Mat.row (by assumption) _ (by omega)) (by omega) ?_)
               | (refine Ints.ix (c := 0) (by assumption) (by omega) ?_)
               | (refine Mat.ix (c := 0) (by assumption) (by omega) ?_)
               | (refine Ints.ix (c := 0) (Mat.row (by assumption) _ (by omega)) (by omega) ?_)
               | (refine Ints.ixI (by assumption) (by omega) ?_)
               | (refine Mat.ixI (by assumption) (by omega) ?_)
               | (refine Ints.ixI (Mat.row (by assumption) _ (by omega)) (by omega) ?_)
               | (refine Ints.ld (by assumption) (by omega) ?_)
               | (refine Mat.ld (by assumption) (by omega) ?_)
               | (refine Ints.ld (Mat.row (by assumption) _ (by omega)) (by omega) ?_)
               | (refine At.ld (by assumption) rfl ?_)
               | (refine At.ldN (by assumption) rfl ?_)
               | (refine Prs.ln (by assumption) ?_)
               | (refine Trs.ln (by assumption) ?_)
               | (refine Prs.ix (by assumption) (by omega) ?_)
               | (refine Trs.ix (by assumption) (by omega) ?_)
               | (refine Prs.ldN (by assumption) (by omega) ?_)
               | (refine Trs.ldN (by assumption) (by omega) ?_)
               | (refine At.ldN (Blk.at (by assumption)) rfl ?_)
               | (refine At.ld (Blk.at (by assumption)) rfl ?_)
               | (refine IxA.mk (by omega) ?_)
               | (refine Sl.ln (Own.sl (by assumption)) ?_)
               | (refine Ints.ix (Own.sl (by assumption)) (by omega) ?_)
               | (refine Ints.ixI (Own.sl (by assumption)) (by omega) ?_)
               | (refine Ints.ld (Own.sl (by assumption)) (by omega) ?_))
      conv => whnf
      refine VS.sparse (ps := [(0, .int .i64 2), (2, .int .i64 1000000)]) Try.underlying41 eProd (by decide +kernel) rfl (by intro p hp; simp at hp; rcases hp with rfl | rfl <;> exact ⟨by decide, rfl⟩) rfl ?_
      repeat' (conv => whnf
               first
               | (refine Dr.quiet tyOk (by kernel_rfl) ?_)
               | (refine VS.eq3 Try.underlying41 (by kernel_rfl) (by decide) ⟨rfl, rfl, rfl⟩ (by kernel_rfl) (by kernel_rfl) (by kernel_rfl) guardP ?_)
               | (refine Split.pos ⟨rfl, rfl, rfl⟩ ?_)
               | (refine Rng.mk (by omega) ?_)
               | (refine Split.pos (by omega) ?_)
               | (refine Split.neg (by omega) ?_)
               | (refine Split.mk (fun h => ?_) (fun h => ?_))
               | (refine Need.mk (by omega) ?_)
               | (refine Ints.ln (by assumption) ?_)
               | (refine Mat.ln (by assumption) ?_)
               | (refine Ints.ln (Mat.row (by assumption) _ (by omega)) ?_)
               | (refine Ints.ix (by assumption) (by omega) ?_)
               | (refine Mat.ix (by assumption) (by omega) ?_)
               | (refine Ints.ix (Mat.row (by assumption) _ (by omega)) (by omega) ?_)
               | (refine Ints.ix (c := 0) (by assumption) (by omega) ?_)
               | (refine Mat.ix (c := 0) (by assumption) (by omega) ?_)
               | (refine Ints.ix (c := 0) (Mat.row (by assumption) _ (by omega)) (by omega) ?_)
               | (refine Ints.ixI (by assumption) (by omega) ?_)
               | (refine Mat.ixI (by assumption) (by omega) ?_)
               | (refine Ints.ixI (Mat.row (by assumption) _ (by omega)) (by omega) ?_)
               | (refine Ints.ld (by assumption) (by omega) ?_)
               | (refine Mat.ld (by assumption) (by omega) ?_)
               | (refine Ints.ld (Mat.row (by assumption) _ (by omega)) (by omega) ?_)
               | (refine At.ld (by assumption) rfl ?_)
               | (refine At.ldN (by assumption) rfl ?_)
               | (refine Prs.ln (by assumption) ?_)
               | (refine Trs.ln (by assumption) ?_)
               | (refine Prs.ix (by assumption) (by omega) ?_)
               | (refine Trs.ix (by assumption) (by omega) ?_)
               | (refine Prs.ldN (by assumption) (by omega) ?_)
               | (refine Trs.ldN (by assumption) (by omega) ?_)
               | (refine At.ldN (Blk.at (by assumption)) rfl ?_)
               | (refine At.ld (Blk.at (by assumption)) rfl ?_)
               | (refine IxA.mk (by omega) ?_)
               | (refine Sl.ln (Own.sl (by assumption)) ?_)
               | (refine Ints.ix (Own.sl (by assumption)) (by omega) ?_)
               | (refine Ints.ixI (Own.sl (by assumption)) (by omega) ?_)
               | (refine Ints.ld (Own.sl (by assumption)) (by omega) ?_))
      exact ⟨rfl, EE⟩

open Go.ChangeShapes Go.WideShapes Go.ChangeAt Go.RowKit Go.Eng in
theorem nashNames_lifted (os : Os) (started : os.Started) (H : Type) (enc : TypeId × Value → H) :
    ReturnsInHanded {} Try.checked os 8 .any (Rows.nashNamesSpec.pre6 enc Try.prog Try.f8 Rows.nashNamesRow.domain false) (Rows.nashNamesSpec.post enc Try.prog Try.f8 false true false false) := by
  refine returnsInHanded_of_change (C := Try.checked) own started (by kernel_rfl) Try.func8
    (ChangeSpec.witness6 (enc := enc) (C := Try.checked) false ⟨#[], #[], []⟩ 8 (by kernel_rfl) (by kernel_rfl) (by kernel_rfl) (by kernel_rfl)) ?_
  intro W base args ds gs before hval0 hW hcnd _
  have hval : ∀ (j : Nat) t v, Try.f8.params[j]? = some t → args[j]? = some v → Value.okWide Try.prog W .any base t v := hval0
  have hW' := hW
  obtain ⟨p, q, hA0, hV, e0, hfz, hnd⟩ := hW
  have hA : DataW.TrodAll enc Try.prog W 0 (fun _ => true) true Try.f8.params.toList args.toList ds p := hA0
  rw [Try.params8] at hA hval
  clear hfz hnd hV e0 hval0
  obtain ⟨ee, rfl, _⟩ := trodAll_nil hA
  obtain rfl : args = #[] := Array.toList_inj.1 (by simpa using ee)
  exact law_calls laidOut (by rw [Try.params8]; intro t ht; revert t; decide +kernel) rfl Try.underlying4 rfl ⟨rfl, rfl, rfl⟩ hW' (nnames_pc)

theorem nashNames_holds : Rows.NashNamesSaid :=
  OpenClaim.holds_of_wide 8 Try.f8 rfl rfl rfl rfl rfl rfl rfl ⟨rfl, rfl, rfl, rfl, rfl⟩ rfl rfl rfl rfl rfl (by kernel_rfl) Try.func8 (by kernel_rfl)
    (of_decide_eq_true (by kernel_rfl)) (by unfold Func.isWrapper; first | (rw [if_pos (by decide +kernel)]; kernel_rfl) | (rw [if_neg (by decide +kernel)]; exact ⟨rfl, rfl⟩))
    (fun os started H enc _ => nashNames_lifted os started H enc)
end Go.Proofs.Ytkgogljfngplnaa
