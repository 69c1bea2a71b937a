/- The law GoodsTells. -/
import Derived.Test.YtiahjkhfkbcjhaaGoods2
import Derived.Test.YtiahjkhfkbcjhaaEngK
set_option linter.unusedVariables false
set_option linter.unusedSimpArgs false
namespace Go.Proofs.Ytiahjkhfkbcjhaa
open Go.Eng
set_option maxRecDepth 100000

theorem eGoods : Elem Try.prog 24 (.agg #[.slice none 0 0]) 1 24 := by unfold Elem; kernel_rfl

theorem tells_pc {w : World} {gv av : Value} {vs : List Value} {rr : List (List Int)} {a : List Int} (Hg : Mat w gv vs rr) (Ha : Ints w av a) : PC Try.prog 3 [.agg #[gv], av] w (.bool true) := by
  refine PC.mk tyOk Try.func3 rfl (by kernel_rfl) fun w1 E1 => ?_
  replace Hg := Hg.ext E1
  replace Ha := Ha.ext E1
  refine Bx.agg fun b w2 E2 _ Hb _ => ?_
  replace Hg := Hg.ext E2
  replace Ha := Ha.ext E2
  by_cases hgr : great rr a
  · have hc := great_pc Hg Ha
    rw [tf_t hgr] at hc
    repeat' (conv => whnf
             first
             | (refine Dr.quiet tyOk (by kernel_rfl) ?_)
             | (refine VC.pure hc ?_)
             | (refine Rng.mk (by omega) ?_)
             | (refine Split.pos (by omega) ?_)
             | (refine Split.neg (by omega) ?_)
             | (refine Split.mk (fun h => ?_) (fun h => ?_))
             | (refine Need.mk (by omega) ?_)
             | (refine Ints.ln (by assumption) ?_)
             | (refine Mat.ln (by assumption) ?_)
             | (refine Ints.ln (Mat.row (by assumption) _ (by omega)) ?_)
             | (refine Ints.ix (by assumption) (by omega) ?_)
             | (refine Mat.ix (by assumption) (by omega) ?_)
             | (refine Ints.ix (Mat.row (by assumption) _ (by omega)) (by omega) ?_)
             | (refine Ints.ix (c := 0) (by assumption) (by omega) ?_)
             | (refine Mat.ix (c := 0) (by assumption) (by omega) ?_)
             | (refine Ints.ix (c := 0) (Mat.row (by assumption) _ (by omega)) (by omega) ?_)
             | (refine Ints.ixI (by assumption) (by omega) ?_)
             | (refine Mat.ixI (by assumption) (by omega) ?_)
             | (refine Ints.ixI (Mat.row (by assumption) _ (by omega)) (by omega) ?_)
             | (refine Ints.ld (by assumption) (by omega) ?_)
             | (refine Mat.ld (by assumption) (by omega) ?_)
             | (refine Ints.ld (Mat.row (by assumption) _ (by omega)) (by omega) ?_)
             | (refine At.ld (by assumption) rfl ?_)
             | (refine At.ldN (by assumption) rfl ?_))
    exact ⟨rfl, E2⟩
  · have hc := great_pc Hg Ha
    rw [tf_f hgr] at hc
    have hb1 : rr.length ≤ 20 := Classical.byContradiction fun e => hgr (.inr (.inl (by omega)))
    have hb2 : a.length ≤ 50 := Classical.byContradiction fun e => hgr (.inr (.inr (by omega)))
    have hb3 : ∀ i, i < rr.length → (rr.getD i []).length ≤ 50 := fun i hi => Classical.byContradiction fun e => hgr (.inl ⟨i, hi, by omega, by omega⟩)
    repeat' (conv => whnf
             first
             | (refine Dr.quiet tyOk (by kernel_rfl) ?_)
             | (refine VC.pure hc ?_)
             | (refine Rng.mk (by omega) ?_)
             | (refine Split.pos (by omega) ?_)
             | (refine Split.neg (by omega) ?_)
             | (refine Split.mk (fun h => ?_) (fun h => ?_))
             | (refine Need.mk (by omega) ?_)
             | (refine Ints.ln (by assumption) ?_)
             | (refine Mat.ln (by assumption) ?_)
             | (refine Ints.ln (Mat.row (by assumption) _ (by omega)) ?_)
             | (refine Ints.ix (by assumption) (by omega) ?_)
             | (refine Mat.ix (by assumption) (by omega) ?_)
             | (refine Ints.ix (Mat.row (by assumption) _ (by omega)) (by omega) ?_)
             | (refine Ints.ix (c := 0) (by assumption) (by omega) ?_)
             | (refine Mat.ix (c := 0) (by assumption) (by omega) ?_)
             | (refine Ints.ix (c := 0) (Mat.row (by assumption) _ (by omega)) (by omega) ?_)
             | (refine Ints.ixI (by assumption) (by omega) ?_)
             | (refine Mat.ixI (by assumption) (by omega) ?_)
             | (refine Ints.ixI (Mat.row (by assumption) _ (by omega)) (by omega) ?_)
             | (refine Ints.ld (by assumption) (by omega) ?_)
             | (refine Mat.ld (by assumption) (by omega) ?_)
             | (refine Ints.ld (Mat.row (by assumption) _ (by omega)) (by omega) ?_)
             | (refine At.ld (by assumption) rfl ?_)
             | (refine At.ldN (by assumption) rfl ?_))
    refine VC.rc (twin_rc Hg (by omega) (fun i hi => by have := hb3 i hi; omega)) ?_
    rintro tv w3 E3 ⟨us, HO⟩
    replace Hg := Hg.ext E3
    replace Ha := Ha.ext E3
    replace Hb := Hb.ext E3
    conv => whnf
    refine VS.field1 Try.underlying24 eGoods (by kernel_rfl) rfl (Sl.cells (Own.sl HO.top)).1 ?_
    conv => whnf
    refine VE.lit0 Try.underlying25 eInt fun l0 w4 E4 Hl0 => ?_
    have Ha4 := Ha.ext E4
    conv => whnf
    refine VE.app Try.underlying25 eInt rfl (by omega) (Hl0 _ (Nat.le_refl _)) E4 rfl Ha4 (one_ints a) (by first | omega | (simp only [List.length_map, List.length_range]; omega)) (by first | omega | (simp only [List.length_map, List.length_range]; omega)) fun v5 w5 E5 G5 H5 => ?_
    replace Hg := Hg.ext E5
    replace Ha := Ha.ext E5
    replace Hb := Hb.ext E5
    replace HO := HO.ext E5
    replace H5 : OI w5 v5 a := by have := OI.of H5; simpa using this
    conv => whnf
    refine VE.alloc eGoods fun b2 w6 E6 hb6 Hk => ?_
    conv => whnf
    refine Blk.all Hk (by kernel_rfl) (by decide) rfl rfl (by intro v hv; simp at hv; subst hv; exact (Sl.cells (Own.sl HO.top)).2) fun w7 G7 Hk => ?_
    have E7 : Ext w5 w7 := E6.new G7 fun i hi hk => by omega
    replace Hg := Hg.ext E7
    replace Ha := Ha.ext E7
    replace Hb := Hb.ext E7
    replace HO := HO.ext E7
    replace H5 := H5.ext E7
    conv => whnf
    refine At.ldN Hk.at rfl ?_
    conv => whnf
    refine VC.rc (gvalues_rc HO.mat (Own.sl H5)) ?_
    rintro _ w8 E8 ⟨va, ua, rfl, HVa⟩
    replace Hg := Hg.ext E8
    replace Ha := Ha.ext E8
    replace Hb := Hb.ext E8
    replace HO := HO.ext E8
    replace H5 := H5.ext E8
    replace Hk := Hk.ext E8
    repeat' (conv => whnf
             first
             | (refine Dr.quiet tyOk (by kernel_rfl) ?_)
             | (refine Rng.mk (by omega) ?_)
             | (refine Split.pos (by omega) ?_)
             | (refine Split.neg (by omega) ?_)
             | (refine Split.mk (fun h => ?_) (fun h => ?_))
             | (refine Need.mk (by omega) ?_)
             | (refine Ints.ln (by assumption) ?_)
             | (refine Mat.ln (by assumption) ?_)
             | (refine Ints.ln (Mat.row (by assumption) _ (by omega)) ?_)
             | (refine Ints.ix (by assumption) (by omega) ?_)
             | (refine Mat.ix (by assumption) (by omega) ?_)
             | (refine Ints.ix (Mat.row (by assumption) _ (by omega)) (by omega) ?_)
             | (refine Ints.ix (c := 0) (by assumption) (by omega) ?_)
             | (refine Mat.ix (c := 0) (by assumption) (by omega) ?_)
             | (refine Ints.ix (c := 0) (Mat.row (by assumption) _ (by omega)) (by omega) ?_)
             | (refine Ints.ixI (by assumption) (by omega) ?_)
             | (refine Mat.ixI (by assumption) (by omega) ?_)
             | (refine Ints.ixI (Mat.row (by assumption) _ (by omega)) (by omega) ?_)
             | (refine Ints.ld (by assumption) (by omega) ?_)
             | (refine Mat.ld (by assumption) (by omega) ?_)
             | (refine Ints.ld (Mat.row (by assumption) _ (by omega)) (by omega) ?_)
             | (refine At.ld (by assumption) rfl ?_)
             | (refine At.ldN (by assumption) rfl ?_))
    refine VC.rc (rvalues_rc Hg Ha) ?_
    rintro _ w9 E9 ⟨vb, ub, rfl, HVb⟩
    replace Hg := Hg.ext E9
    replace Ha := Ha.ext E9
    replace Hb := Hb.ext E9
    replace HO := HO.ext E9
    replace H5 := H5.ext E9
    replace Hk := Hk.ext E9
    replace HVa := HVa.ext E9
    repeat' (conv => whnf
             first
             | (refine Dr.quiet tyOk (by kernel_rfl) ?_)
             | (refine At.ldN Hk.at rfl ?_)
             | (refine Rng.mk (by omega) ?_)
             | (refine Split.pos (by omega) ?_)
             | (refine Split.neg (by omega) ?_)
             | (refine Split.mk (fun h => ?_) (fun h => ?_))
             | (refine Need.mk (by omega) ?_)
             | (refine Ints.ln (by assumption) ?_)
             | (refine Mat.ln (by assumption) ?_)
             | (refine Ints.ln (Mat.row (by assumption) _ (by omega)) ?_)
             | (refine Ints.ix (by assumption) (by omega) ?_)
             | (refine Mat.ix (by assumption) (by omega) ?_)
             | (refine Ints.ix (Mat.row (by assumption) _ (by omega)) (by omega) ?_)
             | (refine Ints.ix (c := 0) (by assumption) (by omega) ?_)
             | (refine Mat.ix (c := 0) (by assumption) (by omega) ?_)
             | (refine Ints.ix (c := 0) (Mat.row (by assumption) _ (by omega)) (by omega) ?_)
             | (refine Ints.ixI (by assumption) (by omega) ?_)
             | (refine Mat.ixI (by assumption) (by omega) ?_)
             | (refine Ints.ixI (Mat.row (by assumption) _ (by omega)) (by omega) ?_)
             | (refine Ints.ld (by assumption) (by omega) ?_)
             | (refine Mat.ld (by assumption) (by omega) ?_)
             | (refine Ints.ld (Mat.row (by assumption) _ (by omega)) (by omega) ?_)
             | (refine At.ld (by assumption) rfl ?_)
             | (refine At.ldN (by assumption) rfl ?_))
    refine VC.rc (genvies_rc HO.mat (Own.sl H5)) ?_
    rintro _ w10 E10 ⟨ea', rfl, HEa⟩
    replace Hg := Hg.ext E10
    replace Ha := Ha.ext E10
    replace Hb := Hb.ext E10
    replace HO := HO.ext E10
    replace H5 := H5.ext E10
    replace Hk := Hk.ext E10
    replace HVa := HVa.ext E10
    replace HVb := HVb.ext E10
    repeat' (conv => whnf
             first
             | (refine Dr.quiet tyOk (by kernel_rfl) ?_)
             | (refine Rng.mk (by omega) ?_)
             | (refine Split.pos (by omega) ?_)
             | (refine Split.neg (by omega) ?_)
             | (refine Split.mk (fun h => ?_) (fun h => ?_))
             | (refine Need.mk (by omega) ?_)
             | (refine Ints.ln (by assumption) ?_)
             | (refine Mat.ln (by assumption) ?_)
             | (refine Ints.ln (Mat.row (by assumption) _ (by omega)) ?_)
             | (refine Ints.ix (by assumption) (by omega) ?_)
             | (refine Mat.ix (by assumption) (by omega) ?_)
             | (refine Ints.ix (Mat.row (by assumption) _ (by omega)) (by omega) ?_)
             | (refine Ints.ix (c := 0) (by assumption) (by omega) ?_)
             | (refine Mat.ix (c := 0) (by assumption) (by omega) ?_)
             | (refine Ints.ix (c := 0) (Mat.row (by assumption) _ (by omega)) (by omega) ?_)
             | (refine Ints.ixI (by assumption) (by omega) ?_)
             | (refine Mat.ixI (by assumption) (by omega) ?_)
             | (refine Ints.ixI (Mat.row (by assumption) _ (by omega)) (by omega) ?_)
             | (refine Ints.ld (by assumption) (by omega) ?_)
             | (refine Mat.ld (by assumption) (by omega) ?_)
             | (refine Ints.ld (Mat.row (by assumption) _ (by omega)) (by omega) ?_)
             | (refine At.ld (by assumption) rfl ?_)
             | (refine At.ldN (by assumption) rfl ?_))
    refine VC.rc (renvies_rc Hg Ha) ?_
    rintro _ w11 E11 ⟨eb', rfl, HEb⟩
    replace Hg := Hg.ext E11
    replace Ha := Ha.ext E11
    replace Hb := Hb.ext E11
    replace HO := HO.ext E11
    replace H5 := H5.ext E11
    replace Hk := Hk.ext E11
    replace HVa := HVa.ext E11
    replace HVb := HVb.ext E11
    replace HEa := HEa.ext E11
    repeat' (conv => whnf
             first
             | (refine Dr.quiet tyOk (by kernel_rfl) ?_)
             | (refine At.ldN Hk.at rfl ?_)
             | (refine Rng.mk (by omega) ?_)
             | (refine Split.pos (by omega) ?_)
             | (refine Split.neg (by omega) ?_)
             | (refine Split.mk (fun h => ?_) (fun h => ?_))
             | (refine Need.mk (by omega) ?_)
             | (refine Ints.ln (by assumption) ?_)
             | (refine Mat.ln (by assumption) ?_)
             | (refine Ints.ln (Mat.row (by assumption) _ (by omega)) ?_)
             | (refine Ints.ix (by assumption) (by omega) ?_)
             | (refine Mat.ix (by assumption) (by omega) ?_)
             | (refine Ints.ix (Mat.row (by assumption) _ (by omega)) (by omega) ?_)
             | (refine Ints.ix (c := 0) (by assumption) (by omega) ?_)
             | (refine Mat.ix (c := 0) (by assumption) (by omega) ?_)
             | (refine Ints.ix (c := 0) (Mat.row (by assumption) _ (by omega)) (by omega) ?_)
             | (refine Ints.ixI (by assumption) (by omega) ?_)
             | (refine Mat.ixI (by assumption) (by omega) ?_)
             | (refine Ints.ixI (Mat.row (by assumption) _ (by omega)) (by omega) ?_)
             | (refine Ints.ld (by assumption) (by omega) ?_)
             | (refine Mat.ld (by assumption) (by omega) ?_)
             | (refine Ints.ld (Mat.row (by assumption) _ (by omega)) (by omega) ?_)
             | (refine At.ld (by assumption) rfl ?_)
             | (refine At.ldN (by assumption) rfl ?_))
    refine VC.rc (gpoor_rc HO.mat (Own.sl H5)) ?_
    rintro _ w12 E12 ⟨pa, rfl, HPa⟩
    replace Hg := Hg.ext E12
    replace Ha := Ha.ext E12
    replace Hb := Hb.ext E12
    replace HO := HO.ext E12
    replace H5 := H5.ext E12
    replace Hk := Hk.ext E12
    replace HVa := HVa.ext E12
    replace HVb := HVb.ext E12
    replace HEa := HEa.ext E12
    replace HEb := HEb.ext E12
    repeat' (conv => whnf
             first
             | (refine Dr.quiet tyOk (by kernel_rfl) ?_)
             | (refine Rng.mk (by omega) ?_)
             | (refine Split.pos (by omega) ?_)
             | (refine Split.neg (by omega) ?_)
             | (refine Split.mk (fun h => ?_) (fun h => ?_))
             | (refine Need.mk (by omega) ?_)
             | (refine Ints.ln (by assumption) ?_)
             | (refine Mat.ln (by assumption) ?_)
             | (refine Ints.ln (Mat.row (by assumption) _ (by omega)) ?_)
             | (refine Ints.ix (by assumption) (by omega) ?_)
             | (refine Mat.ix (by assumption) (by omega) ?_)
             | (refine Ints.ix (Mat.row (by assumption) _ (by omega)) (by omega) ?_)
             | (refine Ints.ix (c := 0) (by assumption) (by omega) ?_)
             | (refine Mat.ix (c := 0) (by assumption) (by omega) ?_)
             | (refine Ints.ix (c := 0) (Mat.row (by assumption) _ (by omega)) (by omega) ?_)
             | (refine Ints.ixI (by assumption) (by omega) ?_)
             | (refine Mat.ixI (by assumption) (by omega) ?_)
             | (refine Ints.ixI (Mat.row (by assumption) _ (by omega)) (by omega) ?_)
             | (refine Ints.ld (by assumption) (by omega) ?_)
             | (refine Mat.ld (by assumption) (by omega) ?_)
             | (refine Ints.ld (Mat.row (by assumption) _ (by omega)) (by omega) ?_)
             | (refine At.ld (by assumption) rfl ?_)
             | (refine At.ldN (by assumption) rfl ?_))
    refine VC.rc (rpoor_rc Hg Ha) ?_
    rintro _ w13 E13 ⟨pb, rfl, HPb⟩
    replace Hg := Hg.ext E13
    replace Ha := Ha.ext E13
    replace Hb := Hb.ext E13
    replace HO := HO.ext E13
    replace H5 := H5.ext E13
    replace Hk := Hk.ext E13
    replace HVa := HVa.ext E13
    replace HVb := HVb.ext E13
    replace HEa := HEa.ext E13
    replace HEb := HEb.ext E13
    replace HPa := HPa.ext E13
    have c1 := gcheck_pc HO.mat
    have c2 := rcheck_pc Hg
    have c3 := gvalid_pc HO.mat (Own.sl H5)
    have c4 := rvalid_pc Hg Ha
    have c5 := samelists_pc HVa.mat HVb.mat
    have c6 := samepairs_pc (Own.sl HEa) (Own.sl HEb)
    have c7 := same_pc (Own.sl HPa) (Own.sl HPb)
    have c8 := samelists_pc HO.mat Hg
    have c9 := same_pc (Own.sl H5) Ha
    rw [tf_t rfl] at c5 c6 c7 c8 c9
    repeat' (conv => whnf
             first
             | (refine Dr.quiet tyOk (by kernel_rfl) ?_)
             | (refine At.ldN Hk.at rfl ?_)
             | (refine VCQ.pure c1 ?_)
             | (refine VCQ.pure c2 ?_)
             | (refine VCQ.pure c3 ?_)
             | (refine VCQ.pure c4 ?_)
             | (refine VCQ.pure c5 ?_)
             | (refine VCQ.pure c6 ?_)
             | (refine VCQ.pure c7 ?_)
             | (refine VCQ.pure c8 ?_)
             | (refine VCQ.pure c9 ?_)
             | (refine At.ld Hk.at rfl ?_)
             | (refine Rng.mk (by omega) ?_)
             | (refine Split.pos (by omega) ?_)
             | (refine Split.neg (by omega) ?_)
             | (refine Split.mk (fun h => ?_) (fun h => ?_))
             | (refine Need.mk (by omega) ?_)
             | (refine Ints.ln (by assumption) ?_)
             | (refine Mat.ln (by assumption) ?_)
             | (refine Ints.ln (Mat.row (by assumption) _ (by omega)) ?_)
             | (refine Ints.ix (by assumption) (by omega) ?_)
             | (refine Mat.ix (by assumption) (by omega) ?_)
             | (refine Ints.ix (Mat.row (by assumption) _ (by omega)) (by omega) ?_)
             | (refine Ints.ix (c := 0) (by assumption) (by omega) ?_)
             | (refine Mat.ix (c := 0) (by assumption) (by omega) ?_)
             | (refine Ints.ix (c := 0) (Mat.row (by assumption) _ (by omega)) (by omega) ?_)
             | (refine Ints.ixI (by assumption) (by omega) ?_)
             | (refine Mat.ixI (by assumption) (by omega) ?_)
             | (refine Ints.ixI (Mat.row (by assumption) _ (by omega)) (by omega) ?_)
             | (refine Ints.ld (by assumption) (by omega) ?_)
             | (refine Mat.ld (by assumption) (by omega) ?_)
             | (refine Ints.ld (Mat.row (by assumption) _ (by omega)) (by omega) ?_)
             | (refine At.ld (by assumption) rfl ?_)
             | (refine At.ldN (by assumption) rfl ?_))
    exact ⟨rfl, E2.trans (E3.trans (E5.trans (E7.trans (E8.trans (E9.trans (E10.trans (E11.trans (E12.trans E13))))))))⟩

theorem own : ownKnob Try.prog.godebug = none := by kernel_rfl
theorem laidOut : laidOutB Try.prog = true := by kernel_rfl
end Go.Proofs.Ytiahjkhfkbcjhaa
