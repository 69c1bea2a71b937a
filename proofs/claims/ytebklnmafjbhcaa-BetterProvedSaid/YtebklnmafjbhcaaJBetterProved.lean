/- The statement BetterProved. -/
import Derived.Test.YtebklnmafjbhcaaJ6
import Derived.Test.YtebklnmafjbhcaaRows
set_option linter.unusedVariables false
set_option linter.unusedSimpArgs false
namespace Go.Proofs.Ytebklnmafjbhcaa
open Go.Eng
set_option maxRecDepth 100000
set_option maxHeartbeats 4000000

theorem betterproved_pc {w : World} {gv av wv lv : Value} {vs : List Value} {rr : List (List Int)} {a wl l : List Int} (Hg : Mat w gv vs rr) (Ha : Ints w av a) (Hw : Ints w wv wl) (Hl : Ints w lv l) : PC Try.prog 7 [.agg #[gv], av, wv, lv] w (.bool true) := by
  refine PC.mk tyOk Try.func7 rfl (by kernel_rfl) fun w1 E1 => ?_
  replace Hg := Hg.ext E1
  replace Ha := Ha.ext E1
  replace Hw := Hw.ext E1
  replace Hl := Hl.ext E1
  have EE := Ext.refl w1
  refine Bx.agg fun b2 w2 E2 hb2 Hb _ => ?_
  replace Hg := Hg.ext E2
  replace Ha := Ha.ext E2
  replace Hw := Hw.ext E2
  replace Hl := Hl.ext E2
  replace EE := EE.ext E2
  have hll := Hl.le
  have cf := fit22_pc Hg Ha
  have cca := complete_pc Ha
  have cww := weighted_pc (n := rr.length) Hw
  by_cases hf : ¬ great rr a ∧ vld rr a = 0
  · rw [tf_t hf] at cf
    have hv := hf.2
    by_cases hca : compl a
    · rw [tf_t hca] at cca
      by_cases hw : wtd wl rr.length
      · rw [tf_t hw] at cww
        by_cases hl5 : 50 < l.length
        · repeat' (conv => whnf
                   first
                   | (refine Dr.quiet tyOk (by kernel_rfl) ?_)
                   | (refine VC.pure alive22_pc ?_)
                   | (refine VC.pure cf ?_)
                   | (refine VC.pure cca ?_)
                   | (refine VCQ.pure cca ?_)
                   | (refine VC.pure cww ?_)
                   | (refine VCQ.pure cww ?_)
                   | (refine Rng.mk (by omega) ?_)
                   | (refine Split.pos (by omega) ?_)
                   | (refine Split.neg (by omega) ?_)
                   | (refine Split.mk (fun h => ?_) (fun h => ?_))
                   | (refine Need.mk (by omega) ?_)
                   | (refine Ints.ln (by assumption) ?_)
                   | (refine Mat.ln (by assumption) ?_)
                   | (refine Ints.ln (Mat.row (by assumption) _ (by omega)) ?_)
                   | (refine Ints.ix (by assumption) (by omega) ?_)
                   | (refine Mat.ix (by assumption) (by omega) ?_)
                   | (refine Ints.ix (Mat.row (by assumption) _ (by omega)) (by omega) ?_)
                   | (refine Ints.ix (c := 0) (by assumption) (by omega) ?_)
                   | (refine Mat.ix (c := 0) (by assumption) (by omega) ?_)
                   | (refine Ints.ix (c := 0) (Mat.row (by assumption) _ (by omega)) (by omega) ?_)
                   | (refine Ints.ixI (by assumption) (by omega) ?_)
                   | (refine Mat.ixI (by assumption) (by omega) ?_)
                   | (refine Ints.ixI (Mat.row (by assumption) _ (by omega)) (by omega) ?_)
                   | (refine Ints.ld (by assumption) (by omega) ?_)
                   | (refine Mat.ld (by assumption) (by omega) ?_)
                   | (refine Ints.ld (Mat.row (by assumption) _ (by omega)) (by omega) ?_)
                   | (refine At.ld (by assumption) rfl ?_)
                   | (refine At.ldN (by assumption) rfl ?_)
                   | (refine Prs.ln (by assumption) ?_)
                   | (refine Trs.ln (by assumption) ?_)
                   | (refine Prs.ix (by assumption) (by omega) ?_)
                   | (refine Trs.ix (by assumption) (by omega) ?_)
                   | (refine Prs.ldN (by assumption) (by omega) ?_)
                   | (refine Trs.ldN (by assumption) (by omega) ?_)
                   | (refine At.ldN (Blk.at (by assumption)) rfl ?_)
                   | (refine At.ld (Blk.at (by assumption)) rfl ?_)
                   | (refine IxA.mk (by omega) ?_)
                   | (refine Sl.ln (Own.sl (by assumption)) ?_)
                   | (refine Ints.ix (Own.sl (by assumption)) (by omega) ?_)
                   | (refine Ints.ixI (Own.sl (by assumption)) (by omega) ?_)
                   | (refine Ints.ld (Own.sl (by assumption)) (by omega) ?_))
          exact ⟨rfl, EE⟩
        · have hck := chk_of_vld hv
          have ct := btries_pc Hg hck
          have cvl := rvalid_pc Hg Hl
          have cp := gproves_pc Hg Ha Hw
          repeat' (conv => whnf
                   first
                   | (refine Dr.quiet tyOk (by kernel_rfl) ?_)
                   | (refine VC.pure alive22_pc ?_)
                   | (refine VC.pure cf ?_)
                   | (refine VC.pure cca ?_)
                   | (refine VCQ.pure cca ?_)
                   | (refine VC.pure cww ?_)
                   | (refine VCQ.pure cww ?_)
                   | (refine Rng.mk (by omega) ?_)
                   | (refine Split.pos (by omega) ?_)
                   | (refine Split.neg (by omega) ?_)
                   | (refine Split.mk (fun h => ?_) (fun h => ?_))
                   | (refine Need.mk (by omega) ?_)
                   | (refine Ints.ln (by assumption) ?_)
                   | (refine Mat.ln (by assumption) ?_)
                   | (refine Ints.ln (Mat.row (by assumption) _ (by omega)) ?_)
                   | (refine Ints.ix (by assumption) (by omega) ?_)
                   | (refine Mat.ix (by assumption) (by omega) ?_)
                   | (refine Ints.ix (Mat.row (by assumption) _ (by omega)) (by omega) ?_)
                   | (refine Ints.ix (c := 0) (by assumption) (by omega) ?_)
                   | (refine Mat.ix (c := 0) (by assumption) (by omega) ?_)
                   | (refine Ints.ix (c := 0) (Mat.row (by assumption) _ (by omega)) (by omega) ?_)
                   | (refine Ints.ixI (by assumption) (by omega) ?_)
                   | (refine Mat.ixI (by assumption) (by omega) ?_)
                   | (refine Ints.ixI (Mat.row (by assumption) _ (by omega)) (by omega) ?_)
                   | (refine Ints.ld (by assumption) (by omega) ?_)
                   | (refine Mat.ld (by assumption) (by omega) ?_)
                   | (refine Ints.ld (Mat.row (by assumption) _ (by omega)) (by omega) ?_)
                   | (refine At.ld (by assumption) rfl ?_)
                   | (refine At.ldN (by assumption) rfl ?_)
                   | (refine Prs.ln (by assumption) ?_)
                   | (refine Trs.ln (by assumption) ?_)
                   | (refine Prs.ix (by assumption) (by omega) ?_)
                   | (refine Trs.ix (by assumption) (by omega) ?_)
                   | (refine Prs.ldN (by assumption) (by omega) ?_)
                   | (refine Trs.ldN (by assumption) (by omega) ?_)
                   | (refine At.ldN (Blk.at (by assumption)) rfl ?_)
                   | (refine At.ld (Blk.at (by assumption)) rfl ?_)
                   | (refine IxA.mk (by omega) ?_)
                   | (refine Sl.ln (Own.sl (by assumption)) ?_)
                   | (refine Ints.ix (Own.sl (by assumption)) (by omega) ?_)
                   | (refine Ints.ixI (Own.sl (by assumption)) (by omega) ?_)
                   | (refine Ints.ld (Own.sl (by assumption)) (by omega) ?_))
          by_cases hp : pvd rr a wl
          · obtain ⟨p1, p2⟩ := prB_t hv hca hw hp
            rw [p1, p2] at cp
            have htop : ∀ l, vld rr l = 0 → ¬ abv rr a l := fun l hl => proved_top hv hca hw hp hl
            repeat' (conv => whnf
                     first
                     | (refine Dr.quiet tyOk (by kernel_rfl) ?_)
                     | (refine VC.pure cp ?_)
                     | (refine Rng.mk (by omega) ?_)
                     | (refine Split.pos (by omega) ?_)
                     | (refine Split.neg (by omega) ?_)
                     | (refine Split.mk (fun h => ?_) (fun h => ?_))
                     | (refine Need.mk (by omega) ?_)
                     | (refine Ints.ln (by assumption) ?_)
                     | (refine Mat.ln (by assumption) ?_)
                     | (refine Ints.ln (Mat.row (by assumption) _ (by omega)) ?_)
                     | (refine Ints.ix (by assumption) (by omega) ?_)
                     | (refine Mat.ix (by assumption) (by omega) ?_)
                     | (refine Ints.ix (Mat.row (by assumption) _ (by omega)) (by omega) ?_)
                     | (refine Ints.ix (c := 0) (by assumption) (by omega) ?_)
                     | (refine Mat.ix (c := 0) (by assumption) (by omega) ?_)
                     | (refine Ints.ix (c := 0) (Mat.row (by assumption) _ (by omega)) (by omega) ?_)
                     | (refine Ints.ixI (by assumption) (by omega) ?_)
                     | (refine Mat.ixI (by assumption) (by omega) ?_)
                     | (refine Ints.ixI (Mat.row (by assumption) _ (by omega)) (by omega) ?_)
                     | (refine Ints.ld (by assumption) (by omega) ?_)
                     | (refine Mat.ld (by assumption) (by omega) ?_)
                     | (refine Ints.ld (Mat.row (by assumption) _ (by omega)) (by omega) ?_)
                     | (refine At.ld (by assumption) rfl ?_)
                     | (refine At.ldN (by assumption) rfl ?_)
                     | (refine Prs.ln (by assumption) ?_)
                     | (refine Trs.ln (by assumption) ?_)
                     | (refine Prs.ix (by assumption) (by omega) ?_)
                     | (refine Trs.ix (by assumption) (by omega) ?_)
                     | (refine Prs.ldN (by assumption) (by omega) ?_)
                     | (refine Trs.ldN (by assumption) (by omega) ?_)
                     | (refine At.ldN (Blk.at (by assumption)) rfl ?_)
                     | (refine At.ld (Blk.at (by assumption)) rfl ?_)
                     | (refine IxA.mk (by omega) ?_)
                     | (refine Sl.ln (Own.sl (by assumption)) ?_)
                     | (refine Ints.ix (Own.sl (by assumption)) (by omega) ?_)
                     | (refine Ints.ixI (Own.sl (by assumption)) (by omega) ?_)
                     | (refine Ints.ld (Own.sl (by assumption)) (by omega) ?_))
            conv => whnf
            refine VC.rc (gfind_rc Hg Ha) ?_
            rintro _ w3 E3 ⟨bv, rfl, HB⟩
            replace Hg := Hg.ext E3
            replace Ha := Ha.ext E3
            replace Hw := Hw.ext E3
            replace Hl := Hl.ext E3
            replace EE := EE.ext E3
            replace Hb := Hb.ext E3
            have cvl := cvl.ext E3
            have ct := ct.ext E3
            by_cases ht : 20000 < tot rr
            · have hE := lkE_many hv ht
              rw [(fd_err (by omega)).1, hE]
              rw [tf_t ht] at ct
              by_cases hvl : vld rr l = 0
              · rw [hvl] at cvl
                have cb := rabove_pc Hg Ha Hl hv hvl
                rw [tf_f (htop l hvl)] at cb
                repeat' (conv => whnf
                         first
                         | (refine Dr.quiet tyOk (by kernel_rfl) ?_)
                         | (refine VC.pure cvl ?_)
                         | (refine VCQ.pure cvl ?_)
                         | (refine VCQ.pure ct ?_)
                         | (refine VC.pure ct ?_)
                         | (refine VC.pure cb ?_)
                         | (refine VCQ.pure cb ?_)
                         | (refine Rng.mk (by omega) ?_)
                         | (refine Split.pos (by omega) ?_)
                         | (refine Split.neg (by omega) ?_)
                         | (refine Split.mk (fun h => ?_) (fun h => ?_))
                         | (refine Need.mk (by omega) ?_)
                         | (refine Ints.ln (by assumption) ?_)
                         | (refine Mat.ln (by assumption) ?_)
                         | (refine Ints.ln (Mat.row (by assumption) _ (by omega)) ?_)
                         | (refine Ints.ix (by assumption) (by omega) ?_)
                         | (refine Mat.ix (by assumption) (by omega) ?_)
                         | (refine Ints.ix (Mat.row (by assumption) _ (by omega)) (by omega) ?_)
                         | (refine Ints.ix (c := 0) (by assumption) (by omega) ?_)
                         | (refine Mat.ix (c := 0) (by assumption) (by omega) ?_)
                         | (refine Ints.ix (c := 0) (Mat.row (by assumption) _ (by omega)) (by omega) ?_)
                         | (refine Ints.ixI (by assumption) (by omega) ?_)
                         | (refine Mat.ixI (by assumption) (by omega) ?_)
                         | (refine Ints.ixI (Mat.row (by assumption) _ (by omega)) (by omega) ?_)
                         | (refine Ints.ld (by assumption) (by omega) ?_)
                         | (refine Mat.ld (by assumption) (by omega) ?_)
                         | (refine Ints.ld (Mat.row (by assumption) _ (by omega)) (by omega) ?_)
                         | (refine At.ld (by assumption) rfl ?_)
                         | (refine At.ldN (by assumption) rfl ?_)
                         | (refine Prs.ln (by assumption) ?_)
                         | (refine Trs.ln (by assumption) ?_)
                         | (refine Prs.ix (by assumption) (by omega) ?_)
                         | (refine Trs.ix (by assumption) (by omega) ?_)
                         | (refine Prs.ldN (by assumption) (by omega) ?_)
                         | (refine Trs.ldN (by assumption) (by omega) ?_)
                         | (refine At.ldN (Blk.at (by assumption)) rfl ?_)
                         | (refine At.ld (Blk.at (by assumption)) rfl ?_)
                         | (refine IxA.mk (by omega) ?_)
                         | (refine Sl.ln (Own.sl (by assumption)) ?_)
                         | (refine Ints.ix (Own.sl (by assumption)) (by omega) ?_)
                         | (refine Ints.ixI (Own.sl (by assumption)) (by omega) ?_)
                         | (refine Ints.ld (Own.sl (by assumption)) (by omega) ?_))
                exact ⟨rfl, EE⟩
              · repeat' (conv => whnf
                         first
                         | (refine Dr.quiet tyOk (by kernel_rfl) ?_)
                         | (refine VC.pure cvl ?_)
                         | (refine VCQ.pure cvl ?_)
                         | (refine VCQ.pure ct ?_)
                         | (refine VC.pure ct ?_)
                         | (refine Rng.mk (by omega) ?_)
                         | (refine Split.pos (by omega) ?_)
                         | (refine Split.neg (by omega) ?_)
                         | (refine Split.mk (fun h => ?_) (fun h => ?_))
                         | (refine Need.mk (by omega) ?_)
                         | (refine Ints.ln (by assumption) ?_)
                         | (refine Mat.ln (by assumption) ?_)
                         | (refine Ints.ln (Mat.row (by assumption) _ (by omega)) ?_)
                         | (refine Ints.ix (by assumption) (by omega) ?_)
                         | (refine Mat.ix (by assumption) (by omega) ?_)
                         | (refine Ints.ix (Mat.row (by assumption) _ (by omega)) (by omega) ?_)
                         | (refine Ints.ix (c := 0) (by assumption) (by omega) ?_)
                         | (refine Mat.ix (c := 0) (by assumption) (by omega) ?_)
                         | (refine Ints.ix (c := 0) (Mat.row (by assumption) _ (by omega)) (by omega) ?_)
                         | (refine Ints.ixI (by assumption) (by omega) ?_)
                         | (refine Mat.ixI (by assumption) (by omega) ?_)
                         | (refine Ints.ixI (Mat.row (by assumption) _ (by omega)) (by omega) ?_)
                         | (refine Ints.ld (by assumption) (by omega) ?_)
                         | (refine Mat.ld (by assumption) (by omega) ?_)
                         | (refine Ints.ld (Mat.row (by assumption) _ (by omega)) (by omega) ?_)
                         | (refine At.ld (by assumption) rfl ?_)
                         | (refine At.ldN (by assumption) rfl ?_)
                         | (refine Prs.ln (by assumption) ?_)
                         | (refine Trs.ln (by assumption) ?_)
                         | (refine Prs.ix (by assumption) (by omega) ?_)
                         | (refine Trs.ix (by assumption) (by omega) ?_)
                         | (refine Prs.ldN (by assumption) (by omega) ?_)
                         | (refine Trs.ldN (by assumption) (by omega) ?_)
                         | (refine At.ldN (Blk.at (by assumption)) rfl ?_)
                         | (refine At.ld (Blk.at (by assumption)) rfl ?_)
                         | (refine IxA.mk (by omega) ?_)
                         | (refine Sl.ln (Own.sl (by assumption)) ?_)
                         | (refine Ints.ix (Own.sl (by assumption)) (by omega) ?_)
                         | (refine Ints.ixI (Own.sl (by assumption)) (by omega) ?_)
                         | (refine Ints.ld (Own.sl (by assumption)) (by omega) ?_))
                exact ⟨rfl, EE⟩
            · have hE := lkE_ok hv ht
              rw [tf_f ht] at ct
              have hi : imp rr a = none := imp_isNone.2 fun b hb => htop b (lists_mem hck hb).1
              rw [(fd_none hE hi).1]
              by_cases hvl : vld rr l = 0
              · rw [hvl] at cvl
                have cb := rabove_pc Hg Ha Hl hv hvl
                rw [tf_f (htop l hvl)] at cb
                repeat' (conv => whnf
                         first
                         | (refine Dr.quiet tyOk (by kernel_rfl) ?_)
                         | (refine VC.pure cvl ?_)
                         | (refine VCQ.pure cvl ?_)
                         | (refine VCQ.pure ct ?_)
                         | (refine VC.pure ct ?_)
                         | (refine VC.pure cb ?_)
                         | (refine VCQ.pure cb ?_)
                         | (refine Rng.mk (by omega) ?_)
                         | (refine Split.pos (by omega) ?_)
                         | (refine Split.neg (by omega) ?_)
                         | (refine Split.mk (fun h => ?_) (fun h => ?_))
                         | (refine Need.mk (by omega) ?_)
                         | (refine Ints.ln (by assumption) ?_)
                         | (refine Mat.ln (by assumption) ?_)
                         | (refine Ints.ln (Mat.row (by assumption) _ (by omega)) ?_)
                         | (refine Ints.ix (by assumption) (by omega) ?_)
                         | (refine Mat.ix (by assumption) (by omega) ?_)
                         | (refine Ints.ix (Mat.row (by assumption) _ (by omega)) (by omega) ?_)
                         | (refine Ints.ix (c := 0) (by assumption) (by omega) ?_)
                         | (refine Mat.ix (c := 0) (by assumption) (by omega) ?_)
                         | (refine Ints.ix (c := 0) (Mat.row (by assumption) _ (by omega)) (by omega) ?_)
                         | (refine Ints.ixI (by assumption) (by omega) ?_)
                         | (refine Mat.ixI (by assumption) (by omega) ?_)
                         | (refine Ints.ixI (Mat.row (by assumption) _ (by omega)) (by omega) ?_)
                         | (refine Ints.ld (by assumption) (by omega) ?_)
                         | (refine Mat.ld (by assumption) (by omega) ?_)
                         | (refine Ints.ld (Mat.row (by assumption) _ (by omega)) (by omega) ?_)
                         | (refine At.ld (by assumption) rfl ?_)
                         | (refine At.ldN (by assumption) rfl ?_)
                         | (refine Prs.ln (by assumption) ?_)
                         | (refine Trs.ln (by assumption) ?_)
                         | (refine Prs.ix (by assumption) (by omega) ?_)
                         | (refine Trs.ix (by assumption) (by omega) ?_)
                         | (refine Prs.ldN (by assumption) (by omega) ?_)
                         | (refine Trs.ldN (by assumption) (by omega) ?_)
                         | (refine At.ldN (Blk.at (by assumption)) rfl ?_)
                         | (refine At.ld (Blk.at (by assumption)) rfl ?_)
                         | (refine IxA.mk (by omega) ?_)
                         | (refine Sl.ln (Own.sl (by assumption)) ?_)
                         | (refine Ints.ix (Own.sl (by assumption)) (by omega) ?_)
                         | (refine Ints.ixI (Own.sl (by assumption)) (by omega) ?_)
                         | (refine Ints.ld (Own.sl (by assumption)) (by omega) ?_))
                exact ⟨rfl, EE⟩
              · repeat' (conv => whnf
                         first
                         | (refine Dr.quiet tyOk (by kernel_rfl) ?_)
                         | (refine VC.pure cvl ?_)
                         | (refine VCQ.pure cvl ?_)
                         | (refine VCQ.pure ct ?_)
                         | (refine VC.pure ct ?_)
                         | (refine Rng.mk (by omega) ?_)
                         | (refine Split.pos (by omega) ?_)
                         | (refine Split.neg (by omega) ?_)
                         | (refine Split.mk (fun h => ?_) (fun h => ?_))
                         | (refine Need.mk (by omega) ?_)
                         | (refine Ints.ln (by assumption) ?_)
                         | (refine Mat.ln (by assumption) ?_)
                         | (refine Ints.ln (Mat.row (by assumption) _ (by omega)) ?_)
                         | (refine Ints.ix (by assumption) (by omega) ?_)
                         | (refine Mat.ix (by assumption) (by omega) ?_)
                         | (refine Ints.ix (Mat.row (by assumption) _ (by omega)) (by omega) ?_)
                         | (refine Ints.ix (c := 0) (by assumption) (by omega) ?_)
                         | (refine Mat.ix (c := 0) (by assumption) (by omega) ?_)
                         | (refine Ints.ix (c := 0) (Mat.row (by assumption) _ (by omega)) (by omega) ?_)
                         | (refine Ints.ixI (by assumption) (by omega) ?_)
                         | (refine Mat.ixI (by assumption) (by omega) ?_)
                         | (refine Ints.ixI (Mat.row (by assumption) _ (by omega)) (by omega) ?_)
                         | (refine Ints.ld (by assumption) (by omega) ?_)
                         | (refine Mat.ld (by assumption) (by omega) ?_)
                         | (refine Ints.ld (Mat.row (by assumption) _ (by omega)) (by omega) ?_)
                         | (refine At.ld (by assumption) rfl ?_)
                         | (refine At.ldN (by assumption) rfl ?_)
                         | (refine Prs.ln (by assumption) ?_)
                         | (refine Trs.ln (by assumption) ?_)
                         | (refine Prs.ix (by assumption) (by omega) ?_)
                         | (refine Trs.ix (by assumption) (by omega) ?_)
                         | (refine Prs.ldN (by assumption) (by omega) ?_)
                         | (refine Trs.ldN (by assumption) (by omega) ?_)
                         | (refine At.ldN (Blk.at (by assumption)) rfl ?_)
                         | (refine At.ld (Blk.at (by assumption)) rfl ?_)
                         | (refine IxA.mk (by omega) ?_)
                         | (refine Sl.ln (Own.sl (by assumption)) ?_)
                         | (refine Ints.ix (Own.sl (by assumption)) (by omega) ?_)
                         | (refine Ints.ixI (Own.sl (by assumption)) (by omega) ?_)
                         | (refine Ints.ld (Own.sl (by assumption)) (by omega) ?_))
                exact ⟨rfl, EE⟩
          · obtain ⟨p1, p2⟩ := prB_f hv hca hw hp
            rw [p1, p2] at cp
            repeat' (conv => whnf
                     first
                     | (refine Dr.quiet tyOk (by kernel_rfl) ?_)
                     | (refine VC.pure cp ?_)
                     | (refine Rng.mk (by omega) ?_)
                     | (refine Split.pos (by omega) ?_)
                     | (refine Split.neg (by omega) ?_)
                     | (refine Split.mk (fun h => ?_) (fun h => ?_))
                     | (refine Need.mk (by omega) ?_)
                     | (refine Ints.ln (by assumption) ?_)
                     | (refine Mat.ln (by assumption) ?_)
                     | (refine Ints.ln (Mat.row (by assumption) _ (by omega)) ?_)
                     | (refine Ints.ix (by assumption) (by omega) ?_)
                     | (refine Mat.ix (by assumption) (by omega) ?_)
                     | (refine Ints.ix (Mat.row (by assumption) _ (by omega)) (by omega) ?_)
                     | (refine Ints.ix (c := 0) (by assumption) (by omega) ?_)
                     | (refine Mat.ix (c := 0) (by assumption) (by omega) ?_)
                     | (refine Ints.ix (c := 0) (Mat.row (by assumption) _ (by omega)) (by omega) ?_)
                     | (refine Ints.ixI (by assumption) (by omega) ?_)
                     | (refine Mat.ixI (by assumption) (by omega) ?_)
                     | (refine Ints.ixI (Mat.row (by assumption) _ (by omega)) (by omega) ?_)
                     | (refine Ints.ld (by assumption) (by omega) ?_)
                     | (refine Mat.ld (by assumption) (by omega) ?_)
                     | (refine Ints.ld (Mat.row (by assumption) _ (by omega)) (by omega) ?_)
                     | (refine At.ld (by assumption) rfl ?_)
                     | (refine At.ldN (by assumption) rfl ?_)
                     | (refine Prs.ln (by assumption) ?_)
                     | (refine Trs.ln (by assumption) ?_)
                     | (refine Prs.ix (by assumption) (by omega) ?_)
                     | (refine Trs.ix (by assumption) (by omega) ?_)
                     | (refine Prs.ldN (by assumption) (by omega) ?_)
                     | (refine Trs.ldN (by assumption) (by omega) ?_)
                     | (refine At.ldN (Blk.at (by assumption)) rfl ?_)
                     | (refine At.ld (Blk.at (by assumption)) rfl ?_)
                     | (refine IxA.mk (by omega) ?_)
                     | (refine Sl.ln (Own.sl (by assumption)) ?_)
                     | (refine Ints.ix (Own.sl (by assumption)) (by omega) ?_)
                     | (refine Ints.ixI (Own.sl (by assumption)) (by omega) ?_)
                     | (refine Ints.ld (Own.sl (by assumption)) (by omega) ?_))
            conv => whnf
            refine VC.rc (gfind_rc Hg Ha) ?_
            rintro _ w4 E4 ⟨bv, rfl, HB⟩
            replace Hg := Hg.ext E4
            replace Ha := Ha.ext E4
            replace Hw := Hw.ext E4
            replace Hl := Hl.ext E4
            replace EE := EE.ext E4
            replace Hb := Hb.ext E4
            repeat' (conv => whnf
                     first
                     | (refine Dr.quiet tyOk (by kernel_rfl) ?_)
                     | (refine Rng.mk (by omega) ?_)
                     | (refine Split.pos (by omega) ?_)
                     | (refine Split.neg (by omega) ?_)
                     | (refine Split.mk (fun h => ?_) (fun h => ?_))
                     | (refine Need.mk (by omega) ?_)
                     | (refine Ints.ln (by assumption) ?_)
                     | (refine Mat.ln (by assumption) ?_)
                     | (refine Ints.ln (Mat.row (by assumption) _ (by omega)) ?_)
                     | (refine Ints.ix (by assumption) (by omega) ?_)
                     | (refine Mat.ix (by assumption) (by omega) ?_)
                     | (refine Ints.ix (Mat.row (by assumption) _ (by omega)) (by omega) ?_)
                     | (refine Ints.ix (c := 0) (by assumption) (by omega) ?_)
                     | (refine Mat.ix (c := 0) (by assumption) (by omega) ?_)
                     | (refine Ints.ix (c := 0) (Mat.row (by assumption) _ (by omega)) (by omega) ?_)
                     | (refine Ints.ixI (by assumption) (by omega) ?_)
                     | (refine Mat.ixI (by assumption) (by omega) ?_)
                     | (refine Ints.ixI (Mat.row (by assumption) _ (by omega)) (by omega) ?_)
                     | (refine Ints.ld (by assumption) (by omega) ?_)
                     | (refine Mat.ld (by assumption) (by omega) ?_)
                     | (refine Ints.ld (Mat.row (by assumption) _ (by omega)) (by omega) ?_)
                     | (refine At.ld (by assumption) rfl ?_)
                     | (refine At.ldN (by assumption) rfl ?_)
                     | (refine Prs.ln (by assumption) ?_)
                     | (refine Trs.ln (by assumption) ?_)
                     | (refine Prs.ix (by assumption) (by omega) ?_)
                     | (refine Trs.ix (by assumption) (by omega) ?_)
                     | (refine Prs.ldN (by assumption) (by omega) ?_)
                     | (refine Trs.ldN (by assumption) (by omega) ?_)
                     | (refine At.ldN (Blk.at (by assumption)) rfl ?_)
                     | (refine At.ld (Blk.at (by assumption)) rfl ?_)
                     | (refine IxA.mk (by omega) ?_)
                     | (refine Sl.ln (Own.sl (by assumption)) ?_)
                     | (refine Ints.ix (Own.sl (by assumption)) (by omega) ?_)
                     | (refine Ints.ixI (Own.sl (by assumption)) (by omega) ?_)
                     | (refine Ints.ld (Own.sl (by assumption)) (by omega) ?_))
            exact ⟨rfl, EE⟩
      · rw [tf_f hw] at cww
        repeat' (conv => whnf
                 first
                 | (refine Dr.quiet tyOk (by kernel_rfl) ?_)
                 | (refine VC.pure alive22_pc ?_)
                 | (refine VC.pure cf ?_)
                 | (refine VC.pure cca ?_)
                 | (refine VCQ.pure cca ?_)
                 | (refine VC.pure cww ?_)
                 | (refine VCQ.pure cww ?_)
                 | (refine Rng.mk (by omega) ?_)
                 | (refine Split.pos (by omega) ?_)
                 | (refine Split.neg (by omega) ?_)
                 | (refine Split.mk (fun h => ?_) (fun h => ?_))
                 | (refine Need.mk (by omega) ?_)
                 | (refine Ints.ln (by assumption) ?_)
                 | (refine Mat.ln (by assumption) ?_)
                 | (refine Ints.ln (Mat.row (by assumption) _ (by omega)) ?_)
                 | (refine Ints.ix (by assumption) (by omega) ?_)
                 | (refine Mat.ix (by assumption) (by omega) ?_)
                 | (refine Ints.ix (Mat.row (by assumption) _ (by omega)) (by omega) ?_)
                 | (refine Ints.ix (c := 0) (by assumption) (by omega) ?_)
                 | (refine Mat.ix (c := 0) (by assumption) (by omega) ?_)
                 | (refine Ints.ix (c := 0) (Mat.row (by assumption) _ (by omega)) (by omega) ?_)
                 | (refine Ints.ixI (by assumption) (by omega) ?_)
                 | (refine Mat.ixI (by assumption) (by omega) ?_)
                 | (refine Ints.ixI (Mat.row (by assumption) _ (by omega)) (by omega) ?_)
                 | (refine Ints.ld (by assumption) (by omega) ?_)
                 | (refine Mat.ld (by assumption) (by omega) ?_)
                 | (refine Ints.ld (Mat.row (by assumption) _ (by omega)) (by omega) ?_)
                 | (refine At.ld (by assumption) rfl ?_)
                 | (refine At.ldN (by assumption) rfl ?_)
                 | (refine Prs.ln (by assumption) ?_)
                 | (refine Trs.ln (by assumption) ?_)
                 | (refine Prs.ix (by assumption) (by omega) ?_)
                 | (refine Trs.ix (by assumption) (by omega) ?_)
                 | (refine Prs.ldN (by assumption) (by omega) ?_)
                 | (refine Trs.ldN (by assumption) (by omega) ?_)
                 | (refine At.ldN (Blk.at (by assumption)) rfl ?_)
                 | (refine At.ld (Blk.at (by assumption)) rfl ?_)
                 | (refine IxA.mk (by omega) ?_)
                 | (refine Sl.ln (Own.sl (by assumption)) ?_)
                 | (refine Ints.ix (Own.sl (by assumption)) (by omega) ?_)
                 | (refine Ints.ixI (Own.sl (by assumption)) (by omega) ?_)
                 | (refine Ints.ld (Own.sl (by assumption)) (by omega) ?_))
        exact ⟨rfl, EE⟩
    · rw [tf_f hca] at cca
      repeat' (conv => whnf
               first
               | (refine Dr.quiet tyOk (by kernel_rfl) ?_)
               | (refine VC.pure alive22_pc ?_)
               | (refine VC.pure cf ?_)
               | (refine VC.pure cca ?_)
               | (refine VCQ.pure cca ?_)
               | (refine Rng.mk (by omega) ?_)
               | (refine Split.pos (by omega) ?_)
               | (refine Split.neg (by omega) ?_)
               | (refine Split.mk (fun h => ?_) (fun h => ?_))
               | (refine Need.mk (by omega) ?_)
               | (refine Ints.ln (by assumption) ?_)
               | (refine Mat.ln (by assumption) ?_)
               | (refine Ints.ln (Mat.row (by assumption) _ (by omega)) ?_)
               | (refine Ints.ix (by assumption) (by omega) ?_)
               | (refine Mat.ix (by assumption) (by omega) ?_)
               | (refine Ints.ix (Mat.row (by assumption) _ (by omega)) (by omega) ?_)
               | (refine Ints.ix (c := 0) (by assumption) (by omega) ?_)
               | (refine Mat.ix (c := 0) (by assumption) (by omega) ?_)
               | (refine Ints.ix (c := 0) (Mat.row (by assumption) _ (by omega)) (by omega) ?_)
               | (refine Ints.ixI (by assumption) (by omega) ?_)
               | (refine Mat.ixI (by assumption) (by omega) ?_)
               | (refine Ints.ixI (Mat.row (by assumption) _ (by omega)) (by omega) ?_)
               | (refine Ints.ld (by assumption) (by omega) ?_)
               | (refine Mat.ld (by assumption) (by omega) ?_)
               | (refine Ints.ld (Mat.row (by assumption) _ (by omega)) (by omega) ?_)
               | (refine At.ld (by assumption) rfl ?_)
               | (refine At.ldN (by assumption) rfl ?_)
               | (refine Prs.ln (by assumption) ?_)
               | (refine Trs.ln (by assumption) ?_)
               | (refine Prs.ix (by assumption) (by omega) ?_)
               | (refine Trs.ix (by assumption) (by omega) ?_)
               | (refine Prs.ldN (by assumption) (by omega) ?_)
               | (refine Trs.ldN (by assumption) (by omega) ?_)
               | (refine At.ldN (Blk.at (by assumption)) rfl ?_)
               | (refine At.ld (Blk.at (by assumption)) rfl ?_)
               | (refine IxA.mk (by omega) ?_)
               | (refine Sl.ln (Own.sl (by assumption)) ?_)
               | (refine Ints.ix (Own.sl (by assumption)) (by omega) ?_)
               | (refine Ints.ixI (Own.sl (by assumption)) (by omega) ?_)
               | (refine Ints.ld (Own.sl (by assumption)) (by omega) ?_))
      exact ⟨rfl, EE⟩
  · rw [tf_f hf] at cf
    repeat' (conv => whnf
             first
             | (refine Dr.quiet tyOk (by kernel_rfl) ?_)
             | (refine VC.pure alive22_pc ?_)
             | (refine VC.pure cf ?_)
             | (refine Rng.mk (by omega) ?_)
             | (refine Split.pos (by omega) ?_)
             | (refine Split.neg (by omega) ?_)
             | (refine Split.mk (fun h => ?_) (fun h => ?_))
             | (refine Need.mk (by omega) ?_)
             | (refine Ints.ln (by assumption) ?_)
             | (refine Mat.ln (by assumption) ?_)
             | (refine Ints.ln (Mat.row (by assumption) _ (by omega)) ?_)
             | (refine Ints.ix (by assumption) (by omega) ?_)
             | (refine Mat.ix (by assumption) (by omega) ?_)
             | (refine Ints.ix (Mat.row (by assumption) _ (by omega)) (by omega) ?_)
             | (refine Ints.ix (c := 0) (by assumption) (by omega) ?_)
             | (refine Mat.ix (c := 0) (by assumption) (by omega) ?_)
             | (refine Ints.ix (c := 0) (Mat.row (by assumption) _ (by omega)) (by omega) ?_)
             | (refine Ints.ixI (by assumption) (by omega) ?_)
             | (refine Mat.ixI (by assumption) (by omega) ?_)
             | (refine Ints.ixI (Mat.row (by assumption) _ (by omega)) (by omega) ?_)
             | (refine Ints.ld (by assumption) (by omega) ?_)
             | (refine Mat.ld (by assumption) (by omega) ?_)
             | (refine Ints.ld (Mat.row (by assumption) _ (by omega)) (by omega) ?_)
             | (refine At.ld (by assumption) rfl ?_)
             | (refine At.ldN (by assumption) rfl ?_)
             | (refine Prs.ln (by assumption) ?_)
             | (refine Trs.ln (by assumption) ?_)
             | (refine Prs.ix (by assumption) (by omega) ?_)
             | (refine Trs.ix (by assumption) (by omega) ?_)
             | (refine Prs.ldN (by assumption) (by omega) ?_)
             | (refine Trs.ldN (by assumption) (by omega) ?_)
             | (refine At.ldN (Blk.at (by assumption)) rfl ?_)
             | (refine At.ld (Blk.at (by assumption)) rfl ?_)
             | (refine IxA.mk (by omega) ?_)
             | (refine Sl.ln (Own.sl (by assumption)) ?_)
             | (refine Ints.ix (Own.sl (by assumption)) (by omega) ?_)
             | (refine Ints.ixI (Own.sl (by assumption)) (by omega) ?_)
             | (refine Ints.ld (Own.sl (by assumption)) (by omega) ?_))
    exact ⟨rfl, EE⟩

open Go.ChangeShapes Go.WideShapes Go.ChangeAt Go.RowKit Go.Eng in
theorem betterProved_lifted (os : Os) (started : os.Started) (H : Type) (enc : TypeId × Value → H) :
    ReturnsInHanded {} Try.checked os 7 .any (Rows.betterProvedSpec.pre6 enc Try.prog Try.f7 Rows.betterProvedRow.domain false) (Rows.betterProvedSpec.post enc Try.prog Try.f7 false true false false) := by
  refine returnsInHanded_of_change (C := Try.checked) own started (by kernel_rfl) Try.func7
    (ChangeSpec.witness6 (enc := enc) (C := Try.checked) false ⟨#[], #[.agg #[.slice none 0 0], .slice none 0 0, .slice none 0 0, .slice none 0 0], []⟩ 8 (by kernel_rfl) (by kernel_rfl) (by kernel_rfl) (by kernel_rfl)) ?_
  intro W base args ds gs before hval0 hW hcnd _
  have hval : ∀ (j : Nat) t v, Try.f7.params[j]? = some t → args[j]? = some v → Value.okWide Try.prog W .any base t v := hval0
  have hW' := hW
  obtain ⟨p, q, hA0, hV, e0, hfz, hnd⟩ := hW
  have hA : DataW.TrodAll enc Try.prog W 0 (fun _ => true) true Try.f7.params.toList args.toList ds p := hA0
  rw [Try.params7] at hA hval
  clear hfz hnd hV e0 hval0
  obtain ⟨v0, vs0, d0, ds0, p0, q0, e0, rfl, f0, h0, t0⟩ := trodAll_cons hA
  obtain ⟨v1, vs1, d1, ds1, p1, q1, e1, rfl, f1, h1, t1⟩ := trodAll_cons t0
  subst e1
  obtain ⟨v2, vs2, d2, ds2, p2, q2, e2, rfl, f2, h2, t2⟩ := trodAll_cons t1
  subst e2
  obtain ⟨v3, vs3, d3, ds3, p3, q3, e3, rfl, f3, h3, t3⟩ := trodAll_cons t2
  subst e3
  obtain ⟨ee, rfl, _⟩ := trodAll_nil t3
  subst ee
  obtain rfl : args = #[v0, v1, v2, v3] := Array.toList_inj.1 (by simpa using e0)
  obtain ⟨g0, s0, r0, rfl, H0, R0⟩ := open_G Try.underlying24 rfl (by kernel_rfl) (by kernel_rfl) Try.underlying22 Try.underlying25 Try.underlying3 (by kernel_rfl) (by kernel_rfl) (hval 0 24 _ rfl rfl) h0
  obtain ⟨l1, H1, R1⟩ := open_L Try.underlying25 Try.underlying3 (by kernel_rfl) (hval 1 25 _ rfl rfl) h1
  obtain ⟨l2, H2, R2⟩ := open_L Try.underlying25 Try.underlying3 (by kernel_rfl) (hval 2 25 _ rfl rfl) h2
  obtain ⟨l3, H3, R3⟩ := open_L Try.underlying25 Try.underlying3 (by kernel_rfl) (hval 3 25 _ rfl rfl) h3
  exact law_calls laidOut (by rw [Try.params7]; intro t ht; revert t; decide +kernel) rfl Try.underlying4 rfl ⟨rfl, rfl, rfl⟩ hW' (betterproved_pc H0 H1 H2 H3)

theorem betterProved_holds : Rows.BetterProvedSaid :=
  OpenClaim.holds_of_wide 7 Try.f7 rfl rfl rfl rfl rfl rfl rfl ⟨rfl, rfl, rfl, rfl, rfl⟩ rfl rfl rfl rfl rfl (by kernel_rfl) Try.func7 (by kernel_rfl)
    (of_decide_eq_true (by kernel_rfl)) (by unfold Func.isWrapper; first | (rw [if_pos (by decide +kernel)]; kernel_rfl) | (rw [if_neg (by decide +kernel)]; exact ⟨rfl, rfl⟩))
    (fun os started H enc _ => betterProved_lifted os started H enc)
end Go.Proofs.Ytebklnmafjbhcaa
