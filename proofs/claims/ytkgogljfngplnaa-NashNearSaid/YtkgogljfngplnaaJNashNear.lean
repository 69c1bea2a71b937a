/- The statement NashNear. -/
import Derived.Test.YtkgogljfngplnaaJ5
import Derived.Test.YtkgogljfngplnaaRows
set_option linter.unusedVariables false
set_option linter.unusedSimpArgs false
namespace Go.Proofs.Ytkgogljfngplnaa
open Go.Eng
set_option maxRecDepth 100000
set_option maxHeartbeats 4000000

theorem tfe_old {p : Nat → Prop} {c : Nat} (h : ∃ i, i < c ∧ p i) : true = tf (∃ i, i < c + 1 ∧ p i) := by
  obtain ⟨i, h1, h2⟩ := h
  rw [tf_t ⟨i, by omega, h2⟩]
theorem tfe_new {p : Nat → Prop} {c : Nat} (h : p c) : true = tf (∃ i, i < c + 1 ∧ p i) := by rw [tf_t ⟨c, by omega, h⟩]
theorem tfe_no {p : Nat → Prop} {c : Nat} (h : ¬ ∃ i, i < c ∧ p i) (h1 : ¬ p c) : false = tf (∃ i, i < c + 1 ∧ p i) := by
  rw [tf_f]
  rintro ⟨i, hi, hp⟩
  by_cases e : i = c
  · subst e; exact h1 hp
  · exact h ⟨i, by omega, hp⟩
theorem tfe_zero {p : Nat → Prop} : false = tf (∃ i, i < 0 ∧ p i) := by
  rw [tf_f]
  rintro ⟨i, hi, _⟩; omega

theorem nashnear_pc {w : World} {gv lv : Value} {vs : List Value} {rr : List (List Int)} {l : List Int} (Hg : Mat w gv vs rr) (Hl : Ints w lv l) : PC Try.prog 14 [.agg #[gv], lv] w (.bool true) := by
  refine PC.mk tyOk Try.func14 rfl (by kernel_rfl) fun w1 E1 => ?_
  replace Hg := Hg.ext E1
  replace Hl := Hl.ext E1
  have EE := Ext.refl w1
  refine Bx.agg fun b2 w2 E2 hb2 Hb _ => ?_
  replace Hg := Hg.ext E2
  replace Hl := Hl.ext E2
  replace EE := EE.ext E2
  have cf := fit21_pc Hg Hl
  by_cases hf : ¬ great rr l ∧ chk rr = 0
  · rw [tf_t hf] at cf
    have hck := hf.2
    have hgd := gd_of_chk hck
    have hn1 := hgd.n1
    have hn := hgd.n6
    repeat' (conv => whnf
             first
             | (refine Dr.quiet tyOk (by kernel_rfl) ?_)
             | (refine VC.pure alive21_pc ?_)
             | (refine VC.pure cf ?_)
             | (refine Rng.mk (by omega) ?_)
             | (refine Split.pos (by omega) ?_)
             | (refine Split.neg (by omega) ?_)
             | (refine Split.mk (fun h => ?_) (fun h => ?_))
             | (refine Need.mk (by omega) ?_)
             | (refine Ints.ln (by assumption) ?_)
             | (refine Mat.ln (by assumption) ?_)
             | (refine Ints.ln (Mat.row (by assumption) _ (by omega)) ?_)
             | (refine Ints.ix (by assumption) (by omega) ?_)
             | (refine Mat.ix (by assumption) (by omega) ?_)
             | (refine Ints.ix (Mat.row (by assumption) _ (by omega)) (by omega) ?_)
             | (refine Ints.ix (c := 0) (by assumption) (by omega) ?_)
             | (refine Mat.ix (c := 0) (by assumption) (by omega) ?_)
             | (refine Ints.ix (c := 0) (Mat.row (by assumption) _ (by omega)) (by omega) ?_)
             | (refine Ints.ixI (by assumption) (by omega) ?_)
             | (refine Mat.ixI (by assumption) (by omega) ?_)
             | (refine Ints.ixI (Mat.row (by assumption) _ (by omega)) (by omega) ?_)
             | (refine Ints.ld (by assumption) (by omega) ?_)
             | (refine Mat.ld (by assumption) (by omega) ?_)
             | (refine Ints.ld (Mat.row (by assumption) _ (by omega)) (by omega) ?_)
             | (refine At.ld (by assumption) rfl ?_)
             | (refine At.ldN (by assumption) rfl ?_)
             | (refine Prs.ln (by assumption) ?_)
             | (refine Trs.ln (by assumption) ?_)
             | (refine Prs.ix (by assumption) (by omega) ?_)
             | (refine Trs.ix (by assumption) (by omega) ?_)
             | (refine Prs.ldN (by assumption) (by omega) ?_)
             | (refine Trs.ldN (by assumption) (by omega) ?_)
             | (refine At.ldN (Blk.at (by assumption)) rfl ?_)
             | (refine At.ld (Blk.at (by assumption)) rfl ?_)
             | (refine IxA.mk (by omega) ?_)
             | (refine Sl.ln (Own.sl (by assumption)) ?_)
             | (refine Ints.ix (Own.sl (by assumption)) (by omega) ?_)
             | (refine Ints.ixI (Own.sl (by assumption)) (by omega) ?_)
             | (refine Ints.ld (Own.sl (by assumption)) (by omega) ?_))
    conv => whnf
    refine VC.rc (nbest_rc Hg) ?_
    rintro _ w3 E3 ⟨av, rfl, HA⟩
    replace Hg := Hg.ext E3
    replace Hl := Hl.ext E3
    replace EE := EE.ext E3
    replace Hb := Hb.ext E3
    repeat' (conv => whnf
             first
             | (refine Dr.quiet tyOk (by kernel_rfl) ?_)
             | (refine Rng.mk (by omega) ?_)
             | (refine Split.pos (by omega) ?_)
             | (refine Split.neg (by omega) ?_)
             | (refine Split.mk (fun h => ?_) (fun h => ?_))
             | (refine Need.mk (by omega) ?_)
             | (refine Ints.ln (by assumption) ?_)
             | (refine Mat.ln (by assumption) ?_)
             | (refine Ints.ln (Mat.row (by assumption) _ (by omega)) ?_)
             | (refine Ints.ix (by assumption) (by omega) ?_)
             | (refine Mat.ix (by assumption) (by omega) ?_)
             | (refine Ints.ix (Mat.row (by assumption) _ (by omega)) (by omega) ?_)
             | (refine Ints.ix (c := 0) (by assumption) (by omega) ?_)
             | (refine Mat.ix (c := 0) (by assumption) (by omega) ?_)
             | (refine Ints.ix (c := 0) (Mat.row (by assumption) _ (by omega)) (by omega) ?_)
             | (refine Ints.ixI (by assumption) (by omega) ?_)
             | (refine Mat.ixI (by assumption) (by omega) ?_)
             | (refine Ints.ixI (Mat.row (by assumption) _ (by omega)) (by omega) ?_)
             | (refine Ints.ld (by assumption) (by omega) ?_)
             | (refine Mat.ld (by assumption) (by omega) ?_)
             | (refine Ints.ld (Mat.row (by assumption) _ (by omega)) (by omega) ?_)
             | (refine At.ld (by assumption) rfl ?_)
             | (refine At.ldN (by assumption) rfl ?_)
             | (refine Prs.ln (by assumption) ?_)
             | (refine Trs.ln (by assumption) ?_)
             | (refine Prs.ix (by assumption) (by omega) ?_)
             | (refine Trs.ix (by assumption) (by omega) ?_)
             | (refine Prs.ldN (by assumption) (by omega) ?_)
             | (refine Trs.ldN (by assumption) (by omega) ?_)
             | (refine At.ldN (Blk.at (by assumption)) rfl ?_)
             | (refine At.ld (Blk.at (by assumption)) rfl ?_)
             | (refine IxA.mk (by omega) ?_)
             | (refine Sl.ln (Own.sl (by assumption)) ?_)
             | (refine Ints.ix (Own.sl (by assumption)) (by omega) ?_)
             | (refine Ints.ixI (Own.sl (by assumption)) (by omega) ?_)
             | (refine Ints.ld (Own.sl (by assumption)) (by omega) ?_))
    have Hg__1 := Hg
    have Hl__1 := Hl
    have EE__1 := EE
    have Hb__1 := Hb
    have HA__1 := HA
    conv => whnf
    refine VE.alloc eProd fun pb w4 E4 hb_pb Hp => ?_
    replace Hg := Hg.ext E4
    replace Hl := Hl.ext E4
    replace EE := EE.ext E4
    replace Hb := Hb.ext E4
    replace HA := HA.ext E4
    have EL1 := E4
    repeat' (conv => whnf
             first
             | (refine Dr.quiet tyOk (by kernel_rfl) ?_)
             | (refine Rng.mk (by omega) ?_)
             | (refine Split.pos (by omega) ?_)
             | (refine Split.neg (by omega) ?_)
             | (refine Split.mk (fun h => ?_) (fun h => ?_))
             | (refine Need.mk (by omega) ?_)
             | (refine Ints.ln (by assumption) ?_)
             | (refine Mat.ln (by assumption) ?_)
             | (refine Ints.ln (Mat.row (by assumption) _ (by omega)) ?_)
             | (refine Ints.ix (by assumption) (by omega) ?_)
             | (refine Mat.ix (by assumption) (by omega) ?_)
             | (refine Ints.ix (Mat.row (by assumption) _ (by omega)) (by omega) ?_)
             | (refine Ints.ix (c := 0) (by assumption) (by omega) ?_)
             | (refine Mat.ix (c := 0) (by assumption) (by omega) ?_)
             | (refine Ints.ix (c := 0) (Mat.row (by assumption) _ (by omega)) (by omega) ?_)
             | (refine Ints.ixI (by assumption) (by omega) ?_)
             | (refine Mat.ixI (by assumption) (by omega) ?_)
             | (refine Ints.ixI (Mat.row (by assumption) _ (by omega)) (by omega) ?_)
             | (refine Ints.ld (by assumption) (by omega) ?_)
             | (refine Mat.ld (by assumption) (by omega) ?_)
             | (refine Ints.ld (Mat.row (by assumption) _ (by omega)) (by omega) ?_)
             | (refine At.ld (by assumption) rfl ?_)
             | (refine At.ldN (by assumption) rfl ?_)
             | (refine Prs.ln (by assumption) ?_)
             | (refine Trs.ln (by assumption) ?_)
             | (refine Prs.ix (by assumption) (by omega) ?_)
             | (refine Trs.ix (by assumption) (by omega) ?_)
             | (refine Prs.ldN (by assumption) (by omega) ?_)
             | (refine Trs.ldN (by assumption) (by omega) ?_)
             | (refine At.ldN (Blk.at (by assumption)) rfl ?_)
             | (refine At.ld (Blk.at (by assumption)) rfl ?_)
             | (refine IxA.mk (by omega) ?_)
             | (refine Sl.ln (Own.sl (by assumption)) ?_)
             | (refine Ints.ix (Own.sl (by assumption)) (by omega) ?_)
             | (refine Ints.ixI (Own.sl (by assumption)) (by omega) ?_)
             | (refine Ints.ld (Own.sl (by assumption)) (by omega) ?_))
    refine Blk.all Hp (by kernel_rfl) (by first | decide | simp) rfl rfl (by intro v hv; simp at hv; rcases hv with rfl | rfl | rfl | rfl | rfl <;> rfl) fun w5 G5 Hp' => ?_
    have E5 : Ext w3 w5 := EL1.new G5 fun i hi hk => by omega
    replace Hp := Hp'
    replace Hg := Hg__1.ext E5
    replace Hl := Hl__1.ext E5
    replace EE := EE__1.ext E5
    replace Hb := Hb__1.ext E5
    replace HA := HA__1.ext E5
    replace EL1 := E5
    repeat' (conv => whnf
             first
             | (refine Dr.quiet tyOk (by kernel_rfl) ?_)
             | (refine Rng.mk (by omega) ?_)
             | (refine Split.pos (by omega) ?_)
             | (refine Split.neg (by omega) ?_)
             | (refine Split.mk (fun h => ?_) (fun h => ?_))
             | (refine Need.mk (by omega) ?_)
             | (refine Ints.ln (by assumption) ?_)
             | (refine Mat.ln (by assumption) ?_)
             | (refine Ints.ln (Mat.row (by assumption) _ (by omega)) ?_)
             | (refine Ints.ix (by assumption) (by omega) ?_)
             | (refine Mat.ix (by assumption) (by omega) ?_)
             | (refine Ints.ix (Mat.row (by assumption) _ (by omega)) (by omega) ?_)
             | (refine Ints.ix (c := 0) (by assumption) (by omega) ?_)
             | (refine Mat.ix (c := 0) (by assumption) (by omega) ?_)
             | (refine Ints.ix (c := 0) (Mat.row (by assumption) _ (by omega)) (by omega) ?_)
             | (refine Ints.ixI (by assumption) (by omega) ?_)
             | (refine Mat.ixI (by assumption) (by omega) ?_)
             | (refine Ints.ixI (Mat.row (by assumption) _ (by omega)) (by omega) ?_)
             | (refine Ints.ld (by assumption) (by omega) ?_)
             | (refine Mat.ld (by assumption) (by omega) ?_)
             | (refine Ints.ld (Mat.row (by assumption) _ (by omega)) (by omega) ?_)
             | (refine At.ld (by assumption) rfl ?_)
             | (refine At.ldN (by assumption) rfl ?_)
             | (refine Prs.ln (by assumption) ?_)
             | (refine Trs.ln (by assumption) ?_)
             | (refine Prs.ix (by assumption) (by omega) ?_)
             | (refine Trs.ix (by assumption) (by omega) ?_)
             | (refine Prs.ldN (by assumption) (by omega) ?_)
             | (refine Trs.ldN (by assumption) (by omega) ?_)
             | (refine At.ldN (Blk.at (by assumption)) rfl ?_)
             | (refine At.ld (Blk.at (by assumption)) rfl ?_)
             | (refine IxA.mk (by omega) ?_)
             | (refine Sl.ln (Own.sl (by assumption)) ?_)
             | (refine Ints.ix (Own.sl (by assumption)) (by omega) ?_)
             | (refine Ints.ixI (Own.sl (by assumption)) (by omega) ?_)
             | (refine Ints.ld (Own.sl (by assumption)) (by omega) ?_))
    conv => whnf
    refine VC.rc (ngain_rc Hg) ?_
    rintro _ w6 E6 ⟨ga, rfl, HG⟩
    replace Hg := Hg.ext E6
    replace Hl := Hl.ext E6
    replace EE := EE.ext E6
    replace Hb := Hb.ext E6
    replace HA := HA.ext E6
    replace EL1 := EL1.ext E6
    replace Hp := Hp.ext E6
    by_cases hE : nbE rr = 0
    · obtain ⟨hva, hca⟩ := nbest_ok hck
      have hal := al_of_vld hva
      have hm := hal.m10
      have hlen := hal.len
      rw [nbA, if_pos hE] at HA
      rw [ngA, if_pos hE] at HG
      have hgl : ((List.range rr.length).map (gain rr (nbest rr))).length = rr.length := by simp
      repeat' (conv => whnf
               first
               | (refine Dr.quiet tyOk (by kernel_rfl) ?_)
               | (refine Rng.mk (by omega) ?_)
               | (refine Split.pos (by omega) ?_)
               | (refine Split.neg (by omega) ?_)
               | (refine Split.mk (fun h => ?_) (fun h => ?_))
               | (refine Need.mk (by omega) ?_)
               | (refine Ints.ln (by assumption) ?_)
               | (refine Mat.ln (by assumption) ?_)
               | (refine Ints.ln (Mat.row (by assumption) _ (by omega)) ?_)
               | (refine Ints.ix (by assumption) (by omega) ?_)
               | (refine Mat.ix (by assumption) (by omega) ?_)
               | (refine Ints.ix (Mat.row (by assumption) _ (by omega)) (by omega) ?_)
               | (refine Ints.ix (c := 0) (by assumption) (by omega) ?_)
               | (refine Mat.ix (c := 0) (by assumption) (by omega) ?_)
               | (refine Ints.ix (c := 0) (Mat.row (by assumption) _ (by omega)) (by omega) ?_)
               | (refine Ints.ixI (by assumption) (by omega) ?_)
               | (refine Mat.ixI (by assumption) (by omega) ?_)
               | (refine Ints.ixI (Mat.row (by assumption) _ (by omega)) (by omega) ?_)
               | (refine Ints.ld (by assumption) (by omega) ?_)
               | (refine Mat.ld (by assumption) (by omega) ?_)
               | (refine Ints.ld (Mat.row (by assumption) _ (by omega)) (by omega) ?_)
               | (refine At.ld (by assumption) rfl ?_)
               | (refine At.ldN (by assumption) rfl ?_)
               | (refine Prs.ln (by assumption) ?_)
               | (refine Trs.ln (by assumption) ?_)
               | (refine Prs.ix (by assumption) (by omega) ?_)
               | (refine Trs.ix (by assumption) (by omega) ?_)
               | (refine Prs.ldN (by assumption) (by omega) ?_)
               | (refine Trs.ldN (by assumption) (by omega) ?_)
               | (refine At.ldN (Blk.at (by assumption)) rfl ?_)
               | (refine At.ld (Blk.at (by assumption)) rfl ?_)
               | (refine IxA.mk (by omega) ?_)
               | (refine Sl.ln (Own.sl (by assumption)) ?_)
               | (refine Ints.ix (Own.sl (by assumption)) (by omega) ?_)
               | (refine Ints.ixI (Own.sl (by assumption)) (by omega) ?_)
               | (refine Ints.ld (Own.sl (by assumption)) (by omega) ?_))
      conv => whnf
      refine VC.rc (none_rc Hg (Own.sl HA)) ?_
      rintro _ w7 E7 ⟨mv, xv, rfl, HM, HX⟩
      replace Hg := Hg.ext E7
      replace Hl := Hl.ext E7
      replace EE := EE.ext E7
      replace Hb := Hb.ext E7
      replace HA := HA.ext E7
      replace EL1 := EL1.ext E7
      replace Hp := Hp.ext E7
      replace HG := HG.ext E7
      rw [hva]
      have hx0 : (oneX rr (nbest rr)).length = 0 := by rw [nash_one hck]; rfl
      have cvl := rvalid_pc Hg Hl
      by_cases hvl : vld rr l = 0
      · rw [hvl] at cvl
        have hall := al_of_vld hvl
        have hlenl := hall.len
        repeat' (conv => whnf
                 first
                 | (refine Dr.quiet tyOk (by kernel_rfl) ?_)
                 | (refine VC.pure cvl ?_)
                 | (refine Rng.mk (by omega) ?_)
                 | (refine Split.pos (by omega) ?_)
                 | (refine Split.neg (by omega) ?_)
                 | (refine Split.mk (fun h => ?_) (fun h => ?_))
                 | (refine Need.mk (by omega) ?_)
                 | (refine Ints.ln (by assumption) ?_)
                 | (refine Mat.ln (by assumption) ?_)
                 | (refine Ints.ln (Mat.row (by assumption) _ (by omega)) ?_)
                 | (refine Ints.ix (by assumption) (by omega) ?_)
                 | (refine Mat.ix (by assumption) (by omega) ?_)
                 | (refine Ints.ix (Mat.row (by assumption) _ (by omega)) (by omega) ?_)
                 | (refine Ints.ix (c := 0) (by assumption) (by omega) ?_)
                 | (refine Mat.ix (c := 0) (by assumption) (by omega) ?_)
                 | (refine Ints.ix (c := 0) (Mat.row (by assumption) _ (by omega)) (by omega) ?_)
                 | (refine Ints.ixI (by assumption) (by omega) ?_)
                 | (refine Mat.ixI (by assumption) (by omega) ?_)
                 | (refine Ints.ixI (Mat.row (by assumption) _ (by omega)) (by omega) ?_)
                 | (refine Ints.ld (by assumption) (by omega) ?_)
                 | (refine Mat.ld (by assumption) (by omega) ?_)
                 | (refine Ints.ld (Mat.row (by assumption) _ (by omega)) (by omega) ?_)
                 | (refine At.ld (by assumption) rfl ?_)
                 | (refine At.ldN (by assumption) rfl ?_)
                 | (refine Prs.ln (by assumption) ?_)
                 | (refine Trs.ln (by assumption) ?_)
                 | (refine Prs.ix (by assumption) (by omega) ?_)
                 | (refine Trs.ix (by assumption) (by omega) ?_)
                 | (refine Prs.ldN (by assumption) (by omega) ?_)
                 | (refine Trs.ldN (by assumption) (by omega) ?_)
                 | (refine At.ldN (Blk.at (by assumption)) rfl ?_)
                 | (refine At.ld (Blk.at (by assumption)) rfl ?_)
                 | (refine IxA.mk (by omega) ?_)
                 | (refine Sl.ln (Own.sl (by assumption)) ?_)
                 | (refine Ints.ix (Own.sl (by assumption)) (by omega) ?_)
                 | (refine Ints.ixI (Own.sl (by assumption)) (by omega) ?_)
                 | (refine Ints.ld (Own.sl (by assumption)) (by omega) ?_))
        refine Lp.mk tyOk [false, false, false, false, true, false, false, false, false, false, false, false, false, false, true, true, true, true, false, false, false, false, false, false, false, false, false, false, false, false, false, false, false, false, false, false, false, false, false, false, false, false, false, false, false, false, false, false, false, false, false, false, false, false, false, false, false, false, false, false, false, false, false, false, false, false, false, false, false, false, false, false, false, false, false, false, true, true, true, true, true, true, true, true, true, true, true, true, true, true, true, true, true, true, true, true, true, true, true, true, true, true, true, true, true, true, true, true, true, true, true, true, true, true, true] (fun m fr wr => getK fr 16 fun i => getK fr 14 fun q => getK fr 15 fun s => ∃ c : Nat, c ≤ rr.length ∧ m = rr.length - c ∧ i = .int .i64 (c : Int) ∧ q = .bool (tf (∃ i, i < c ∧ gain rr (nbest rr) i < gain rr l i)) ∧ s = .bool (tf (∃ i, i < c ∧ gain rr l i < gain rr (nbest rr) i)) ∧ wr = w7) (rr.length) ?_ ?_
        · exact ⟨0, Nat.zero_le _, rfl, rfl, (congrArg Value.bool tfe_zero), (congrArg Value.bool tfe_zero), rfl⟩
        · intro m w8 u4 u14 u15 u16 u17 u76 u77 u78 u79 u80 u81 u82 u83 u84 u85 u86 u87 u88 u89 u90 u91 u92 u93 u94 u95 u96 u97 u98 u99 u100 u101 u102 u103 u104 u105 u106 u107 u108 u109 u110 u111 u112 u113 u114 hR
          obtain ⟨c, hc, rfl, rfl, rfl, rfl, rfl⟩ := hR
          by_cases hcl : c < rr.length
          · have ev : ((List.range rr.length).map (gain rr (nbest rr))).getD c 0 = gain rr (nbest rr) c := by simp [List.getD, hcl]
            have cw := worth_pc (k := (c : Int)) Hg (Own.sl HA) hcl (by have := hal.row c hcl; omega) hal.val (by omega)
            have cx := worth_pc (k := (c : Int)) Hg Hl hcl (by have := hal.row c hcl; omega) hal.val (by omega)
            have e1 : wth rr (nbest rr) c c = gain rr (nbest rr) c := rfl
            have e2 : wth rr l c c = gain rr l c := rfl
            rw [e1] at cw
            rw [e2] at cx
            by_cases hmo : ∃ i, i < c ∧ gain rr (nbest rr) i < gain rr l i
            · by_cases hle : ∃ i, i < c ∧ gain rr l i < gain rr (nbest rr) i
              · rw [tf_t hmo, tf_t hle]
                repeat' (conv => whnf
                         first
                         | (refine Dr.quiet tyOk (by kernel_rfl) ?_)
                         | (refine VC.pure cx ?_)
                         | (refine VCQ.pure cw ?_)
                         | (refine VC.pure cw ?_)
                         | (refine Rng.mk (by omega) ?_)
                         | (refine Split.pos (by omega) ?_)
                         | (refine Split.neg (by omega) ?_)
                         | (refine Split.mk (fun h => ?_) (fun h => ?_))
                         | (refine Need.mk (by omega) ?_)
                         | (refine Ints.ln (by assumption) ?_)
                         | (refine Mat.ln (by assumption) ?_)
                         | (refine Ints.ln (Mat.row (by assumption) _ (by omega)) ?_)
                         | (refine Ints.ix (by assumption) (by omega) ?_)
                         | (refine Mat.ix (by assumption) (by omega) ?_)
                         | (refine Ints.ix (Mat.row (by assumption) _ (by omega)) (by omega) ?_)
                         | (refine Ints.ix (c := 0) (by assumption) (by omega) ?_)
                         | (refine Mat.ix (c := 0) (by assumption) (by omega) ?_)
                         | (refine Ints.ix (c := 0) (Mat.row (by assumption) _ (by omega)) (by omega) ?_)
                         | (refine Ints.ixI (by assumption) (by omega) ?_)
                         | (refine Mat.ixI (by assumption) (by omega) ?_)
                         | (refine Ints.ixI (Mat.row (by assumption) _ (by omega)) (by omega) ?_)
                         | (refine Ints.ld (by assumption) (by omega) ?_)
                         | (refine Mat.ld (by assumption) (by omega) ?_)
                         | (refine Ints.ld (Mat.row (by assumption) _ (by omega)) (by omega) ?_)
                         | (refine At.ld (by assumption) rfl ?_)
                         | (refine At.ldN (by assumption) rfl ?_)
                         | (refine Prs.ln (by assumption) ?_)
                         | (refine Trs.ln (by assumption) ?_)
                         | (refine Prs.ix (by assumption) (by omega) ?_)
                         | (refine Trs.ix (by assumption) (by omega) ?_)
                         | (refine Prs.ldN (by assumption) (by omega) ?_)
                         | (refine Trs.ldN (by assumption) (by omega) ?_)
                         | (refine At.ldN (Blk.at (by assumption)) rfl ?_)
                         | (refine At.ld (Blk.at (by assumption)) rfl ?_)
                         | (refine IxA.mk (by omega) ?_)
                         | (refine Sl.ln (Own.sl (by assumption)) ?_)
                         | (refine Ints.ix (Own.sl (by assumption)) (by omega) ?_)
                         | (refine Ints.ixI (Own.sl (by assumption)) (by omega) ?_)
                         | (refine Ints.ld (Own.sl (by assumption)) (by omega) ?_))
                all_goals (refine ⟨_, (by omega : rr.length - (c + 1) < rr.length - c), rfl, c + 1, by omega, rfl, rfl, (congrArg Value.bool (tfe_old hmo)), (congrArg Value.bool (tfe_old hle)), rfl⟩)
              · rw [tf_t hmo, tf_f hle]
                repeat' (conv => whnf
                         first
                         | (refine Dr.quiet tyOk (by kernel_rfl) ?_)
                         | (refine VC.pure cx ?_)
                         | (refine VCQ.pure cw ?_)
                         | (refine VC.pure cw ?_)
                         | (refine Rng.mk (by omega) ?_)
                         | (refine Split.pos (by omega) ?_)
                         | (refine Split.neg (by omega) ?_)
                         | (refine Split.mk (fun h => ?_) (fun h => ?_))
                         | (refine Need.mk (by omega) ?_)
                         | (refine Ints.ln (by assumption) ?_)
                         | (refine Mat.ln (by assumption) ?_)
                         | (refine Ints.ln (Mat.row (by assumption) _ (by omega)) ?_)
                         | (refine Ints.ix (by assumption) (by omega) ?_)
                         | (refine Mat.ix (by assumption) (by omega) ?_)
                         | (refine Ints.ix (Mat.row (by assumption) _ (by omega)) (by omega) ?_)
                         | (refine Ints.ix (c := 0) (by assumption) (by omega) ?_)
                         | (refine Mat.ix (c := 0) (by assumption) (by omega) ?_)
                         | (refine Ints.ix (c := 0) (Mat.row (by assumption) _ (by omega)) (by omega) ?_)
                         | (refine Ints.ixI (by assumption) (by omega) ?_)
                         | (refine Mat.ixI (by assumption) (by omega) ?_)
                         | (refine Ints.ixI (Mat.row (by assumption) _ (by omega)) (by omega) ?_)
                         | (refine Ints.ld (by assumption) (by omega) ?_)
                         | (refine Mat.ld (by assumption) (by omega) ?_)
                         | (refine Ints.ld (Mat.row (by assumption) _ (by omega)) (by omega) ?_)
                         | (refine At.ld (by assumption) rfl ?_)
                         | (refine At.ldN (by assumption) rfl ?_)
                         | (refine Prs.ln (by assumption) ?_)
                         | (refine Trs.ln (by assumption) ?_)
                         | (refine Prs.ix (by assumption) (by omega) ?_)
                         | (refine Trs.ix (by assumption) (by omega) ?_)
                         | (refine Prs.ldN (by assumption) (by omega) ?_)
                         | (refine Trs.ldN (by assumption) (by omega) ?_)
                         | (refine At.ldN (Blk.at (by assumption)) rfl ?_)
                         | (refine At.ld (Blk.at (by assumption)) rfl ?_)
                         | (refine IxA.mk (by omega) ?_)
                         | (refine Sl.ln (Own.sl (by assumption)) ?_)
                         | (refine Ints.ix (Own.sl (by assumption)) (by omega) ?_)
                         | (refine Ints.ixI (Own.sl (by assumption)) (by omega) ?_)
                         | (refine Ints.ld (Own.sl (by assumption)) (by omega) ?_))
                all_goals first
                  | (refine ⟨_, (by omega : rr.length - (c + 1) < rr.length - c), rfl, c + 1, by omega, rfl, rfl, (congrArg Value.bool (tfe_old hmo)), (congrArg Value.bool (tfe_no hle (by omega))), rfl⟩)
                  | (refine ⟨_, (by omega : rr.length - (c + 1) < rr.length - c), rfl, c + 1, by omega, rfl, rfl, (congrArg Value.bool (tfe_old hmo)), (congrArg Value.bool (tfe_new (by omega))), rfl⟩)
            · by_cases hle : ∃ i, i < c ∧ gain rr l i < gain rr (nbest rr) i
              · rw [tf_f hmo, tf_t hle]
                repeat' (conv => whnf
                         first
                         | (refine Dr.quiet tyOk (by kernel_rfl) ?_)
                         | (refine VC.pure cx ?_)
                         | (refine VCQ.pure cw ?_)
                         | (refine VC.pure cw ?_)
                         | (refine Rng.mk (by omega) ?_)
                         | (refine Split.pos (by omega) ?_)
                         | (refine Split.neg (by omega) ?_)
                         | (refine Split.mk (fun h => ?_) (fun h => ?_))
                         | (refine Need.mk (by omega) ?_)
                         | (refine Ints.ln (by assumption) ?_)
                         | (refine Mat.ln (by assumption) ?_)
                         | (refine Ints.ln (Mat.row (by assumption) _ (by omega)) ?_)
                         | (refine Ints.ix (by assumption) (by omega) ?_)
                         | (refine Mat.ix (by assumption) (by omega) ?_)
                         | (refine Ints.ix (Mat.row (by assumption) _ (by omega)) (by omega) ?_)
                         | (refine Ints.ix (c := 0) (by assumption) (by omega) ?_)
                         | (refine Mat.ix (c := 0) (by assumption) (by omega) ?_)
                         | (refine Ints.ix (c := 0) (Mat.row (by assumption) _ (by omega)) (by omega) ?_)
                         | (refine Ints.ixI (by assumption) (by omega) ?_)
                         | (refine Mat.ixI (by assumption) (by omega) ?_)
                         | (refine Ints.ixI (Mat.row (by assumption) _ (by omega)) (by omega) ?_)
                         | (refine Ints.ld (by assumption) (by omega) ?_)
                         | (refine Mat.ld (by assumption) (by omega) ?_)
                         | (refine Ints.ld (Mat.row (by assumption) _ (by omega)) (by omega) ?_)
                         | (refine At.ld (by assumption) rfl ?_)
                         | (refine At.ldN (by assumption) rfl ?_)
                         | (refine Prs.ln (by assumption) ?_)
                         | (refine Trs.ln (by assumption) ?_)
                         | (refine Prs.ix (by assumption) (by omega) ?_)
                         | (refine Trs.ix (by assumption) (by omega) ?_)
                         | (refine Prs.ldN (by assumption) (by omega) ?_)
                         | (refine Trs.ldN (by assumption) (by omega) ?_)
                         | (refine At.ldN (Blk.at (by assumption)) rfl ?_)
                         | (refine At.ld (Blk.at (by assumption)) rfl ?_)
                         | (refine IxA.mk (by omega) ?_)
                         | (refine Sl.ln (Own.sl (by assumption)) ?_)
                         | (refine Ints.ix (Own.sl (by assumption)) (by omega) ?_)
                         | (refine Ints.ixI (Own.sl (by assumption)) (by omega) ?_)
                         | (refine Ints.ld (Own.sl (by assumption)) (by omega) ?_))
                all_goals first
                  | (refine ⟨_, (by omega : rr.length - (c + 1) < rr.length - c), rfl, c + 1, by omega, rfl, rfl, (congrArg Value.bool (tfe_no hmo (by omega))), (congrArg Value.bool (tfe_old hle)), rfl⟩)
                  | (refine ⟨_, (by omega : rr.length - (c + 1) < rr.length - c), rfl, c + 1, by omega, rfl, rfl, (congrArg Value.bool (tfe_new (by omega))), (congrArg Value.bool (tfe_old hle)), rfl⟩)
              · rw [tf_f hmo, tf_f hle]
                repeat' (conv => whnf
                         first
                         | (refine Dr.quiet tyOk (by kernel_rfl) ?_)
                         | (refine VC.pure cx ?_)
                         | (refine VCQ.pure cw ?_)
                         | (refine VC.pure cw ?_)
                         | (refine Rng.mk (by omega) ?_)
                         | (refine Split.pos (by omega) ?_)
                         | (refine Split.neg (by omega) ?_)
                         | (refine Split.mk (fun h => ?_) (fun h => ?_))
                         | (refine Need.mk (by omega) ?_)
                         | (refine Ints.ln (by assumption) ?_)
                         | (refine Mat.ln (by assumption) ?_)
                         | (refine Ints.ln (Mat.row (by assumption) _ (by omega)) ?_)
                         | (refine Ints.ix (by assumption) (by omega) ?_)
                         | (refine Mat.ix (by assumption) (by omega) ?_)
                         | (refine Ints.ix (Mat.row (by assumption) _ (by omega)) (by omega) ?_)
                         | (refine Ints.ix (c := 0) (by assumption) (by omega) ?_)
                         | (refine Mat.ix (c := 0) (by assumption) (by omega) ?_)
                         | (refine Ints.ix (c := 0) (Mat.row (by assumption) _ (by omega)) (by omega) ?_)
                         | (refine Ints.ixI (by assumption) (by omega) ?_)
                         | (refine Mat.ixI (by assumption) (by omega) ?_)
                         | (refine Ints.ixI (Mat.row (by assumption) _ (by omega)) (by omega) ?_)
                         | (refine Ints.ld (by assumption) (by omega) ?_)
                         | (refine Mat.ld (by assumption) (by omega) ?_)
                         | (refine Ints.ld (Mat.row (by assumption) _ (by omega)) (by omega) ?_)
                         | (refine At.ld (by assumption) rfl ?_)
                         | (refine At.ldN (by assumption) rfl ?_)
                         | (refine Prs.ln (by assumption) ?_)
                         | (refine Trs.ln (by assumption) ?_)
                         | (refine Prs.ix (by assumption) (by omega) ?_)
                         | (refine Trs.ix (by assumption) (by omega) ?_)
                         | (refine Prs.ldN (by assumption) (by omega) ?_)
                         | (refine Trs.ldN (by assumption) (by omega) ?_)
                         | (refine At.ldN (Blk.at (by assumption)) rfl ?_)
                         | (refine At.ld (Blk.at (by assumption)) rfl ?_)
                         | (refine IxA.mk (by omega) ?_)
                         | (refine Sl.ln (Own.sl (by assumption)) ?_)
                         | (refine Ints.ix (Own.sl (by assumption)) (by omega) ?_)
                         | (refine Ints.ixI (Own.sl (by assumption)) (by omega) ?_)
                         | (refine Ints.ld (Own.sl (by assumption)) (by omega) ?_))
                all_goals first
                  | (refine ⟨_, (by omega : rr.length - (c + 1) < rr.length - c), rfl, c + 1, by omega, rfl, rfl, (congrArg Value.bool (tfe_no hmo (by omega))), (congrArg Value.bool (tfe_no hle (by omega))), rfl⟩)
                  | (refine ⟨_, (by omega : rr.length - (c + 1) < rr.length - c), rfl, c + 1, by omega, rfl, rfl, (congrArg Value.bool (tfe_new (by omega))), (congrArg Value.bool (tfe_no hle (by omega))), rfl⟩)
                  | (refine ⟨_, (by omega : rr.length - (c + 1) < rr.length - c), rfl, c + 1, by omega, rfl, rfl, (congrArg Value.bool (tfe_no hmo (by omega))), (congrArg Value.bool (tfe_new (by omega))), rfl⟩)
          · obtain rfl : c = rr.length := by omega
            by_cases hle : ∃ i, i < rr.length ∧ gain rr l i < gain rr (nbest rr) i
            · rw [tf_t hle]
              by_cases hmo : ∃ i, i < rr.length ∧ gain rr (nbest rr) i < gain rr l i
              · rw [tf_t hmo]
                repeat' (conv => whnf
                         first
                         | (refine Dr.quiet tyOk (by kernel_rfl) ?_)
                         | (refine Rng.mk (by omega) ?_)
                         | (refine Split.pos (by omega) ?_)
                         | (refine Split.neg (by omega) ?_)
                         | (refine Split.mk (fun h => ?_) (fun h => ?_))
                         | (refine Need.mk (by omega) ?_)
                         | (refine Ints.ln (by assumption) ?_)
                         | (refine Mat.ln (by assumption) ?_)
                         | (refine Ints.ln (Mat.row (by assumption) _ (by omega)) ?_)
                         | (refine Ints.ix (by assumption) (by omega) ?_)
                         | (refine Mat.ix (by assumption) (by omega) ?_)
                         | (refine Ints.ix (Mat.row (by assumption) _ (by omega)) (by omega) ?_)
                         | (refine Ints.ix (c := 0) (by assumption) (by omega) ?_)
                         | (refine Mat.ix (c := 0) (by assumption) (by omega) ?_)
                         | (refine Ints.ix (c := 0) (Mat.row (by assumption) _ (by omega)) (by omega) ?_)
                         | (refine Ints.ixI (by assumption) (by omega) ?_)
                         | (refine Mat.ixI (by assumption) (by omega) ?_)
                         | (refine Ints.ixI (Mat.row (by assumption) _ (by omega)) (by omega) ?_)
                         | (refine Ints.ld (by assumption) (by omega) ?_)
                         | (refine Mat.ld (by assumption) (by omega) ?_)
                         | (refine Ints.ld (Mat.row (by assumption) _ (by omega)) (by omega) ?_)
                         | (refine At.ld (by assumption) rfl ?_)
                         | (refine At.ldN (by assumption) rfl ?_)
                         | (refine Prs.ln (by assumption) ?_)
                         | (refine Trs.ln (by assumption) ?_)
                         | (refine Prs.ix (by assumption) (by omega) ?_)
                         | (refine Trs.ix (by assumption) (by omega) ?_)
                         | (refine Prs.ldN (by assumption) (by omega) ?_)
                         | (refine Trs.ldN (by assumption) (by omega) ?_)
                         | (refine At.ldN (Blk.at (by assumption)) rfl ?_)
                         | (refine At.ld (Blk.at (by assumption)) rfl ?_)
                         | (refine IxA.mk (by omega) ?_)
                         | (refine Sl.ln (Own.sl (by assumption)) ?_)
                         | (refine Ints.ix (Own.sl (by assumption)) (by omega) ?_)
                         | (refine Ints.ixI (Own.sl (by assumption)) (by omega) ?_)
                         | (refine Ints.ld (Own.sl (by assumption)) (by omega) ?_))
                exact ⟨rfl, EE⟩
              · rw [tf_f hmo]
                repeat' (conv => whnf
                         first
                         | (refine Dr.quiet tyOk (by kernel_rfl) ?_)
                         | (refine Rng.mk (by omega) ?_)
                         | (refine Split.pos (by omega) ?_)
                         | (refine Split.neg (by omega) ?_)
                         | (refine Split.mk (fun h => ?_) (fun h => ?_))
                         | (refine Need.mk (by omega) ?_)
                         | (refine Ints.ln (by assumption) ?_)
                         | (refine Mat.ln (by assumption) ?_)
                         | (refine Ints.ln (Mat.row (by assumption) _ (by omega)) ?_)
                         | (refine Ints.ix (by assumption) (by omega) ?_)
                         | (refine Mat.ix (by assumption) (by omega) ?_)
                         | (refine Ints.ix (Mat.row (by assumption) _ (by omega)) (by omega) ?_)
                         | (refine Ints.ix (c := 0) (by assumption) (by omega) ?_)
                         | (refine Mat.ix (c := 0) (by assumption) (by omega) ?_)
                         | (refine Ints.ix (c := 0) (Mat.row (by assumption) _ (by omega)) (by omega) ?_)
                         | (refine Ints.ixI (by assumption) (by omega) ?_)
                         | (refine Mat.ixI (by assumption) (by omega) ?_)
                         | (refine Ints.ixI (Mat.row (by assumption) _ (by omega)) (by omega) ?_)
                         | (refine Ints.ld (by assumption) (by omega) ?_)
                         | (refine Mat.ld (by assumption) (by omega) ?_)
                         | (refine Ints.ld (Mat.row (by assumption) _ (by omega)) (by omega) ?_)
                         | (refine At.ld (by assumption) rfl ?_)
                         | (refine At.ldN (by assumption) rfl ?_)
                         | (refine Prs.ln (by assumption) ?_)
                         | (refine Trs.ln (by assumption) ?_)
                         | (refine Prs.ix (by assumption) (by omega) ?_)
                         | (refine Trs.ix (by assumption) (by omega) ?_)
                         | (refine Prs.ldN (by assumption) (by omega) ?_)
                         | (refine Trs.ldN (by assumption) (by omega) ?_)
                         | (refine At.ldN (Blk.at (by assumption)) rfl ?_)
                         | (refine At.ld (Blk.at (by assumption)) rfl ?_)
                         | (refine IxA.mk (by omega) ?_)
                         | (refine Sl.ln (Own.sl (by assumption)) ?_)
                         | (refine Ints.ix (Own.sl (by assumption)) (by omega) ?_)
                         | (refine Ints.ixI (Own.sl (by assumption)) (by omega) ?_)
                         | (refine Ints.ld (Own.sl (by assumption)) (by omega) ?_))
                exact ⟨rfl, EE⟩
            · have hpar := nash_pareto hck hvl (fun i hi => by
                have : ¬ gain rr l i < gain rr (nbest rr) i := fun h => hle ⟨i, hi, h⟩
                omega)
              rw [tf_f hle, tf_f (p := ∃ i, i < rr.length ∧ gain rr (nbest rr) i < gain rr l i) (by rintro ⟨i, hi, h⟩; have := hpar i hi; omega)]
              repeat' (conv => whnf
                       first
                       | (refine Dr.quiet tyOk (by kernel_rfl) ?_)
                       | (refine Rng.mk (by omega) ?_)
                       | (refine Split.pos (by omega) ?_)
                       | (refine Split.neg (by omega) ?_)
                       | (refine Split.mk (fun h => ?_) (fun h => ?_))
                       | (refine Need.mk (by omega) ?_)
                       | (refine Ints.ln (by assumption) ?_)
                       | (refine Mat.ln (by assumption) ?_)
                       | (refine Ints.ln (Mat.row (by assumption) _ (by omega)) ?_)
                       | (refine Ints.ix (by assumption) (by omega) ?_)
                       | (refine Mat.ix (by assumption) (by omega) ?_)
                       | (refine Ints.ix (Mat.row (by assumption) _ (by omega)) (by omega) ?_)
                       | (refine Ints.ix (c := 0) (by assumption) (by omega) ?_)
                       | (refine Mat.ix (c := 0) (by assumption) (by omega) ?_)
                       | (refine Ints.ix (c := 0) (Mat.row (by assumption) _ (by omega)) (by omega) ?_)
                       | (refine Ints.ixI (by assumption) (by omega) ?_)
                       | (refine Mat.ixI (by assumption) (by omega) ?_)
                       | (refine Ints.ixI (Mat.row (by assumption) _ (by omega)) (by omega) ?_)
                       | (refine Ints.ld (by assumption) (by omega) ?_)
                       | (refine Mat.ld (by assumption) (by omega) ?_)
                       | (refine Ints.ld (Mat.row (by assumption) _ (by omega)) (by omega) ?_)
                       | (refine At.ld (by assumption) rfl ?_)
                       | (refine At.ldN (by assumption) rfl ?_)
                       | (refine Prs.ln (by assumption) ?_)
                       | (refine Trs.ln (by assumption) ?_)
                       | (refine Prs.ix (by assumption) (by omega) ?_)
                       | (refine Trs.ix (by assumption) (by omega) ?_)
                       | (refine Prs.ldN (by assumption) (by omega) ?_)
                       | (refine Trs.ldN (by assumption) (by omega) ?_)
                       | (refine At.ldN (Blk.at (by assumption)) rfl ?_)
                       | (refine At.ld (Blk.at (by assumption)) rfl ?_)
                       | (refine IxA.mk (by omega) ?_)
                       | (refine Sl.ln (Own.sl (by assumption)) ?_)
                       | (refine Ints.ix (Own.sl (by assumption)) (by omega) ?_)
                       | (refine Ints.ixI (Own.sl (by assumption)) (by omega) ?_)
                       | (refine Ints.ld (Own.sl (by assumption)) (by omega) ?_))
              exact ⟨rfl, EE⟩
      · repeat' (conv => whnf
                 first
                 | (refine Dr.quiet tyOk (by kernel_rfl) ?_)
                 | (refine VC.pure cvl ?_)
                 | (refine Rng.mk (by omega) ?_)
                 | (refine Split.pos (by omega) ?_)
                 | (refine Split.neg (by omega) ?_)
                 | (refine Split.mk (fun h => ?_) (fun h => ?_))
                 | (refine Need.mk (by omega) ?_)
                 | (refine Ints.ln (by assumption) ?_)
                 | (refine Mat.ln (by assumption) ?_)
                 | (refine Ints.ln (Mat.row (by assumption) _ (by omega)) ?_)
                 | (refine Ints.ix (by assumption) (by omega) ?_)
                 | (refine Mat.ix (by assumption) (by omega) ?_)
                 | (refine Ints.ix (Mat.row (by assumption) _ (by omega)) (by omega) ?_)
                 | (refine Ints.ix (c := 0) (by assumption) (by omega) ?_)
                 | (refine Mat.ix (c := 0) (by assumption) (by omega) ?_)
                 | (refine Ints.ix (c := 0) (Mat.row (by assumption) _ (by omega)) (by omega) ?_)
                 | (refine Ints.ixI (by assumption) (by omega) ?_)
                 | (refine Mat.ixI (by assumption) (by omega) ?_)
                 | (refine Ints.ixI (Mat.row (by assumption) _ (by omega)) (by omega) ?_)
                 | (refine Ints.ld (by assumption) (by omega) ?_)
                 | (refine Mat.ld (by assumption) (by omega) ?_)
                 | (refine Ints.ld (Mat.row (by assumption) _ (by omega)) (by omega) ?_)
                 | (refine At.ld (by assumption) rfl ?_)
                 | (refine At.ldN (by assumption) rfl ?_)
                 | (refine Prs.ln (by assumption) ?_)
                 | (refine Trs.ln (by assumption) ?_)
                 | (refine Prs.ix (by assumption) (by omega) ?_)
                 | (refine Trs.ix (by assumption) (by omega) ?_)
                 | (refine Prs.ldN (by assumption) (by omega) ?_)
                 | (refine Trs.ldN (by assumption) (by omega) ?_)
                 | (refine At.ldN (Blk.at (by assumption)) rfl ?_)
                 | (refine At.ld (Blk.at (by assumption)) rfl ?_)
                 | (refine IxA.mk (by omega) ?_)
                 | (refine Sl.ln (Own.sl (by assumption)) ?_)
                 | (refine Ints.ix (Own.sl (by assumption)) (by omega) ?_)
                 | (refine Ints.ixI (Own.sl (by assumption)) (by omega) ?_)
                 | (refine Ints.ld (Own.sl (by assumption)) (by omega) ?_))
        exact ⟨rfl, EE⟩
    · have hE4 : nbE rr = 4 := by
        by_cases ht : 20000 < tot rr
        · exact nbE_many hck ht
        · exact absurd (nbE_ok hck ht) hE
      repeat' (conv => whnf
               first
               | (refine Dr.quiet tyOk (by kernel_rfl) ?_)
               | (refine Rng.mk (by omega) ?_)
               | (refine Split.pos (by omega) ?_)
               | (refine Split.neg (by omega) ?_)
               | (refine Split.mk (fun h => ?_) (fun h => ?_))
               | (refine Need.mk (by omega) ?_)
               | (refine Ints.ln (by assumption) ?_)
               | (refine Mat.ln (by assumption) ?_)
               | (refine Ints.ln (Mat.row (by assumption) _ (by omega)) ?_)
               | (refine Ints.ix (by assumption) (by omega) ?_)
               | (refine Mat.ix (by assumption) (by omega) ?_)
               | (refine Ints.ix (Mat.row (by assumption) _ (by omega)) (by omega) ?_)
               | (refine Ints.ix (c := 0) (by assumption) (by omega) ?_)
               | (refine Mat.ix (c := 0) (by assumption) (by omega) ?_)
               | (refine Ints.ix (c := 0) (Mat.row (by assumption) _ (by omega)) (by omega) ?_)
               | (refine Ints.ixI (by assumption) (by omega) ?_)
               | (refine Mat.ixI (by assumption) (by omega) ?_)
               | (refine Ints.ixI (Mat.row (by assumption) _ (by omega)) (by omega) ?_)
               | (refine Ints.ld (by assumption) (by omega) ?_)
               | (refine Mat.ld (by assumption) (by omega) ?_)
               | (refine Ints.ld (Mat.row (by assumption) _ (by omega)) (by omega) ?_)
               | (refine At.ld (by assumption) rfl ?_)
               | (refine At.ldN (by assumption) rfl ?_)
               | (refine Prs.ln (by assumption) ?_)
               | (refine Trs.ln (by assumption) ?_)
               | (refine Prs.ix (by assumption) (by omega) ?_)
               | (refine Trs.ix (by assumption) (by omega) ?_)
               | (refine Prs.ldN (by assumption) (by omega) ?_)
               | (refine Trs.ldN (by assumption) (by omega) ?_)
               | (refine At.ldN (Blk.at (by assumption)) rfl ?_)
               | (refine At.ld (Blk.at (by assumption)) rfl ?_)
               | (refine IxA.mk (by omega) ?_)
               | (refine Sl.ln (Own.sl (by assumption)) ?_)
               | (refine Ints.ix (Own.sl (by assumption)) (by omega) ?_)
               | (refine Ints.ixI (Own.sl (by assumption)) (by omega) ?_)
               | (refine Ints.ld (Own.sl (by assumption)) (by omega) ?_))
      exact ⟨rfl, EE⟩
  · rw [tf_f hf] at cf
    repeat' (conv => whnf
             first
             | (refine Dr.quiet tyOk (by kernel_rfl) ?_)
             | (refine VC.pure alive21_pc ?_)
             | (refine VC.pure cf ?_)
             | (refine Rng.mk (by omega) ?_)
             | (refine Split.pos (by omega) ?_)
             | (refine Split.neg (by omega) ?_)
             | (refine Split.mk (fun h => ?_) (fun h => ?_))
             | (refine Need.mk (by omega) ?_)
             | (refine Ints.ln (by assumption) ?_)
             | (refine Mat.ln (by assumption) ?_)
             | (refine Ints.ln (Mat.row (by assumption) _ (by omega)) ?_)
             | (refine Ints.ix (by assumption) (by omega) ?_)
             | (refine Mat.ix (by assumption) (by omega) ?_)
             | (refine Ints.ix (Mat.row (by assumption) _ (by omega)) (by omega) ?_)
             | (refine Ints.ix (c := 0) (by assumption) (by omega) ?_)
             | (refine Mat.ix (c := 0) (by assumption) (by omega) ?_)
             | (refine Ints.ix (c := 0) (Mat.row (by assumption) _ (by omega)) (by omega) ?_)
             | (refine Ints.ixI (by assumption) (by omega) ?_)
             | (refine Mat.ixI (by assumption) (by omega) ?_)
             | (refine Ints.ixI (Mat.row (by assumption) _ (by omega)) (by omega) ?_)
             | (refine Ints.ld (by assumption) (by omega) ?_)
             | (refine Mat.ld (by assumption) (by omega) ?_)
             | (refine Ints.ld (Mat.row (by assumption) _ (by omega)) (by omega) ?_)
             | (refine At.ld (by assumption) rfl ?_)
             | (refine At.ldN (by assumption) rfl ?_)
             | (refine Prs.ln (by assumption) ?_)
             | (refine Trs.ln (by assumption) ?_)
             | (refine Prs.ix (by assumption) (by omega) ?_)
             | (refine Trs.ix (by assumption) (by omega) ?_)
             | (refine Prs.ldN (by assumption) (by omega) ?_)
             | (refine Trs.ldN (by assumption) (by omega) ?_)
             | (refine At.ldN (Blk.at (by assumption)) rfl ?_)
             | (refine At.ld (Blk.at (by assumption)) rfl ?_)
             | (refine IxA.mk (by omega) ?_)
             | (refine Sl.ln (Own.sl (by assumption)) ?_)
             | (refine Ints.ix (Own.sl (by assumption)) (by omega) ?_)
             | (refine Ints.ixI (Own.sl (by assumption)) (by omega) ?_)
             | (refine Ints.ld (Own.sl (by assumption)) (by omega) ?_))
    exact ⟨rfl, EE⟩

open Go.ChangeShapes Go.WideShapes Go.ChangeAt Go.RowKit Go.Eng in
theorem nashNear_lifted (os : Os) (started : os.Started) (H : Type) (enc : TypeId × Value → H) :
    ReturnsInHanded {} Try.checked os 14 .any (Rows.nashNearSpec.pre6 enc Try.prog Try.f14 Rows.nashNearRow.domain false) (Rows.nashNearSpec.post enc Try.prog Try.f14 false true false false) := by
  refine returnsInHanded_of_change (C := Try.checked) own started (by kernel_rfl) Try.func14
    (ChangeSpec.witness6 (enc := enc) (C := Try.checked) false ⟨#[], #[.agg #[.slice none 0 0], .slice none 0 0], []⟩ 8 (by kernel_rfl) (by kernel_rfl) (by kernel_rfl) (by kernel_rfl)) ?_
  intro W base args ds gs before hval0 hW hcnd _
  have hval : ∀ (j : Nat) t v, Try.f14.params[j]? = some t → args[j]? = some v → Value.okWide Try.prog W .any base t v := hval0
  have hW' := hW
  obtain ⟨p, q, hA0, hV, e0, hfz, hnd⟩ := hW
  have hA : DataW.TrodAll enc Try.prog W 0 (fun _ => true) true Try.f14.params.toList args.toList ds p := hA0
  rw [Try.params14] at hA hval
  clear hfz hnd hV e0 hval0
  obtain ⟨v0, vs0, d0, ds0, p0, q0, e0, rfl, f0, h0, t0⟩ := trodAll_cons hA
  obtain ⟨v1, vs1, d1, ds1, p1, q1, e1, rfl, f1, h1, t1⟩ := trodAll_cons t0
  subst e1
  obtain ⟨ee, rfl, _⟩ := trodAll_nil t1
  subst ee
  obtain rfl : args = #[v0, v1] := Array.toList_inj.1 (by simpa using e0)
  obtain ⟨g0, s0, r0, rfl, H0, R0⟩ := open_G Try.underlying24 rfl (by kernel_rfl) (by kernel_rfl) Try.underlying22 Try.underlying27 Try.underlying3 (by kernel_rfl) (by kernel_rfl) (hval 0 24 _ rfl rfl) h0
  obtain ⟨l1, H1, R1⟩ := open_L Try.underlying27 Try.underlying3 (by kernel_rfl) (hval 1 27 _ rfl rfl) h1
  exact law_calls laidOut (by rw [Try.params14]; intro t ht; revert t; decide +kernel) rfl Try.underlying4 rfl ⟨rfl, rfl, rfl⟩ hW' (nashnear_pc H0 H1)

theorem nashNear_holds : Rows.NashNearSaid :=
  OpenClaim.holds_of_wide 14 Try.f14 rfl rfl rfl rfl rfl rfl rfl ⟨rfl, rfl, rfl, rfl, rfl⟩ rfl rfl rfl rfl rfl (by kernel_rfl) Try.func14 (by kernel_rfl)
    (of_decide_eq_true (by kernel_rfl)) (by unfold Func.isWrapper; first | (rw [if_pos (by decide +kernel)]; kernel_rfl) | (rw [if_neg (by decide +kernel)]; exact ⟨rfl, rfl⟩))
    (fun os started H enc _ => nashNear_lifted os started H enc)
end Go.Proofs.Ytkgogljfngplnaa
