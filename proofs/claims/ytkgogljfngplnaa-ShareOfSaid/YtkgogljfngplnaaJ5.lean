/- Own matrices whose rows lie above a bound. -/
import Derived.Test.YtkgogljfngplnaaJ4
import Derived.RangeFuncNested
import Derived.OrdersIn
set_option linter.unusedVariables false
set_option linter.unusedSimpArgs false
namespace Go.Proofs.Ytkgogljfngplnaa
open Go.Eng
set_option maxRecDepth 100000
set_option maxHeartbeats 4000000

/-- the best list of the first c, the first one if there is none -/
def bb (rr : List (List Int)) (c : Nat) : List Int := (bestTo rr c).getD (digs rr.length (mOf rr) 0)
theorem bb_step (rr : List (List Int)) (c : Nat) : bb rr (c + 1) = if cmpP (prd rr (bb rr c)) (prd rr (digs rr.length (mOf rr) c)) < 0 then digs rr.length (mOf rr) c else bb rr c := by
  cases c with
  | zero =>
    have e0 : bb rr 0 = digs rr.length (mOf rr) 0 := rfl
    have e1 : bb rr (0 + 1) = digs rr.length (mOf rr) 0 := rfl
    rw [e1, e0, cmpP_eq rfl]; rfl
  | succ k =>
    obtain ⟨k0, e, _⟩ := bestTo_is rr k
    have es : bestTo rr (k + 1 + 1) = bstep rr (bestTo rr (k + 1)) (digs rr.length (mOf rr) (k + 1)) := rfl
    unfold bb
    rw [es, e]
    simp only [bstep, Option.getD_some]
    have hiff : 0 < cmpP (prd rr (digs rr.length (mOf rr) (k + 1))) (prd rr (digs rr.length (mOf rr) k0)) ↔ cmpP (prd rr (digs rr.length (mOf rr) k0)) (prd rr (digs rr.length (mOf rr) (k + 1))) < 0 := by
      rw [cmp_pos]
      constructor
      · intro h; rw [cmpP_lt h]; decide
      · intro h
        refine Classical.byContradiction fun hn => ?_
        by_cases e2 : prd rr (digs rr.length (mOf rr) k0) = prd rr (digs rr.length (mOf rr) (k + 1))
        · rw [cmpP_eq e2] at h; omega
        · rw [cmpP_gt e2 hn] at h; omega
    by_cases h : 0 < cmpP (prd rr (digs rr.length (mOf rr) (k + 1))) (prd rr (digs rr.length (mOf rr) k0))
    · rw [if_pos h, if_pos (hiff.1 h)]; rfl
    · rw [if_neg h, if_neg (fun h2 => h (hiff.2 h2))]; rfl
theorem bb_in {rr : List (List Int)} (hc : chk rr = 0) {c : Nat} (hct : c ≤ tot rr) : ∃ k, k < tot rr ∧ bb rr c = digs rr.length (mOf rr) k := by
  have hp := tot_pos (gd_of_chk hc).n1
  cases c with
  | zero => exact ⟨0, by omega, rfl⟩
  | succ k =>
    obtain ⟨k0, e, h, _⟩ := bestTo_is rr k
    exact ⟨k0, by omega, by unfold bb; rw [e]; rfl⟩
theorem bb_tot {rr : List (List Int)} (hn : 1 ≤ rr.length) : bb rr (tot rr) = nbest rr := by
  obtain ⟨k0, e, _⟩ := nbest_is hn
  unfold bb; rw [e]; rfl
theorem nxt_c {rr : List (List Int)} (hn : 1 ≤ rr.length) {c : Nat} (h : c < tot rr) : (nxt rr.length (digs rr.length (mOf rr) c)).1 = decide (c + 1 < tot rr) ∧ (c + 1 < tot rr → (nxt rr.length (digs rr.length (mOf rr) c)).2 = digs rr.length (mOf rr) (c + 1)) := by
  have := nxt_digs hn (j := mOf rr) (k := c) h
  unfold tot at *
  by_cases h2 : c + 1 < rr.length ^ mOf rr
  · rw [if_pos h2] at this; rw [this]; exact ⟨by simp [h2], fun _ => rfl⟩
  · rw [if_neg h2] at this; rw [this]; exact ⟨by simp [h2], fun h3 => absurd h3 h2⟩

theorem rbest_rc {w : World} {gv : Value} {vs : List Value} {rr : List (List Int)} (Hg : Mat w gv vs rr) :
    RC Try.prog 35 [.agg #[gv]] w NoB (fun u w' => ∃ av, u = .tuple #[av, PV (nbP rr), .int .i64 (nbE rr)] ∧ OI w' av (nbA rr)) := by
  refine RC.mk tyOk Try.func35 rfl (by kernel_rfl) fun w1 E1 => ?_
  replace Hg := Hg.ext E1
  have EE := Ext.refl w1
  refine Bx.agg fun b2 w2 E2 hb2 Hb _ => ?_
  replace Hg := Hg.ext E2
  replace EE := EE.ext E2
  conv => whnf
  have Hg__1 := Hg
  have EE__1 := EE
  have Hb__1 := Hb
  conv => whnf
  refine VE.alloc eProd fun rb w3 E3 hb_rb Hr => ?_
  replace Hg := Hg.ext E3
  replace EE := EE.ext E3
  replace Hb := Hb.ext E3
  have EL1 := E3
  have cc := rcheck_pc Hg
  by_cases hc0 : chk rr = 0
  · have hgd := gd_of_chk hc0
    have hn := hgd.n6
    have hn1 := hgd.n1
    have hm := hgd.m10
    have hmO : mOf rr = (rr.getD 0 []).length := rfl
    have ct := tries_pc Hg hc0
    by_cases htt : 20000 < tot rr
    · rw [tf_t htt] at ct
      rw [nbA, nbP, nbE_many hc0 htt, if_neg (by omega), if_neg (by omega)]
      repeat' (conv => whnf
               first
               | (refine Dr.quiet tyOk (by kernel_rfl) ?_)
               | (refine VC.pure cc ?_)
               | (refine VC.pure ct ?_)
               | (refine VS.sparse (ps := []) Try.underlying41 eProd (by decide +kernel) rfl (by simp) rfl ?_)
               | (refine Rng.mk (by omega) ?_)
               | (refine Split.pos (by omega) ?_)
               | (refine Split.neg (by omega) ?_)
               | (refine Split.mk (fun h => ?_) (fun h => ?_))
               | (refine Need.mk (by omega) ?_)
               | (refine Ints.ln (by assumption) ?_)
               | (refine Mat.ln (by assumption) ?_)
               | (refine Ints.ln (Mat.row (by assumption) _ (by omega)) ?_)
               | (refine Ints.ix (by assumption) (by omega) ?_)
               | (refine Mat.ix (by assumption) (by omega) ?_)
               | (refine Ints.ix (Mat.row (by assumption) _ (by omega)) (by omega) ?_)
               | (refine Ints.ix (c := 0) (by assumption) (by omega) ?_)
               | (refine Mat.ix (c := 0) (by assumption) (by omega) ?_)
               | (refine Ints.ix (c := 0) (Mat.row (by assumption) _ (by omega)) (by omega) ?_)
               | (refine Ints.ixI (by assumption) (by omega) ?_)
               | (refine Mat.ixI (by assumption) (by omega) ?_)
               | (refine Ints.ixI (Mat.row (by assumption) _ (by omega)) (by omega) ?_)
               | (refine Ints.ld (by assumption) (by omega) ?_)
               | (refine Mat.ld (by assumption) (by omega) ?_)
               | (refine Ints.ld (Mat.row (by assumption) _ (by omega)) (by omega) ?_)
               | (refine At.ld (by assumption) rfl ?_)
               | (refine At.ldN (by assumption) rfl ?_)
               | (refine Prs.ln (by assumption) ?_)
               | (refine Trs.ln (by assumption) ?_)
               | (refine Prs.ix (by assumption) (by omega) ?_)
               | (refine Trs.ix (by assumption) (by omega) ?_)
               | (refine Prs.ldN (by assumption) (by omega) ?_)
               | (refine Trs.ldN (by assumption) (by omega) ?_)
               | (refine At.ldN (Blk.at (by assumption)) rfl ?_)
               | (refine At.ld (Blk.at (by assumption)) rfl ?_)
               | (refine IxA.mk (by omega) ?_)
               | (refine Sl.ln (Own.sl (by assumption)) ?_)
               | (refine Ints.ix (Own.sl (by assumption)) (by omega) ?_)
               | (refine Ints.ixI (Own.sl (by assumption)) (by omega) ?_)
               | (refine Ints.ld (Own.sl (by assumption)) (by omega) ?_))
      refine Blk.all Hr (by kernel_rfl) (by first | decide | simp) rfl rfl (by intro v hv; simp at hv; rcases hv with rfl | rfl | rfl | rfl | rfl <;> rfl) fun w4 G4 Hr' => ?_
      have E4 : Ext w2 w4 := EL1.new G4 fun i hi hk => by omega
      replace Hr := Hr'
      replace Hg := Hg__1.ext E4
      replace EE := EE__1.ext E4
      replace Hb := Hb__1.ext E4
      replace EL1 := E4
      repeat' (conv => whnf
               first
               | (refine Dr.quiet tyOk (by kernel_rfl) ?_)
               | (refine Rng.mk (by omega) ?_)
               | (refine Split.pos (by omega) ?_)
               | (refine Split.neg (by omega) ?_)
               | (refine Split.mk (fun h => ?_) (fun h => ?_))
               | (refine Need.mk (by omega) ?_)
               | (refine Ints.ln (by assumption) ?_)
               | (refine Mat.ln (by assumption) ?_)
               | (refine Ints.ln (Mat.row (by assumption) _ (by omega)) ?_)
               | (refine Ints.ix (by assumption) (by omega) ?_)
               | (refine Mat.ix (by assumption) (by omega) ?_)
               | (refine Ints.ix (Mat.row (by assumption) _ (by omega)) (by omega) ?_)
               | (refine Ints.ix (c := 0) (by assumption) (by omega) ?_)
               | (refine Mat.ix (c := 0) (by assumption) (by omega) ?_)
               | (refine Ints.ix (c := 0) (Mat.row (by assumption) _ (by omega)) (by omega) ?_)
               | (refine Ints.ixI (by assumption) (by omega) ?_)
               | (refine Mat.ixI (by assumption) (by omega) ?_)
               | (refine Ints.ixI (Mat.row (by assumption) _ (by omega)) (by omega) ?_)
               | (refine Ints.ld (by assumption) (by omega) ?_)
               | (refine Mat.ld (by assumption) (by omega) ?_)
               | (refine Ints.ld (Mat.row (by assumption) _ (by omega)) (by omega) ?_)
               | (refine At.ld (by assumption) rfl ?_)
               | (refine At.ldN (by assumption) rfl ?_)
               | (refine Prs.ln (by assumption) ?_)
               | (refine Trs.ln (by assumption) ?_)
               | (refine Prs.ix (by assumption) (by omega) ?_)
               | (refine Trs.ix (by assumption) (by omega) ?_)
               | (refine Prs.ldN (by assumption) (by omega) ?_)
               | (refine Trs.ldN (by assumption) (by omega) ?_)
               | (refine At.ldN (Blk.at (by assumption)) rfl ?_)
               | (refine At.ld (Blk.at (by assumption)) rfl ?_)
               | (refine IxA.mk (by omega) ?_)
               | (refine Sl.ln (Own.sl (by assumption)) ?_)
               | (refine Ints.ix (Own.sl (by assumption)) (by omega) ?_)
               | (refine Ints.ixI (Own.sl (by assumption)) (by omega) ?_)
               | (refine Ints.ld (Own.sl (by assumption)) (by omega) ?_))
      exact ⟨EE, _, rfl, Own.nil⟩
    · rw [tf_f htt] at ct
      rw [nbA, nbP, nbE_ok hc0 htt, if_pos rfl, if_pos rfl]
      repeat' (conv => whnf
               first
               | (refine Dr.quiet tyOk (by kernel_rfl) ?_)
               | (refine VC.pure cc ?_)
               | (refine VC.pure ct ?_)
               | (refine Rng.mk (by omega) ?_)
               | (refine Split.pos (by omega) ?_)
               | (refine Split.neg (by omega) ?_)
               | (refine Split.mk (fun h => ?_) (fun h => ?_))
               | (refine Need.mk (by omega) ?_)
               | (refine Ints.ln (by assumption) ?_)
               | (refine Mat.ln (by assumption) ?_)
               | (refine Ints.ln (Mat.row (by assumption) _ (by omega)) ?_)
               | (refine Ints.ix (by assumption) (by omega) ?_)
               | (refine Mat.ix (by assumption) (by omega) ?_)
               | (refine Ints.ix (Mat.row (by assumption) _ (by omega)) (by omega) ?_)
               | (refine Ints.ix (c := 0) (by assumption) (by omega) ?_)
               | (refine Mat.ix (c := 0) (by assumption) (by omega) ?_)
               | (refine Ints.ix (c := 0) (Mat.row (by assumption) _ (by omega)) (by omega) ?_)
               | (refine Ints.ixI (by assumption) (by omega) ?_)
               | (refine Mat.ixI (by assumption) (by omega) ?_)
               | (refine Ints.ixI (Mat.row (by assumption) _ (by omega)) (by omega) ?_)
               | (refine Ints.ld (by assumption) (by omega) ?_)
               | (refine Mat.ld (by assumption) (by omega) ?_)
               | (refine Ints.ld (Mat.row (by assumption) _ (by omega)) (by omega) ?_)
               | (refine At.ld (by assumption) rfl ?_)
               | (refine At.ldN (by assumption) rfl ?_)
               | (refine Prs.ln (by assumption) ?_)
               | (refine Trs.ln (by assumption) ?_)
               | (refine Prs.ix (by assumption) (by omega) ?_)
               | (refine Trs.ix (by assumption) (by omega) ?_)
               | (refine Prs.ldN (by assumption) (by omega) ?_)
               | (refine Trs.ldN (by assumption) (by omega) ?_)
               | (refine At.ldN (Blk.at (by assumption)) rfl ?_)
               | (refine At.ld (Blk.at (by assumption)) rfl ?_)
               | (refine IxA.mk (by omega) ?_)
               | (refine Sl.ln (Own.sl (by assumption)) ?_)
               | (refine Ints.ix (Own.sl (by assumption)) (by omega) ?_)
               | (refine Ints.ixI (Own.sl (by assumption)) (by omega) ?_)
               | (refine Ints.ld (Own.sl (by assumption)) (by omega) ?_))
      have Hg__2 := Hg
      have EE__2 := EE
      have Hb__2 := Hb
      have EL1__2 := EL1
      have Hr__2 := Hr
      conv => whnf
      refine VE.made (n := (mOf rr)) Try.underlying27 eInt rfl (by omega) (by omega) fun av w5 E5 HA hb_av => ?_
      replace Hg := Hg.ext E5
      replace EE := EE.ext E5
      replace Hb := Hb.ext E5
      replace EL1 := EL1.ext E5
      replace Hr := Hr.ext E5
      replace HA := OB.made (HA _ (Nat.le_refl _))
      have EL2 := E5
      rw [← digs_zero rr.length] at HA
      have hdl := digs_len rr.length (mOf rr)
      repeat' (conv => whnf
               first
               | (refine Dr.quiet tyOk (by kernel_rfl) ?_)
               | (refine Rng.mk (by omega) ?_)
               | (refine Split.pos (by omega) ?_)
               | (refine Split.neg (by omega) ?_)
               | (refine Split.mk (fun h => ?_) (fun h => ?_))
               | (refine Need.mk (by omega) ?_)
               | (refine Ints.ln (by assumption) ?_)
               | (refine Mat.ln (by assumption) ?_)
               | (refine Ints.ln (Mat.row (by assumption) _ (by omega)) ?_)
               | (refine Ints.ix (by assumption) (by omega) ?_)
               | (refine Mat.ix (by assumption) (by omega) ?_)
               | (refine Ints.ix (Mat.row (by assumption) _ (by omega)) (by omega) ?_)
               | (refine Ints.ix (c := 0) (by assumption) (by omega) ?_)
               | (refine Mat.ix (c := 0) (by assumption) (by omega) ?_)
               | (refine Ints.ix (c := 0) (Mat.row (by assumption) _ (by omega)) (by omega) ?_)
               | (refine Ints.ixI (by assumption) (by omega) ?_)
               | (refine Mat.ixI (by assumption) (by omega) ?_)
               | (refine Ints.ixI (Mat.row (by assumption) _ (by omega)) (by omega) ?_)
               | (refine Ints.ld (by assumption) (by omega) ?_)
               | (refine Mat.ld (by assumption) (by omega) ?_)
               | (refine Ints.ld (Mat.row (by assumption) _ (by omega)) (by omega) ?_)
               | (refine At.ld (by assumption) rfl ?_)
               | (refine At.ldN (by assumption) rfl ?_)
               | (refine Prs.ln (by assumption) ?_)
               | (refine Trs.ln (by assumption) ?_)
               | (refine Prs.ix (by assumption) (by omega) ?_)
               | (refine Trs.ix (by assumption) (by omega) ?_)
               | (refine Prs.ldN (by assumption) (by omega) ?_)
               | (refine Trs.ldN (by assumption) (by omega) ?_)
               | (refine At.ldN (Blk.at (by assumption)) rfl ?_)
               | (refine At.ld (Blk.at (by assumption)) rfl ?_)
               | (refine IxA.mk (by omega) ?_)
               | (refine Sl.ln (Own.sl (by assumption)) ?_)
               | (refine Ints.ix (Own.sl (by assumption)) (by omega) ?_)
               | (refine Ints.ixI (Own.sl (by assumption)) (by omega) ?_)
               | (refine Ints.ld (Own.sl (by assumption)) (by omega) ?_))
      have HA0 := HA
      have hl0 := hdl 0
      refine VE.lit0 Try.underlying27 eInt fun l0 w8 E8 Hl0 => ?_
      have HA8 : Ints w8 av (digs rr.length (mOf rr) 0) := Own.sl (Own.ext HA E8)
      conv => whnf
      refine VE.app Try.underlying27 eInt rfl (by omega) (Hl0 _ (Nat.le_refl _)) E8 rfl HA8 (one_ints _) (by omega) (by omega) fun bv w9 E9 G9 H9 => ?_
      replace Hg := Hg.ext E9
      replace EE := EE.ext E9
      replace Hb := Hb.ext E9
      replace EL1 := EL1.ext E9
      replace Hr := Hr.ext E9
      replace EL2 := EL2.ext E9
      replace HA := HA.ext E9
      have H9' := H9
      simp only [Nat.zero_add, List.nil_append] at H9
      have hdis : Dis av bv := Dis.fresh HA0 H9
      have HB : OI w9 bv (bb rr 0) := OI.of H9
      repeat' (conv => whnf
               first
               | (refine Dr.quiet tyOk (by kernel_rfl) ?_)
               | (refine Rng.mk (by omega) ?_)
               | (refine Split.pos (by omega) ?_)
               | (refine Split.neg (by omega) ?_)
               | (refine Split.mk (fun h => ?_) (fun h => ?_))
               | (refine Need.mk (by omega) ?_)
               | (refine Ints.ln (by assumption) ?_)
               | (refine Mat.ln (by assumption) ?_)
               | (refine Ints.ln (Mat.row (by assumption) _ (by omega)) ?_)
               | (refine Ints.ix (by assumption) (by omega) ?_)
               | (refine Mat.ix (by assumption) (by omega) ?_)
               | (refine Ints.ix (Mat.row (by assumption) _ (by omega)) (by omega) ?_)
               | (refine Ints.ix (c := 0) (by assumption) (by omega) ?_)
               | (refine Mat.ix (c := 0) (by assumption) (by omega) ?_)
               | (refine Ints.ix (c := 0) (Mat.row (by assumption) _ (by omega)) (by omega) ?_)
               | (refine Ints.ixI (by assumption) (by omega) ?_)
               | (refine Mat.ixI (by assumption) (by omega) ?_)
               | (refine Ints.ixI (Mat.row (by assumption) _ (by omega)) (by omega) ?_)
               | (refine Ints.ld (by assumption) (by omega) ?_)
               | (refine Mat.ld (by assumption) (by omega) ?_)
               | (refine Ints.ld (Mat.row (by assumption) _ (by omega)) (by omega) ?_)
               | (refine At.ld (by assumption) rfl ?_)
               | (refine At.ldN (by assumption) rfl ?_)
               | (refine Prs.ln (by assumption) ?_)
               | (refine Trs.ln (by assumption) ?_)
               | (refine Prs.ix (by assumption) (by omega) ?_)
               | (refine Trs.ix (by assumption) (by omega) ?_)
               | (refine Prs.ldN (by assumption) (by omega) ?_)
               | (refine Trs.ldN (by assumption) (by omega) ?_)
               | (refine At.ldN (Blk.at (by assumption)) rfl ?_)
               | (refine At.ld (Blk.at (by assumption)) rfl ?_)
               | (refine IxA.mk (by omega) ?_)
               | (refine Sl.ln (Own.sl (by assumption)) ?_)
               | (refine Ints.ix (Own.sl (by assumption)) (by omega) ?_)
               | (refine Ints.ixI (Own.sl (by assumption)) (by omega) ?_)
               | (refine Ints.ld (Own.sl (by assumption)) (by omega) ?_))
      refine Lp.mk tyOk [false, false, false, false, false, false, true, true, false, false, false, false, false, false, false, false, false, false, false, false, false, false, false, false, false, false, true, true, true, true, true, true, true, true, true, true, true, true, true, true, true, true, true] (fun m fr wr => getK fr 7 fun s => getK fr 6 fun q => ∃ c : Nat, c ≤ (tot rr) ∧ m = (tot rr) - c ∧ s = .bool (decide (c < tot rr)) ∧ ((∃ A : List Int, A.length = mOf rr ∧ (c < tot rr → A = digs rr.length (mOf rr) c) ∧ OB w3.heap.size wr av A ∧ OI wr q (bb rr c) ∧ Dis av q)) ∧ Ext w3 wr) ((tot rr)) ?_ ?_
      · exact ⟨0, Nat.zero_le _, rfl, (by rw [decide_eq_true (show 0 < tot rr from tot_pos hn1)]), ⟨_, hl0, fun _ => rfl, HA, HB, hdis⟩, EL2⟩
      · intro m w10 u6 u7 u26 u27 u28 u29 u30 u31 u32 u33 u34 u35 u36 u37 u38 u39 u40 u41 u42 hR
        obtain ⟨c, hc, rfl, rfl, HX, EL2⟩ := hR
        replace Hg := Hg__2.ext EL2
        replace EE := EE__2.ext EL2
        replace Hb := Hb__2.ext EL2
        replace EL1 := EL1__2.ext EL2
        replace Hr := Hr__2.ext EL2
        obtain ⟨A, hAl, hAd, HA, HB, hdis⟩ := HX
        by_cases hct : c < tot rr
        · obtain rfl := hAd hct
          obtain ⟨k, hk, ek⟩ := bb_in hc0 (show c ≤ tot rr by omega)
          have hv1 := (digs_ok hc0 hk).1
          rw [← ek] at hv1
          have hv2 := (digs_ok hc0 hct).1
          have p1 := rprod_pc Hg (Own.sl HB) hv1
          have p2 := rprod_pc Hg (Own.sl HA) hv2
          have pc := rcmp_pc (w := w10) (p := prd rr (bb rr c)) (q := prd rr (digs rr.length (mOf rr) c))
          have hst := bb_step rr c
          have hnx := nxt_c hn1 hct
          have hrg := digs_rng hn1 (j := mOf rr) hct
          rw [decide_eq_true hct]
          repeat' (conv => whnf
                   first
                   | (refine Dr.quiet tyOk (by kernel_rfl) ?_)
                   | (refine VCQ.pure p1 ?_)
                   | (refine VCQ.pure p2 ?_)
                   | (refine VCQ.pure pc ?_)
                   | (refine Rng.mk (by omega) ?_)
                   | (refine Split.pos (by omega) ?_)
                   | (refine Split.neg (by omega) ?_)
                   | (refine Split.mk (fun h => ?_) (fun h => ?_))
                   | (refine Need.mk (by omega) ?_)
                   | (refine Ints.ln (by assumption) ?_)
                   | (refine Mat.ln (by assumption) ?_)
                   | (refine Ints.ln (Mat.row (by assumption) _ (by omega)) ?_)
                   | (refine Ints.ix (by assumption) (by omega) ?_)
                   | (refine Mat.ix (by assumption) (by omega) ?_)
                   | (refine Ints.ix (Mat.row (by assumption) _ (by omega)) (by omega) ?_)
                   | (refine Ints.ix (c := 0) (by assumption) (by omega) ?_)
                   | (refine Mat.ix (c := 0) (by assumption) (by omega) ?_)
                   | (refine Ints.ix (c := 0) (Mat.row (by assumption) _ (by omega)) (by omega) ?_)
                   | (refine Ints.ixI (by assumption) (by omega) ?_)
                   | (refine Mat.ixI (by assumption) (by omega) ?_)
                   | (refine Ints.ixI (Mat.row (by assumption) _ (by omega)) (by omega) ?_)
                   | (refine Ints.ld (by assumption) (by omega) ?_)
                   | (refine Mat.ld (by assumption) (by omega) ?_)
                   | (refine Ints.ld (Mat.row (by assumption) _ (by omega)) (by omega) ?_)
                   | (refine At.ld (by assumption) rfl ?_)
                   | (refine At.ldN (by assumption) rfl ?_)
                   | (refine Prs.ln (by assumption) ?_)
                   | (refine Trs.ln (by assumption) ?_)
                   | (refine Prs.ix (by assumption) (by omega) ?_)
                   | (refine Trs.ix (by assumption) (by omega) ?_)
                   | (refine Prs.ldN (by assumption) (by omega) ?_)
                   | (refine Trs.ldN (by assumption) (by omega) ?_)
                   | (refine At.ldN (Blk.at (by assumption)) rfl ?_)
                   | (refine At.ld (Blk.at (by assumption)) rfl ?_)
                   | (refine IxA.mk (by omega) ?_)
                   | (refine Sl.ln (Own.sl (by assumption)) ?_)
                   | (refine Ints.ix (Own.sl (by assumption)) (by omega) ?_)
                   | (refine Ints.ixI (Own.sl (by assumption)) (by omega) ?_)
                   | (refine Ints.ld (Own.sl (by assumption)) (by omega) ?_))
          · rw [if_pos (by assumption)] at hst
            refine VE.lit0 Try.underlying27 eInt fun l1 w10 E10 Hl1 => ?_
            have HA10 : Ints w10 av (digs rr.length (mOf rr) c) := Own.sl (Own.ext HA E10)
            have hlc := hdl c
            conv => whnf
            refine VE.app Try.underlying27 eInt rfl (by omega) (Hl1 _ (Nat.le_refl _)) E10 rfl HA10 (one_ints _) (by omega) (by omega) fun q2 w11 E11 G11 H11 => ?_
            simp only [Nat.zero_add, List.nil_append] at H11
            have hdn : Dis av q2 := Dis.fresh HA H11
            have HBn : OI w11 q2 (bb rr (c + 1)) := by rw [hst]; exact OI.of H11
            replace Hg := Hg.ext E11
            replace EE := EE.ext E11
            replace Hb := Hb.ext E11
            replace EL1 := EL1.ext E11
            replace Hr := Hr.ext E11
            replace EL2 := EL2.ext E11
            replace HA := HA.ext E11
            replace HB := HB.ext E11
            repeat' (conv => whnf
                     first
                     | (refine Dr.quiet tyOk (by kernel_rfl) ?_)
                     | (refine Rng.mk (by omega) ?_)
                     | (refine Split.pos (by omega) ?_)
                     | (refine Split.neg (by omega) ?_)
                     | (refine Split.mk (fun h => ?_) (fun h => ?_))
                     | (refine Need.mk (by omega) ?_)
                     | (refine Ints.ln (by assumption) ?_)
                     | (refine Mat.ln (by assumption) ?_)
                     | (refine Ints.ln (Mat.row (by assumption) _ (by omega)) ?_)
                     | (refine Ints.ix (by assumption) (by omega) ?_)
                     | (refine Mat.ix (by assumption) (by omega) ?_)
                     | (refine Ints.ix (Mat.row (by assumption) _ (by omega)) (by omega) ?_)
                     | (refine Ints.ix (c := 0) (by assumption) (by omega) ?_)
                     | (refine Mat.ix (c := 0) (by assumption) (by omega) ?_)
                     | (refine Ints.ix (c := 0) (Mat.row (by assumption) _ (by omega)) (by omega) ?_)
                     | (refine Ints.ixI (by assumption) (by omega) ?_)
                     | (refine Mat.ixI (by assumption) (by omega) ?_)
                     | (refine Ints.ixI (Mat.row (by assumption) _ (by omega)) (by omega) ?_)
                     | (refine Ints.ld (by assumption) (by omega) ?_)
                     | (refine Mat.ld (by assumption) (by omega) ?_)
                     | (refine Ints.ld (Mat.row (by assumption) _ (by omega)) (by omega) ?_)
                     | (refine At.ld (by assumption) rfl ?_)
                     | (refine At.ldN (by assumption) rfl ?_)
                     | (refine Prs.ln (by assumption) ?_)
                     | (refine Trs.ln (by assumption) ?_)
                     | (refine Prs.ix (by assumption) (by omega) ?_)
                     | (refine Trs.ix (by assumption) (by omega) ?_)
                     | (refine Prs.ldN (by assumption) (by omega) ?_)
                     | (refine Trs.ldN (by assumption) (by omega) ?_)
                     | (refine At.ldN (Blk.at (by assumption)) rfl ?_)
                     | (refine At.ld (Blk.at (by assumption)) rfl ?_)
                     | (refine IxA.mk (by omega) ?_)
                     | (refine Sl.ln (Own.sl (by assumption)) ?_)
                     | (refine Ints.ix (Own.sl (by assumption)) (by omega) ?_)
                     | (refine Ints.ixI (Own.sl (by assumption)) (by omega) ?_)
                     | (refine Ints.ld (Own.sl (by assumption)) (by omega) ?_))
            refine VC.rc (next_rc (n := rr.length) HA (fun i hi => hrg i (by rwa [hdl c] at hi)) (by omega)) ?_
            rintro _ w20 G20 ⟨rfl, HA20⟩
            have E20 := Own.keep HA EL2 (Nat.le_refl _) G20
            have HB20 := Own.dis HBn hdn G20
            repeat' (conv => whnf
                     first
                     | (refine Dr.quiet tyOk (by kernel_rfl) ?_)
                     | (refine Rng.mk (by omega) ?_)
                     | (refine Split.pos (by omega) ?_)
                     | (refine Split.neg (by omega) ?_)
                     | (refine Split.mk (fun h => ?_) (fun h => ?_))
                     | (refine Need.mk (by omega) ?_)
                     | (refine Ints.ln (by assumption) ?_)
                     | (refine Mat.ln (by assumption) ?_)
                     | (refine Ints.ln (Mat.row (by assumption) _ (by omega)) ?_)
                     | (refine Ints.ix (by assumption) (by omega) ?_)
                     | (refine Mat.ix (by assumption) (by omega) ?_)
                     | (refine Ints.ix (Mat.row (by assumption) _ (by omega)) (by omega) ?_)
                     | (refine Ints.ix (c := 0) (by assumption) (by omega) ?_)
                     | (refine Mat.ix (c := 0) (by assumption) (by omega) ?_)
                     | (refine Ints.ix (c := 0) (Mat.row (by assumption) _ (by omega)) (by omega) ?_)
                     | (refine Ints.ixI (by assumption) (by omega) ?_)
                     | (refine Mat.ixI (by assumption) (by omega) ?_)
                     | (refine Ints.ixI (Mat.row (by assumption) _ (by omega)) (by omega) ?_)
                     | (refine Ints.ld (by assumption) (by omega) ?_)
                     | (refine Mat.ld (by assumption) (by omega) ?_)
                     | (refine Ints.ld (Mat.row (by assumption) _ (by omega)) (by omega) ?_)
                     | (refine At.ld (by assumption) rfl ?_)
                     | (refine At.ldN (by assumption) rfl ?_)
                     | (refine Prs.ln (by assumption) ?_)
                     | (refine Trs.ln (by assumption) ?_)
                     | (refine Prs.ix (by assumption) (by omega) ?_)
                     | (refine Trs.ix (by assumption) (by omega) ?_)
                     | (refine Prs.ldN (by assumption) (by omega) ?_)
                     | (refine Trs.ldN (by assumption) (by omega) ?_)
                     | (refine At.ldN (Blk.at (by assumption)) rfl ?_)
                     | (refine At.ld (Blk.at (by assumption)) rfl ?_)
                     | (refine IxA.mk (by omega) ?_)
                     | (refine Sl.ln (Own.sl (by assumption)) ?_)
                     | (refine Ints.ix (Own.sl (by assumption)) (by omega) ?_)
                     | (refine Ints.ixI (Own.sl (by assumption)) (by omega) ?_)
                     | (refine Ints.ld (Own.sl (by assumption)) (by omega) ?_))
            refine ⟨_, (by omega : (tot rr) - (c + 1) < (tot rr) - c), rfl, c + 1, by omega, rfl, (by rw [hnx.1]), ⟨(nxt rr.length (digs rr.length (mOf rr) c)).2, by rw [nxt_len, hdl], hnx.2, by show Go.Eng.Own _ 3 1 _ av (nxt rr.length (digs rr.length (mOf rr) c)).2.length _; rw [nxt_len]; exact HA20, HB20, hdn⟩, E20⟩
          · rw [if_neg (by assumption)] at hst
            have hdn := hdis
            have HBn := HB
            rw [← hst] at HBn
            refine VC.rc (next_rc (n := rr.length) HA (fun i hi => hrg i (by rwa [hdl c] at hi)) (by omega)) ?_
            rintro _ w20 G20 ⟨rfl, HA20⟩
            have E20 := Own.keep HA EL2 (Nat.le_refl _) G20
            have HB20 := Own.dis HBn hdn G20
            repeat' (conv => whnf
                     first
                     | (refine Dr.quiet tyOk (by kernel_rfl) ?_)
                     | (refine Rng.mk (by omega) ?_)
                     | (refine Split.pos (by omega) ?_)
                     | (refine Split.neg (by omega) ?_)
                     | (refine Split.mk (fun h => ?_) (fun h => ?_))
                     | (refine Need.mk (by omega) ?_)
                     | (refine Ints.ln (by assumption) ?_)
                     | (refine Mat.ln (by assumption) ?_)
                     | (refine Ints.ln (Mat.row (by assumption) _ (by omega)) ?_)
                     | (refine Ints.ix (by assumption) (by omega) ?_)
                     | (refine Mat.ix (by assumption) (by omega) ?_)
                     | (refine Ints.ix (Mat.row (by assumption) _ (by omega)) (by omega) ?_)
                     | (refine Ints.ix (c := 0) (by assumption) (by omega) ?_)
                     | (refine Mat.ix (c := 0) (by assumption) (by omega) ?_)
                     | (refine Ints.ix (c := 0) (Mat.row (by assumption) _ (by omega)) (by omega) ?_)
                     | (refine Ints.ixI (by assumption) (by omega) ?_)
                     | (refine Mat.ixI (by assumption) (by omega) ?_)
                     | (refine Ints.ixI (Mat.row (by assumption) _ (by omega)) (by omega) ?_)
                     | (refine Ints.ld (by assumption) (by omega) ?_)
                     | (refine Mat.ld (by assumption) (by omega) ?_)
                     | (refine Ints.ld (Mat.row (by assumption) _ (by omega)) (by omega) ?_)
                     | (refine At.ld (by assumption) rfl ?_)
                     | (refine At.ldN (by assumption) rfl ?_)
                     | (refine Prs.ln (by assumption) ?_)
                     | (refine Trs.ln (by assumption) ?_)
                     | (refine Prs.ix (by assumption) (by omega) ?_)
                     | (refine Trs.ix (by assumption) (by omega) ?_)
                     | (refine Prs.ldN (by assumption) (by omega) ?_)
                     | (refine Trs.ldN (by assumption) (by omega) ?_)
                     | (refine At.ldN (Blk.at (by assumption)) rfl ?_)
                     | (refine At.ld (Blk.at (by assumption)) rfl ?_)
                     | (refine IxA.mk (by omega) ?_)
                     | (refine Sl.ln (Own.sl (by assumption)) ?_)
                     | (refine Ints.ix (Own.sl (by assumption)) (by omega) ?_)
                     | (refine Ints.ixI (Own.sl (by assumption)) (by omega) ?_)
                     | (refine Ints.ld (Own.sl (by assumption)) (by omega) ?_))
            refine ⟨_, (by omega : (tot rr) - (c + 1) < (tot rr) - c), rfl, c + 1, by omega, rfl, (by rw [hnx.1]), ⟨(nxt rr.length (digs rr.length (mOf rr) c)).2, by rw [nxt_len, hdl], hnx.2, by show Go.Eng.Own _ 3 1 _ av (nxt rr.length (digs rr.length (mOf rr) c)).2.length _; rw [nxt_len]; exact HA20, HB20, hdn⟩, E20⟩
        · obtain rfl : c = tot rr := by omega
          rw [decide_eq_false (Nat.lt_irrefl _)]
          rw [bb_tot hn1] at HB
          have p1 := rprod_pc Hg (Own.sl HB) (nbest_ok hc0).1
          repeat' (conv => whnf
                   first
                   | (refine Dr.quiet tyOk (by kernel_rfl) ?_)
                   | (refine VC.pure p1 ?_)
                   | (refine Rng.mk (by omega) ?_)
                   | (refine Split.pos (by omega) ?_)
                   | (refine Split.neg (by omega) ?_)
                   | (refine Split.mk (fun h => ?_) (fun h => ?_))
                   | (refine Need.mk (by omega) ?_)
                   | (refine Ints.ln (by assumption) ?_)
                   | (refine Mat.ln (by assumption) ?_)
                   | (refine Ints.ln (Mat.row (by assumption) _ (by omega)) ?_)
                   | (refine Ints.ix (by assumption) (by omega) ?_)
                   | (refine Mat.ix (by assumption) (by omega) ?_)
                   | (refine Ints.ix (Mat.row (by assumption) _ (by omega)) (by omega) ?_)
                   | (refine Ints.ix (c := 0) (by assumption) (by omega) ?_)
                   | (refine Mat.ix (c := 0) (by assumption) (by omega) ?_)
                   | (refine Ints.ix (c := 0) (Mat.row (by assumption) _ (by omega)) (by omega) ?_)
                   | (refine Ints.ixI (by assumption) (by omega) ?_)
                   | (refine Mat.ixI (by assumption) (by omega) ?_)
                   | (refine Ints.ixI (Mat.row (by assumption) _ (by omega)) (by omega) ?_)
                   | (refine Ints.ld (by assumption) (by omega) ?_)
                   | (refine Mat.ld (by assumption) (by omega) ?_)
                   | (refine Ints.ld (Mat.row (by assumption) _ (by omega)) (by omega) ?_)
                   | (refine At.ld (by assumption) rfl ?_)
                   | (refine At.ldN (by assumption) rfl ?_)
                   | (refine Prs.ln (by assumption) ?_)
                   | (refine Trs.ln (by assumption) ?_)
                   | (refine Prs.ix (by assumption) (by omega) ?_)
                   | (refine Trs.ix (by assumption) (by omega) ?_)
                   | (refine Prs.ldN (by assumption) (by omega) ?_)
                   | (refine Trs.ldN (by assumption) (by omega) ?_)
                   | (refine At.ldN (Blk.at (by assumption)) rfl ?_)
                   | (refine At.ld (Blk.at (by assumption)) rfl ?_)
                   | (refine IxA.mk (by omega) ?_)
                   | (refine Sl.ln (Own.sl (by assumption)) ?_)
                   | (refine Ints.ix (Own.sl (by assumption)) (by omega) ?_)
                   | (refine Ints.ixI (Own.sl (by assumption)) (by omega) ?_)
                   | (refine Ints.ld (Own.sl (by assumption)) (by omega) ?_))
          refine Blk.all Hr (by kernel_rfl) (by decide) rfl rfl (by intro v hv; simp at hv; rcases hv with rfl | rfl | rfl <;> rfl) fun w30 G30 HR30 => ?_
          have E30 := EL1.new G30 fun i hi hk => by omega
          have HB30 := Own.blk HB Hr (by decide) G30
          repeat' (conv => whnf
                   first
                   | (refine Dr.quiet tyOk (by kernel_rfl) ?_)
                   | (refine Rng.mk (by omega) ?_)
                   | (refine Split.pos (by omega) ?_)
                   | (refine Split.neg (by omega) ?_)
                   | (refine Split.mk (fun h => ?_) (fun h => ?_))
                   | (refine Need.mk (by omega) ?_)
                   | (refine Ints.ln (by assumption) ?_)
                   | (refine Mat.ln (by assumption) ?_)
                   | (refine Ints.ln (Mat.row (by assumption) _ (by omega)) ?_)
                   | (refine Ints.ix (by assumption) (by omega) ?_)
                   | (refine Mat.ix (by assumption) (by omega) ?_)
                   | (refine Ints.ix (Mat.row (by assumption) _ (by omega)) (by omega) ?_)
                   | (refine Ints.ix (c := 0) (by assumption) (by omega) ?_)
                   | (refine Mat.ix (c := 0) (by assumption) (by omega) ?_)
                   | (refine Ints.ix (c := 0) (Mat.row (by assumption) _ (by omega)) (by omega) ?_)
                   | (refine Ints.ixI (by assumption) (by omega) ?_)
                   | (refine Mat.ixI (by assumption) (by omega) ?_)
                   | (refine Ints.ixI (Mat.row (by assumption) _ (by omega)) (by omega) ?_)
                   | (refine Ints.ld (by assumption) (by omega) ?_)
                   | (refine Mat.ld (by assumption) (by omega) ?_)
                   | (refine Ints.ld (Mat.row (by assumption) _ (by omega)) (by omega) ?_)
                   | (refine At.ld (by assumption) rfl ?_)
                   | (refine At.ldN (by assumption) rfl ?_)
                   | (refine Prs.ln (by assumption) ?_)
                   | (refine Trs.ln (by assumption) ?_)
                   | (refine Prs.ix (by assumption) (by omega) ?_)
                   | (refine Trs.ix (by assumption) (by omega) ?_)
                   | (refine Prs.ldN (by assumption) (by omega) ?_)
                   | (refine Trs.ldN (by assumption) (by omega) ?_)
                   | (refine At.ldN (Blk.at (by assumption)) rfl ?_)
                   | (refine At.ld (Blk.at (by assumption)) rfl ?_)
                   | (refine IxA.mk (by omega) ?_)
                   | (refine Sl.ln (Own.sl (by assumption)) ?_)
                   | (refine Ints.ix (Own.sl (by assumption)) (by omega) ?_)
                   | (refine Ints.ixI (Own.sl (by assumption)) (by omega) ?_)
                   | (refine Ints.ld (Own.sl (by assumption)) (by omega) ?_))
          exact ⟨EE__1.ext E30, _, rfl, HB30⟩
  · rw [nbA, nbP, nbE_chk hc0, if_neg hc0, if_neg hc0]
    repeat' (conv => whnf
             first
             | (refine Dr.quiet tyOk (by kernel_rfl) ?_)
             | (refine VC.pure cc ?_)
             | (refine VS.sparse (ps := []) Try.underlying41 eProd (by decide +kernel) rfl (by simp) rfl ?_)
             | (refine Rng.mk (by omega) ?_)
             | (refine Split.pos (by omega) ?_)
             | (refine Split.neg (by omega) ?_)
             | (refine Split.mk (fun h => ?_) (fun h => ?_))
             | (refine Need.mk (by omega) ?_)
             | (refine Ints.ln (by assumption) ?_)
             | (refine Mat.ln (by assumption) ?_)
             | (refine Ints.ln (Mat.row (by assumption) _ (by omega)) ?_)
             | (refine Ints.ix (by assumption) (by omega) ?_)
             | (refine Mat.ix (by assumption) (by omega) ?_)
             | (refine Ints.ix (Mat.row (by assumption) _ (by omega)) (by omega) ?_)
             | (refine Ints.ix (c := 0) (by assumption) (by omega) ?_)
             | (refine Mat.ix (c := 0) (by assumption) (by omega) ?_)
             | (refine Ints.ix (c := 0) (Mat.row (by assumption) _ (by omega)) (by omega) ?_)
             | (refine Ints.ixI (by assumption) (by omega) ?_)
             | (refine Mat.ixI (by assumption) (by omega) ?_)
             | (refine Ints.ixI (Mat.row (by assumption) _ (by omega)) (by omega) ?_)
             | (refine Ints.ld (by assumption) (by omega) ?_)
             | (refine Mat.ld (by assumption) (by omega) ?_)
             | (refine Ints.ld (Mat.row (by assumption) _ (by omega)) (by omega) ?_)
             | (refine At.ld (by assumption) rfl ?_)
             | (refine At.ldN (by assumption) rfl ?_)
             | (refine Prs.ln (by assumption) ?_)
             | (refine Trs.ln (by assumption) ?_)
             | (refine Prs.ix (by assumption) (by omega) ?_)
             | (refine Trs.ix (by assumption) (by omega) ?_)
             | (refine Prs.ldN (by assumption) (by omega) ?_)
             | (refine Trs.ldN (by assumption) (by omega) ?_)
             | (refine At.ldN (Blk.at (by assumption)) rfl ?_)
             | (refine At.ld (Blk.at (by assumption)) rfl ?_)
             | (refine IxA.mk (by omega) ?_)
             | (refine Sl.ln (Own.sl (by assumption)) ?_)
             | (refine Ints.ix (Own.sl (by assumption)) (by omega) ?_)
             | (refine Ints.ixI (Own.sl (by assumption)) (by omega) ?_)
             | (refine Ints.ld (Own.sl (by assumption)) (by omega) ?_))
    refine Blk.all Hr (by kernel_rfl) (by first | decide | simp) rfl rfl (by intro v hv; simp at hv; rcases hv with rfl | rfl | rfl | rfl | rfl <;> rfl) fun w12 G12 Hr' => ?_
    have E12 : Ext w2 w12 := EL1.new G12 fun i hi hk => by omega
    replace Hr := Hr'
    replace Hg := Hg__1.ext E12
    replace EE := EE__1.ext E12
    replace Hb := Hb__1.ext E12
    replace EL1 := E12
    repeat' (conv => whnf
             first
             | (refine Dr.quiet tyOk (by kernel_rfl) ?_)
             | (refine Rng.mk (by omega) ?_)
             | (refine Split.pos (by omega) ?_)
             | (refine Split.neg (by omega) ?_)
             | (refine Split.mk (fun h => ?_) (fun h => ?_))
             | (refine Need.mk (by omega) ?_)
             | (refine Ints.ln (by assumption) ?_)
             | (refine Mat.ln (by assumption) ?_)
             | (refine Ints.ln (Mat.row (by assumption) _ (by omega)) ?_)
             | (refine Ints.ix (by assumption) (by omega) ?_)
             | (refine Mat.ix (by assumption) (by omega) ?_)
             | (refine Ints.ix (Mat.row (by assumption) _ (by omega)) (by omega) ?_)
             | (refine Ints.ix (c := 0) (by assumption) (by omega) ?_)
             | (refine Mat.ix (c := 0) (by assumption) (by omega) ?_)
             | (refine Ints.ix (c := 0) (Mat.row (by assumption) _ (by omega)) (by omega) ?_)
             | (refine Ints.ixI (by assumption) (by omega) ?_)
             | (refine Mat.ixI (by assumption) (by omega) ?_)
             | (refine Ints.ixI (Mat.row (by assumption) _ (by omega)) (by omega) ?_)
             | (refine Ints.ld (by assumption) (by omega) ?_)
             | (refine Mat.ld (by assumption) (by omega) ?_)
             | (refine Ints.ld (Mat.row (by assumption) _ (by omega)) (by omega) ?_)
             | (refine At.ld (by assumption) rfl ?_)
             | (refine At.ldN (by assumption) rfl ?_)
             | (refine Prs.ln (by assumption) ?_)
             | (refine Trs.ln (by assumption) ?_)
             | (refine Prs.ix (by assumption) (by omega) ?_)
             | (refine Trs.ix (by assumption) (by omega) ?_)
             | (refine Prs.ldN (by assumption) (by omega) ?_)
             | (refine Trs.ldN (by assumption) (by omega) ?_)
             | (refine At.ldN (Blk.at (by assumption)) rfl ?_)
             | (refine At.ld (Blk.at (by assumption)) rfl ?_)
             | (refine IxA.mk (by omega) ?_)
             | (refine Sl.ln (Own.sl (by assumption)) ?_)
             | (refine Ints.ix (Own.sl (by assumption)) (by omega) ?_)
             | (refine Ints.ixI (Own.sl (by assumption)) (by omega) ?_)
             | (refine Ints.ld (Own.sl (by assumption)) (by omega) ?_))
    exact ⟨EE, _, rfl, Own.nil⟩

theorem rgain_rc {w : World} {gv : Value} {vs : List Value} {rr : List (List Int)} (Hg : Mat w gv vs rr) :
    RC Try.prog 37 [.agg #[gv]] w NoB (fun u w' => ∃ av, u = .tuple #[av, .int .i64 (nbE rr)] ∧ OI w' av (ngA rr)) := by
  refine RC.mk tyOk Try.func37 rfl (by kernel_rfl) fun w1 E1 => ?_
  replace Hg := Hg.ext E1
  have EE := Ext.refl w1
  refine Bx.agg fun b2 w2 E2 hb2 Hb _ => ?_
  replace Hg := Hg.ext E2
  replace EE := EE.ext E2
  repeat' (conv => whnf
           first
           | (refine Dr.quiet tyOk (by kernel_rfl) ?_)
           | (refine Rng.mk (by omega) ?_)
           | (refine Split.pos (by omega) ?_)
           | (refine Split.neg (by omega) ?_)
           | (refine Split.mk (fun h => ?_) (fun h => ?_))
           | (refine Need.mk (by omega) ?_)
           | (refine Ints.ln (by assumption) ?_)
           | (refine Mat.ln (by assumption) ?_)
           | (refine Ints.ln (Mat.row (by assumption) _ (by omega)) ?_)
           | (refine Ints.ix (by assumption) (by omega) ?_)
           | (refine Mat.ix (by assumption) (by omega) ?_)
           | (refine Ints.ix (Mat.row (by assumption) _ (by omega)) (by omega) ?_)
           | (refine Ints.ix (c := 0) (by assumption) (by omega) ?_)
           | (refine Mat.ix (c := 0) (by assumption) (by omega) ?_)
           | (refine Ints.ix (c := 0) (Mat.row (by assumption) _ (by omega)) (by omega) ?_)
           | (refine Ints.ixI (by assumption) (by omega) ?_)
           | (refine Mat.ixI (by assumption) (by omega) ?_)
           | (refine Ints.ixI (Mat.row (by assumption) _ (by omega)) (by omega) ?_)
           | (refine Ints.ld (by assumption) (by omega) ?_)
           | (refine Mat.ld (by assumption) (by omega) ?_)
           | (refine Ints.ld (Mat.row (by assumption) _ (by omega)) (by omega) ?_)
           | (refine At.ld (by assumption) rfl ?_)
           | (refine At.ldN (by assumption) rfl ?_)
           | (refine Prs.ln (by assumption) ?_)
           | (refine Trs.ln (by assumption) ?_)
           | (refine Prs.ix (by assumption) (by omega) ?_)
           | (refine Trs.ix (by assumption) (by omega) ?_)
           | (refine Prs.ldN (by assumption) (by omega) ?_)
           | (refine Trs.ldN (by assumption) (by omega) ?_)
           | (refine At.ldN (Blk.at (by assumption)) rfl ?_)
           | (refine At.ld (Blk.at (by assumption)) rfl ?_)
           | (refine IxA.mk (by omega) ?_)
           | (refine Sl.ln (Own.sl (by assumption)) ?_)
           | (refine Ints.ix (Own.sl (by assumption)) (by omega) ?_)
           | (refine Ints.ixI (Own.sl (by assumption)) (by omega) ?_)
           | (refine Ints.ld (Own.sl (by assumption)) (by omega) ?_))
  conv => whnf
  refine VC.rc (rbest_rc Hg) ?_
  rintro _ w3 E3 ⟨bv, rfl, HB⟩
  replace Hg := Hg.ext E3
  replace EE := EE.ext E3
  replace Hb := Hb.ext E3
  repeat' (conv => whnf
           first
           | (refine Dr.quiet tyOk (by kernel_rfl) ?_)
           | (refine Rng.mk (by omega) ?_)
           | (refine Split.pos (by omega) ?_)
           | (refine Split.neg (by omega) ?_)
           | (refine Split.mk (fun h => ?_) (fun h => ?_))
           | (refine Need.mk (by omega) ?_)
           | (refine Ints.ln (by assumption) ?_)
           | (refine Mat.ln (by assumption) ?_)
           | (refine Ints.ln (Mat.row (by assumption) _ (by omega)) ?_)
           | (refine Ints.ix (by assumption) (by omega) ?_)
           | (refine Mat.ix (by assumption) (by omega) ?_)
           | (refine Ints.ix (Mat.row (by assumption) _ (by omega)) (by omega) ?_)
           | (refine Ints.ix (c := 0) (by assumption) (by omega) ?_)
           | (refine Mat.ix (c := 0) (by assumption) (by omega) ?_)
           | (refine Ints.ix (c := 0) (Mat.row (by assumption) _ (by omega)) (by omega) ?_)
           | (refine Ints.ixI (by assumption) (by omega) ?_)
           | (refine Mat.ixI (by assumption) (by omega) ?_)
           | (refine Ints.ixI (Mat.row (by assumption) _ (by omega)) (by omega) ?_)
           | (refine Ints.ld (by assumption) (by omega) ?_)
           | (refine Mat.ld (by assumption) (by omega) ?_)
           | (refine Ints.ld (Mat.row (by assumption) _ (by omega)) (by omega) ?_)
           | (refine At.ld (by assumption) rfl ?_)
           | (refine At.ldN (by assumption) rfl ?_)
           | (refine Prs.ln (by assumption) ?_)
           | (refine Trs.ln (by assumption) ?_)
           | (refine Prs.ix (by assumption) (by omega) ?_)
           | (refine Trs.ix (by assumption) (by omega) ?_)
           | (refine Prs.ldN (by assumption) (by omega) ?_)
           | (refine Trs.ldN (by assumption) (by omega) ?_)
           | (refine At.ldN (Blk.at (by assumption)) rfl ?_)
           | (refine At.ld (Blk.at (by assumption)) rfl ?_)
           | (refine IxA.mk (by omega) ?_)
           | (refine Sl.ln (Own.sl (by assumption)) ?_)
           | (refine Ints.ix (Own.sl (by assumption)) (by omega) ?_)
           | (refine Ints.ixI (Own.sl (by assumption)) (by omega) ?_)
           | (refine Ints.ld (Own.sl (by assumption)) (by omega) ?_))
  have Hg__1 := Hg
  have EE__1 := EE
  have Hb__1 := Hb
  have HB__1 := HB
  conv => whnf
  refine VE.alloc eProd fun pb w4 E4 hb_pb Hp => ?_
  replace Hg := Hg.ext E4
  replace EE := EE.ext E4
  replace Hb := Hb.ext E4
  replace HB := HB.ext E4
  have EL1 := E4
  repeat' (conv => whnf
           first
           | (refine Dr.quiet tyOk (by kernel_rfl) ?_)
           | (refine Rng.mk (by omega) ?_)
           | (refine Split.pos (by omega) ?_)
           | (refine Split.neg (by omega) ?_)
           | (refine Split.mk (fun h => ?_) (fun h => ?_))
           | (refine Need.mk (by omega) ?_)
           | (refine Ints.ln (by assumption) ?_)
           | (refine Mat.ln (by assumption) ?_)
           | (refine Ints.ln (Mat.row (by assumption) _ (by omega)) ?_)
           | (refine Ints.ix (by assumption) (by omega) ?_)
           | (refine Mat.ix (by assumption) (by omega) ?_)
           | (refine Ints.ix (Mat.row (by assumption) _ (by omega)) (by omega) ?_)
           | (refine Ints.ix (c := 0) (by assumption) (by omega) ?_)
           | (refine Mat.ix (c := 0) (by assumption) (by omega) ?_)
           | (refine Ints.ix (c := 0) (Mat.row (by assumption) _ (by omega)) (by omega) ?_)
           | (refine Ints.ixI (by assumption) (by omega) ?_)
           | (refine Mat.ixI (by assumption) (by omega) ?_)
           | (refine Ints.ixI (Mat.row (by assumption) _ (by omega)) (by omega) ?_)
           | (refine Ints.ld (by assumption) (by omega) ?_)
           | (refine Mat.ld (by assumption) (by omega) ?_)
           | (refine Ints.ld (Mat.row (by assumption) _ (by omega)) (by omega) ?_)
           | (refine At.ld (by assumption) rfl ?_)
           | (refine At.ldN (by assumption) rfl ?_)
           | (refine Prs.ln (by assumption) ?_)
           | (refine Trs.ln (by assumption) ?_)
           | (refine Prs.ix (by assumption) (by omega) ?_)
           | (refine Trs.ix (by assumption) (by omega) ?_)
           | (refine Prs.ldN (by assumption) (by omega) ?_)
           | (refine Trs.ldN (by assumption) (by omega) ?_)
           | (refine At.ldN (Blk.at (by assumption)) rfl ?_)
           | (refine At.ld (Blk.at (by assumption)) rfl ?_)
           | (refine IxA.mk (by omega) ?_)
           | (refine Sl.ln (Own.sl (by assumption)) ?_)
           | (refine Ints.ix (Own.sl (by assumption)) (by omega) ?_)
           | (refine Ints.ixI (Own.sl (by assumption)) (by omega) ?_)
           | (refine Ints.ld (Own.sl (by assumption)) (by omega) ?_))
  refine Blk.all Hp (by kernel_rfl) (by first | decide | simp) rfl rfl (by intro v hv; simp at hv; rcases hv with rfl | rfl | rfl | rfl | rfl <;> rfl) fun w5 G5 Hp' => ?_
  have E5 : Ext w3 w5 := EL1.new G5 fun i hi hk => by omega
  replace Hp := Hp'
  replace Hg := Hg__1.ext E5
  replace EE := EE__1.ext E5
  replace Hb := Hb__1.ext E5
  replace HB := HB__1.ext E5
  replace EL1 := E5
  by_cases hE : nbE rr = 0
  · obtain ⟨hc, ht⟩ := nbE_zero hE
    have hgd := gd_of_chk hc
    have hn := hgd.n6
    obtain ⟨hv, _⟩ := nbest_ok hc
    have hal := al_of_vld hv
    have hm := hal.m10
    have hlen := hal.len
    rw [nbA, if_pos hE] at HB
    rw [ngA, if_pos hE]
    repeat' (conv => whnf
             first
             | (refine Dr.quiet tyOk (by kernel_rfl) ?_)
             | (refine Rng.mk (by omega) ?_)
             | (refine Split.pos (by omega) ?_)
             | (refine Split.neg (by omega) ?_)
             | (refine Split.mk (fun h => ?_) (fun h => ?_))
             | (refine Need.mk (by omega) ?_)
             | (refine Ints.ln (by assumption) ?_)
             | (refine Mat.ln (by assumption) ?_)
             | (refine Ints.ln (Mat.row (by assumption) _ (by omega)) ?_)
             | (refine Ints.ix (by assumption) (by omega) ?_)
             | (refine Mat.ix (by assumption) (by omega) ?_)
             | (refine Ints.ix (Mat.row (by assumption) _ (by omega)) (by omega) ?_)
             | (refine Ints.ix (c := 0) (by assumption) (by omega) ?_)
             | (refine Mat.ix (c := 0) (by assumption) (by omega) ?_)
             | (refine Ints.ix (c := 0) (Mat.row (by assumption) _ (by omega)) (by omega) ?_)
             | (refine Ints.ixI (by assumption) (by omega) ?_)
             | (refine Mat.ixI (by assumption) (by omega) ?_)
             | (refine Ints.ixI (Mat.row (by assumption) _ (by omega)) (by omega) ?_)
             | (refine Ints.ld (by assumption) (by omega) ?_)
             | (refine Mat.ld (by assumption) (by omega) ?_)
             | (refine Ints.ld (Mat.row (by assumption) _ (by omega)) (by omega) ?_)
             | (refine At.ld (by assumption) rfl ?_)
             | (refine At.ldN (by assumption) rfl ?_)
             | (refine Prs.ln (by assumption) ?_)
             | (refine Trs.ln (by assumption) ?_)
             | (refine Prs.ix (by assumption) (by omega) ?_)
             | (refine Trs.ix (by assumption) (by omega) ?_)
             | (refine Prs.ldN (by assumption) (by omega) ?_)
             | (refine Trs.ldN (by assumption) (by omega) ?_)
             | (refine At.ldN (Blk.at (by assumption)) rfl ?_)
             | (refine At.ld (Blk.at (by assumption)) rfl ?_)
             | (refine IxA.mk (by omega) ?_)
             | (refine Sl.ln (Own.sl (by assumption)) ?_)
             | (refine Ints.ix (Own.sl (by assumption)) (by omega) ?_)
             | (refine Ints.ixI (Own.sl (by assumption)) (by omega) ?_)
             | (refine Ints.ld (Own.sl (by assumption)) (by omega) ?_))
    have Hg__2 := Hg
    have EE__2 := EE
    have Hb__2 := Hb
    have HB__2 := HB
    have EL1__2 := EL1
    have Hp__2 := Hp
    have hz2 := Nat.le_trans E1.size EE.size
    refine Lp.mk tyOk [false, false, false, false, false, false, false, true, true, false, false, false, false, false, false, false, false, false, true, true, true, true, true, true, true, true, true, true, true, true, true, true, true] (fun m fr wr => getK fr 8 fun j => getK fr 7 fun v => ∃ c : Nat, c ≤ rr.length ∧ m = rr.length - c ∧ j = .int .i64 (c : Int) ∧ (Go.Eng.Own w5.heap.size 3 1 wr v c (((List.range c).map (gain rr (nbest rr))).map i64v)) ∧ Ext w5 wr) (rr.length) ?_ ?_
    · exact ⟨0, Nat.zero_le _, rfl, rfl, Own.nil, Ext.refl _⟩
    · intro m w6 u7 u8 u18 u19 u20 u21 u22 u23 u24 u25 u26 u27 u28 u29 u30 u31 u32 hR
      obtain ⟨c, hc, rfl, rfl, Hv, EL2⟩ := hR
      replace Hg := Hg__2.ext EL2
      replace EE := EE__2.ext EL2
      replace Hb := Hb__2.ext EL2
      replace HB := HB__2.ext EL2
      replace EL1 := EL1__2.ext EL2
      replace Hp := Hp__2.ext EL2
      by_cases hcl : c < rr.length
      · have cw := worth_pc (k := (c : Int)) Hg (Own.sl HB) hcl (by have := hal.row c hcl; omega) hal.val (by omega)
        have e1 : wth rr (nbest rr) c c = gain rr (nbest rr) c := rfl
        rw [e1] at cw
        repeat' (conv => whnf
                 first
                 | (refine Dr.quiet tyOk (by kernel_rfl) ?_)
                 | (refine VC.pure cw ?_)
                 | (refine Rng.mk (by omega) ?_)
                 | (refine Split.pos (by omega) ?_)
                 | (refine Split.neg (by omega) ?_)
                 | (refine Split.mk (fun h => ?_) (fun h => ?_))
                 | (refine Need.mk (by omega) ?_)
                 | (refine Ints.ln (by assumption) ?_)
                 | (refine Mat.ln (by assumption) ?_)
                 | (refine Ints.ln (Mat.row (by assumption) _ (by omega)) ?_)
                 | (refine Ints.ix (by assumption) (by omega) ?_)
                 | (refine Mat.ix (by assumption) (by omega) ?_)
                 | (refine Ints.ix (Mat.row (by assumption) _ (by omega)) (by omega) ?_)
                 | (refine Ints.ix (c := 0) (by assumption) (by omega) ?_)
                 | (refine Mat.ix (c := 0) (by assumption) (by omega) ?_)
                 | (refine Ints.ix (c := 0) (Mat.row (by assumption) _ (by omega)) (by omega) ?_)
                 | (refine Ints.ixI (by assumption) (by omega) ?_)
                 | (refine Mat.ixI (by assumption) (by omega) ?_)
                 | (refine Ints.ixI (Mat.row (by assumption) _ (by omega)) (by omega) ?_)
                 | (refine Ints.ld (by assumption) (by omega) ?_)
                 | (refine Mat.ld (by assumption) (by omega) ?_)
                 | (refine Ints.ld (Mat.row (by assumption) _ (by omega)) (by omega) ?_)
                 | (refine At.ld (by assumption) rfl ?_)
                 | (refine At.ldN (by assumption) rfl ?_)
                 | (refine Prs.ln (by assumption) ?_)
                 | (refine Trs.ln (by assumption) ?_)
                 | (refine Prs.ix (by assumption) (by omega) ?_)
                 | (refine Trs.ix (by assumption) (by omega) ?_)
                 | (refine Prs.ldN (by assumption) (by omega) ?_)
                 | (refine Trs.ldN (by assumption) (by omega) ?_)
                 | (refine At.ldN (Blk.at (by assumption)) rfl ?_)
                 | (refine At.ld (Blk.at (by assumption)) rfl ?_)
                 | (refine IxA.mk (by omega) ?_)
                 | (refine Sl.ln (Own.sl (by assumption)) ?_)
                 | (refine Ints.ix (Own.sl (by assumption)) (by omega) ?_)
                 | (refine Ints.ixI (Own.sl (by assumption)) (by omega) ?_)
                 | (refine Ints.ld (Own.sl (by assumption)) (by omega) ?_))
        refine VE.lit1 Try.underlying27 eInt (rfl) fun lv w7 E7 Hl => ?_
        replace Hg := Hg.ext E7
        replace EE := EE.ext E7
        replace Hb := Hb.ext E7
        replace HB := HB.ext E7
        replace EL1 := EL1.ext E7
        replace Hp := Hp.ext E7
        replace EL2 := EL2.ext E7
        replace Hv := Hv.ext E7
        conv => whnf
        refine VE.app Try.underlying27 eInt rfl (by omega) Hv EL2 rfl Hl (by simp [Value.oneCell']) (by first | omega | (simp only [List.length_map, List.length_range]; omega) | (simp; omega)) (by first | omega | (simp only [List.length_map, List.length_range]; omega) | (simp; omega)) fun v8 w8 E8 G8 H8 => ?_
        replace Hg := Hg__2.ext E8
        replace EE := EE__2.ext E8
        replace Hb := Hb__2.ext E8
        replace HB := HB__2.ext E8
        replace EL1 := EL1__2.ext E8
        replace Hp := Hp__2.ext E8
        replace EL2 := E8
        repeat' (conv => whnf
                 first
                 | (refine Dr.quiet tyOk (by kernel_rfl) ?_)
                 | (refine Rng.mk (by omega) ?_)
                 | (refine Split.pos (by omega) ?_)
                 | (refine Split.neg (by omega) ?_)
                 | (refine Split.mk (fun h => ?_) (fun h => ?_))
                 | (refine Need.mk (by omega) ?_)
                 | (refine Ints.ln (by assumption) ?_)
                 | (refine Mat.ln (by assumption) ?_)
                 | (refine Ints.ln (Mat.row (by assumption) _ (by omega)) ?_)
                 | (refine Ints.ix (by assumption) (by omega) ?_)
                 | (refine Mat.ix (by assumption) (by omega) ?_)
                 | (refine Ints.ix (Mat.row (by assumption) _ (by omega)) (by omega) ?_)
                 | (refine Ints.ix (c := 0) (by assumption) (by omega) ?_)
                 | (refine Mat.ix (c := 0) (by assumption) (by omega) ?_)
                 | (refine Ints.ix (c := 0) (Mat.row (by assumption) _ (by omega)) (by omega) ?_)
                 | (refine Ints.ixI (by assumption) (by omega) ?_)
                 | (refine Mat.ixI (by assumption) (by omega) ?_)
                 | (refine Ints.ixI (Mat.row (by assumption) _ (by omega)) (by omega) ?_)
                 | (refine Ints.ld (by assumption) (by omega) ?_)
                 | (refine Mat.ld (by assumption) (by omega) ?_)
                 | (refine Ints.ld (Mat.row (by assumption) _ (by omega)) (by omega) ?_)
                 | (refine At.ld (by assumption) rfl ?_)
                 | (refine At.ldN (by assumption) rfl ?_)
                 | (refine Prs.ln (by assumption) ?_)
                 | (refine Trs.ln (by assumption) ?_)
                 | (refine Prs.ix (by assumption) (by omega) ?_)
                 | (refine Trs.ix (by assumption) (by omega) ?_)
                 | (refine Prs.ldN (by assumption) (by omega) ?_)
                 | (refine Trs.ldN (by assumption) (by omega) ?_)
                 | (refine At.ldN (Blk.at (by assumption)) rfl ?_)
                 | (refine At.ld (Blk.at (by assumption)) rfl ?_)
                 | (refine IxA.mk (by omega) ?_)
                 | (refine Sl.ln (Own.sl (by assumption)) ?_)
                 | (refine Ints.ix (Own.sl (by assumption)) (by omega) ?_)
                 | (refine Ints.ixI (Own.sl (by assumption)) (by omega) ?_)
                 | (refine Ints.ld (Own.sl (by assumption)) (by omega) ?_))
        refine ⟨_, (by omega : rr.length - (c + 1) < rr.length - c), rfl, c + 1, by omega, rfl, rfl, ?_, EL2⟩
        rw [map_range_succ, List.map_append]
        exact H8
      · obtain rfl : c = rr.length := by omega
        repeat' (conv => whnf
                 first
                 | (refine Dr.quiet tyOk (by kernel_rfl) ?_)
                 | (refine Rng.mk (by omega) ?_)
                 | (refine Split.pos (by omega) ?_)
                 | (refine Split.neg (by omega) ?_)
                 | (refine Split.mk (fun h => ?_) (fun h => ?_))
                 | (refine Need.mk (by omega) ?_)
                 | (refine Ints.ln (by assumption) ?_)
                 | (refine Mat.ln (by assumption) ?_)
                 | (refine Ints.ln (Mat.row (by assumption) _ (by omega)) ?_)
                 | (refine Ints.ix (by assumption) (by omega) ?_)
                 | (refine Mat.ix (by assumption) (by omega) ?_)
                 | (refine Ints.ix (Mat.row (by assumption) _ (by omega)) (by omega) ?_)
                 | (refine Ints.ix (c := 0) (by assumption) (by omega) ?_)
                 | (refine Mat.ix (c := 0) (by assumption) (by omega) ?_)
                 | (refine Ints.ix (c := 0) (Mat.row (by assumption) _ (by omega)) (by omega) ?_)
                 | (refine Ints.ixI (by assumption) (by omega) ?_)
                 | (refine Mat.ixI (by assumption) (by omega) ?_)
                 | (refine Ints.ixI (Mat.row (by assumption) _ (by omega)) (by omega) ?_)
                 | (refine Ints.ld (by assumption) (by omega) ?_)
                 | (refine Mat.ld (by assumption) (by omega) ?_)
                 | (refine Ints.ld (Mat.row (by assumption) _ (by omega)) (by omega) ?_)
                 | (refine At.ld (by assumption) rfl ?_)
                 | (refine At.ldN (by assumption) rfl ?_)
                 | (refine Prs.ln (by assumption) ?_)
                 | (refine Trs.ln (by assumption) ?_)
                 | (refine Prs.ix (by assumption) (by omega) ?_)
                 | (refine Trs.ix (by assumption) (by omega) ?_)
                 | (refine Prs.ldN (by assumption) (by omega) ?_)
                 | (refine Trs.ldN (by assumption) (by omega) ?_)
                 | (refine At.ldN (Blk.at (by assumption)) rfl ?_)
                 | (refine At.ld (Blk.at (by assumption)) rfl ?_)
                 | (refine IxA.mk (by omega) ?_)
                 | (refine Sl.ln (Own.sl (by assumption)) ?_)
                 | (refine Ints.ix (Own.sl (by assumption)) (by omega) ?_)
                 | (refine Ints.ixI (Own.sl (by assumption)) (by omega) ?_)
                 | (refine Ints.ld (Own.sl (by assumption)) (by omega) ?_))
        rw [hE]
        exact ⟨EE, _, rfl, OI.of Hv⟩
  · rw [ngA, if_neg hE]
    repeat' (conv => whnf
             first
             | (refine Dr.quiet tyOk (by kernel_rfl) ?_)
             | (refine Rng.mk (by omega) ?_)
             | (refine Split.pos (by omega) ?_)
             | (refine Split.neg (by omega) ?_)
             | (refine Split.mk (fun h => ?_) (fun h => ?_))
             | (refine Need.mk (by omega) ?_)
             | (refine Ints.ln (by assumption) ?_)
             | (refine Mat.ln (by assumption) ?_)
             | (refine Ints.ln (Mat.row (by assumption) _ (by omega)) ?_)
             | (refine Ints.ix (by assumption) (by omega) ?_)
             | (refine Mat.ix (by assumption) (by omega) ?_)
             | (refine Ints.ix (Mat.row (by assumption) _ (by omega)) (by omega) ?_)
             | (refine Ints.ix (c := 0) (by assumption) (by omega) ?_)
             | (refine Mat.ix (c := 0) (by assumption) (by omega) ?_)
             | (refine Ints.ix (c := 0) (Mat.row (by assumption) _ (by omega)) (by omega) ?_)
             | (refine Ints.ixI (by assumption) (by omega) ?_)
             | (refine Mat.ixI (by assumption) (by omega) ?_)
             | (refine Ints.ixI (Mat.row (by assumption) _ (by omega)) (by omega) ?_)
             | (refine Ints.ld (by assumption) (by omega) ?_)
             | (refine Mat.ld (by assumption) (by omega) ?_)
             | (refine Ints.ld (Mat.row (by assumption) _ (by omega)) (by omega) ?_)
             | (refine At.ld (by assumption) rfl ?_)
             | (refine At.ldN (by assumption) rfl ?_)
             | (refine Prs.ln (by assumption) ?_)
             | (refine Trs.ln (by assumption) ?_)
             | (refine Prs.ix (by assumption) (by omega) ?_)
             | (refine Trs.ix (by assumption) (by omega) ?_)
             | (refine Prs.ldN (by assumption) (by omega) ?_)
             | (refine Trs.ldN (by assumption) (by omega) ?_)
             | (refine At.ldN (Blk.at (by assumption)) rfl ?_)
             | (refine At.ld (Blk.at (by assumption)) rfl ?_)
             | (refine IxA.mk (by omega) ?_)
             | (refine Sl.ln (Own.sl (by assumption)) ?_)
             | (refine Ints.ix (Own.sl (by assumption)) (by omega) ?_)
             | (refine Ints.ixI (Own.sl (by assumption)) (by omega) ?_)
             | (refine Ints.ld (Own.sl (by assumption)) (by omega) ?_))
    exact ⟨EE, _, rfl, Own.nil⟩
end Go.Proofs.Ytkgogljfngplnaa
set_option linter.unusedVariables false
set_option linter.unusedSimpArgs false
namespace Go.Proofs.Ytkgogljfngplnaa
open Go.Eng
set_option maxRecDepth 100000
set_option maxHeartbeats 4000000

theorem given21_rc {w : World} : RC Try.prog 38 [] w NoB (fun u w' => ∃ gv us, u = .agg #[gv] ∧ OM 0 w' gv us gvn) := by
  refine RC.mk tyOk Try.func38 rfl (by kernel_rfl) fun w1 E1 => ?_
  have EE := Ext.refl w1
  have EE__1 := EE
  conv => whnf
  refine VE.alloc eGoods fun b w2 E2 hb_b Hk => ?_
  replace EE := EE.ext E2
  have EL1 := E2
  conv => whnf
  refine VE.litI [5, 3, 1] Try.underlying27 eInt (by decide) fun gv_0 w3 E3 HO_0 _ => ?_
  replace HO_0 := HO_0 0 (Nat.zero_le _)
  replace EE := EE.ext E3
  replace EL1 := EL1.ext E3
  replace Hk := Hk.ext E3
  conv => whnf
  refine VE.litI [2, 2, 2] Try.underlying27 eInt (by decide) fun gv_1 w4 E4 HO_1 _ => ?_
  replace HO_1 := HO_1 0 (Nat.zero_le _)
  replace EE := EE.ext E4
  replace EL1 := EL1.ext E4
  replace Hk := Hk.ext E4
  replace HO_0 := HO_0.ext E4
  conv => whnf
  refine VE.litV [gv_0, gv_1] Try.underlying22 eRow (by intro v hv; simp at hv; rcases hv with rfl | rfl <;> first | exact (Sl.cells (Own.sl HO_0)).1 | exact (Sl.cells (Own.sl HO_1)).1) (by simp) fun gv w5 E5 HO _ => ?_
  replace EE := EE.ext E5
  replace EL1 := EL1.ext E5
  replace Hk := Hk.ext E5
  replace HO_0 := HO_0.ext E5
  replace HO_1 := HO_1.ext E5
  replace HO : OM 0 w5 gv [gv_0, gv_1] [[5, 3, 1], [2, 2, 2]] := by
    refine ⟨HO _ (Nat.zero_le _), fun i hi => ?_⟩
    match i, hi with
    | 0, _ => exact HO_0
    | 1, _ => exact HO_1
  conv => whnf
  refine VS.field1 Try.underlying24 eGoods (by kernel_rfl) rfl (Sl.cells (Own.sl HO.top)).1 ?_
  conv => whnf
  refine Blk.all Hk (by kernel_rfl) (by decide) rfl rfl (by intro v hv; simp at hv; subst hv; exact (Sl.cells (Own.sl HO.top)).2) fun w6 G6 Hk6 => ?_
  have EE6 := EL1.new G6 fun i hi hk => by omega
  replace HO := OM.blk HO Hk (by decide) (by decide) G6
  repeat' (conv => whnf
           first
           | (refine Dr.quiet tyOk (by kernel_rfl) ?_)
           | (refine Rng.mk (by omega) ?_)
           | (refine Split.pos (by omega) ?_)
           | (refine Split.neg (by omega) ?_)
           | (refine Split.mk (fun h => ?_) (fun h => ?_))
           | (refine Need.mk (by omega) ?_)
           | (refine Ints.ln (by assumption) ?_)
           | (refine Mat.ln (by assumption) ?_)
           | (refine Ints.ln (Mat.row (by assumption) _ (by omega)) ?_)
           | (refine Ints.ix (by assumption) (by omega) ?_)
           | (refine Mat.ix (by assumption) (by omega) ?_)
           | (refine Ints.ix (Mat.row (by assumption) _ (by omega)) (by omega) ?_)
           | (refine Ints.ix (c := 0) (by assumption) (by omega) ?_)
           | (refine Mat.ix (c := 0) (by assumption) (by omega) ?_)
           | (refine Ints.ix (c := 0) (Mat.row (by assumption) _ (by omega)) (by omega) ?_)
           | (refine Ints.ixI (by assumption) (by omega) ?_)
           | (refine Mat.ixI (by assumption) (by omega) ?_)
           | (refine Ints.ixI (Mat.row (by assumption) _ (by omega)) (by omega) ?_)
           | (refine Ints.ld (by assumption) (by omega) ?_)
           | (refine Mat.ld (by assumption) (by omega) ?_)
           | (refine Ints.ld (Mat.row (by assumption) _ (by omega)) (by omega) ?_)
           | (refine At.ld (by assumption) rfl ?_)
           | (refine At.ldN (by assumption) rfl ?_)
           | (refine Prs.ln (by assumption) ?_)
           | (refine Trs.ln (by assumption) ?_)
           | (refine Prs.ix (by assumption) (by omega) ?_)
           | (refine Trs.ix (by assumption) (by omega) ?_)
           | (refine Prs.ldN (by assumption) (by omega) ?_)
           | (refine Trs.ldN (by assumption) (by omega) ?_)
           | (refine At.ldN (Blk.at (by assumption)) rfl ?_)
           | (refine At.ld (Blk.at (by assumption)) rfl ?_)
           | (refine IxA.mk (by omega) ?_)
           | (refine Sl.ln (Own.sl (by assumption)) ?_)
           | (refine Ints.ix (Own.sl (by assumption)) (by omega) ?_)
           | (refine Ints.ixI (Own.sl (by assumption)) (by omega) ?_)
           | (refine Ints.ld (Own.sl (by assumption)) (by omega) ?_))
  exact ⟨EE__1.ext EE6, gv, _, rfl, HO⟩

theorem fit21_pc {w : World} {gv av : Value} {vs : List Value} {rr : List (List Int)} {a : List Int} (Hg : Mat w gv vs rr) (Ha : Ints w av a) :
    PC Try.prog 40 [.agg #[gv], av] w (.bool (tf (¬ great rr a ∧ chk rr = 0))) := by
  refine PC.mk tyOk Try.func40 rfl (by kernel_rfl) fun w1 E1 => ?_
  replace Hg := Hg.ext E1
  replace Ha := Ha.ext E1
  have EE := Ext.refl w1
  refine Bx.agg fun b2 w2 E2 hb2 Hb _ => ?_
  replace Hg := Hg.ext E2
  replace Ha := Ha.ext E2
  replace EE := EE.ext E2
  have c2 := rcheck_pc Hg
  have hc := great_pc Hg Ha
  by_cases hgr : great rr a
  · rw [tf_t hgr] at hc
    rw [tf_f (p := ¬ great rr a ∧ chk rr = 0) (fun h => h.1 hgr)]
    repeat' (conv => whnf
             first
             | (refine Dr.quiet tyOk (by kernel_rfl) ?_)
             | (refine VC.pure hc ?_)
             | (refine Rng.mk (by omega) ?_)
             | (refine Split.pos (by omega) ?_)
             | (refine Split.neg (by omega) ?_)
             | (refine Split.mk (fun h => ?_) (fun h => ?_))
             | (refine Need.mk (by omega) ?_)
             | (refine Ints.ln (by assumption) ?_)
             | (refine Mat.ln (by assumption) ?_)
             | (refine Ints.ln (Mat.row (by assumption) _ (by omega)) ?_)
             | (refine Ints.ix (by assumption) (by omega) ?_)
             | (refine Mat.ix (by assumption) (by omega) ?_)
             | (refine Ints.ix (Mat.row (by assumption) _ (by omega)) (by omega) ?_)
             | (refine Ints.ix (c := 0) (by assumption) (by omega) ?_)
             | (refine Mat.ix (c := 0) (by assumption) (by omega) ?_)
             | (refine Ints.ix (c := 0) (Mat.row (by assumption) _ (by omega)) (by omega) ?_)
             | (refine Ints.ixI (by assumption) (by omega) ?_)
             | (refine Mat.ixI (by assumption) (by omega) ?_)
             | (refine Ints.ixI (Mat.row (by assumption) _ (by omega)) (by omega) ?_)
             | (refine Ints.ld (by assumption) (by omega) ?_)
             | (refine Mat.ld (by assumption) (by omega) ?_)
             | (refine Ints.ld (Mat.row (by assumption) _ (by omega)) (by omega) ?_)
             | (refine At.ld (by assumption) rfl ?_)
             | (refine At.ldN (by assumption) rfl ?_)
             | (refine Prs.ln (by assumption) ?_)
             | (refine Trs.ln (by assumption) ?_)
             | (refine Prs.ix (by assumption) (by omega) ?_)
             | (refine Trs.ix (by assumption) (by omega) ?_)
             | (refine Prs.ldN (by assumption) (by omega) ?_)
             | (refine Trs.ldN (by assumption) (by omega) ?_)
             | (refine At.ldN (Blk.at (by assumption)) rfl ?_)
             | (refine At.ld (Blk.at (by assumption)) rfl ?_)
             | (refine IxA.mk (by omega) ?_)
             | (refine Sl.ln (Own.sl (by assumption)) ?_)
             | (refine Ints.ix (Own.sl (by assumption)) (by omega) ?_)
             | (refine Ints.ixI (Own.sl (by assumption)) (by omega) ?_)
             | (refine Ints.ld (Own.sl (by assumption)) (by omega) ?_))
    exact ⟨rfl, EE⟩
  · rw [tf_f hgr] at hc
    by_cases hv : chk rr = 0
    · rw [tf_t (p := ¬ great rr a ∧ chk rr = 0) ⟨hgr, hv⟩]
      repeat' (conv => whnf
               first
               | (refine Dr.quiet tyOk (by kernel_rfl) ?_)
               | (refine VC.pure hc ?_)
               | (refine VC.pure c2 ?_)
               | (refine Rng.mk (by omega) ?_)
               | (refine Split.pos (by omega) ?_)
               | (refine Split.neg (by omega) ?_)
               | (refine Split.mk (fun h => ?_) (fun h => ?_))
               | (refine Need.mk (by omega) ?_)
               | (refine Ints.ln (by assumption) ?_)
               | (refine Mat.ln (by assumption) ?_)
               | (refine Ints.ln (Mat.row (by assumption) _ (by omega)) ?_)
               | (refine Ints.ix (by assumption) (by omega) ?_)
               | (refine Mat.ix (by assumption) (by omega) ?_)
               | (refine Ints.ix (Mat.row (by assumption) _ (by omega)) (by omega) ?_)
               | (refine Ints.ix (c := 0) (by assumption) (by omega) ?_)
               | (refine Mat.ix (c := 0) (by assumption) (by omega) ?_)
               | (refine Ints.ix (c := 0) (Mat.row (by assumption) _ (by omega)) (by omega) ?_)
               | (refine Ints.ixI (by assumption) (by omega) ?_)
               | (refine Mat.ixI (by assumption) (by omega) ?_)
               | (refine Ints.ixI (Mat.row (by assumption) _ (by omega)) (by omega) ?_)
               | (refine Ints.ld (by assumption) (by omega) ?_)
               | (refine Mat.ld (by assumption) (by omega) ?_)
               | (refine Ints.ld (Mat.row (by assumption) _ (by omega)) (by omega) ?_)
               | (refine At.ld (by assumption) rfl ?_)
               | (refine At.ldN (by assumption) rfl ?_)
               | (refine Prs.ln (by assumption) ?_)
               | (refine Trs.ln (by assumption) ?_)
               | (refine Prs.ix (by assumption) (by omega) ?_)
               | (refine Trs.ix (by assumption) (by omega) ?_)
               | (refine Prs.ldN (by assumption) (by omega) ?_)
               | (refine Trs.ldN (by assumption) (by omega) ?_)
               | (refine At.ldN (Blk.at (by assumption)) rfl ?_)
               | (refine At.ld (Blk.at (by assumption)) rfl ?_)
               | (refine IxA.mk (by omega) ?_)
               | (refine Sl.ln (Own.sl (by assumption)) ?_)
               | (refine Ints.ix (Own.sl (by assumption)) (by omega) ?_)
               | (refine Ints.ixI (Own.sl (by assumption)) (by omega) ?_)
               | (refine Ints.ld (Own.sl (by assumption)) (by omega) ?_))
      exact ⟨rfl, EE⟩
    · rw [tf_f (p := ¬ great rr a ∧ chk rr = 0) (fun h => hv h.2)]
      repeat' (conv => whnf
               first
               | (refine Dr.quiet tyOk (by kernel_rfl) ?_)
               | (refine VC.pure hc ?_)
               | (refine VC.pure c2 ?_)
               | (refine Rng.mk (by omega) ?_)
               | (refine Split.pos (by omega) ?_)
               | (refine Split.neg (by omega) ?_)
               | (refine Split.mk (fun h => ?_) (fun h => ?_))
               | (refine Need.mk (by omega) ?_)
               | (refine Ints.ln (by assumption) ?_)
               | (refine Mat.ln (by assumption) ?_)
               | (refine Ints.ln (Mat.row (by assumption) _ (by omega)) ?_)
               | (refine Ints.ix (by assumption) (by omega) ?_)
               | (refine Mat.ix (by assumption) (by omega) ?_)
               | (refine Ints.ix (Mat.row (by assumption) _ (by omega)) (by omega) ?_)
               | (refine Ints.ix (c := 0) (by assumption) (by omega) ?_)
               | (refine Mat.ix (c := 0) (by assumption) (by omega) ?_)
               | (refine Ints.ix (c := 0) (Mat.row (by assumption) _ (by omega)) (by omega) ?_)
               | (refine Ints.ixI (by assumption) (by omega) ?_)
               | (refine Mat.ixI (by assumption) (by omega) ?_)
               | (refine Ints.ixI (Mat.row (by assumption) _ (by omega)) (by omega) ?_)
               | (refine Ints.ld (by assumption) (by omega) ?_)
               | (refine Mat.ld (by assumption) (by omega) ?_)
               | (refine Ints.ld (Mat.row (by assumption) _ (by omega)) (by omega) ?_)
               | (refine At.ld (by assumption) rfl ?_)
               | (refine At.ldN (by assumption) rfl ?_)
               | (refine Prs.ln (by assumption) ?_)
               | (refine Trs.ln (by assumption) ?_)
               | (refine Prs.ix (by assumption) (by omega) ?_)
               | (refine Trs.ix (by assumption) (by omega) ?_)
               | (refine Prs.ldN (by assumption) (by omega) ?_)
               | (refine Trs.ldN (by assumption) (by omega) ?_)
               | (refine At.ldN (Blk.at (by assumption)) rfl ?_)
               | (refine At.ld (Blk.at (by assumption)) rfl ?_)
               | (refine IxA.mk (by omega) ?_)
               | (refine Sl.ln (Own.sl (by assumption)) ?_)
               | (refine Ints.ix (Own.sl (by assumption)) (by omega) ?_)
               | (refine Ints.ixI (Own.sl (by assumption)) (by omega) ?_)
               | (refine Ints.ld (Own.sl (by assumption)) (by omega) ?_))
      exact ⟨rfl, EE⟩

def great20 (rr : List (List Int)) (a : List Int) : Prop := great rr a ∨ chk rr = 0 ∧ (4 < rr.length ∨ 5 < (rr.getD 0 []).length)
theorem great20_pc {w : World} {gv av : Value} {vs : List Value} {rr : List (List Int)} {a : List Int} (Hg : Mat w gv vs rr) (Ha : Ints w av a) :
    PC Try.prog 16 [.agg #[gv], av] w (.bool (tf (great20 rr a))) := by
  refine PC.mk tyOk Try.func16 rfl (by kernel_rfl) fun w1 E1 => ?_
  replace Hg := Hg.ext E1
  replace Ha := Ha.ext E1
  have EE := Ext.refl w1
  refine Bx.agg fun b2 w2 E2 hb2 Hb _ => ?_
  replace Hg := Hg.ext E2
  replace Ha := Ha.ext E2
  replace EE := EE.ext E2
  have c2 := rcheck_pc Hg
  have hc := great_pc Hg Ha
  by_cases hgr : great rr a
  · rw [tf_t hgr] at hc
    rw [tf_t (p := great20 rr a) (.inl hgr)]
    repeat' (conv => whnf
             first
             | (refine Dr.quiet tyOk (by kernel_rfl) ?_)
             | (refine VC.pure hc ?_)
             | (refine Rng.mk (by omega) ?_)
             | (refine Split.pos (by omega) ?_)
             | (refine Split.neg (by omega) ?_)
             | (refine Split.mk (fun h => ?_) (fun h => ?_))
             | (refine Need.mk (by omega) ?_)
             | (refine Ints.ln (by assumption) ?_)
             | (refine Mat.ln (by assumption) ?_)
             | (refine Ints.ln (Mat.row (by assumption) _ (by omega)) ?_)
             | (refine Ints.ix (by assumption) (by omega) ?_)
             | (refine Mat.ix (by assumption) (by omega) ?_)
             | (refine Ints.ix (Mat.row (by assumption) _ (by omega)) (by omega) ?_)
             | (refine Ints.ix (c := 0) (by assumption) (by omega) ?_)
             | (refine Mat.ix (c := 0) (by assumption) (by omega) ?_)
             | (refine Ints.ix (c := 0) (Mat.row (by assumption) _ (by omega)) (by omega) ?_)
             | (refine Ints.ixI (by assumption) (by omega) ?_)
             | (refine Mat.ixI (by assumption) (by omega) ?_)
             | (refine Ints.ixI (Mat.row (by assumption) _ (by omega)) (by omega) ?_)
             | (refine Ints.ld (by assumption) (by omega) ?_)
             | (refine Mat.ld (by assumption) (by omega) ?_)
             | (refine Ints.ld (Mat.row (by assumption) _ (by omega)) (by omega) ?_)
             | (refine At.ld (by assumption) rfl ?_)
             | (refine At.ldN (by assumption) rfl ?_)
             | (refine Prs.ln (by assumption) ?_)
             | (refine Trs.ln (by assumption) ?_)
             | (refine Prs.ix (by assumption) (by omega) ?_)
             | (refine Trs.ix (by assumption) (by omega) ?_)
             | (refine Prs.ldN (by assumption) (by omega) ?_)
             | (refine Trs.ldN (by assumption) (by omega) ?_)
             | (refine At.ldN (Blk.at (by assumption)) rfl ?_)
             | (refine At.ld (Blk.at (by assumption)) rfl ?_)
             | (refine IxA.mk (by omega) ?_)
             | (refine Sl.ln (Own.sl (by assumption)) ?_)
             | (refine Ints.ix (Own.sl (by assumption)) (by omega) ?_)
             | (refine Ints.ixI (Own.sl (by assumption)) (by omega) ?_)
             | (refine Ints.ld (Own.sl (by assumption)) (by omega) ?_))
    exact ⟨rfl, EE⟩
  · rw [tf_f hgr] at hc
    by_cases hv : chk rr = 0
    · have hn1 := (gd_of_chk hv).n1
      repeat' (conv => whnf
               first
               | (refine Dr.quiet tyOk (by kernel_rfl) ?_)
               | (refine VC.pure hc ?_)
               | (refine VC.pure c2 ?_)
               | (refine Rng.mk (by omega) ?_)
               | (refine Split.pos (by omega) ?_)
               | (refine Split.neg (by omega) ?_)
               | (refine Split.mk (fun h => ?_) (fun h => ?_))
               | (refine Need.mk (by omega) ?_)
               | (refine Ints.ln (by assumption) ?_)
               | (refine Mat.ln (by assumption) ?_)
               | (refine Ints.ln (Mat.row (by assumption) _ (by omega)) ?_)
               | (refine Ints.ix (by assumption) (by omega) ?_)
               | (refine Mat.ix (by assumption) (by omega) ?_)
               | (refine Ints.ix (Mat.row (by assumption) _ (by omega)) (by omega) ?_)
               | (refine Ints.ix (c := 0) (by assumption) (by omega) ?_)
               | (refine Mat.ix (c := 0) (by assumption) (by omega) ?_)
               | (refine Ints.ix (c := 0) (Mat.row (by assumption) _ (by omega)) (by omega) ?_)
               | (refine Ints.ixI (by assumption) (by omega) ?_)
               | (refine Mat.ixI (by assumption) (by omega) ?_)
               | (refine Ints.ixI (Mat.row (by assumption) _ (by omega)) (by omega) ?_)
               | (refine Ints.ld (by assumption) (by omega) ?_)
               | (refine Mat.ld (by assumption) (by omega) ?_)
               | (refine Ints.ld (Mat.row (by assumption) _ (by omega)) (by omega) ?_)
               | (refine At.ld (by assumption) rfl ?_)
               | (refine At.ldN (by assumption) rfl ?_)
               | (refine Prs.ln (by assumption) ?_)
               | (refine Trs.ln (by assumption) ?_)
               | (refine Prs.ix (by assumption) (by omega) ?_)
               | (refine Trs.ix (by assumption) (by omega) ?_)
               | (refine Prs.ldN (by assumption) (by omega) ?_)
               | (refine Trs.ldN (by assumption) (by omega) ?_)
               | (refine At.ldN (Blk.at (by assumption)) rfl ?_)
               | (refine At.ld (Blk.at (by assumption)) rfl ?_)
               | (refine IxA.mk (by omega) ?_)
               | (refine Sl.ln (Own.sl (by assumption)) ?_)
               | (refine Ints.ix (Own.sl (by assumption)) (by omega) ?_)
               | (refine Ints.ixI (Own.sl (by assumption)) (by omega) ?_)
               | (refine Ints.ld (Own.sl (by assumption)) (by omega) ?_))
      all_goals first
        | (rw [tf_t (p := great20 rr a) (.inr ⟨hv, by omega⟩)]; exact ⟨rfl, EE⟩)
        | (rw [tf_f (p := great20 rr a) (by rintro (h | h); exact hgr h; omega)]; exact ⟨rfl, EE⟩)
    · rw [tf_f (p := great20 rr a) (by rintro (h | h); exact hgr h; exact hv h.1)]
      repeat' (conv => whnf
               first
               | (refine Dr.quiet tyOk (by kernel_rfl) ?_)
               | (refine VC.pure hc ?_)
               | (refine VC.pure c2 ?_)
               | (refine Rng.mk (by omega) ?_)
               | (refine Split.pos (by omega) ?_)
               | (refine Split.neg (by omega) ?_)
               | (refine Split.mk (fun h => ?_) (fun h => ?_))
               | (refine Need.mk (by omega) ?_)
               | (refine Ints.ln (by assumption) ?_)
               | (refine Mat.ln (by assumption) ?_)
               | (refine Ints.ln (Mat.row (by assumption) _ (by omega)) ?_)
               | (refine Ints.ix (by assumption) (by omega) ?_)
               | (refine Mat.ix (by assumption) (by omega) ?_)
               | (refine Ints.ix (Mat.row (by assumption) _ (by omega)) (by omega) ?_)
               | (refine Ints.ix (c := 0) (by assumption) (by omega) ?_)
               | (refine Mat.ix (c := 0) (by assumption) (by omega) ?_)
               | (refine Ints.ix (c := 0) (Mat.row (by assumption) _ (by omega)) (by omega) ?_)
               | (refine Ints.ixI (by assumption) (by omega) ?_)
               | (refine Mat.ixI (by assumption) (by omega) ?_)
               | (refine Ints.ixI (Mat.row (by assumption) _ (by omega)) (by omega) ?_)
               | (refine Ints.ld (by assumption) (by omega) ?_)
               | (refine Mat.ld (by assumption) (by omega) ?_)
               | (refine Ints.ld (Mat.row (by assumption) _ (by omega)) (by omega) ?_)
               | (refine At.ld (by assumption) rfl ?_)
               | (refine At.ldN (by assumption) rfl ?_)
               | (refine Prs.ln (by assumption) ?_)
               | (refine Trs.ln (by assumption) ?_)
               | (refine Prs.ix (by assumption) (by omega) ?_)
               | (refine Trs.ix (by assumption) (by omega) ?_)
               | (refine Prs.ldN (by assumption) (by omega) ?_)
               | (refine Trs.ldN (by assumption) (by omega) ?_)
               | (refine At.ldN (Blk.at (by assumption)) rfl ?_)
               | (refine At.ld (Blk.at (by assumption)) rfl ?_)
               | (refine IxA.mk (by omega) ?_)
               | (refine Sl.ln (Own.sl (by assumption)) ?_)
               | (refine Ints.ix (Own.sl (by assumption)) (by omega) ?_)
               | (refine Ints.ixI (Own.sl (by assumption)) (by omega) ?_)
               | (refine Ints.ld (Own.sl (by assumption)) (by omega) ?_))
      exact ⟨rfl, EE⟩

theorem alive21_pc {w : World} : PC Try.prog 39 [] w (.bool true) := by
  refine PC.mk tyOk Try.func39 rfl (by kernel_rfl) fun w1 E1 => ?_
  have EE := Ext.refl w1
  conv => whnf
  refine VC.rc (given21_rc) ?_
  rintro _ w2 E2 ⟨g1, _, rfl, HG⟩
  replace EE := EE.ext E2
  conv => whnf
  refine VC.rc (nbest_rc HG.mat) ?_
  rintro _ w3 E3 ⟨av, rfl, HA⟩
  replace EE := EE.ext E3
  replace HG := HG.ext E3
  rw [show nbA gvn = [0, 1, 1] by decide +kernel] at HA
  rw [show nbP gvn = (2, 0, 20) by decide +kernel, show nbE gvn = 0 by decide +kernel]
  repeat' (conv => whnf
           first
           | (refine Dr.quiet tyOk (by kernel_rfl) ?_)
           | (refine Rng.mk (by omega) ?_)
           | (refine Split.pos (by omega) ?_)
           | (refine Split.neg (by omega) ?_)
           | (refine Split.mk (fun h => ?_) (fun h => ?_))
           | (refine Need.mk (by omega) ?_)
           | (refine Ints.ln (by assumption) ?_)
           | (refine Mat.ln (by assumption) ?_)
           | (refine Ints.ln (Mat.row (by assumption) _ (by omega)) ?_)
           | (refine Ints.ix (by assumption) (by omega) ?_)
           | (refine Mat.ix (by assumption) (by omega) ?_)
           | (refine Ints.ix (Mat.row (by assumption) _ (by omega)) (by omega) ?_)
           | (refine Ints.ix (c := 0) (by assumption) (by omega) ?_)
           | (refine Mat.ix (c := 0) (by assumption) (by omega) ?_)
           | (refine Ints.ix (c := 0) (Mat.row (by assumption) _ (by omega)) (by omega) ?_)
           | (refine Ints.ixI (by assumption) (by omega) ?_)
           | (refine Mat.ixI (by assumption) (by omega) ?_)
           | (refine Ints.ixI (Mat.row (by assumption) _ (by omega)) (by omega) ?_)
           | (refine Ints.ld (by assumption) (by omega) ?_)
           | (refine Mat.ld (by assumption) (by omega) ?_)
           | (refine Ints.ld (Mat.row (by assumption) _ (by omega)) (by omega) ?_)
           | (refine At.ld (by assumption) rfl ?_)
           | (refine At.ldN (by assumption) rfl ?_)
           | (refine Prs.ln (by assumption) ?_)
           | (refine Trs.ln (by assumption) ?_)
           | (refine Prs.ix (by assumption) (by omega) ?_)
           | (refine Trs.ix (by assumption) (by omega) ?_)
           | (refine Prs.ldN (by assumption) (by omega) ?_)
           | (refine Trs.ldN (by assumption) (by omega) ?_)
           | (refine At.ldN (Blk.at (by assumption)) rfl ?_)
           | (refine At.ld (Blk.at (by assumption)) rfl ?_)
           | (refine IxA.mk (by omega) ?_)
           | (refine Sl.ln (Own.sl (by assumption)) ?_)
           | (refine Ints.ix (Own.sl (by assumption)) (by omega) ?_)
           | (refine Ints.ixI (Own.sl (by assumption)) (by omega) ?_)
           | (refine Ints.ld (Own.sl (by assumption)) (by omega) ?_))
  have EE__1 := EE
  have HG__1 := HG
  have HA__1 := HA
  conv => whnf
  refine VE.alloc eProd fun pb w4 E4 hb_pb Hp => ?_
  replace EE := EE.ext E4
  replace HG := HG.ext E4
  replace HA := HA.ext E4
  have EL1 := E4
  repeat' (conv => whnf
           first
           | (refine Dr.quiet tyOk (by kernel_rfl) ?_)
           | (refine Rng.mk (by omega) ?_)
           | (refine Split.pos (by omega) ?_)
           | (refine Split.neg (by omega) ?_)
           | (refine Split.mk (fun h => ?_) (fun h => ?_))
           | (refine Need.mk (by omega) ?_)
           | (refine Ints.ln (by assumption) ?_)
           | (refine Mat.ln (by assumption) ?_)
           | (refine Ints.ln (Mat.row (by assumption) _ (by omega)) ?_)
           | (refine Ints.ix (by assumption) (by omega) ?_)
           | (refine Mat.ix (by assumption) (by omega) ?_)
           | (refine Ints.ix (Mat.row (by assumption) _ (by omega)) (by omega) ?_)
           | (refine Ints.ix (c := 0) (by assumption) (by omega) ?_)
           | (refine Mat.ix (c := 0) (by assumption) (by omega) ?_)
           | (refine Ints.ix (c := 0) (Mat.row (by assumption) _ (by omega)) (by omega) ?_)
           | (refine Ints.ixI (by assumption) (by omega) ?_)
           | (refine Mat.ixI (by assumption) (by omega) ?_)
           | (refine Ints.ixI (Mat.row (by assumption) _ (by omega)) (by omega) ?_)
           | (refine Ints.ld (by assumption) (by omega) ?_)
           | (refine Mat.ld (by assumption) (by omega) ?_)
           | (refine Ints.ld (Mat.row (by assumption) _ (by omega)) (by omega) ?_)
           | (refine At.ld (by assumption) rfl ?_)
           | (refine At.ldN (by assumption) rfl ?_)
           | (refine Prs.ln (by assumption) ?_)
           | (refine Trs.ln (by assumption) ?_)
           | (refine Prs.ix (by assumption) (by omega) ?_)
           | (refine Trs.ix (by assumption) (by omega) ?_)
           | (refine Prs.ldN (by assumption) (by omega) ?_)
           | (refine Trs.ldN (by assumption) (by omega) ?_)
           | (refine At.ldN (Blk.at (by assumption)) rfl ?_)
           | (refine At.ld (Blk.at (by assumption)) rfl ?_)
           | (refine IxA.mk (by omega) ?_)
           | (refine Sl.ln (Own.sl (by assumption)) ?_)
           | (refine Ints.ix (Own.sl (by assumption)) (by omega) ?_)
           | (refine Ints.ixI (Own.sl (by assumption)) (by omega) ?_)
           | (refine Ints.ld (Own.sl (by assumption)) (by omega) ?_))
  refine Blk.all Hp (by kernel_rfl) (by first | decide | simp) rfl rfl (by intro v hv; simp at hv; rcases hv with rfl | rfl | rfl | rfl | rfl <;> rfl) fun w5 G5 Hp' => ?_
  have E5 : Ext w3 w5 := EL1.new G5 fun i hi hk => by omega
  replace Hp := Hp'
  replace EE := EE__1.ext E5
  replace HG := HG__1.ext E5
  replace HA := HA__1.ext E5
  replace EL1 := E5
  repeat' (conv => whnf
           first
           | (refine Dr.quiet tyOk (by kernel_rfl) ?_)
           | (refine Rng.mk (by omega) ?_)
           | (refine Split.pos (by omega) ?_)
           | (refine Split.neg (by omega) ?_)
           | (refine Split.mk (fun h => ?_) (fun h => ?_))
           | (refine Need.mk (by omega) ?_)
           | (refine Ints.ln (by assumption) ?_)
           | (refine Mat.ln (by assumption) ?_)
           | (refine Ints.ln (Mat.row (by assumption) _ (by omega)) ?_)
           | (refine Ints.ix (by assumption) (by omega) ?_)
           | (refine Mat.ix (by assumption) (by omega) ?_)
           | (refine Ints.ix (Mat.row (by assumption) _ (by omega)) (by omega) ?_)
           | (refine Ints.ix (c := 0) (by assumption) (by omega) ?_)
           | (refine Mat.ix (c := 0) (by assumption) (by omega) ?_)
           | (refine Ints.ix (c := 0) (Mat.row (by assumption) _ (by omega)) (by omega) ?_)
           | (refine Ints.ixI (by assumption) (by omega) ?_)
           | (refine Mat.ixI (by assumption) (by omega) ?_)
           | (refine Ints.ixI (Mat.row (by assumption) _ (by omega)) (by omega) ?_)
           | (refine Ints.ld (by assumption) (by omega) ?_)
           | (refine Mat.ld (by assumption) (by omega) ?_)
           | (refine Ints.ld (Mat.row (by assumption) _ (by omega)) (by omega) ?_)
           | (refine At.ld (by assumption) rfl ?_)
           | (refine At.ldN (by assumption) rfl ?_)
           | (refine Prs.ln (by assumption) ?_)
           | (refine Trs.ln (by assumption) ?_)
           | (refine Prs.ix (by assumption) (by omega) ?_)
           | (refine Trs.ix (by assumption) (by omega) ?_)
           | (refine Prs.ldN (by assumption) (by omega) ?_)
           | (refine Trs.ldN (by assumption) (by omega) ?_)
           | (refine At.ldN (Blk.at (by assumption)) rfl ?_)
           | (refine At.ld (Blk.at (by assumption)) rfl ?_)
           | (refine IxA.mk (by omega) ?_)
           | (refine Sl.ln (Own.sl (by assumption)) ?_)
           | (refine Ints.ix (Own.sl (by assumption)) (by omega) ?_)
           | (refine Ints.ixI (Own.sl (by assumption)) (by omega) ?_)
           | (refine Ints.ld (Own.sl (by assumption)) (by omega) ?_))
  conv => whnf
  refine VC.rc (given21_rc) ?_
  rintro _ w6 E6 ⟨g1, _, rfl, HG⟩
  replace EE := EE.ext E6
  replace HA := HA.ext E6
  replace EL1 := EL1.ext E6
  replace Hp := Hp.ext E6
  conv => whnf
  refine VC.rc (ngain_rc HG.mat) ?_
  rintro _ w7 E7 ⟨ga, rfl, HGa⟩
  replace EE := EE.ext E7
  replace HA := HA.ext E7
  replace EL1 := EL1.ext E7
  replace Hp := Hp.ext E7
  replace HG := HG.ext E7
  rw [show ngA gvn = [5, 4] by decide +kernel] at HGa
  rw [show nbE gvn = 0 by decide +kernel]
  repeat' (conv => whnf
           first
           | (refine Dr.quiet tyOk (by kernel_rfl) ?_)
           | (refine Rng.mk (by omega) ?_)
           | (refine Split.pos (by omega) ?_)
           | (refine Split.neg (by omega) ?_)
           | (refine Split.mk (fun h => ?_) (fun h => ?_))
           | (refine Need.mk (by omega) ?_)
           | (refine Ints.ln (by assumption) ?_)
           | (refine Mat.ln (by assumption) ?_)
           | (refine Ints.ln (Mat.row (by assumption) _ (by omega)) ?_)
           | (refine Ints.ix (by assumption) (by omega) ?_)
           | (refine Mat.ix (by assumption) (by omega) ?_)
           | (refine Ints.ix (Mat.row (by assumption) _ (by omega)) (by omega) ?_)
           | (refine Ints.ix (c := 0) (by assumption) (by omega) ?_)
           | (refine Mat.ix (c := 0) (by assumption) (by omega) ?_)
           | (refine Ints.ix (c := 0) (Mat.row (by assumption) _ (by omega)) (by omega) ?_)
           | (refine Ints.ixI (by assumption) (by omega) ?_)
           | (refine Mat.ixI (by assumption) (by omega) ?_)
           | (refine Ints.ixI (Mat.row (by assumption) _ (by omega)) (by omega) ?_)
           | (refine Ints.ld (by assumption) (by omega) ?_)
           | (refine Mat.ld (by assumption) (by omega) ?_)
           | (refine Ints.ld (Mat.row (by assumption) _ (by omega)) (by omega) ?_)
           | (refine At.ld (by assumption) rfl ?_)
           | (refine At.ldN (by assumption) rfl ?_)
           | (refine Prs.ln (by assumption) ?_)
           | (refine Trs.ln (by assumption) ?_)
           | (refine Prs.ix (by assumption) (by omega) ?_)
           | (refine Trs.ix (by assumption) (by omega) ?_)
           | (refine Prs.ldN (by assumption) (by omega) ?_)
           | (refine Trs.ldN (by assumption) (by omega) ?_)
           | (refine At.ldN (Blk.at (by assumption)) rfl ?_)
           | (refine At.ld (Blk.at (by assumption)) rfl ?_)
           | (refine IxA.mk (by omega) ?_)
           | (refine Sl.ln (Own.sl (by assumption)) ?_)
           | (refine Ints.ix (Own.sl (by assumption)) (by omega) ?_)
           | (refine Ints.ixI (Own.sl (by assumption)) (by omega) ?_)
           | (refine Ints.ld (Own.sl (by assumption)) (by omega) ?_))
  conv => whnf
  refine VC.rc (given21_rc) ?_
  rintro _ w8 E8 ⟨g1, _, rfl, HG⟩
  replace EE := EE.ext E8
  replace HA := HA.ext E8
  replace EL1 := EL1.ext E8
  replace Hp := Hp.ext E8
  replace HGa := HGa.ext E8
  conv => whnf
  refine VE.litI [0, 1, 0] Try.underlying27 eInt (by decide) fun l1 w9 E9 H1 _ => ?_
  replace H1 := H1 0 (Nat.zero_le _)
  replace EE := EE.ext E9
  replace HA := HA.ext E9
  replace EL1 := EL1.ext E9
  replace Hp := Hp.ext E9
  replace HGa := HGa.ext E9
  replace HG := HG.ext E9
  have co := nof_pc HG.mat (Own.sl H1)
  have v1 : vld gvn [0, 1, 0] = 0 := gvn_vld (by decide) (by decide) (by decide)
  rw [nofP, if_pos v1, v1, show prd gvn [0, 1, 0] = (2, 0, 12) by decide +kernel] at co
  conv => whnf
  refine VC.pure co ?_
  repeat' (conv => whnf
           first
           | (refine Dr.quiet tyOk (by kernel_rfl) ?_)
           | (refine Rng.mk (by omega) ?_)
           | (refine Split.pos (by omega) ?_)
           | (refine Split.neg (by omega) ?_)
           | (refine Split.mk (fun h => ?_) (fun h => ?_))
           | (refine Need.mk (by omega) ?_)
           | (refine Ints.ln (by assumption) ?_)
           | (refine Mat.ln (by assumption) ?_)
           | (refine Ints.ln (Mat.row (by assumption) _ (by omega)) ?_)
           | (refine Ints.ix (by assumption) (by omega) ?_)
           | (refine Mat.ix (by assumption) (by omega) ?_)
           | (refine Ints.ix (Mat.row (by assumption) _ (by omega)) (by omega) ?_)
           | (refine Ints.ix (c := 0) (by assumption) (by omega) ?_)
           | (refine Mat.ix (c := 0) (by assumption) (by omega) ?_)
           | (refine Ints.ix (c := 0) (Mat.row (by assumption) _ (by omega)) (by omega) ?_)
           | (refine Ints.ixI (by assumption) (by omega) ?_)
           | (refine Mat.ixI (by assumption) (by omega) ?_)
           | (refine Ints.ixI (Mat.row (by assumption) _ (by omega)) (by omega) ?_)
           | (refine Ints.ld (by assumption) (by omega) ?_)
           | (refine Mat.ld (by assumption) (by omega) ?_)
           | (refine Ints.ld (Mat.row (by assumption) _ (by omega)) (by omega) ?_)
           | (refine At.ld (by assumption) rfl ?_)
           | (refine At.ldN (by assumption) rfl ?_)
           | (refine Prs.ln (by assumption) ?_)
           | (refine Trs.ln (by assumption) ?_)
           | (refine Prs.ix (by assumption) (by omega) ?_)
           | (refine Trs.ix (by assumption) (by omega) ?_)
           | (refine Prs.ldN (by assumption) (by omega) ?_)
           | (refine Trs.ldN (by assumption) (by omega) ?_)
           | (refine At.ldN (Blk.at (by assumption)) rfl ?_)
           | (refine At.ld (Blk.at (by assumption)) rfl ?_)
           | (refine IxA.mk (by omega) ?_)
           | (refine Sl.ln (Own.sl (by assumption)) ?_)
           | (refine Ints.ix (Own.sl (by assumption)) (by omega) ?_)
           | (refine Ints.ixI (Own.sl (by assumption)) (by omega) ?_)
           | (refine Ints.ld (Own.sl (by assumption)) (by omega) ?_))
  have EE__2 := EE
  have HA__2 := HA
  have EL1__2 := EL1
  have Hp__2 := Hp
  have HGa__2 := HGa
  have HG__2 := HG
  have H1__2 := H1
  conv => whnf
  refine VE.alloc eProd fun qb w10 E10 hb_qb Hq => ?_
  replace EE := EE.ext E10
  replace HA := HA.ext E10
  replace EL1 := EL1.ext E10
  replace Hp := Hp.ext E10
  replace HGa := HGa.ext E10
  replace HG := HG.ext E10
  replace H1 := H1.ext E10
  have EL2 := E10
  repeat' (conv => whnf
           first
           | (refine Dr.quiet tyOk (by kernel_rfl) ?_)
           | (refine Rng.mk (by omega) ?_)
           | (refine Split.pos (by omega) ?_)
           | (refine Split.neg (by omega) ?_)
           | (refine Split.mk (fun h => ?_) (fun h => ?_))
           | (refine Need.mk (by omega) ?_)
           | (refine Ints.ln (by assumption) ?_)
           | (refine Mat.ln (by assumption) ?_)
           | (refine Ints.ln (Mat.row (by assumption) _ (by omega)) ?_)
           | (refine Ints.ix (by assumption) (by omega) ?_)
           | (refine Mat.ix (by assumption) (by omega) ?_)
           | (refine Ints.ix (Mat.row (by assumption) _ (by omega)) (by omega) ?_)
           | (refine Ints.ix (c := 0) (by assumption) (by omega) ?_)
           | (refine Mat.ix (c := 0) (by assumption) (by omega) ?_)
           | (refine Ints.ix (c := 0) (Mat.row (by assumption) _ (by omega)) (by omega) ?_)
           | (refine Ints.ixI (by assumption) (by omega) ?_)
           | (refine Mat.ixI (by assumption) (by omega) ?_)
           | (refine Ints.ixI (Mat.row (by assumption) _ (by omega)) (by omega) ?_)
           | (refine Ints.ld (by assumption) (by omega) ?_)
           | (refine Mat.ld (by assumption) (by omega) ?_)
           | (refine Ints.ld (Mat.row (by assumption) _ (by omega)) (by omega) ?_)
           | (refine At.ld (by assumption) rfl ?_)
           | (refine At.ldN (by assumption) rfl ?_)
           | (refine Prs.ln (by assumption) ?_)
           | (refine Trs.ln (by assumption) ?_)
           | (refine Prs.ix (by assumption) (by omega) ?_)
           | (refine Trs.ix (by assumption) (by omega) ?_)
           | (refine Prs.ldN (by assumption) (by omega) ?_)
           | (refine Trs.ldN (by assumption) (by omega) ?_)
           | (refine At.ldN (Blk.at (by assumption)) rfl ?_)
           | (refine At.ld (Blk.at (by assumption)) rfl ?_)
           | (refine IxA.mk (by omega) ?_)
           | (refine Sl.ln (Own.sl (by assumption)) ?_)
           | (refine Ints.ix (Own.sl (by assumption)) (by omega) ?_)
           | (refine Ints.ixI (Own.sl (by assumption)) (by omega) ?_)
           | (refine Ints.ld (Own.sl (by assumption)) (by omega) ?_))
  refine Blk.all Hq (by kernel_rfl) (by first | decide | simp) rfl rfl (by intro v hv; simp at hv; rcases hv with rfl | rfl | rfl | rfl | rfl <;> rfl) fun w11 G11 Hq' => ?_
  have E11 : Ext w9 w11 := EL2.new G11 fun i hi hk => by omega
  replace Hq := Hq'
  replace EE := EE__2.ext E11
  replace HA := HA__2.ext E11
  replace EL1 := EL1__2.ext E11
  replace Hp := Hp__2.ext E11
  replace HGa := HGa__2.ext E11
  replace HG := HG__2.ext E11
  replace H1 := H1__2.ext E11
  replace EL2 := E11
  repeat' (conv => whnf
           first
           | (refine Dr.quiet tyOk (by kernel_rfl) ?_)
           | (refine Rng.mk (by omega) ?_)
           | (refine Split.pos (by omega) ?_)
           | (refine Split.neg (by omega) ?_)
           | (refine Split.mk (fun h => ?_) (fun h => ?_))
           | (refine Need.mk (by omega) ?_)
           | (refine Ints.ln (by assumption) ?_)
           | (refine Mat.ln (by assumption) ?_)
           | (refine Ints.ln (Mat.row (by assumption) _ (by omega)) ?_)
           | (refine Ints.ix (by assumption) (by omega) ?_)
           | (refine Mat.ix (by assumption) (by omega) ?_)
           | (refine Ints.ix (Mat.row (by assumption) _ (by omega)) (by omega) ?_)
           | (refine Ints.ix (c := 0) (by assumption) (by omega) ?_)
           | (refine Mat.ix (c := 0) (by assumption) (by omega) ?_)
           | (refine Ints.ix (c := 0) (Mat.row (by assumption) _ (by omega)) (by omega) ?_)
           | (refine Ints.ixI (by assumption) (by omega) ?_)
           | (refine Mat.ixI (by assumption) (by omega) ?_)
           | (refine Ints.ixI (Mat.row (by assumption) _ (by omega)) (by omega) ?_)
           | (refine Ints.ld (by assumption) (by omega) ?_)
           | (refine Mat.ld (by assumption) (by omega) ?_)
           | (refine Ints.ld (Mat.row (by assumption) _ (by omega)) (by omega) ?_)
           | (refine At.ld (by assumption) rfl ?_)
           | (refine At.ldN (by assumption) rfl ?_)
           | (refine Prs.ln (by assumption) ?_)
           | (refine Trs.ln (by assumption) ?_)
           | (refine Prs.ix (by assumption) (by omega) ?_)
           | (refine Trs.ix (by assumption) (by omega) ?_)
           | (refine Prs.ldN (by assumption) (by omega) ?_)
           | (refine Trs.ldN (by assumption) (by omega) ?_)
           | (refine At.ldN (Blk.at (by assumption)) rfl ?_)
           | (refine At.ld (Blk.at (by assumption)) rfl ?_)
           | (refine IxA.mk (by omega) ?_)
           | (refine Sl.ln (Own.sl (by assumption)) ?_)
           | (refine Ints.ix (Own.sl (by assumption)) (by omega) ?_)
           | (refine Ints.ixI (Own.sl (by assumption)) (by omega) ?_)
           | (refine Ints.ld (Own.sl (by assumption)) (by omega) ?_))
  conv => whnf
  refine VE.litI [0, 0] Try.underlying27 eInt (by decide) fun zv_0 w12 E12 HZ_0 _ => ?_
  replace HZ_0 := HZ_0 0 (Nat.zero_le _)
  replace EE := EE.ext E12
  replace HA := HA.ext E12
  replace EL1 := EL1.ext E12
  replace Hp := Hp.ext E12
  replace HGa := HGa.ext E12
  replace HG := HG.ext E12
  replace H1 := H1.ext E12
  replace EL2 := EL2.ext E12
  replace Hq := Hq.ext E12
  conv => whnf
  refine VE.litI [0, 0] Try.underlying27 eInt (by decide) fun zv_1 w13 E13 HZ_1 _ => ?_
  replace HZ_1 := HZ_1 0 (Nat.zero_le _)
  replace EE := EE.ext E13
  replace HA := HA.ext E13
  replace EL1 := EL1.ext E13
  replace Hp := Hp.ext E13
  replace HGa := HGa.ext E13
  replace HG := HG.ext E13
  replace H1 := H1.ext E13
  replace EL2 := EL2.ext E13
  replace Hq := Hq.ext E13
  replace HZ_0 := HZ_0.ext E13
  conv => whnf
  refine VE.litV [zv_0, zv_1] Try.underlying22 eRow (by intro v hv; simp at hv; rcases hv with rfl | rfl <;> first | exact (Sl.cells (Own.sl HZ_0)).1 | exact (Sl.cells (Own.sl HZ_1)).1) (by simp) fun zv w14 E14 HZ _ => ?_
  replace EE := EE.ext E14
  replace HA := HA.ext E14
  replace EL1 := EL1.ext E14
  replace Hp := Hp.ext E14
  replace HGa := HGa.ext E14
  replace HG := HG.ext E14
  replace H1 := H1.ext E14
  replace EL2 := EL2.ext E14
  replace Hq := Hq.ext E14
  replace HZ_0 := HZ_0.ext E14
  replace HZ_1 := HZ_1.ext E14
  replace HZ : OM 0 w14 zv [zv_0, zv_1] [[0, 0], [0, 0]] := by
    refine ⟨HZ _ (Nat.zero_le _), fun i hi => ?_⟩
    match i, hi with
    | 0, _ => exact HZ_0
    | 1, _ => exact HZ_1
  conv => whnf
  refine VS.field1 Try.underlying24 eGoods (by kernel_rfl) rfl (Sl.cells (Own.sl HZ.top)).1 ?_
  conv => whnf
  refine VC.rc (nbest_rc HZ.mat) ?_
  rintro _ w15 E15 ⟨bv, rfl, HB⟩
  replace EE := EE.ext E15
  replace HA := HA.ext E15
  replace EL1 := EL1.ext E15
  replace Hp := Hp.ext E15
  replace HGa := HGa.ext E15
  replace HG := HG.ext E15
  replace H1 := H1.ext E15
  replace EL2 := EL2.ext E15
  replace Hq := Hq.ext E15
  replace HZ := HZ.ext E15
  rw [show nbA [[0, 0], [0, 0]] = [0, 0] by decide +kernel] at HB
  rw [show nbP [[0, 0], [0, 0]] = (0, 0, 1) by decide +kernel, show nbE [[0, 0], [0, 0]] = 0 by decide +kernel]
  repeat' (conv => whnf
           first
           | (refine Dr.quiet tyOk (by kernel_rfl) ?_)
           | (refine Rng.mk (by omega) ?_)
           | (refine Split.pos (by omega) ?_)
           | (refine Split.neg (by omega) ?_)
           | (refine Split.mk (fun h => ?_) (fun h => ?_))
           | (refine Need.mk (by omega) ?_)
           | (refine Ints.ln (by assumption) ?_)
           | (refine Mat.ln (by assumption) ?_)
           | (refine Ints.ln (Mat.row (by assumption) _ (by omega)) ?_)
           | (refine Ints.ix (by assumption) (by omega) ?_)
           | (refine Mat.ix (by assumption) (by omega) ?_)
           | (refine Ints.ix (Mat.row (by assumption) _ (by omega)) (by omega) ?_)
           | (refine Ints.ix (c := 0) (by assumption) (by omega) ?_)
           | (refine Mat.ix (c := 0) (by assumption) (by omega) ?_)
           | (refine Ints.ix (c := 0) (Mat.row (by assumption) _ (by omega)) (by omega) ?_)
           | (refine Ints.ixI (by assumption) (by omega) ?_)
           | (refine Mat.ixI (by assumption) (by omega) ?_)
           | (refine Ints.ixI (Mat.row (by assumption) _ (by omega)) (by omega) ?_)
           | (refine Ints.ld (by assumption) (by omega) ?_)
           | (refine Mat.ld (by assumption) (by omega) ?_)
           | (refine Ints.ld (Mat.row (by assumption) _ (by omega)) (by omega) ?_)
           | (refine At.ld (by assumption) rfl ?_)
           | (refine At.ldN (by assumption) rfl ?_)
           | (refine Prs.ln (by assumption) ?_)
           | (refine Trs.ln (by assumption) ?_)
           | (refine Prs.ix (by assumption) (by omega) ?_)
           | (refine Trs.ix (by assumption) (by omega) ?_)
           | (refine Prs.ldN (by assumption) (by omega) ?_)
           | (refine Trs.ldN (by assumption) (by omega) ?_)
           | (refine At.ldN (Blk.at (by assumption)) rfl ?_)
           | (refine At.ld (Blk.at (by assumption)) rfl ?_)
           | (refine IxA.mk (by omega) ?_)
           | (refine Sl.ln (Own.sl (by assumption)) ?_)
           | (refine Ints.ix (Own.sl (by assumption)) (by omega) ?_)
           | (refine Ints.ixI (Own.sl (by assumption)) (by omega) ?_)
           | (refine Ints.ld (Own.sl (by assumption)) (by omega) ?_))
  have EE__3 := EE
  have HA__3 := HA
  have EL1__3 := EL1
  have Hp__3 := Hp
  have HGa__3 := HGa
  have HG__3 := HG
  have H1__3 := H1
  have EL2__3 := EL2
  have Hq__3 := Hq
  have HZ__3 := HZ
  have HB__3 := HB
  conv => whnf
  refine VE.alloc eProd fun rb w16 E16 hb_rb Hr => ?_
  replace EE := EE.ext E16
  replace HA := HA.ext E16
  replace EL1 := EL1.ext E16
  replace Hp := Hp.ext E16
  replace HGa := HGa.ext E16
  replace HG := HG.ext E16
  replace H1 := H1.ext E16
  replace EL2 := EL2.ext E16
  replace Hq := Hq.ext E16
  replace HZ := HZ.ext E16
  replace HB := HB.ext E16
  have EL3 := E16
  repeat' (conv => whnf
           first
           | (refine Dr.quiet tyOk (by kernel_rfl) ?_)
           | (refine Rng.mk (by omega) ?_)
           | (refine Split.pos (by omega) ?_)
           | (refine Split.neg (by omega) ?_)
           | (refine Split.mk (fun h => ?_) (fun h => ?_))
           | (refine Need.mk (by omega) ?_)
           | (refine Ints.ln (by assumption) ?_)
           | (refine Mat.ln (by assumption) ?_)
           | (refine Ints.ln (Mat.row (by assumption) _ (by omega)) ?_)
           | (refine Ints.ix (by assumption) (by omega) ?_)
           | (refine Mat.ix (by assumption) (by omega) ?_)
           | (refine Ints.ix (Mat.row (by assumption) _ (by omega)) (by omega) ?_)
           | (refine Ints.ix (c := 0) (by assumption) (by omega) ?_)
           | (refine Mat.ix (c := 0) (by assumption) (by omega) ?_)
           | (refine Ints.ix (c := 0) (Mat.row (by assumption) _ (by omega)) (by omega) ?_)
           | (refine Ints.ixI (by assumption) (by omega) ?_)
           | (refine Mat.ixI (by assumption) (by omega) ?_)
           | (refine Ints.ixI (Mat.row (by assumption) _ (by omega)) (by omega) ?_)
           | (refine Ints.ld (by assumption) (by omega) ?_)
           | (refine Mat.ld (by assumption) (by omega) ?_)
           | (refine Ints.ld (Mat.row (by assumption) _ (by omega)) (by omega) ?_)
           | (refine At.ld (by assumption) rfl ?_)
           | (refine At.ldN (by assumption) rfl ?_)
           | (refine Prs.ln (by assumption) ?_)
           | (refine Trs.ln (by assumption) ?_)
           | (refine Prs.ix (by assumption) (by omega) ?_)
           | (refine Trs.ix (by assumption) (by omega) ?_)
           | (refine Prs.ldN (by assumption) (by omega) ?_)
           | (refine Trs.ldN (by assumption) (by omega) ?_)
           | (refine At.ldN (Blk.at (by assumption)) rfl ?_)
           | (refine At.ld (Blk.at (by assumption)) rfl ?_)
           | (refine IxA.mk (by omega) ?_)
           | (refine Sl.ln (Own.sl (by assumption)) ?_)
           | (refine Ints.ix (Own.sl (by assumption)) (by omega) ?_)
           | (refine Ints.ixI (Own.sl (by assumption)) (by omega) ?_)
           | (refine Ints.ld (Own.sl (by assumption)) (by omega) ?_))
  refine Blk.all Hr (by kernel_rfl) (by first | decide | simp) rfl rfl (by intro v hv; simp at hv; rcases hv with rfl | rfl | rfl | rfl | rfl <;> rfl) fun w17 G17 Hr' => ?_
  have E17 : Ext w15 w17 := EL3.new G17 fun i hi hk => by omega
  replace Hr := Hr'
  replace EE := EE__3.ext E17
  replace HA := HA__3.ext E17
  replace EL1 := EL1__3.ext E17
  replace Hp := Hp__3.ext E17
  replace HGa := HGa__3.ext E17
  replace HG := HG__3.ext E17
  replace H1 := H1__3.ext E17
  replace EL2 := EL2__3.ext E17
  replace Hq := Hq__3.ext E17
  replace HZ := HZ__3.ext E17
  replace HB := HB__3.ext E17
  replace EL3 := E17
  repeat' (conv => whnf
           first
           | (refine Dr.quiet tyOk (by kernel_rfl) ?_)
           | (refine Rng.mk (by omega) ?_)
           | (refine Split.pos (by omega) ?_)
           | (refine Split.neg (by omega) ?_)
           | (refine Split.mk (fun h => ?_) (fun h => ?_))
           | (refine Need.mk (by omega) ?_)
           | (refine Ints.ln (by assumption) ?_)
           | (refine Mat.ln (by assumption) ?_)
           | (refine Ints.ln (Mat.row (by assumption) _ (by omega)) ?_)
           | (refine Ints.ix (by assumption) (by omega) ?_)
           | (refine Mat.ix (by assumption) (by omega) ?_)
           | (refine Ints.ix (Mat.row (by assumption) _ (by omega)) (by omega) ?_)
           | (refine Ints.ix (c := 0) (by assumption) (by omega) ?_)
           | (refine Mat.ix (c := 0) (by assumption) (by omega) ?_)
           | (refine Ints.ix (c := 0) (Mat.row (by assumption) _ (by omega)) (by omega) ?_)
           | (refine Ints.ixI (by assumption) (by omega) ?_)
           | (refine Mat.ixI (by assumption) (by omega) ?_)
           | (refine Ints.ixI (Mat.row (by assumption) _ (by omega)) (by omega) ?_)
           | (refine Ints.ld (by assumption) (by omega) ?_)
           | (refine Mat.ld (by assumption) (by omega) ?_)
           | (refine Ints.ld (Mat.row (by assumption) _ (by omega)) (by omega) ?_)
           | (refine At.ld (by assumption) rfl ?_)
           | (refine At.ldN (by assumption) rfl ?_)
           | (refine Prs.ln (by assumption) ?_)
           | (refine Trs.ln (by assumption) ?_)
           | (refine Prs.ix (by assumption) (by omega) ?_)
           | (refine Trs.ix (by assumption) (by omega) ?_)
           | (refine Prs.ldN (by assumption) (by omega) ?_)
           | (refine Trs.ldN (by assumption) (by omega) ?_)
           | (refine At.ldN (Blk.at (by assumption)) rfl ?_)
           | (refine At.ld (Blk.at (by assumption)) rfl ?_)
           | (refine IxA.mk (by omega) ?_)
           | (refine Sl.ln (Own.sl (by assumption)) ?_)
           | (refine Ints.ix (Own.sl (by assumption)) (by omega) ?_)
           | (refine Ints.ixI (Own.sl (by assumption)) (by omega) ?_)
           | (refine Ints.ld (Own.sl (by assumption)) (by omega) ?_))
  conv => whnf
  refine VE.litI [0, 1, 1] Try.underlying27 eInt (by decide) fun x1 w18 E18 X1 _ => ?_
  replace X1 := X1 0 (Nat.zero_le _)
  replace EE := EE.ext E18
  replace HA := HA.ext E18
  replace EL1 := EL1.ext E18
  replace Hp := Hp.ext E18
  replace HGa := HGa.ext E18
  replace HG := HG.ext E18
  replace H1 := H1.ext E18
  replace EL2 := EL2.ext E18
  replace Hq := Hq.ext E18
  replace HZ := HZ.ext E18
  replace HB := HB.ext E18
  replace EL3 := EL3.ext E18
  replace Hr := Hr.ext E18
  have c1 := same_pc (Own.sl HA) (Own.sl X1)
  rw [tf_t rfl] at c1
  conv => whnf
  refine VC.pure c1 ?_
  repeat' (conv => whnf
           first
           | (refine Dr.quiet tyOk (by kernel_rfl) ?_)
           | (refine Rng.mk (by omega) ?_)
           | (refine Split.pos (by omega) ?_)
           | (refine Split.neg (by omega) ?_)
           | (refine Split.mk (fun h => ?_) (fun h => ?_))
           | (refine Need.mk (by omega) ?_)
           | (refine Ints.ln (by assumption) ?_)
           | (refine Mat.ln (by assumption) ?_)
           | (refine Ints.ln (Mat.row (by assumption) _ (by omega)) ?_)
           | (refine Ints.ix (by assumption) (by omega) ?_)
           | (refine Mat.ix (by assumption) (by omega) ?_)
           | (refine Ints.ix (Mat.row (by assumption) _ (by omega)) (by omega) ?_)
           | (refine Ints.ix (c := 0) (by assumption) (by omega) ?_)
           | (refine Mat.ix (c := 0) (by assumption) (by omega) ?_)
           | (refine Ints.ix (c := 0) (Mat.row (by assumption) _ (by omega)) (by omega) ?_)
           | (refine Ints.ixI (by assumption) (by omega) ?_)
           | (refine Mat.ixI (by assumption) (by omega) ?_)
           | (refine Ints.ixI (Mat.row (by assumption) _ (by omega)) (by omega) ?_)
           | (refine Ints.ld (by assumption) (by omega) ?_)
           | (refine Mat.ld (by assumption) (by omega) ?_)
           | (refine Ints.ld (Mat.row (by assumption) _ (by omega)) (by omega) ?_)
           | (refine At.ld (by assumption) rfl ?_)
           | (refine At.ldN (by assumption) rfl ?_)
           | (refine Prs.ln (by assumption) ?_)
           | (refine Trs.ln (by assumption) ?_)
           | (refine Prs.ix (by assumption) (by omega) ?_)
           | (refine Trs.ix (by assumption) (by omega) ?_)
           | (refine Prs.ldN (by assumption) (by omega) ?_)
           | (refine Trs.ldN (by assumption) (by omega) ?_)
           | (refine At.ldN (Blk.at (by assumption)) rfl ?_)
           | (refine At.ld (Blk.at (by assumption)) rfl ?_)
           | (refine IxA.mk (by omega) ?_)
           | (refine Sl.ln (Own.sl (by assumption)) ?_)
           | (refine Ints.ix (Own.sl (by assumption)) (by omega) ?_)
           | (refine Ints.ixI (Own.sl (by assumption)) (by omega) ?_)
           | (refine Ints.ld (Own.sl (by assumption)) (by omega) ?_))
  conv => whnf
  refine VS.sparse (ps := [(0, .int .i64 2), (2, .int .i64 20)]) Try.underlying41 eProd (by decide +kernel) rfl (by intro p hp; simp at hp; rcases hp with rfl | rfl <;> exact ⟨by decide, rfl⟩) rfl ?_
  repeat' (conv => whnf
           first
           | (refine Dr.quiet tyOk (by kernel_rfl) ?_)
           | (refine VS.eq3 Try.underlying41 (by kernel_rfl) (by decide) ⟨rfl, rfl, rfl⟩ (by kernel_rfl) (by kernel_rfl) (by kernel_rfl) guardP ?_)
           | (refine Split.pos ⟨rfl, rfl, rfl⟩ ?_)
           | (refine Rng.mk (by omega) ?_)
           | (refine Split.pos (by omega) ?_)
           | (refine Split.neg (by omega) ?_)
           | (refine Split.mk (fun h => ?_) (fun h => ?_))
           | (refine Need.mk (by omega) ?_)
           | (refine Ints.ln (by assumption) ?_)
           | (refine Mat.ln (by assumption) ?_)
           | (refine Ints.ln (Mat.row (by assumption) _ (by omega)) ?_)
           | (refine Ints.ix (by assumption) (by omega) ?_)
           | (refine Mat.ix (by assumption) (by omega) ?_)
           | (refine Ints.ix (Mat.row (by assumption) _ (by omega)) (by omega) ?_)
           | (refine Ints.ix (c := 0) (by assumption) (by omega) ?_)
           | (refine Mat.ix (c := 0) (by assumption) (by omega) ?_)
           | (refine Ints.ix (c := 0) (Mat.row (by assumption) _ (by omega)) (by omega) ?_)
           | (refine Ints.ixI (by assumption) (by omega) ?_)
           | (refine Mat.ixI (by assumption) (by omega) ?_)
           | (refine Ints.ixI (Mat.row (by assumption) _ (by omega)) (by omega) ?_)
           | (refine Ints.ld (by assumption) (by omega) ?_)
           | (refine Mat.ld (by assumption) (by omega) ?_)
           | (refine Ints.ld (Mat.row (by assumption) _ (by omega)) (by omega) ?_)
           | (refine At.ld (by assumption) rfl ?_)
           | (refine At.ldN (by assumption) rfl ?_)
           | (refine Prs.ln (by assumption) ?_)
           | (refine Trs.ln (by assumption) ?_)
           | (refine Prs.ix (by assumption) (by omega) ?_)
           | (refine Trs.ix (by assumption) (by omega) ?_)
           | (refine Prs.ldN (by assumption) (by omega) ?_)
           | (refine Trs.ldN (by assumption) (by omega) ?_)
           | (refine At.ldN (Blk.at (by assumption)) rfl ?_)
           | (refine At.ld (Blk.at (by assumption)) rfl ?_)
           | (refine IxA.mk (by omega) ?_)
           | (refine Sl.ln (Own.sl (by assumption)) ?_)
           | (refine Ints.ix (Own.sl (by assumption)) (by omega) ?_)
           | (refine Ints.ixI (Own.sl (by assumption)) (by omega) ?_)
           | (refine Ints.ld (Own.sl (by assumption)) (by omega) ?_))
  conv => whnf
  refine VE.litI [5, 4] Try.underlying27 eInt (by decide) fun x2 w19 E19 X2 _ => ?_
  replace X2 := X2 0 (Nat.zero_le _)
  replace EE := EE.ext E19
  replace HA := HA.ext E19
  replace EL1 := EL1.ext E19
  replace Hp := Hp.ext E19
  replace HGa := HGa.ext E19
  replace HG := HG.ext E19
  replace H1 := H1.ext E19
  replace EL2 := EL2.ext E19
  replace Hq := Hq.ext E19
  replace HZ := HZ.ext E19
  replace HB := HB.ext E19
  replace EL3 := EL3.ext E19
  replace Hr := Hr.ext E19
  replace X1 := X1.ext E19
  have c2 := same_pc (Own.sl HGa) (Own.sl X2)
  rw [tf_t rfl] at c2
  conv => whnf
  refine VC.pure c2 ?_
  repeat' (conv => whnf
           first
           | (refine Dr.quiet tyOk (by kernel_rfl) ?_)
           | (refine Rng.mk (by omega) ?_)
           | (refine Split.pos (by omega) ?_)
           | (refine Split.neg (by omega) ?_)
           | (refine Split.mk (fun h => ?_) (fun h => ?_))
           | (refine Need.mk (by omega) ?_)
           | (refine Ints.ln (by assumption) ?_)
           | (refine Mat.ln (by assumption) ?_)
           | (refine Ints.ln (Mat.row (by assumption) _ (by omega)) ?_)
           | (refine Ints.ix (by assumption) (by omega) ?_)
           | (refine Mat.ix (by assumption) (by omega) ?_)
           | (refine Ints.ix (Mat.row (by assumption) _ (by omega)) (by omega) ?_)
           | (refine Ints.ix (c := 0) (by assumption) (by omega) ?_)
           | (refine Mat.ix (c := 0) (by assumption) (by omega) ?_)
           | (refine Ints.ix (c := 0) (Mat.row (by assumption) _ (by omega)) (by omega) ?_)
           | (refine Ints.ixI (by assumption) (by omega) ?_)
           | (refine Mat.ixI (by assumption) (by omega) ?_)
           | (refine Ints.ixI (Mat.row (by assumption) _ (by omega)) (by omega) ?_)
           | (refine Ints.ld (by assumption) (by omega) ?_)
           | (refine Mat.ld (by assumption) (by omega) ?_)
           | (refine Ints.ld (Mat.row (by assumption) _ (by omega)) (by omega) ?_)
           | (refine At.ld (by assumption) rfl ?_)
           | (refine At.ldN (by assumption) rfl ?_)
           | (refine Prs.ln (by assumption) ?_)
           | (refine Trs.ln (by assumption) ?_)
           | (refine Prs.ix (by assumption) (by omega) ?_)
           | (refine Trs.ix (by assumption) (by omega) ?_)
           | (refine Prs.ldN (by assumption) (by omega) ?_)
           | (refine Trs.ldN (by assumption) (by omega) ?_)
           | (refine At.ldN (Blk.at (by assumption)) rfl ?_)
           | (refine At.ld (Blk.at (by assumption)) rfl ?_)
           | (refine IxA.mk (by omega) ?_)
           | (refine Sl.ln (Own.sl (by assumption)) ?_)
           | (refine Ints.ix (Own.sl (by assumption)) (by omega) ?_)
           | (refine Ints.ixI (Own.sl (by assumption)) (by omega) ?_)
           | (refine Ints.ld (Own.sl (by assumption)) (by omega) ?_))
  conv => whnf
  refine VS.sparse (ps := [(0, .int .i64 2), (2, .int .i64 12)]) Try.underlying41 eProd (by decide +kernel) rfl (by intro p hp; simp at hp; rcases hp with rfl | rfl <;> exact ⟨by decide, rfl⟩) rfl ?_
  repeat' (conv => whnf
           first
           | (refine Dr.quiet tyOk (by kernel_rfl) ?_)
           | (refine VS.eq3 Try.underlying41 (by kernel_rfl) (by decide) ⟨rfl, rfl, rfl⟩ (by kernel_rfl) (by kernel_rfl) (by kernel_rfl) guardP ?_)
           | (refine Split.pos ⟨rfl, rfl, rfl⟩ ?_)
           | (refine Rng.mk (by omega) ?_)
           | (refine Split.pos (by omega) ?_)
           | (refine Split.neg (by omega) ?_)
           | (refine Split.mk (fun h => ?_) (fun h => ?_))
           | (refine Need.mk (by omega) ?_)
           | (refine Ints.ln (by assumption) ?_)
           | (refine Mat.ln (by assumption) ?_)
           | (refine Ints.ln (Mat.row (by assumption) _ (by omega)) ?_)
           | (refine Ints.ix (by assumption) (by omega) ?_)
           | (refine Mat.ix (by assumption) (by omega) ?_)
           | (refine Ints.ix (Mat.row (by assumption) _ (by omega)) (by omega) ?_)
           | (refine Ints.ix (c := 0) (by assumption) (by omega) ?_)
           | (refine Mat.ix (c := 0) (by assumption) (by omega) ?_)
           | (refine Ints.ix (c := 0) (Mat.row (by assumption) _ (by omega)) (by omega) ?_)
           | (refine Ints.ixI (by assumption) (by omega) ?_)
           | (refine Mat.ixI (by assumption) (by omega) ?_)
           | (refine Ints.ixI (Mat.row (by assumption) _ (by omega)) (by omega) ?_)
           | (refine Ints.ld (by assumption) (by omega) ?_)
           | (refine Mat.ld (by assumption) (by omega) ?_)
           | (refine Ints.ld (Mat.row (by assumption) _ (by omega)) (by omega) ?_)
           | (refine At.ld (by assumption) rfl ?_)
           | (refine At.ldN (by assumption) rfl ?_)
           | (refine Prs.ln (by assumption) ?_)
           | (refine Trs.ln (by assumption) ?_)
           | (refine Prs.ix (by assumption) (by omega) ?_)
           | (refine Trs.ix (by assumption) (by omega) ?_)
           | (refine Prs.ldN (by assumption) (by omega) ?_)
           | (refine Trs.ldN (by assumption) (by omega) ?_)
           | (refine At.ldN (Blk.at (by assumption)) rfl ?_)
           | (refine At.ld (Blk.at (by assumption)) rfl ?_)
           | (refine IxA.mk (by omega) ?_)
           | (refine Sl.ln (Own.sl (by assumption)) ?_)
           | (refine Ints.ix (Own.sl (by assumption)) (by omega) ?_)
           | (refine Ints.ixI (Own.sl (by assumption)) (by omega) ?_)
           | (refine Ints.ld (Own.sl (by assumption)) (by omega) ?_))
  conv => whnf
  refine VE.litI [0, 0] Try.underlying27 eInt (by decide) fun x3 w20 E20 X3 _ => ?_
  replace X3 := X3 0 (Nat.zero_le _)
  replace EE := EE.ext E20
  replace HA := HA.ext E20
  replace EL1 := EL1.ext E20
  replace Hp := Hp.ext E20
  replace HGa := HGa.ext E20
  replace HG := HG.ext E20
  replace H1 := H1.ext E20
  replace EL2 := EL2.ext E20
  replace Hq := Hq.ext E20
  replace HZ := HZ.ext E20
  replace HB := HB.ext E20
  replace EL3 := EL3.ext E20
  replace Hr := Hr.ext E20
  replace X1 := X1.ext E20
  replace X2 := X2.ext E20
  have c3 := same_pc (Own.sl HB) (Own.sl X3)
  rw [tf_t rfl] at c3
  conv => whnf
  refine VC.pure c3 ?_
  repeat' (conv => whnf
           first
           | (refine Dr.quiet tyOk (by kernel_rfl) ?_)
           | (refine Rng.mk (by omega) ?_)
           | (refine Split.pos (by omega) ?_)
           | (refine Split.neg (by omega) ?_)
           | (refine Split.mk (fun h => ?_) (fun h => ?_))
           | (refine Need.mk (by omega) ?_)
           | (refine Ints.ln (by assumption) ?_)
           | (refine Mat.ln (by assumption) ?_)
           | (refine Ints.ln (Mat.row (by assumption) _ (by omega)) ?_)
           | (refine Ints.ix (by assumption) (by omega) ?_)
           | (refine Mat.ix (by assumption) (by omega) ?_)
           | (refine Ints.ix (Mat.row (by assumption) _ (by omega)) (by omega) ?_)
           | (refine Ints.ix (c := 0) (by assumption) (by omega) ?_)
           | (refine Mat.ix (c := 0) (by assumption) (by omega) ?_)
           | (refine Ints.ix (c := 0) (Mat.row (by assumption) _ (by omega)) (by omega) ?_)
           | (refine Ints.ixI (by assumption) (by omega) ?_)
           | (refine Mat.ixI (by assumption) (by omega) ?_)
           | (refine Ints.ixI (Mat.row (by assumption) _ (by omega)) (by omega) ?_)
           | (refine Ints.ld (by assumption) (by omega) ?_)
           | (refine Mat.ld (by assumption) (by omega) ?_)
           | (refine Ints.ld (Mat.row (by assumption) _ (by omega)) (by omega) ?_)
           | (refine At.ld (by assumption) rfl ?_)
           | (refine At.ldN (by assumption) rfl ?_)
           | (refine Prs.ln (by assumption) ?_)
           | (refine Trs.ln (by assumption) ?_)
           | (refine Prs.ix (by assumption) (by omega) ?_)
           | (refine Trs.ix (by assumption) (by omega) ?_)
           | (refine Prs.ldN (by assumption) (by omega) ?_)
           | (refine Trs.ldN (by assumption) (by omega) ?_)
           | (refine At.ldN (Blk.at (by assumption)) rfl ?_)
           | (refine At.ld (Blk.at (by assumption)) rfl ?_)
           | (refine IxA.mk (by omega) ?_)
           | (refine Sl.ln (Own.sl (by assumption)) ?_)
           | (refine Ints.ix (Own.sl (by assumption)) (by omega) ?_)
           | (refine Ints.ixI (Own.sl (by assumption)) (by omega) ?_)
           | (refine Ints.ld (Own.sl (by assumption)) (by omega) ?_))
  conv => whnf
  refine VS.sparse (ps := [(2, .int .i64 1)]) Try.underlying41 eProd (by decide +kernel) rfl (by intro p hp; simp at hp; rcases hp with rfl <;> exact ⟨by decide, rfl⟩) rfl ?_
  repeat' (conv => whnf
           first
           | (refine Dr.quiet tyOk (by kernel_rfl) ?_)
           | (refine VS.eq3 Try.underlying41 (by kernel_rfl) (by decide) ⟨rfl, rfl, rfl⟩ (by kernel_rfl) (by kernel_rfl) (by kernel_rfl) guardP ?_)
           | (refine Split.pos ⟨rfl, rfl, rfl⟩ ?_)
           | (refine Rng.mk (by omega) ?_)
           | (refine Split.pos (by omega) ?_)
           | (refine Split.neg (by omega) ?_)
           | (refine Split.mk (fun h => ?_) (fun h => ?_))
           | (refine Need.mk (by omega) ?_)
           | (refine Ints.ln (by assumption) ?_)
           | (refine Mat.ln (by assumption) ?_)
           | (refine Ints.ln (Mat.row (by assumption) _ (by omega)) ?_)
           | (refine Ints.ix (by assumption) (by omega) ?_)
           | (refine Mat.ix (by assumption) (by omega) ?_)
           | (refine Ints.ix (Mat.row (by assumption) _ (by omega)) (by omega) ?_)
           | (refine Ints.ix (c := 0) (by assumption) (by omega) ?_)
           | (refine Mat.ix (c := 0) (by assumption) (by omega) ?_)
           | (refine Ints.ix (c := 0) (Mat.row (by assumption) _ (by omega)) (by omega) ?_)
           | (refine Ints.ixI (by assumption) (by omega) ?_)
           | (refine Mat.ixI (by assumption) (by omega) ?_)
           | (refine Ints.ixI (Mat.row (by assumption) _ (by omega)) (by omega) ?_)
           | (refine Ints.ld (by assumption) (by omega) ?_)
           | (refine Mat.ld (by assumption) (by omega) ?_)
           | (refine Ints.ld (Mat.row (by assumption) _ (by omega)) (by omega) ?_)
           | (refine At.ld (by assumption) rfl ?_)
           | (refine At.ldN (by assumption) rfl ?_)
           | (refine Prs.ln (by assumption) ?_)
           | (refine Trs.ln (by assumption) ?_)
           | (refine Prs.ix (by assumption) (by omega) ?_)
           | (refine Trs.ix (by assumption) (by omega) ?_)
           | (refine Prs.ldN (by assumption) (by omega) ?_)
           | (refine Trs.ldN (by assumption) (by omega) ?_)
           | (refine At.ldN (Blk.at (by assumption)) rfl ?_)
           | (refine At.ld (Blk.at (by assumption)) rfl ?_)
           | (refine IxA.mk (by omega) ?_)
           | (refine Sl.ln (Own.sl (by assumption)) ?_)
           | (refine Ints.ix (Own.sl (by assumption)) (by omega) ?_)
           | (refine Ints.ixI (Own.sl (by assumption)) (by omega) ?_)
           | (refine Ints.ld (Own.sl (by assumption)) (by omega) ?_))
  exact ⟨rfl, EE⟩
end Go.Proofs.Ytkgogljfngplnaa
set_option linter.unusedVariables false
set_option linter.unusedSimpArgs false
namespace Go.Eng
open Go.RowKit

/-- block g holds cap one-cell elements of type e, of which the first n are xs -/
def Buf (e : TypeId) (w : World) (g cap n : Nat) (xs : List Value) : Prop :=
  xs.length = n ∧ ∃ cur, w.heap[g]? = some (.cells cur e (0, 0)) ∧ n ≤ cap ∧ cap ≤ maxLen ∧ cur.size = cap ∧ cur.toList.take n = xs
def bufV (g cap n : Nat) : Value := .slice (some ⟨g, 0, none⟩) n cap

section
variable {P : Program} {e : TypeId} {w w' : World} {g cap n : Nat} {xs : List Value}
theorem Buf.own {B : Nat} (h : Buf e w g cap n xs) (hB : B ≤ g) : Own B e 1 w (bufV g cap n) n xs := by
  obtain ⟨h1, cur, h2, h3, h4, h5, h6⟩ := h
  exact ⟨by omega, .inr ⟨g, cap, cur, rfl, hB, h2, h3, h4, by omega, by rw [Nat.mul_one]; exact h6⟩⟩
theorem Buf.gr {S : Nat → Prop} (h : Buf e w g cap n xs) (hg : Gr S w w') (hs : ¬ S g) : Buf e w' g cap n xs := by
  obtain ⟨h1, cur, h2, h3⟩ := h
  exact ⟨h1, cur, by rw [hg.block g (Array.getElem?_eq_some_iff.1 h2).1 hs]; exact h2, h3⟩
theorem Buf.ext (h : Buf e w g cap n xs) (hg : Ext w w') : Buf e w' g cap n xs := h.gr hg fun hf => hf
theorem Buf.lt (h : Buf e w g cap n xs) : g < w.heap.size := by obtain ⟨_, cur, h2, _⟩ := h; exact (Array.getElem?_eq_some_iff.1 h2).1
theorem Buf.cut {m : Nat} (h : Buf e w g cap n xs) (hm : m ≤ n) : Buf e w g cap m (xs.take m) := by
  obtain ⟨h1, cur, h2, h3, h4, h5, h6⟩ := h
  exact ⟨by rw [List.length_take]; omega, cur, h2, by omega, h4, h5, by rw [← h6, List.take_take, Nat.min_eq_left hm]⟩
/-- an append of one element in place -/
theorem VE.appIn {t T : TypeId} {z x y : Value} {b : Nat} {K : Value → World → Prop} (ht : P.underlying t = some (.slice e)) (he : Elem P e z 1 b)
    (H : Buf e w g cap n xs) (hn : n < cap) (Hx : Sl 1 w x 1 [y]) (h1 : y.oneCell' = true)
    (hk : ∀ w', Gr (fun k => k = g) w w' → Buf e w' g cap (n + 1) (xs ++ [y]) → K (bufV g cap (n + 1)) w') : VE P (Builtin.append_ #[t, t] T #[bufV g cap n, x]) w K := by
  refine VE.mk fun w1 hw1 => ?_
  obtain ⟨i, hi, hz, hsz, hby⟩ := he.info
  obtain ⟨hl, cur, h2, h3, h4, h5, h6⟩ := H.ext hw1
  obtain ⟨a, c, rfl, hc1, hc2, hc3, hat⟩ := Hx.ext hw1
  rcases hat with h0 | ⟨p, rfl, hat⟩
  · omega
  · have hr := run_append_room (P := P) w1 t T e i ht hi g n cap cur h2 p 1 c [y] (by rw [hsz]; rfl) (fun j u hu => hat j u hu) (by intro u hu; simp at hu; subst hu; exact h1) (by omega) (by rw [hsz]; simp; omega)
    refine ⟨_, _, hr, hk _ ((Gr.ofExt hw1).trans ⟨rfl, rfl, rfl, by simp, fun k _ hk => setRow_other w1 g k _ hk⟩) ?_⟩
    rw [hsz, Nat.mul_one, h6]
    refine ⟨by simp [hl], _, setRow_heap w1 g cur _ e _ h2, by omega, h4, ?_, ?_⟩
    · have : cur.toList.length = cap := by simpa using h5
      simp only [List.size_toArray, List.length_append, List.length_drop, List.length_singleton, this, hl]; omega
    · rw [List.take_append_of_le_length (by simp [hl]), List.take_of_length_le (by simp [hl])]
/-- 'make([]T, 0, cap)' -/
theorem VX.madeB {t : TypeId} {z : Value} {b cp : Nat} {K : Value → World → Prop} (ht : P.underlying t = some (.slice e)) (he : Elem P e z 1 b) (hz1 : z.cells = #[z]) (hn : cp ≤ 9223372036854775807) (hb : b * cp ≤ 281474976710656)
    (hk : ∀ g w', Ext w w' → w.heap.size ≤ g → Buf e w' g cp 0 [] → K (bufV g cp 0) w') : VX P (Instr.makeSlice t (.int .i64 0) (.int .i64 (cp : Int))) w K := by
  refine VX.mk fun w1 hw1 => ?_
  obtain ⟨i, hi, hz, hsz, hby⟩ := he.info
  refine ⟨_, _, ?_, (Ext.refl w1).alloc _, hk w1.heap.size (w1.alloc (.cells (List.replicate cp z).toArray e)) (hw1.alloc _) hw1.size ⟨rfl, _, heap_alloc_new w1 _, Nat.zero_le _, by unfold maxLen; omega, by simp, by simp⟩⟩
  have hw : IntKind.i64.wrap (cp : Int) = cp := IntWalk.i64_in _ (by omega)
  have hw0 : IntKind.i64.wrap (0 : Int) = 0 := by decide
  have h1 : ¬ ((cp : Int) < 0) := by omega
  have h2 : ¬ ((b : Int) * (cp : Int) > 2 ^ 48) := by
    have : (b : Int) * (cp : Int) = ((b * cp : Nat) : Int) := by simp
    rw [this]; omega
  have harr : (Array.map (fun j => (if cp = 0 then (#[] : Array Value) else #[z])[j % (if cp = 0 then (#[] : Array Value) else #[z]).size]!) (Array.range cp)) = (List.replicate cp z).toArray := by
    apply Array.ext
    · simp
    · intro j hj1 hj2
      have hn0 : cp ≠ 0 := by
        simp at hj2; omega
      simp [hn0, Nat.mod_one]
  simp only [Instr.makeSlice, Sem.run_bind, run_underlying ht, Result.andThen_ok, asInt, asIntOf, Sem.run_pure, typeInfo, run_program, hi, hby, hw, hw0, Go.sizeOf]
  simp only [h1, h2, decide_false, Bool.or_false, Int.lt_irrefl, Bool.false_eq_true, if_false, gt_iff_lt, Int.toNat_natCast, Sem.run_bind, run_askRoom, Result.andThen_ok, zeroValue, typeInfo, run_program, hi, Sem.run_pure, hsz, Nat.mul_one, Int.mul_zero]
  by_cases h0 : cp = 0
  · rw [if_pos h0] at harr ⊢
    simp only [Sem.run_pure, Result.andThen_ok, newRow, Sem.run_bind, run_newObj, harr]
    rfl
  · rw [if_neg h0] at harr ⊢
    simp only [Sem.run_bind, run_program, hi, hz, Sem.run_pure, Result.andThen_ok, newRow, run_newObj, hz1, harr]
    rfl
end
end Go.Eng
set_option linter.unusedVariables false
set_option linter.unusedSimpArgs false
namespace Go.Eng
open Go.RowKit

abbrev Ds := List Deferred
abbrev WF (ro : Option Nat) : Fence := { Fence.wide with round := ro }
def LiftX (Q : Exit → Ds → Fr → World → Prop) : Exit → Act → World → Prop := fun e a w' => ∃ fr wb, a.tmps = fr.toArray ∧ Ext wb w' ∧ Q e a.defers fr wb

/-- A call of yield. -/
@[irreducible] def VY (P : Program) (l : Nat) (args : List Value) (w : World) (K : Value → World → Prop) : Prop :=
  ∀ w', Ext w w' → YieldAt Fence.wide 0 P l args.toArray w' fun e w'' => ∃ v, e = .returned v ∧ ∃ wb, Ext wb w'' ∧ K v wb
@[irreducible] def Lpx (ro : Option Nat) (P : Program) (b : Code) (ds : Ds) (fr : Fr) (w : World) (Q : Exit → Ds → Fr → World → Prop) : Prop :=
  ∀ w', Ext w w' → (Code.loop b).wpIn (WF ro) 0 P (LiftX Q) (Act.mk fr.toArray ds) w'
@[irreducible] def Rwx (ro : Option Nat) (P : Program) (c : Code) (ds : Ds) (fr : Fr) (w : World) (Q : Exit → Ds → Fr → World → Prop) : Prop :=
  ∀ w', Ext w w' → c.wpIn (WF ro) 0 P (LiftX Q) (Act.mk fr.toArray ds) w'
@[irreducible] def Drx (ro : Option Nat) (P : Program) (ops : List Oper) (ds : Ds) (fr : Fr) (w : World) (K : Fr → World → Prop) : Prop :=
  ∀ (id : Nat) (Q : Exit → Act → World → Prop), (∀ fr' wb w'', Ext wb w'' → K fr' wb → Q .normal (Act.mk fr'.toArray ds) w'') → ∀ w', Ext w w' → (Code.region id ops.toArray true).wpIn (WF ro) 0 P Q (Act.mk fr.toArray ds) w'

def op1x (P : Program) (tys : List Ty) (o : Op) (T : TypeId) (fr : Fr) (w : World) (K : Value → World → Prop) : Prop :=
  match o with
  | .call c => match c.callee with
    | .value f => evK fr f fun fv => match fv with
      | .func (.func g) first captured => argsK fr c.args.toList fun vs => appK first.toList vs fun us => appK us captured.toList fun ts => VC P g ts w K
      | .func (.yield l) first _ => argsK fr c.args.toList fun vs => appK first.toList vs fun us => VY P l us w K
      | _ => Stuck 22
    | _ => op1 P tys o T fr w K
  | _ => op1 P tys o T fr w K

section
variable {P : Program} {tys : List Ty} {ro : Option Nat}

theorem ok1_nodefer {o : Oper} {ρ : Operand → Value} {w : World} {K : Value → World → Prop} (h : ok1 P o ρ w K) : ∀ c, o.op ≠ .defer c := by
  intro c e
  obtain ⟨dst, op, T, pos, after, guard⟩ := o
  simp only at e
  subst e
  unfold ok1 at h
  simp only [execOp, Sem.run_bind] at h
  generalize (resolve ρ c T).run P w = r at h
  cases r with
  | ok d w' => simp [Result.andThen_ok] at h
  | halt x w' => simp [Result.andThen] at h

theorem wpIn_of_ok1 {o : Oper} {a : Act} {w : World} {next : Act → World → Prop} {Q : Exit → Act → World → Prop} (h : ok1 P o a.eval w fun v w' => next (a.put o.dst v) w') : o.wpIn (WF ro) 0 P a w next Q := by
  unfold Oper.wpIn
  refine ⟨fun _ _ => trivial, ?_⟩
  rw [Oper.semAt_eq _ _ _ (ok1_nodefer h)]
  unfold ok1 at h
  split at h
  · rename_i e; rw [e]; exact h
  · rename_i e; rw [e]; exact h
  · rename_i e
    rw [e, Oper.uponIn_enter]
    refine ⟨fun h => (by cases h), ?_⟩
    have h2 : CallsIn (WF ro) 0 P _ _ _ _ := (callsIn_wide (n := 0)).2 h
    refine h2.mono ?_
    rintro e w'' ⟨v, rfl, hv⟩
    exact hv
  · rename_i e
    rw [e, Oper.uponIn_row]
    refine ⟨fun h => (by cases h), fun c cs _ => ?_⟩
    obtain ⟨v, w', hr, hs⟩ := h c cs
    exact ⟨v, w', hr, stepsIn_wide.2 hs⟩
  · exact h.elim

theorem mkAct_put {fr : Fr} {d : Option Tmp} {v v' : Value} (h : (Act.mk fr.toArray []).put d v = (Act.mk fr.toArray []).put d v') : putF fr d v = putF fr d v' := by
  rw [act_put, act_put] at h
  have := congrArg Act.tmps h
  simpa using this

theorem op1_ok1x (hty : TyOk P tys) (o : Oper) {fr : Fr} {w w' : World} {K : Value → World → Prop} (hw : Ext w w') (h : op1 P tys o.op o.type fr w K) :
    ok1 P o (ev fr) w' fun v w'' => ∃ u wb, putF fr o.dst v = putF fr o.dst u ∧ Ext wb w'' ∧ K u wb := by
  have h1 := op1_sound (P := P) hty o (Q := fun _ _ _ => False) (next := fun a' w'' => a'.defers = [] ∧ ∃ u wb, a' = (Act.mk fr.toArray []).put o.dst u ∧ Ext wb w'' ∧ K u wb) hw h
    (fun v wb w'' hx hk => ⟨by rw [act_put], v, wb, rfl, hx, hk⟩)
  have h2 := ok1_of_wp (fun a' w' h => h.1) h1
  rw [ev_eq] at h2
  refine ok1_mono h2 ?_
  rintro v w'' ⟨_, u, wb, e, hx, hk⟩
  exact ⟨u, wb, mkAct_put e, hx, hk⟩

theorem op1x_sound (hty : TyOk P tys) (o : Oper) {ds : Ds} {fr : Fr} {w w' : World} {K : Value → World → Prop} (hw : Ext w w') (h : op1x P tys o.op o.type fr w K)
    {next : Act → World → Prop} {Q : Exit → Act → World → Prop} (hk : ∀ v wb w'', Ext wb w'' → K v wb → next ((Act.mk fr.toArray ds).put o.dst v) w'') : o.wpIn (WF ro) 0 P (Act.mk fr.toArray ds) w' next Q := by
  have plain : op1 P tys o.op o.type fr w K → o.wpIn (WF ro) 0 P (Act.mk fr.toArray ds) w' next Q := fun hp => by
    refine wpIn_of_ok1 ?_
    rw [ev_eq]
    refine ok1_mono (op1_ok1x hty o hw hp) ?_
    rintro v w'' ⟨u, wb, e, hx, hK⟩
    have := hk u wb w'' hx hK
    rw [act_put] at this
    rw [act_put, e]; exact this
  obtain ⟨dst, op, T, pos, after, guard⟩ := o
  dsimp only at h plain hk ⊢
  unfold op1x at h
  split at h
  · rename_i c
    split at h
    · rename_i f hcal
      rw [evK_eq] at h
      split at h
      · rename_i g first captured hf
        refine plain ?_
        unfold op1
        simp only [hcal, evK_eq, hf]
        exact h
      · rename_i l first captured hf
        simp only [argsK_eq, appK_eq, VY] at h
        obtain ⟨fn, tmps, assign, body, hy, hR⟩ := h w' hw
        have ea : first ++ c.args.map (ev fr) = (first.toList ++ c.args.toList.map (ev fr)).toArray := by
          apply Array.toList_inj.1; simp
        have e : execOp (ev fr) ⟨dst, .call c, T, pos, after, guard⟩ = Instr.yield l (first ++ c.args.map (ev fr)) := by
          simp only [execOp, resolve, hcal, hf, Deferred.ofValue, pure_bind, invoke]
        unfold Oper.wpIn
        refine ⟨fun _ _ => trivial, ?_⟩
        rw [Oper.semAt_eq _ _ _ (fun c => by simp), ev_eq, e, ea, hy, Oper.uponIn_round]
        refine ⟨fun h => (by cases h), ?_⟩
        have hR2 : RoundIn (WF ro) 0 P l fn tmps assign body w' _ := hR
        refine hR2.mono ?_
        rintro e w'' ⟨v, rfl, wb, hx, hK⟩
        exact hk v wb w'' hx hK
      · simp [Stuck] at h
    · exact plain h
  · exact plain h

def rgnx (P : Program) (tys : List Ty) (all l : List Oper) : Fr → World → (Fr → World → Prop) → Prop :=
  @List.rec Oper (fun _ => Fr → World → (Fr → World → Prop) → Prop) (fun fr w K => K fr w)
    (fun o _ ih fr w K => grd all fr o.guard (op1x P tys o.op o.type fr w fun v w' => putK fr o.dst v fun fr' => ih fr' w' K) (putK fr o.dst undef fun fr' => ih fr' w K)) l

theorem rgnx_sound (hty : TyOk P tys) {ds : Ds} {all : List Oper} {Q : Exit → Act → World → Prop} : ∀ (l : List Oper) (fr : Fr) (w : World) (K : Fr → World → Prop), rgnx P tys all l fr w K →
    (∀ fr' wb w'', Ext wb w'' → K fr' wb → Q .normal (Act.mk fr'.toArray ds) w'') → ∀ w', Ext w w' → wpListIn (WF ro) 0 P all.toArray Q l (Act.mk fr.toArray ds) w'
  | [], fr, w, K, h, hq, w', hw => hq fr w w' hw h
  | o :: rest, fr, w, K, h, hq, w', hw => by
    unfold wpListIn
    have h : grd all fr o.guard (op1x P tys o.op o.type fr w fun v w' => putK fr o.dst v fun fr' => rgnx P tys all rest fr' w' K) (putK fr o.dst undef fun fr' => rgnx P tys all rest fr' w K) := h
    rcases grd_spec h with ⟨hwt, h⟩ | ⟨hwt, h⟩
    · rw [if_pos hwt]
      refine op1x_sound hty o hw h fun v wb w'' hx hK => ?_
      rw [putK_eq] at hK
      rw [act_put]
      exact rgnx_sound hty rest _ wb K hK hq w'' hx
    · rw [if_neg (by rw [hwt]; simp)]
      rw [putK_eq] at h
      rw [act_put]
      exact ⟨fun _ _ => trivial, rgnx_sound hty rest _ w K h hq w' hw⟩

/-! ### drawn regions -/
theorem anyIn_of_anyS {ds : Ds} {md : Region.Mode} {ops : Array Oper} {wr : List Nat} {Qf : Act → World → Prop} {Q : Exit → Act → World → Prop} (hQ : ∀ t w, Qf (Act.mk t []) w → Q .normal (Act.mk t ds) w) :
    ∀ (n : Nat) (listed : Array Bool) (t : Array Value) (w : World), anyS P md ops wr Qf n listed (Act.mk t []) w → wpAnyIn (WF ro) 0 P md ops Q n listed (Act.mk t ds) w
  | 0, _, _, _, h => ⟨h.1, hQ _ _ h.2⟩
  | n + 1, listed, t, w, h => by
    refine ⟨fun hr => hQ _ _ (h.1 hr), fun i hi => ?_⟩
    have := h.2 i hi
    unfold stepS at this
    unfold wpOpIn
    have pe : ∀ d v, (Act.mk t []).put d v = Act.mk ((Act.mk t []).put d v).tmps [] := fun d v => by cases d <;> rfl
    have pe2 : ∀ d v, (Act.mk t ds).put d v = Act.mk ((Act.mk t []).put d v).tmps ds := fun d v => by cases d <;> rfl
    split
    · rename_i ho; rw [ho] at this; exact anyIn_of_anyS hQ n _ t w this
    · rename_i o ho
      rw [ho] at this
      simp only at this
      split
      · rename_i hw
        rw [if_pos hw] at this
        refine wpIn_of_ok1 ?_
        refine ok1_mono (ok1_congr (P := P) (o := o) (w := w) ?_ |>.mp this) fun v w' hv => ?_
        · have e : (Act.mk t []).eval = (Act.mk t ds).eval := by funext x; cases x <;> rfl
          rw [e]
        · rw [pe2]
          have := hv.2
          rw [pe] at this
          exact anyIn_of_anyS hQ n _ _ w' this
      · rename_i hw
        rw [if_neg hw] at this
        rw [pe2]
        rw [pe] at this
        exact ⟨fun _ _ => trivial, anyIn_of_anyS hQ n _ _ w this⟩

theorem Drx.plan {ds : Ds} {all : List Oper} (d : Nat) (wr : List Nat) (p : Plan) (hty : TyOk P tys) {fr : Fr} {w : World} {K : Fr → World → Prop} (_hd : firstDst all = some d) (hB : planB .any all wr p = true) (h : pw P tys all wr p false fr w K) : Drx ro P all ds fr w K := by
  simp only [Drx]
  intro id Q hk w' hw
  simp only [planB, Bool.and_eq_true, decide_eq_true_eq, List.all_eq_true] at hB
  obtain ⟨⟨hpl, hd⟩, hc⟩ := hB
  refine wpIn_region_any hty.mixed ?_
  have hcl : Closed .any all.toArray (Array.replicate all.length false) := fun j k hj _ => by rw [getD_replicate_false all.length j] at hj; cases hj
  have := (pw_sound hty (fun j o ho => hpl o (List.mem_of_getElem? (by simpa using ho))) K p _ fr w hcl).1 h hc all.length hd _ (hw.drawn (w'.drawn + 1))
  refine anyIn_of_anyS (Qf := Qp K) ?_ _ _ _ _ (by simpa using this)
  rintro t w2 ⟨fr', wb, e, hx, hK⟩
  have : t = fr'.toArray := congrArg Act.tmps e
  subst this
  exact hk fr' wb w2 hx hK

/-! ### code -/
def thenX (K : Ds → Fr → World → Prop) (Q : Exit → Ds → Fr → World → Prop) : Exit → Ds → Fr → World → Prop
  | .normal, ds, fr, w => K ds fr w
  | e, ds, fr, w => Q e ds fr w
def blockX (id : Nat) (Q : Exit → Ds → Fr → World → Prop) : Exit → Ds → Fr → World → Prop
  | .exit id', ds, fr, w => match Nat.beq id' id with
    | true => Q .normal ds fr w
    | false => Q (.exit id') ds fr w
  | e, ds, fr, w => Q e ds fr w

def gvx (ro : Option Nat) (P : Program) (tys : List Ty) (c : Code) : Ds → Fr → World → (Exit → Ds → Fr → World → Prop) → Prop :=
  @Code.rec (fun _ => Ds → Fr → World → (Exit → Ds → Fr → World → Prop) → Prop)
    (fun ds fr w Q => Q .normal ds fr w)
    (fun _ ops draw ds fr w Q => match draw with
      | true => Drx ro P ops.toList ds fr w fun fr' w' => Q .normal ds fr' w'
      | false => rgnx P tys ops.toList ops.toList fr w fun fr' w' => Q .normal ds fr' w')
    (fun _ _ iha ihb ds fr w Q => iha ds fr w (thenX (fun ds' fr' w' => ihb ds' fr' w' Q) Q))
    (fun c _ _ iha ihb ds fr w Q => evK fr c fun v => match v with
      | .bool true => iha ds fr w Q
      | .bool false => ihb ds fr w Q
      | _ => Stuck 30)
    (fun id _ ih ds fr w Q => ih ds fr w (blockX id Q))
    (fun b _ ds fr w Q => Lpx ro P b ds fr w Q)
    (fun f ps a b _ _ ds fr w Q => Rwx ro P (.rangeFunc f ps a b) ds fr w Q)
    (fun id ds fr w Q => Q (.exit id) ds fr w)
    (fun c _ ds fr w Q => Rwx ro P (.scope c) ds fr w Q)
    (fun _ ds fr w Q => Q .normal ds fr w)
    (fun l ds fr w Q => Rwx ro P (.goto l) ds fr w Q)
    (fun ds fr w Q => Q .ret ds fr w)
    (fun s ds fr w Q => Rwx ro P (.refuse s) ds fr w Q) c

theorem liftX_mk {Q : Exit → Ds → Fr → World → Prop} {e : Exit} {ds : Ds} {fr : Fr} {wb w : World} (hx : Ext wb w) (h : Q e ds fr wb) : LiftX Q e (Act.mk fr.toArray ds) w := ⟨fr, wb, rfl, hx, h⟩
theorem act_eta {a : Act} {fr : Fr} (h : a.tmps = fr.toArray) : a = Act.mk fr.toArray a.defers := by cases a; simp at h; subst h; rfl

theorem gvx_sound (hty : TyOk P tys) : ∀ (c : Code) (ds : Ds) (fr : Fr) (w : World) (Q : Exit → Ds → Fr → World → Prop), gvx ro P tys c ds fr w Q → ∀ w', Ext w w' → c.wpIn (WF ro) 0 P (LiftX Q) (Act.mk fr.toArray ds) w'
  | .skip, ds, fr, w, Q, h, w', hw => wpIn_skip (liftX_mk hw h)
  | .label _, ds, fr, w, Q, h, w', hw => wpIn_label (liftX_mk hw h)
  | .region id ops draw, ds, fr, w, Q, h, w', hw => by
    cases draw with
    | true =>
      have h : Drx ro P ops.toList ds fr w fun fr' w' => Q .normal ds fr' w' := h
      simp only [Drx] at h
      have := h id (LiftX Q) (fun fr' wb w'' hx hk => liftX_mk hx hk) w' hw
      simpa using this
    | false =>
      refine wpIn_region_list ?_
      have := rgnx_sound (ro := ro) (ds := ds) (Q := LiftX Q) hty ops.toList fr w _ h (fun fr' wb w'' hx hk => liftX_mk hx hk) w' hw
      simpa using this
  | .seq a b, ds, fr, w, Q, h, w', hw => by
    refine wpIn_seq (wpIn_mono (gvx_sound hty a ds fr w _ h w' hw) ?_)
    rintro e a' w'' ⟨fr', wb, ha, hx, hq⟩
    cases e with
    | normal => rw [act_eta ha]; exact gvx_sound hty b _ fr' wb Q hq w'' hx
    | _ => exact ⟨fr', wb, ha, hx, hq⟩
  | .cond c a b, ds, fr, w, Q, h, w', hw => by
    have h : evK fr c fun v => match v with
      | .bool true => gvx ro P tys a ds fr w Q
      | .bool false => gvx ro P tys b ds fr w Q
      | _ => Stuck 30 := h
    rw [evK_eq] at h
    split at h
    · rename_i e; exact wpIn_cond_true (by rw [ev_eq, e]) (gvx_sound hty a ds fr w Q h w' hw)
    · rename_i e; exact wpIn_cond_false (by rw [ev_eq, e]) (gvx_sound hty b ds fr w Q h w' hw)
    · simp [Stuck] at h
  | .block id b, ds, fr, w, Q, h, w', hw => by
    refine wpIn_block (wpIn_mono (gvx_sound hty b ds fr w _ h w' hw) ?_)
    rintro e a' w'' ⟨fr', wb, ha, hx, hq⟩
    cases e with
    | exit id' =>
      simp only [Exit.inBlock]
      simp only [blockX] at hq
      split
      · rename_i e; subst e
        rw [Nat.beq_refl] at hq
        exact ⟨fr', wb, ha, hx, hq⟩
      · rename_i e
        have : Nat.beq id' id = false := by
          cases h2 : Nat.beq id' id with
          | false => rfl
          | true => exact absurd (Nat.eq_of_beq_eq_true h2) e
        rw [this] at hq
        exact ⟨fr', wb, ha, hx, hq⟩
    | _ => exact ⟨fr', wb, ha, hx, hq⟩
  | .loop b, ds, fr, w, Q, h, w', hw => by have h : Lpx ro P b ds fr w Q := h; simp only [Lpx] at h; exact h w' hw
  | .exit id, ds, fr, w, Q, h, w', hw => wpIn_exit (liftX_mk hw h)
  | .ret, ds, fr, w, Q, h, w', hw => wpIn_ret (liftX_mk hw h)
  | .rangeFunc .., ds, fr, w, Q, h, w', hw => by unfold gvx at h; simp only [Rwx] at h; exact h w' hw
  | .scope .., ds, fr, w, Q, h, w', hw => by unfold gvx at h; simp only [Rwx] at h; exact h w' hw
  | .goto .., ds, fr, w, Q, h, w', hw => by unfold gvx at h; simp only [Rwx] at h; exact h w' hw
  | .refuse .., ds, fr, w, Q, h, w', hw => by unfold gvx at h; simp only [Rwx] at h; exact h w' hw

/-! ### loops -/
theorem wpIn_loop_rel {c : Code} {F : Fence} {n : Nat} {Q : Exit → Act → World → Prop} (J : Nat → Act → World → Prop) {a : Act} {w : World} {m0 : Nat} (h0 : J m0 a w)
    (round : ∀ m a w, J m a w → c.wpIn F n P (Exit.then (fun a' w' => ∃ m', m' < m ∧ J m' a' w') Q) a w) : (Code.loop c).wpIn F n P Q a w := by
  refine wpIn_loop (fun a w => ∃ m, J m a w) (fun a w => Classical.epsilon fun m => J m a w ∧ ∀ k, k < m → ¬ J k a w) ⟨m0, h0⟩ ?_
  intro a w hJ
  have hs := Classical.epsilon_spec (p := fun m => J m a w ∧ ∀ k, k < m → ¬ J k a w) (least_nat hJ)
  refine wpIn_mono (round _ a w hs.1) ?_
  intro e a' w' hq
  cases e with
  | normal =>
    obtain ⟨m', hlt, hJ'⟩ := hq
    refine ⟨⟨m', hJ'⟩, ?_⟩
    have hs' := Classical.epsilon_spec (p := fun m => J m a' w' ∧ ∀ k, k < m → ¬ J k a' w') (least_nat ⟨m', hJ'⟩)
    refine Nat.lt_of_le_of_lt (Nat.le_of_not_lt fun h => hs'.2 _ h hJ') hlt
  | _ => exact hq

def loopX (ds : List Bool) (D : Ds) (fr : Fr) (R : Nat → Fr → World → Prop) (m : Nat) (Q : Exit → Ds → Fr → World → Prop) : Exit → Ds → Fr → World → Prop :=
  thenX (fun D' fr' w' => D' = D ∧ ∃ m', m' < m ∧ blank ds fr' = blank ds fr ∧ R m' fr' w') Q

theorem Lpx.mk (hty : TyOk P tys) {b : Code} {D : Ds} {fr : Fr} {w : World} {Q : Exit → Ds → Fr → World → Prop} (ds : List Bool) (R : Nat → Fr → World → Prop) (m0 : Nat) (h0 : R m0 fr w)
    (hr : ∀ m w', hv ds fr fun fr' => R m fr' w' → gvx ro P tys b D fr' w' (loopX ds D fr R m Q)) : Lpx ro P b D fr w Q := by
  simp only [Lpx]
  intro w' hw
  refine wpIn_loop_rel (fun m a w' => ∃ fr' wb, a = Act.mk fr'.toArray D ∧ Ext wb w' ∧ blank ds fr' = blank ds fr ∧ R m fr' wb) (m0 := m0) ⟨fr, w, rfl, hw, rfl, h0⟩ ?_
  rintro m a w1 ⟨fr', wb, rfl, hx, he, hR⟩
  refine wpIn_mono (gvx_sound hty b D fr' wb _ (hv_spec (hr m wb) fr' he hR) w1 hx) ?_
  rintro e a' w2 ⟨fr2, wb2, ha, hx2, hq⟩
  cases e with
  | normal =>
    obtain ⟨hD, m', hlt, hb, hR'⟩ := hq
    exact ⟨m', hlt, fr2, wb2, by rw [act_eta ha, hD], hx2, hb, hR'⟩
  | _ => exact ⟨fr2, wb2, ha, hx2, hq⟩

/-! ### results, contracts -/
/-- The end: no mark, or one whose block is still as it was laid. -/
def finX (tys : List Ty) (e : Exit) (rs : List ResultVar) (ds : Ds) (fr : Fr) (w : World) (K : Value → World → Prop) : Prop :=
  match e with
  | .normal | .ret => match ds with
    | [] => resK tys rs fr w (one1 fun v => K v w)
    | [⟨.collected D, _⟩] => w.heap[D]? = some (.deferred (some [])) ∧ ∀ w', Gr (fun k => k = D) w w' → resK tys rs fr w' (one1 fun v => K v w')
    | _ => False
  | _ => False

theorem gr_putObj (w : World) (D : Nat) (o : Obj) : Gr (fun k => k = D) w (w.putObj D o) := ⟨rfl, rfl, rfl, by simp, fun k _ hk => World.putObj_heap_other hk⟩

theorem calls_of_gvx (hty : TyOk P tys) {f : FuncId} {fn : Func} {c : Code} {args : List Value} {w : World} {K : Value → World → Prop} (hf : P.funcs[f]? = some fn) (hb : fn.body = some c)
    (h : mkFr args fn.ntmps fun fr => gvx none P tys c [] fr w fun e ds fr' wb => finX tys e fn.results.toList ds fr' wb K) :
    Calls P f args.toArray w fun e w'' => ∃ v, e = .returned v ∧ ∃ wb, Ext wb w'' ∧ K v wb := by
  rw [mkFr_eq] at h
  refine (callsIn_wide (n := 0)).1 (callsIn_of_wp_marks (F := Fence.wide) hf hb trivial ?_ rfl)
  have e : args.toArray ++ Array.replicate (fn.ntmps - args.toArray.size) undef = (args ++ List.replicate (fn.ntmps - args.length) undef).toArray := by
    apply Array.toList_inj.1; simp
  rw [e]
  have hg := gvx_sound (ro := none) hty c [] _ w _ h w (Ext.refl w)
  refine wpIn_mono hg ?_
  rintro e a w' ⟨fr, wb, ha, hx, hq⟩
  have go : finX tys .ret fn.results.toList a.defers fr wb K → LeavesInM Fence.wide 0 P fn a.tmps (fun e w'' => ∃ v, e = .returned v ∧ ∃ wb, Ext wb w'' ∧ K v wb) a.defers .returning w' := fun hr => by
    rw [ha]
    generalize a.defers = ds at hr ⊢
    match ds, hr with
    | [], hr =>
      obtain ⟨v, hk, hrun⟩ := results_run (P := P) (fn := fn) (K := fun v => K v wb) hty hx hr
      exact ⟨v, hrun, v, rfl, wb, hx, hk⟩
    | [⟨.collected D, _⟩], hr =>
      obtain ⟨hD, hr⟩ := hr
      have hlt : D < wb.heap.size := (Array.getElem?_eq_some_iff.1 hD).1
      have hD' : w'.heap[D]? = some (.deferred (some [])) := by rw [hx.block D hlt (fun hf => hf)]; exact hD
      refine ⟨by simp, .inl ⟨D, _, rfl, run_takeDeferred hD', ?_⟩⟩
      have hg2 : Gr (fun k => k = D) wb (w'.putObj D (.deferred none)) := (Gr.ofExt hx).trans (gr_putObj w' D _)
      obtain ⟨v, hk, hrun⟩ := results_run (P := P) (fn := fn) (K := fun v => K v (w'.putObj D (.deferred none))) hty (Ext.refl _) (hr _ hg2)
      exact ⟨v, hrun, v, rfl, _, Ext.refl _, hk⟩
  cases e with
  | normal => exact go hq
  | ret => exact go hq
  | _ => exact hq.elim

theorem RCX.mk (hty : TyOk P tys) {f : FuncId} {fn : Func} {c : Code} {args : List Value} {w : World} {S : Nat → Prop} {R : Value → World → Prop} (hf : P.funcs[f]? = some fn) (hb : fn.body = some c) (hn : (fn.name == "runtime.NumGoroutine") = false)
    (h : ∀ w', Ext w w' → mkFr args fn.ntmps fun fr => gvx none P tys c [] fr w' fun e ds fr' wb => finX tys e fn.results.toList ds fr' wb fun u wb => Gr S w' wb ∧ R u wb) : RC P f args w S R := by
  simp only [RC]
  refine ⟨⟨fn, hf, hn, by rw [hb]; rfl⟩, fun w' hw => ?_⟩
  refine (calls_of_gvx hty (K := fun u wb => Gr S w' wb ∧ R u wb) hf hb (h w' hw)).mono ?_
  rintro e w'' ⟨u, rfl, wb, hx, hg, hr⟩
  exact ⟨u, rfl, wb, hx, hg, hr⟩
end
end Go.Eng
set_option linter.unusedVariables false
set_option linter.unusedSimpArgs false
namespace Go.Eng
open Go.RowKit

/-- The iterator yields the lists xs, in this order; C: the old blocks that it leans on. -/
def ItOk (P : Program) (gf : FuncId) (lb : List Value) (C : Nat → Prop) (w : World) (xs : List (List Int)) : Prop :=
  IsFn P gf ∧ ∀ (l : Nat) (M : Nat → Prop) (J Jx : Nat → List (List Int) → World → Prop) (W : World), Ext w W → (∀ k, M k → ¬ C k ∧ k < W.heap.size) →
    (∀ n1 pre A B, J n1 pre A → Gr (fun k => W.heap.size ≤ k ∧ k < n1) A B → J n1 pre B) → (∀ n1 pre A B, Jx n1 pre A → Gr (fun k => W.heap.size ≤ k ∧ k < n1) A B → Jx n1 pre B) →
    (∀ n1 pre x v A, W.heap.size ≤ n1 → n1 ≤ A.heap.size → pre ++ [x] <+: xs → J n1 pre A → Ints A v x → YieldAt Fence.wide 0 P l #[v] A fun e B =>
      (e = .returned (.bool true) ∧ J n1 (pre ++ [x]) B ∧ Gr (fun k => M k ∨ n1 ≤ k) A B) ∨ (e = .returned (.bool false) ∧ Jx n1 (pre ++ [x]) B ∧ Gr (fun k => M k ∨ n1 ≤ k) A B)) →
    (∀ n1, W.heap.size ≤ n1 → J n1 [] W) → Calls P gf (.func (.yield l) #[] #[] :: lb).toArray W fun e B => ∃ v, e = .returned v ∧ ∃ n1, W.heap.size ≤ n1 ∧ (J n1 xs B ∨ ∃ pre, pre <+: xs ∧ Jx n1 pre B)

theorem at_noloop {w : World} {p : Addr} {xs : List Value} {l : Nat} {r : Loop} (h : At w p xs) (hl : w.heap[l]? = some (.loop r)) (hx : xs ≠ []) : p.block ≠ l := by
  intro e
  cases xs with
  | nil => exact hx rfl
  | cons x xs =>
    have := h 0 x (by simp)
    rw [show p.add 0 = p from rfl] at this
    unfold World.cell? at this
    rw [e, hl] at this
    simp at this
theorem ints_noloop {w w' : World} {v : Value} {x : List Int} {l : Nat} {r : Loop} (h : Ints w v x) (hl : w.heap[l]? = some (.loop r)) (hg : Gr (fun k => k = l) w w') : Ints w' v x := by
  obtain ⟨a, cap, rfl, h1, h2, h3, h4⟩ := h
  refine ⟨a, cap, rfl, h1, h2, h3, ?_⟩
  rcases h4 with h4 | ⟨p, rfl, h4⟩
  · exact .inl h4
  · by_cases hx : x.length = 0
    · exact .inl hx
    · refine .inr ⟨p, rfl, h4.gr hg (at_noloop h4 hl (fun e => hx ?_))⟩
      have := congrArg List.length e; simpa using this

def mkRec (fn : FuncId) (tmps : Array Value) (p : Tmp) (assign body : Code) (D : Nat) (st : LoopState) (pe : Option Code) : Loop := { state := st, pending := pe, fn, tmps, params := #[p], assign, body, defers := D }

section
variable {P : Program} {tys : List Ty}

/-- What the body of a round owes. -/
def roundX (M : Nat → Prop) (I : World → Prop) (Ix : Code → World → Prop) (W : World) : Exit → Ds → Fr → World → Prop
  | .normal, _, _, W' => I W' ∧ Gr M W W'
  | .ret, _, _, W' => Ix .ret W' ∧ Gr M W W'
  | .exit id, _, _, W' => Ix (.exit id) W' ∧ Gr M W W'
  | _, _, _, _ => False

theorem Rwx.range (hty : TyOk P tys) {g : Operand} {p : Tmp} {assign body : Code} {ds : Ds} {fr : Fr} {w : World} {Q : Exit → Ds → Fr → World → Prop} {gf : FuncId} {lb : List Value} {C : Nat → Prop} {xs : List (List Int)}
    (hg : evK fr g fun v => v = .func (.func gf) #[] lb.toArray) (hit : ItOk P gf lb C w xs) (hC : ∀ k, C k → k < w.heap.size) (M : Nat → Prop) (hM : ∀ k, M k → ¬ C k ∧ k < w.heap.size)
    (I : Nat → List (List Int) → World → Prop) (Ix : Nat → Code → List (List Int) → World → Prop) (hI : ∀ n1 pre A B, I n1 pre A → Gr (fun k => w.heap.size ≤ k ∧ k < n1) A B → I n1 pre B) (hIx : ∀ n1 c pre A B, Ix n1 c pre A → Gr (fun k => w.heap.size ≤ k ∧ k < n1) A B → Ix n1 c pre B)
    (h0 : ∀ n1, w.heap.size ≤ n1 → I n1 [] w) 
    (hround : ∀ l v W, setK fr p v fun fr0 => gvx (some l) P tys assign [] fr0 W fun e ds' fr' W' => e = .normal ∧ ds' = [] ∧ W' = W ∧
      ∀ n1 pre x W2, w.heap.size ≤ n1 → n1 ≤ W2.heap.size → pre ++ [x] <+: xs → I n1 pre W2 → Gr M w W2 → Ints W2 v x → gvx (some l) P tys body [] fr' W2 (roundX (fun k => M k ∨ n1 ≤ k) (I n1 (pre ++ [x])) (fun c => Ix n1 c (pre ++ [x])) W2))
    (hdone : ∀ D n1 W, w.heap.size ≤ D → D < n1 → I n1 xs W → Gr M w W → W.heap[D]? = some (.deferred (some [])) → Q .normal (⟨.collected D, #[]⟩ :: ds) fr W)
    (hstop : ∀ D n1 c pre W, w.heap.size ≤ D → D < n1 → pre <+: xs → Ix n1 c pre W → Gr M w W → W.heap[D]? = some (.deferred (some [])) → gvx none P tys c (⟨.collected D, #[]⟩ :: ds) fr W Q) :
    Rwx none P (.rangeFunc g #[p] assign body) ds fr w Q := by
  simp only [Rwx]
  intro w0 hw0
  rw [evK_eq] at hg
  refine wpIn_rangeFunc (F := WF none) ?_
  intro fn hfn
  obtain ⟨W1, hW1⟩ : ∃ W1, (w0.alloc (.deferred (some []))).alloc (.loop (mkRec fn fr.toArray p assign body w0.heap.size .ready none)) = W1 := ⟨_, rfl⟩
  have hsz : W1.heap.size = w0.heap.size + 2 := by rw [← hW1]; simp
  have hL1 : W1.heap[w0.heap.size + 1]? = some (.loop (mkRec fn fr.toArray p assign body w0.heap.size .ready none)) := by
    rw [← hW1]; have := World.alloc_heap_new (w0.alloc (.deferred (some []))) (.loop (mkRec fn fr.toArray p assign body w0.heap.size .ready none)); rwa [World.size_alloc] at this
  have hK1 : W1.heap[w0.heap.size]? = some (.deferred (some [])) := by
    rw [← hW1]; exact (Below.heap_alloc _ _ _ (by simp)).trans (World.alloc_heap_new w0 _)
  have hx1 : Ext w W1 := by rw [← hW1]; exact (hw0.alloc _).alloc _
  have hwle := hw0.size
  refine ⟨w0.heap.size + 1, [{ target := .collected w0.heap.size, args := #[] }], W1, { target := .fn (.func gf) lb.toArray, args := #[.func (.yield (w0.heap.size + 1)) #[] #[]] }, W1, gf,
    (.func (.yield (w0.heap.size + 1)) #[] #[] :: lb).toArray, W1, ?_, ?_, fun _ _ => trivial, ?_, fun h => (by cases h), ?_⟩
  · rw [← hW1]; exact run_enterLoop_outer _ _ _ _ _
  · simp only [resolve, ev_eq, hg]
    simp [go_sem]
    rfl
  · obtain ⟨fn', h1, h2, h3⟩ := hit.1
    have ea : #[Value.func (.yield (w0.heap.size + 1)) #[] #[]] ++ lb.toArray = (.func (.yield (w0.heap.size + 1)) #[] #[] :: lb).toArray := by apply Array.toList_inj.1; simp
    simp only [invoke, ea, callFunc, Sem.run_bind, run_program, Result.andThen_ok, h1, h2, h3, Bool.false_eq_true, if_false, Sem.run_pure]
  · -- the iterator's contract
    have hMl : ∀ k, M k → k ≠ w0.heap.size + 1 ∧ k ≠ w0.heap.size := fun k hk => by have := (hM k hk).2; omega
    have hcall := hit.2 (w0.heap.size + 1) (fun k => M k ∨ k = w0.heap.size + 1)
      (fun n1 pre W => I n1 pre W ∧ W.heap[w0.heap.size + 1]? = some (.loop (mkRec fn fr.toArray p assign body w0.heap.size .ready none)) ∧ W.heap[w0.heap.size]? = some (.deferred (some [])) ∧ Gr M w W)
      (fun n1 pre W => ∃ c, Ix n1 c pre W ∧ W.heap[w0.heap.size + 1]? = some (.loop (mkRec fn fr.toArray p assign body w0.heap.size .done (some c))) ∧ W.heap[w0.heap.size]? = some (.deferred (some [])) ∧ Gr M w W)
      W1 hx1
      (fun k hk => hk.elim (fun h => ⟨(hM k h).1, by have := (hM k h).2; omega⟩) (fun h => ⟨fun hc => by have := hC k hc; omega, by omega⟩))
      (fun n1 pre A B h hg => ⟨hI _ _ _ _ h.1 (hg.mono fun k _ hk => by omega), by rw [hg.block _ (Array.getElem?_eq_some_iff.1 h.2.1).1 (by omega)]; exact h.2.1,
        by rw [hg.block _ (Array.getElem?_eq_some_iff.1 h.2.2.1).1 (by omega)]; exact h.2.2.1, h.2.2.2.new hg fun k hk hk2 => by omega⟩)
      (fun n1 pre A B h hg => by
        obtain ⟨c, h1, h2, h3, h4⟩ := h
        exact ⟨c, hIx _ _ _ _ _ h1 (hg.mono fun k _ hk => by omega), by rw [hg.block _ (Array.getElem?_eq_some_iff.1 h2).1 (by omega)]; exact h2,
          by rw [hg.block _ (Array.getElem?_eq_some_iff.1 h3).1 (by omega)]; exact h3, h4.new hg fun k hk hk2 => by omega⟩)
      ?_ (fun n1 hn1 => ⟨hI _ _ _ _ (h0 n1 (by omega)) (Gr.ofExt hx1), hL1, hK1, (Gr.ofExt hx1 : Gr M w W1)⟩)
    · refine ((callsIn_wide (n := 0)).2 hcall : CallsIn (WF none) 0 P _ _ _ _).mono ?_
      rintro e W2 ⟨v, rfl, n1, hn1, (⟨hi, hl, hk, hgm⟩ | ⟨pre, hpre, c, hi, hl, hk, hgm⟩)⟩
      · have hg2 : Gr (fun k => k = w0.heap.size + 1) W2 (W2.putObj (w0.heap.size + 1) (.loop (mkRec fn fr.toArray p assign body w0.heap.size .exhausted none))) := gr_putObj _ _ _
        refine ⟨none, _, run_endLoop (P := P) hl (by simp [mkRec]), ?_⟩
        refine ⟨fr, _, rfl, Ext.refl _, hdone w0.heap.size n1 _ hwle (by omega) (hI _ _ _ _ hi (hg2.mono fun k _ hk => by omega)) (hgm.new hg2 fun k hk hk2 => by omega) ((World.putObj_heap_other (by omega)).trans hk)⟩
      · have hg2 : Gr (fun k => k = w0.heap.size + 1) W2 (W2.putObj (w0.heap.size + 1) (.loop (mkRec fn fr.toArray p assign body w0.heap.size .exhausted (some c)))) := gr_putObj _ _ _
        refine ⟨some c, _, run_endLoop (P := P) hl (by simp [mkRec]), ?_⟩
        exact gvx_sound (ro := none) hty c _ fr _ Q (hstop w0.heap.size n1 c pre _ hwle (by omega) hpre (hIx _ _ _ _ _ hi (hg2.mono fun k _ hk => by omega)) (hgm.new hg2 fun k hk hk2 => by omega) ((World.putObj_heap_other (by omega)).trans hk)) _ (Ext.refl _)
    · -- one round
      rintro n1 pre x v A hn1 hn2 hpre ⟨hi, hl, hk, hgm⟩ hv
      have hlt : w0.heap.size + 1 < A.heap.size := (Array.getElem?_eq_some_iff.1 hl).1
      have hy := run_yield (P := P) (args := #[v]) hl rfl
      refine ⟨fn, _, assign, body, hy, roundIn_of_wpIn (F := Fence.wide) trivial ?_⟩
      clear hy
      have ha := hround (w0.heap.size + 1) v A
      rw [setK_eq] at ha
      have ef : (#[p].zip #[v]).foldl (fun (t : Array Value) (x : Tmp × Value) => t.setIfInBounds x.1 x.2) fr.toArray = (fr.set p v).toArray := by simp
      have ha2 := gvx_sound (ro := some (w0.heap.size + 1)) hty assign [] _ A _ ha A (Ext.refl A)
      rw [← ef] at ha2
      refine wpIn_mono ha2 ?_
      rintro e a A' ⟨fr', wb, hat, hxa, rfl, hds, rfl, hbody⟩
      refine ⟨_, run_beginRound (by rw [hxa.block _ hlt (fun hf => hf)]; exact hl) rfl, ?_⟩
      rw [act_eta hat, hds]
      have hl' : A'.heap[w0.heap.size + 1]? = some (.loop (mkRec fn fr.toArray p assign body w0.heap.size .ready none)) := by rw [hxa.block _ hlt (fun hf => hf)]; exact hl
      have hlt' := (Array.getElem?_eq_some_iff.1 hl').1
      have hg2 : Gr (fun k => k = w0.heap.size + 1) A' (A'.putObj (w0.heap.size + 1) (.loop (mkRec fn fr.toArray p assign body w0.heap.size .busy none))) := gr_putObj _ _ _
      have hl2 : (A'.putObj (w0.heap.size + 1) (.loop (mkRec fn fr.toArray p assign body w0.heap.size .busy none))).heap[w0.heap.size + 1]? = some (.loop (mkRec fn fr.toArray p assign body w0.heap.size .busy none)) := World.putObj_heap_same hlt'
      have hk2 : (A'.putObj (w0.heap.size + 1) (.loop (mkRec fn fr.toArray p assign body w0.heap.size .busy none))).heap[w0.heap.size]? = some (.deferred (some [])) :=
        (World.putObj_heap_other (by omega)).trans (by rw [hxa.block _ (by omega) (fun hf => hf)]; exact hk)
      have hgA : Gr (fun k => k = w0.heap.size + 1) wb (A'.putObj (w0.heap.size + 1) (.loop (mkRec fn fr.toArray p assign body w0.heap.size .busy none))) := (Gr.ofExt hxa).trans hg2
      have hb := hbody n1 pre x _ (by omega) (by have := hxa.size; simp; omega) hpre (hI _ _ _ _ hi (hgA.mono fun k _ hk => by omega)) (hgm.new hgA fun k hk hk2 => by omega) (ints_noloop (hv.ext hxa) hl' hg2)
      have hb2 := gvx_sound (ro := some (w0.heap.size + 1)) hty body [] _ _ _ hb _ (Ext.refl _)
      refine wpIn_mono hb2 ?_
      have fin : ∀ (jump : Option Code) (Wb W3 : World), Gr (fun k => M k ∨ n1 ≤ k) (A'.putObj (w0.heap.size + 1) (.loop (mkRec fn fr.toArray p assign body w0.heap.size .busy none))) Wb → Ext Wb W3 →
          (Instr.endRound (w0.heap.size + 1) jump).run P W3 = .ok (.bool jump.isNone) (W3.putObj (w0.heap.size + 1) (.loop (mkRec fn fr.toArray p assign body w0.heap.size (if jump.isNone then .ready else .done) jump))) ∧
          (W3.putObj (w0.heap.size + 1) (.loop (mkRec fn fr.toArray p assign body w0.heap.size (if jump.isNone then .ready else .done) jump))).heap[w0.heap.size + 1]? = some (.loop (mkRec fn fr.toArray p assign body w0.heap.size (if jump.isNone then .ready else .done) jump)) ∧
          (W3.putObj (w0.heap.size + 1) (.loop (mkRec fn fr.toArray p assign body w0.heap.size (if jump.isNone then .ready else .done) jump))).heap[w0.heap.size]? = some (.deferred (some [])) ∧
          Gr (fun k => (M k ∨ k = w0.heap.size + 1) ∨ n1 ≤ k) wb (W3.putObj (w0.heap.size + 1) (.loop (mkRec fn fr.toArray p assign body w0.heap.size (if jump.isNone then .ready else .done) jump))) ∧
          Gr M w (W3.putObj (w0.heap.size + 1) (.loop (mkRec fn fr.toArray p assign body w0.heap.size (if jump.isNone then .ready else .done) jump))) ∧
          Gr (fun k => w.heap.size ≤ k ∧ k < n1) Wb (W3.putObj (w0.heap.size + 1) (.loop (mkRec fn fr.toArray p assign body w0.heap.size (if jump.isNone then .ready else .done) jump))) := fun jump Wb W3 hm hx => by
        have h3 : Gr (fun k => M k ∨ n1 ≤ k) (A'.putObj (w0.heap.size + 1) (.loop (mkRec fn fr.toArray p assign body w0.heap.size .busy none))) W3 := hm.trans (Gr.ofExt hx)
        have hl3 : W3.heap[w0.heap.size + 1]? = some (.loop (mkRec fn fr.toArray p assign body w0.heap.size .busy none)) := by
          rw [h3.block _ (by simp; omega) (fun hf => hf.elim (fun hf => (hMl _ hf).1 rfl) (fun h => by omega))]; exact hl2
        have hk3 : W3.heap[w0.heap.size]? = some (.deferred (some [])) := by
          rw [h3.block _ (by simp; omega) (fun hf => hf.elim (fun hf => (hMl _ hf).2 rfl) (fun h => by omega))]; exact hk2
        have hr := run_endRound (P := P) jump hl3
        have g1 : Gr (fun k => k = w0.heap.size + 1) W3 (W3.putObj (w0.heap.size + 1) (.loop (mkRec fn fr.toArray p assign body w0.heap.size (if jump.isNone then .ready else .done) jump))) := gr_putObj _ _ _
        have g2 : Gr (fun k => (M k ∨ k = w0.heap.size + 1) ∨ n1 ≤ k) wb W3 := (hgA.mono fun k _ h => .inl (.inr h)).trans (h3.mono fun k _ h => h.elim (fun h => .inl (.inl h)) .inr)
        have g3 := g2.trans (g1.mono fun k _ h => .inl (.inr h))
        exact ⟨hr, World.putObj_heap_same (Array.getElem?_eq_some_iff.1 hl3).1, (World.putObj_heap_other (by omega)).trans hk3, g3,
          hgm.new g3 fun k hk h => h.elim (fun h => h.elim (fun h => h) (fun h => by omega)) (fun h => by omega), (Gr.ofExt hx).trans (g1.mono fun k _ h => by omega)⟩
      rintro e3 a3 W3 ⟨fr3, Wb, hat3, hx3, hq⟩
      cases e3 with
      | normal =>
        obtain ⟨hi3, hm3⟩ := hq
        obtain ⟨hr, h1, h2, h3, h4, h5⟩ := fin none Wb W3 hm3 hx3
        exact ⟨_, _, hr, .inl ⟨rfl, ⟨hI _ _ _ _ hi3 h5, h1, h2, h4⟩, h3⟩⟩
      | ret =>
        obtain ⟨hi3, hm3⟩ := hq
        obtain ⟨hr, h1, h2, h3, h4, h5⟩ := fin (some .ret) Wb W3 hm3 hx3
        exact ⟨_, _, hr, .inr ⟨rfl, ⟨.ret, hIx _ _ _ _ _ hi3 h5, h1, h2, h4⟩, h3⟩⟩
      | exit id =>
        obtain ⟨hi3, hm3⟩ := hq
        obtain ⟨hr, h1, h2, h3, h4, h5⟩ := fin (some (.exit id)) Wb W3 hm3 hx3
        exact ⟨_, _, hr, .inr ⟨rfl, ⟨.exit id, hIx _ _ _ _ _ hi3 h5, h1, h2, h4⟩, h3⟩⟩
      | _ => exact hq.elim

/-- What a caller's fact carries through an iterator's own steps. -/
structure Carry (n0 n1 : Nat) (J : World → Prop) (w : World) : Prop where
  st : ∀ A B, J A → Gr (fun k => n0 ≤ k ∧ k < n1) A B → J B
  at' : J w
theorem Carry.ext {n0 n1 : Nat} {J : World → Prop} {w w' : World} (h : Carry n0 n1 J w) (hg : Ext w w') : Carry n0 n1 J w' := ⟨h.st, h.st _ _ h.at' (Gr.ofExt hg)⟩
theorem Carry.gr {S : Nat → Prop} {n0 n1 : Nat} {J : World → Prop} {w w' : World} (h : Carry n0 n1 J w) (hg : Gr S w w') (hs : ∀ k, S k → n0 ≤ k ∧ k < n1) : Carry n0 n1 J w' := ⟨h.st, h.st _ _ h.at' (hg.mono fun k _ hk => hs k hk)⟩

theorem ItOk.mk (hty : TyOk P tys) {f : FuncId} {fn : Func} {c : Code} {lb : List Value} {C : Nat → Prop} {w : World} {xs : List (List Int)} (hf : P.funcs[f]? = some fn) (hb : fn.body = some c) (hn : (fn.name == "runtime.NumGoroutine") = false)
    (h : ∀ (l : Nat) (M : Nat → Prop) (J Jx : Nat → List (List Int) → World → Prop) (W : World), Ext w W → (∀ k, M k → ¬ C k ∧ k < W.heap.size) →
      (∀ n1 pre x v A, W.heap.size ≤ n1 → n1 ≤ A.heap.size → pre ++ [x] <+: xs → Carry W.heap.size n1 (J n1 pre) A → Ints A v x → ∀ K : Value → World → Prop,
        (∀ B, Carry W.heap.size n1 (J n1 (pre ++ [x])) B → Gr (fun k => M k ∨ n1 ≤ k) A B → K (.bool true) B) → (∀ B, Carry W.heap.size n1 (Jx n1 (pre ++ [x])) B → Gr (fun k => M k ∨ n1 ≤ k) A B → K (.bool false) B) → VY P l [v] A K) →
      (∀ n1, W.heap.size ≤ n1 → Carry W.heap.size n1 (J n1 []) W) → mkFr (.func (.yield l) #[] #[] :: lb) fn.ntmps fun fr => gvx none P tys c [] fr W fun e ds fr' wb => finX tys e fn.results.toList ds fr' wb fun _ wb =>
        ∃ n1, W.heap.size ≤ n1 ∧ (Carry W.heap.size n1 (J n1 xs) wb ∨ ∃ pre, pre <+: xs ∧ Carry W.heap.size n1 (Jx n1 pre) wb)) : ItOk P f lb C w xs := by
  refine ⟨⟨fn, hf, hn, by rw [hb]; rfl⟩, fun l M J Jx W hW hM hJ hJx hY h0 => ?_⟩
  refine (calls_of_gvx hty (K := fun _ wb => ∃ n1, W.heap.size ≤ n1 ∧ (Carry W.heap.size n1 (J n1 xs) wb ∨ ∃ pre, pre <+: xs ∧ Carry W.heap.size n1 (Jx n1 pre) wb)) hf hb
    (h l M J Jx W hW hM (fun n1 pre x v A hn1 hn2 hp hj hv K h1 h2 => ?_) (fun n1 hn1 => ⟨hJ n1 [], h0 n1 hn1⟩))).mono ?_
  · simp only [VY]
    intro w' hw'
    obtain ⟨fn', tmps, assign, body, hy, hR⟩ := hY n1 pre x v w' hn1 (Nat.le_trans hn2 hw'.size) hp (hj.ext hw').at' (hv.ext hw')
    refine ⟨fn', tmps, assign, body, hy, hR.mono ?_⟩
    rintro e B (⟨rfl, hJB, hg⟩ | ⟨rfl, hJB, hg⟩)
    · exact ⟨_, rfl, B, Ext.refl _, h1 B ⟨hJ n1 _, hJB⟩ ((Gr.ofExt hw').trans hg)⟩
    · exact ⟨_, rfl, B, Ext.refl _, h2 B ⟨hJx n1 _, hJB⟩ ((Gr.ofExt hw').trans hg)⟩
  · rintro e w'' ⟨v, rfl, wb, hx, n1, hn1, (hj | ⟨pre, hp, hj⟩)⟩
    · exact ⟨v, rfl, n1, hn1, .inl (hj.ext hx).at'⟩
    · exact ⟨v, rfl, n1, hn1, .inr ⟨pre, hp, (hj.ext hx).at'⟩⟩
end
end Go.Eng
set_option linter.unusedVariables false
set_option linter.unusedSimpArgs false
namespace Go.Proofs.Ytkgogljfngplnaa
open Go.Eng
set_option maxRecDepth 100000
set_option maxHeartbeats 4000000

/-- rows' blocks from n on -/
def Hi (n : Nat) (us : List Value) : Prop := ∀ i, i < us.length → ∀ q, (us.getD i undef).ownBlock = some q → n ≤ q
structure FR (B n : Nat) (w : World) (v : Value) (us : List Value) (rr : List (List Int)) : Prop where
  om : OM B w v us rr
  hi : Hi n us
theorem OM.ulen {n : Nat} {w : World} {v : Value} {us : List Value} {rr : List (List Int)} (h : OM n w v us rr) : us.length = rr.length := by have := Own.len h.top; omega
theorem FR.gr {S : Nat → Prop} {B n : Nat} {w w' : World} {v : Value} {us : List Value} {rr : List (List Int)} (h : FR B n w v us rr) (hg : Gr S w w') (hv : ∀ k, v.ownBlock = some k → ¬ S k) (hs : ∀ k, n ≤ k → k < w.heap.size → ¬ S k) : FR B n w' v us rr :=
  ⟨⟨Own.gr h.om.top hg hv, fun i hi => Own.gr (h.om.row i hi) hg (fun q hq => hs q (h.hi i (by have := h.om.ulen; omega) q hq) (Own.lt (h.om.row i hi) q hq).2)⟩, h.hi⟩
theorem FR.ext {B n : Nat} {w w' : World} {v : Value} {us : List Value} {rr : List (List Int)} (h : FR B n w v us rr) (hg : Ext w w') : FR B n w' v us rr := ⟨h.om.ext hg, h.hi⟩
theorem FR.nil {B n : Nat} {w : World} : FR B n w (.slice none 0 0) [] [] := ⟨OM.nil, fun _ hi => absurd hi (Nat.not_lt_zero _)⟩
theorem FR.push {B B' n : Nat} {w w' : World} {v v' x : Value} {us : List Value} {rr : List (List Int)} {l : List Int} (h : FR B n w v us rr) (hr : OB n w x l) (hg : Gr (fun k => v.ownBlock = some k) w w') (ho : Go.Eng.Own B' 27 1 w' v' (rr.length + 1) (us ++ [x])) : FR B' n w' v' (us ++ [x]) (rr ++ [l]) := by
  have hl := h.om.ulen
  refine ⟨h.om.push (Own.base hr (Nat.zero_le _)) hg ho, fun i hi q hq => ?_⟩
  by_cases hlt : i < us.length
  · rw [List.getD_eq_getElem?_getD, List.getElem?_append_left hlt, ← List.getD_eq_getElem?_getD] at hq
    exact h.hi i hlt q hq
  · have e : i = us.length := by simp at hi; omega
    subst e
    have e2 : (us ++ [x]).getD us.length undef = x := by simp [List.getD]
    rw [e2] at hq
    exact (Own.lt hr q hq).1
end Go.Proofs.Ytkgogljfngplnaa
