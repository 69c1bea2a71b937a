/- Contract: near's Share. -/
import Derived.Test.YtiahjkhfkbcjhaaNear7
set_option linter.unusedVariables false
set_option linter.unusedSimpArgs false
namespace Go.Proofs.Ytiahjkhfkbcjhaa
open Go.Eng
set_option maxRecDepth 100000
set_option maxHeartbeats 4000000

theorem poor_in {rr : List (List Int)} {a : List Int} {c : Nat} (h : c < (poor rr a).length) : ∃ i : Nat, i < rr.length ∧ isPoor rr a i = true ∧ (poor rr a).getD c 0 = (i : Int) := by
  have hm : (poor rr a).getD c 0 ∈ poor rr a := by rw [List.getD, List.getElem?_eq_getElem h]; exact List.getElem_mem h
  obtain ⟨i, hi, hp, e⟩ := mem_filt.1 hm
  exact ⟨i, hi, hp, e⟩
theorem poor_set {rr : List (List Int)} {a : List Int} {i q : Nat} (hi : i < rr.length) (hq : q < a.length) (h : a.getD q 0 ≠ i) : (i : Int) ∈ poor rr (a.set q i) ↔ ¬ enough rr a i q := by
  unfold poor
  rw [mem_filt]
  have e : isPoor rr (a.set q i) i = true ↔ ¬ enough rr a i q := by
    unfold isPoor enough
    rw [if_pos (by omega), Int.toNat_natCast, wth_gain hq h, decide_eq_true_eq]; omega
  constructor
  · rintro ⟨j, hj, hp, e2⟩
    have : j = i := by omega
    subst this
    exact e.1 hp
  · intro hp
    exact ⟨i, hi, e.2 hp, rfl⟩

theorem nshare_rc {w : World} {gv av : Value} {vs : List Value} {rr : List (List Int)} {a : List Int} (Hg : Mat w gv vs rr) (Ha : Ints w av a) :
    RC Try.prog 42 [.agg #[gv], av] w NoB (fun u w' => ∃ mv xv, u = .tuple #[mv, xv, .int .i64 (vld rr a)] ∧ OT w.heap.size w' mv (shM rr a) ∧ OI w' xv (shX rr a)) := by
  refine RC.mk tyOk Try.func42 rfl (by kernel_rfl) fun w1 E1 => ?_
  replace Hg := Hg.ext E1
  replace Ha := Ha.ext E1
  have EE := Ext.refl w1
  refine Bx.agg fun b2 w2 E2 hb2 Hb _ => ?_
  replace Hg := Hg.ext E2
  replace Ha := Ha.ext E2
  replace EE := EE.ext E2
  repeat' (conv => whnf
           first
           | (refine Dr.quiet tyOk (by kernel_rfl) ?_)
           | (refine Rng.mk (by omega) ?_)
           | (refine Split.pos (by omega) ?_)
           | (refine Split.neg (by omega) ?_)
           | (refine Split.mk (fun h => ?_) (fun h => ?_))
           | (refine Need.mk (by omega) ?_)
           | (refine Ints.ln (by assumption) ?_)
           | (refine Mat.ln (by assumption) ?_)
           | (refine Ints.ln (Mat.row (by assumption) _ (by omega)) ?_)
           | (refine Ints.ix (by assumption) (by omega) ?_)
           | (refine Mat.ix (by assumption) (by omega) ?_)
           | (refine Ints.ix (Mat.row (by assumption) _ (by omega)) (by omega) ?_)
           | (refine Ints.ix (c := 0) (by assumption) (by omega) ?_)
           | (refine Mat.ix (c := 0) (by assumption) (by omega) ?_)
           | (refine Ints.ix (c := 0) (Mat.row (by assumption) _ (by omega)) (by omega) ?_)
           | (refine Ints.ixI (by assumption) (by omega) ?_)
           | (refine Mat.ixI (by assumption) (by omega) ?_)
           | (refine Ints.ixI (Mat.row (by assumption) _ (by omega)) (by omega) ?_)
           | (refine Ints.ld (by assumption) (by omega) ?_)
           | (refine Mat.ld (by assumption) (by omega) ?_)
           | (refine Ints.ld (Mat.row (by assumption) _ (by omega)) (by omega) ?_)
           | (refine At.ld (by assumption) rfl ?_)
           | (refine At.ldN (by assumption) rfl ?_)
           | (refine Prs.ln (by assumption) ?_)
           | (refine Trs.ln (by assumption) ?_)
           | (refine Prs.ix (by assumption) (by omega) ?_)
           | (refine Trs.ix (by assumption) (by omega) ?_)
           | (refine Prs.ldN (by assumption) (by omega) ?_)
           | (refine Trs.ldN (by assumption) (by omega) ?_)
           | (refine At.ldN (Blk.at (by assumption)) rfl ?_)
           | (refine At.ld (Blk.at (by assumption)) rfl ?_)
           | (refine IxA.mk (by omega) ?_)
           | (refine Sl.ln (Own.sl (by assumption)) ?_))
  conv => whnf
  refine VC.rc (gpoor_rc Hg Ha) ?_
  rintro _ w3 E3 ⟨v, rfl, HO⟩
  replace Hg := Hg.ext E3
  replace Ha := Ha.ext E3
  replace EE := EE.ext E3
  replace Hb := Hb.ext E3
  have hla := Ha.le
  by_cases hv : vld rr a = 0
  · have hal := al_of_vld hv
    have hn := hal.n6
    have hlen := hal.len
    have hm10 := hal.m10
    rw [poorR, if_pos hv] at HO
    have HT : Ints _ v _ := Own.sl HO
    have hpl := filt_len (isPoor rr a) rr.length
    have hel : (poor rr a).length ≤ rr.length := hpl
    rw [shM, shX, poorR, if_pos hv]
    repeat' (conv => whnf
             first
             | (refine Dr.quiet tyOk (by kernel_rfl) ?_)
             | (refine Rng.mk (by omega) ?_)
             | (refine Split.pos (by omega) ?_)
             | (refine Split.neg (by omega) ?_)
             | (refine Split.mk (fun h => ?_) (fun h => ?_))
             | (refine Need.mk (by omega) ?_)
             | (refine Ints.ln (by assumption) ?_)
             | (refine Mat.ln (by assumption) ?_)
             | (refine Ints.ln (Mat.row (by assumption) _ (by omega)) ?_)
             | (refine Ints.ix (by assumption) (by omega) ?_)
             | (refine Mat.ix (by assumption) (by omega) ?_)
             | (refine Ints.ix (Mat.row (by assumption) _ (by omega)) (by omega) ?_)
             | (refine Ints.ix (c := 0) (by assumption) (by omega) ?_)
             | (refine Mat.ix (c := 0) (by assumption) (by omega) ?_)
             | (refine Ints.ix (c := 0) (Mat.row (by assumption) _ (by omega)) (by omega) ?_)
             | (refine Ints.ixI (by assumption) (by omega) ?_)
             | (refine Mat.ixI (by assumption) (by omega) ?_)
             | (refine Ints.ixI (Mat.row (by assumption) _ (by omega)) (by omega) ?_)
             | (refine Ints.ld (by assumption) (by omega) ?_)
             | (refine Mat.ld (by assumption) (by omega) ?_)
             | (refine Ints.ld (Mat.row (by assumption) _ (by omega)) (by omega) ?_)
             | (refine At.ld (by assumption) rfl ?_)
             | (refine At.ldN (by assumption) rfl ?_)
             | (refine Prs.ln (by assumption) ?_)
             | (refine Trs.ln (by assumption) ?_)
             | (refine Prs.ix (by assumption) (by omega) ?_)
             | (refine Trs.ix (by assumption) (by omega) ?_)
             | (refine Prs.ldN (by assumption) (by omega) ?_)
             | (refine Trs.ldN (by assumption) (by omega) ?_)
             | (refine At.ldN (Blk.at (by assumption)) rfl ?_)
             | (refine At.ld (Blk.at (by assumption)) rfl ?_)
             | (refine IxA.mk (by omega) ?_)
             | (refine Sl.ln (Own.sl (by assumption)) ?_))
    have Hg__1 := Hg
    have Ha__1 := Ha
    have EE__1 := EE
    have Hb__1 := Hb
    have HT__1 := HT
    have hz1 := Nat.le_trans E1.size EE.size
    refine Lp.mk tyOk [false, false, false, false, true, true, false, false, false, true, true, true, true, true, true, true, false, false, false, false, false, false, false, false, false, false, false, true, true, true, true, true, true, true, true, true, true, true, true, true, true, true, true, true, true, true, true, true, true, true, true, true, true, true, true, true, true, true, true, true, true, true, true, true, true, true, true, true, true, true, true, true] (fun m fr wr => getK fr 4 fun mv => getK fr 5 fun xv => getK fr 27 fun j => ∃ c : Nat, c ≤ (poor rr a).length ∧ m = (poor rr a).length - c ∧ j = .int .i64 (c : Int) ∧ (OT w3.heap.size wr mv (((poor rr a).take c).flatMap (fun x => shMOf rr a x.toNat))) ∧ (Own w3.heap.size 3 1 wr xv (((poor rr a).take c).flatMap (fun x => shXOf rr a x.toNat)).length ((((poor rr a).take c).flatMap (fun x => shXOf rr a x.toNat)).map i64v)) ∧ Ext w3 wr) ((poor rr a).length) ?_ ?_
    · exact ⟨0, Nat.zero_le _, rfl, rfl, Own.nil, Own.nil, Ext.refl _⟩
    · intro m w4 u4 u5 u9 u10 u11 u12 u13 u14 u15 u27 u28 u29 u30 u31 u32 u33 u34 u35 u36 u37 u38 u39 u40 u41 u42 u43 u44 u45 u46 u47 u48 u49 u50 u51 u52 u53 u54 u55 u56 u57 u58 u59 u60 u61 u62 u63 u64 u65 u66 u67 u68 u69 u70 u71 hR
      obtain ⟨c, hc, rfl, rfl, Hm, Hx, EL1⟩ := hR
      replace Hg := Hg__1.ext EL1
      replace Ha := Ha__1.ext EL1
      replace EE := EE__1.ext EL1
      replace Hb := Hb__1.ext EL1
      replace HT := HT__1.ext EL1
      have hml := fm_len (fun x : Int => shMOf_len rr a x.toNat) ((poor rr a).take c)
      have hxl := fm_len (fun x : Int => shXOf_len rr a x.toNat) ((poor rr a).take c)
      rw [List.length_take] at hml hxl
      repeat' (conv => whnf
               first
               | (refine Dr.quiet tyOk (by kernel_rfl) ?_)
               | (refine Rng.mk (by omega) ?_)
               | (refine Split.pos (by omega) ?_)
               | (refine Split.neg (by omega) ?_)
               | (refine Split.mk (fun h => ?_) (fun h => ?_))
               | (refine Need.mk (by omega) ?_)
               | (refine Ints.ln (by assumption) ?_)
               | (refine Mat.ln (by assumption) ?_)
               | (refine Ints.ln (Mat.row (by assumption) _ (by omega)) ?_)
               | (refine Ints.ix (by assumption) (by omega) ?_)
               | (refine Mat.ix (by assumption) (by omega) ?_)
               | (refine Ints.ix (Mat.row (by assumption) _ (by omega)) (by omega) ?_)
               | (refine Ints.ix (c := 0) (by assumption) (by omega) ?_)
               | (refine Mat.ix (c := 0) (by assumption) (by omega) ?_)
               | (refine Ints.ix (c := 0) (Mat.row (by assumption) _ (by omega)) (by omega) ?_)
               | (refine Ints.ixI (by assumption) (by omega) ?_)
               | (refine Mat.ixI (by assumption) (by omega) ?_)
               | (refine Ints.ixI (Mat.row (by assumption) _ (by omega)) (by omega) ?_)
               | (refine Ints.ld (by assumption) (by omega) ?_)
               | (refine Mat.ld (by assumption) (by omega) ?_)
               | (refine Ints.ld (Mat.row (by assumption) _ (by omega)) (by omega) ?_)
               | (refine At.ld (by assumption) rfl ?_)
               | (refine At.ldN (by assumption) rfl ?_)
               | (refine Prs.ln (by assumption) ?_)
               | (refine Trs.ln (by assumption) ?_)
               | (refine Prs.ix (by assumption) (by omega) ?_)
               | (refine Trs.ix (by assumption) (by omega) ?_)
               | (refine Prs.ldN (by assumption) (by omega) ?_)
               | (refine Trs.ldN (by assumption) (by omega) ?_)
               | (refine At.ldN (Blk.at (by assumption)) rfl ?_)
               | (refine At.ld (Blk.at (by assumption)) rfl ?_)
               | (refine IxA.mk (by omega) ?_)
               | (refine Sl.ln (Own.sl (by assumption)) ?_))
      · obtain ⟨i, hi, hp, hpi⟩ := poor_in (rr := rr) (a := a) (c := c) (by omega)
        rw [hpi]
        refine Lp.mk tyOk [false, false, false, false, true, false, false, false, false, false, true, true, true, true, true, true, false, false, false, false, false, false, false, false, false, false, false, false, false, false, false, false, false, true, true, true, true, true, true, true, true, true, true, true, true, true, true, true, true, true, true, true, true, true, true, true, true, true, true, true, true, true, true, true, true, true, true] (fun m fr wr => getK fr 4 fun mv => getK fr 33 fun g => ∃ q : Nat, q ≤ a.length ∧ m = a.length - q ∧ g = .int .i64 (q : Int) ∧ (∀ j, j < q → sP rr a i j = false) ∧ (OT w3.heap.size wr mv (((poor rr a).take c).flatMap (fun x => shMOf rr a x.toNat))) ∧ (Own w3.heap.size 3 1 wr u5 (((poor rr a).take c).flatMap (fun x => shXOf rr a x.toNat)).length ((((poor rr a).take c).flatMap (fun x => shXOf rr a x.toNat)).map i64v)) ∧ Ext w3 wr) (a.length) ?_ ?_
        · exact ⟨0, Nat.zero_le _, rfl, rfl, (by first | exact fun _ hi => absurd hi (Nat.not_lt_zero _) | exact fun _ _ hi => absurd hi (Nat.not_lt_zero _) | assumption | exact Own.nil | omega | simp), Hm, Hx, EL1⟩
        · intro m w5 u4 u10 u11 u12 u13 u14 u15 u33 u34 u35 u36 u37 u38 u39 u40 u41 u42 u43 u44 u45 u46 u47 u48 u49 u50 u51 u52 u53 u54 u55 u56 u57 u58 u59 u60 u61 u62 u63 u64 u65 u66 hR
          obtain ⟨q, hq, rfl, rfl, hq, Hm, Hx, EL1⟩ := hR
          replace Hg := Hg__1.ext EL1
          replace Ha := Ha__1.ext EL1
          replace EE := EE__1.ext EL1
          replace Hb := Hb__1.ext EL1
          replace HT := HT__1.ext EL1
          repeat' (conv => whnf
                   first
                   | (refine Dr.quiet tyOk (by kernel_rfl) ?_)
                   | (refine Rng.mk (by omega) ?_)
                   | (refine Split.pos (by omega) ?_)
                   | (refine Split.neg (by omega) ?_)
                   | (refine Split.mk (fun h => ?_) (fun h => ?_))
                   | (refine Need.mk (by omega) ?_)
                   | (refine Ints.ln (by assumption) ?_)
                   | (refine Mat.ln (by assumption) ?_)
                   | (refine Ints.ln (Mat.row (by assumption) _ (by omega)) ?_)
                   | (refine Ints.ix (by assumption) (by omega) ?_)
                   | (refine Mat.ix (by assumption) (by omega) ?_)
                   | (refine Ints.ix (Mat.row (by assumption) _ (by omega)) (by omega) ?_)
                   | (refine Ints.ix (c := 0) (by assumption) (by omega) ?_)
                   | (refine Mat.ix (c := 0) (by assumption) (by omega) ?_)
                   | (refine Ints.ix (c := 0) (Mat.row (by assumption) _ (by omega)) (by omega) ?_)
                   | (refine Ints.ixI (by assumption) (by omega) ?_)
                   | (refine Mat.ixI (by assumption) (by omega) ?_)
                   | (refine Ints.ixI (Mat.row (by assumption) _ (by omega)) (by omega) ?_)
                   | (refine Ints.ld (by assumption) (by omega) ?_)
                   | (refine Mat.ld (by assumption) (by omega) ?_)
                   | (refine Ints.ld (Mat.row (by assumption) _ (by omega)) (by omega) ?_)
                   | (refine At.ld (by assumption) rfl ?_)
                   | (refine At.ldN (by assumption) rfl ?_)
                   | (refine Prs.ln (by assumption) ?_)
                   | (refine Trs.ln (by assumption) ?_)
                   | (refine Prs.ix (by assumption) (by omega) ?_)
                   | (refine Trs.ix (by assumption) (by omega) ?_)
                   | (refine Prs.ldN (by assumption) (by omega) ?_)
                   | (refine Trs.ldN (by assumption) (by omega) ?_)
                   | (refine At.ldN (Blk.at (by assumption)) rfl ?_)
                   | (refine At.ld (Blk.at (by assumption)) rfl ?_)
                   | (refine IxA.mk (by omega) ?_)
                   | (refine Sl.ln (Own.sl (by assumption)) ?_))
          · refine ⟨_, (by omega : a.length - (q + 1) < a.length - q), rfl, q + 1, by omega, rfl, rfl, all_succ hq (boolF (fun h => (sP_iff.1 h).1 (by omega))), Hm, Hx, EL1⟩
          · have hgo : giveOk rr a q i := ⟨by omega, by omega, by omega, by omega⟩
            have hne : a.getD q 0 ≠ i := by omega
            have eE : giveE rr a q i = 0 := by unfold giveE; rw [if_neg (by omega), if_pos hgo]
            have eR : giveR rr a q i = a.set q i := by unfold giveR; rw [if_pos ⟨hv, hgo⟩, Int.toNat_natCast]
            have hvb : vld rr (a.set q i) = 0 := by have := vld_give hv hgo; rwa [Int.toNat_natCast] at this
            have hps := poor_set (rr := rr) hi (by omega : q < a.length) hne
            conv => whnf
            refine VC.rc (ggive_rc (good := q) (agent := i) Hg Ha) ?_
            rintro _ w6 E6 ⟨bv, rfl, HB⟩
            replace Hg := Hg.ext E6
            replace Ha := Ha.ext E6
            replace EE := EE.ext E6
            replace Hb := Hb.ext E6
            replace HT := HT.ext E6
            replace EL1 := EL1.ext E6
            replace Hm := Hm.ext E6
            replace Hx := Hx.ext E6
            rw [eR] at HB
            rw [eE]
            repeat' (conv => whnf
                     first
                     | (refine Dr.quiet tyOk (by kernel_rfl) ?_)
                     | (refine Rng.mk (by omega) ?_)
                     | (refine Split.pos (by omega) ?_)
                     | (refine Split.neg (by omega) ?_)
                     | (refine Split.mk (fun h => ?_) (fun h => ?_))
                     | (refine Need.mk (by omega) ?_)
                     | (refine Ints.ln (by assumption) ?_)
                     | (refine Mat.ln (by assumption) ?_)
                     | (refine Ints.ln (Mat.row (by assumption) _ (by omega)) ?_)
                     | (refine Ints.ix (by assumption) (by omega) ?_)
                     | (refine Mat.ix (by assumption) (by omega) ?_)
                     | (refine Ints.ix (Mat.row (by assumption) _ (by omega)) (by omega) ?_)
                     | (refine Ints.ix (c := 0) (by assumption) (by omega) ?_)
                     | (refine Mat.ix (c := 0) (by assumption) (by omega) ?_)
                     | (refine Ints.ix (c := 0) (Mat.row (by assumption) _ (by omega)) (by omega) ?_)
                     | (refine Ints.ixI (by assumption) (by omega) ?_)
                     | (refine Mat.ixI (by assumption) (by omega) ?_)
                     | (refine Ints.ixI (Mat.row (by assumption) _ (by omega)) (by omega) ?_)
                     | (refine Ints.ld (by assumption) (by omega) ?_)
                     | (refine Mat.ld (by assumption) (by omega) ?_)
                     | (refine Ints.ld (Mat.row (by assumption) _ (by omega)) (by omega) ?_)
                     | (refine At.ld (by assumption) rfl ?_)
                     | (refine At.ldN (by assumption) rfl ?_)
                     | (refine Prs.ln (by assumption) ?_)
                     | (refine Trs.ln (by assumption) ?_)
                     | (refine Prs.ix (by assumption) (by omega) ?_)
                     | (refine Trs.ix (by assumption) (by omega) ?_)
                     | (refine Prs.ldN (by assumption) (by omega) ?_)
                     | (refine Trs.ldN (by assumption) (by omega) ?_)
                     | (refine At.ldN (Blk.at (by assumption)) rfl ?_)
                     | (refine At.ld (Blk.at (by assumption)) rfl ?_)
                     | (refine IxA.mk (by omega) ?_)
                     | (refine Sl.ln (Own.sl (by assumption)) ?_))
            conv => whnf
            refine VC.rc (gpoor_rc Hg (Own.sl HB)) ?_
            rintro _ w7 E7 ⟨sv, rfl, HS⟩
            replace Hg := Hg.ext E7
            replace Ha := Ha.ext E7
            replace EE := EE.ext E7
            replace Hb := Hb.ext E7
            replace HT := HT.ext E7
            replace EL1 := EL1.ext E7
            replace Hm := Hm.ext E7
            replace Hx := Hx.ext E7
            replace HB := HB.ext E7
            rw [poorR, if_pos hvb] at HS
            rw [hvb]
            have ch := nhas_pc (x := (i : Int)) (Own.sl HS)
            by_cases hen : enough rr a i q
            · rw [tf_f (fun h => hps.1 h hen)] at ch
              have hg : sP rr a i q = true := sP_iff.2 ⟨hne, hen⟩
              have ef : shG rr a i = q := by unfold shG; rw [first_at hq (by omega) hg]
              have hf : 0 ≤ shG rr a i := by omega
              repeat' (conv => whnf
                       first
                       | (refine Dr.quiet tyOk (by kernel_rfl) ?_)
                       | (refine VC.pure ch ?_)
                       | (refine VS.b3 Try.underlying74 eMark (by decide +kernel) ⟨rfl, rfl, rfl⟩ ?_)
                       | (refine Rng.mk (by omega) ?_)
                       | (refine Split.pos (by omega) ?_)
                       | (refine Split.neg (by omega) ?_)
                       | (refine Split.mk (fun h => ?_) (fun h => ?_))
                       | (refine Need.mk (by omega) ?_)
                       | (refine Ints.ln (by assumption) ?_)
                       | (refine Mat.ln (by assumption) ?_)
                       | (refine Ints.ln (Mat.row (by assumption) _ (by omega)) ?_)
                       | (refine Ints.ix (by assumption) (by omega) ?_)
                       | (refine Mat.ix (by assumption) (by omega) ?_)
                       | (refine Ints.ix (Mat.row (by assumption) _ (by omega)) (by omega) ?_)
                       | (refine Ints.ix (c := 0) (by assumption) (by omega) ?_)
                       | (refine Mat.ix (c := 0) (by assumption) (by omega) ?_)
                       | (refine Ints.ix (c := 0) (Mat.row (by assumption) _ (by omega)) (by omega) ?_)
                       | (refine Ints.ixI (by assumption) (by omega) ?_)
                       | (refine Mat.ixI (by assumption) (by omega) ?_)
                       | (refine Ints.ixI (Mat.row (by assumption) _ (by omega)) (by omega) ?_)
                       | (refine Ints.ld (by assumption) (by omega) ?_)
                       | (refine Mat.ld (by assumption) (by omega) ?_)
                       | (refine Ints.ld (Mat.row (by assumption) _ (by omega)) (by omega) ?_)
                       | (refine At.ld (by assumption) rfl ?_)
                       | (refine At.ldN (by assumption) rfl ?_)
                       | (refine Prs.ln (by assumption) ?_)
                       | (refine Trs.ln (by assumption) ?_)
                       | (refine Prs.ix (by assumption) (by omega) ?_)
                       | (refine Trs.ix (by assumption) (by omega) ?_)
                       | (refine Prs.ldN (by assumption) (by omega) ?_)
                       | (refine Trs.ldN (by assumption) (by omega) ?_)
                       | (refine At.ldN (Blk.at (by assumption)) rfl ?_)
                       | (refine At.ld (Blk.at (by assumption)) rfl ?_)
                       | (refine IxA.mk (by omega) ?_)
                       | (refine Sl.ln (Own.sl (by assumption)) ?_))
              refine VE.lit1A Try.underlying58 eMark rfl (by decide) fun lv w8 E8 Hl => ?_
              replace Hg := Hg.ext E8
              replace Ha := Ha.ext E8
              replace EE := EE.ext E8
              replace Hb := Hb.ext E8
              replace HT := HT.ext E8
              replace EL1 := EL1.ext E8
              replace Hm := Hm.ext E8
              replace Hx := Hx.ext E8
              replace HB := HB.ext E8
              replace HS := HS.ext E8
              conv => whnf
              refine VE.app Try.underlying58 eMark rfl (by omega) Hm EL1 rfl Hl (by simp [Value.oneCell']) (by first | omega | (simp only [List.length_map, List.length_range]; omega) | (simp; omega)) (by first | omega | (simp only [List.length_map, List.length_range]; omega) | (simp; omega)) fun v8 w9 E9 G9 H8 => ?_
              replace Hx := Own.gr Hx G9 (fun k hk hS => Own.ne Hm Hx (by decide) k hS hk)
              replace Hg := Hg__1.ext E9
              replace Ha := Ha__1.ext E9
              replace EE := EE__1.ext E9
              replace Hb := Hb__1.ext E9
              replace HT := HT__1.ext E9
              replace EL1 := E9
              repeat' (conv => whnf
                       first
                       | (refine Dr.quiet tyOk (by kernel_rfl) ?_)
                       | (refine Rng.mk (by omega) ?_)
                       | (refine Split.pos (by omega) ?_)
                       | (refine Split.neg (by omega) ?_)
                       | (refine Split.mk (fun h => ?_) (fun h => ?_))
                       | (refine Need.mk (by omega) ?_)
                       | (refine Ints.ln (by assumption) ?_)
                       | (refine Mat.ln (by assumption) ?_)
                       | (refine Ints.ln (Mat.row (by assumption) _ (by omega)) ?_)
                       | (refine Ints.ix (by assumption) (by omega) ?_)
                       | (refine Mat.ix (by assumption) (by omega) ?_)
                       | (refine Ints.ix (Mat.row (by assumption) _ (by omega)) (by omega) ?_)
                       | (refine Ints.ix (c := 0) (by assumption) (by omega) ?_)
                       | (refine Mat.ix (c := 0) (by assumption) (by omega) ?_)
                       | (refine Ints.ix (c := 0) (Mat.row (by assumption) _ (by omega)) (by omega) ?_)
                       | (refine Ints.ixI (by assumption) (by omega) ?_)
                       | (refine Mat.ixI (by assumption) (by omega) ?_)
                       | (refine Ints.ixI (Mat.row (by assumption) _ (by omega)) (by omega) ?_)
                       | (refine Ints.ld (by assumption) (by omega) ?_)
                       | (refine Mat.ld (by assumption) (by omega) ?_)
                       | (refine Ints.ld (Mat.row (by assumption) _ (by omega)) (by omega) ?_)
                       | (refine At.ld (by assumption) rfl ?_)
                       | (refine At.ldN (by assumption) rfl ?_)
                       | (refine Prs.ln (by assumption) ?_)
                       | (refine Trs.ln (by assumption) ?_)
                       | (refine Prs.ix (by assumption) (by omega) ?_)
                       | (refine Trs.ix (by assumption) (by omega) ?_)
                       | (refine Prs.ldN (by assumption) (by omega) ?_)
                       | (refine Trs.ldN (by assumption) (by omega) ?_)
                       | (refine At.ldN (Blk.at (by assumption)) rfl ?_)
                       | (refine At.ld (Blk.at (by assumption)) rfl ?_)
                       | (refine IxA.mk (by omega) ?_)
                       | (refine Sl.ln (Own.sl (by assumption)) ?_))
              refine ⟨_, (by omega : (poor rr a).length - (c + 1) < (poor rr a).length - c), rfl, c + 1, by omega, rfl, rfl, ?_, ?_, EL1⟩
              · rw [fm_snoc (by omega) hpi]
                simp only [shMOf, Int.toNat_natCast, if_pos hf, ef]
                rw [flat3_snoc] at H8
                exact OT.of H8
              · rw [fm_snoc (by omega) hpi]
                simp only [shXOf, Int.toNat_natCast, if_pos hf, List.append_nil]; exact Hx
            · rw [tf_t (hps.2 hen)] at ch
              repeat' (conv => whnf
                       first
                       | (refine Dr.quiet tyOk (by kernel_rfl) ?_)
                       | (refine VC.pure ch ?_)
                       | (refine Rng.mk (by omega) ?_)
                       | (refine Split.pos (by omega) ?_)
                       | (refine Split.neg (by omega) ?_)
                       | (refine Split.mk (fun h => ?_) (fun h => ?_))
                       | (refine Need.mk (by omega) ?_)
                       | (refine Ints.ln (by assumption) ?_)
                       | (refine Mat.ln (by assumption) ?_)
                       | (refine Ints.ln (Mat.row (by assumption) _ (by omega)) ?_)
                       | (refine Ints.ix (by assumption) (by omega) ?_)
                       | (refine Mat.ix (by assumption) (by omega) ?_)
                       | (refine Ints.ix (Mat.row (by assumption) _ (by omega)) (by omega) ?_)
                       | (refine Ints.ix (c := 0) (by assumption) (by omega) ?_)
                       | (refine Mat.ix (c := 0) (by assumption) (by omega) ?_)
                       | (refine Ints.ix (c := 0) (Mat.row (by assumption) _ (by omega)) (by omega) ?_)
                       | (refine Ints.ixI (by assumption) (by omega) ?_)
                       | (refine Mat.ixI (by assumption) (by omega) ?_)
                       | (refine Ints.ixI (Mat.row (by assumption) _ (by omega)) (by omega) ?_)
                       | (refine Ints.ld (by assumption) (by omega) ?_)
                       | (refine Mat.ld (by assumption) (by omega) ?_)
                       | (refine Ints.ld (Mat.row (by assumption) _ (by omega)) (by omega) ?_)
                       | (refine At.ld (by assumption) rfl ?_)
                       | (refine At.ldN (by assumption) rfl ?_)
                       | (refine Prs.ln (by assumption) ?_)
                       | (refine Trs.ln (by assumption) ?_)
                       | (refine Prs.ix (by assumption) (by omega) ?_)
                       | (refine Trs.ix (by assumption) (by omega) ?_)
                       | (refine Prs.ldN (by assumption) (by omega) ?_)
                       | (refine Trs.ldN (by assumption) (by omega) ?_)
                       | (refine At.ldN (Blk.at (by assumption)) rfl ?_)
                       | (refine At.ld (Blk.at (by assumption)) rfl ?_)
                       | (refine IxA.mk (by omega) ?_)
                       | (refine Sl.ln (Own.sl (by assumption)) ?_))
              refine ⟨_, (by omega : a.length - (q + 1) < a.length - q), rfl, q + 1, by omega, rfl, rfl, all_succ hq (boolF (fun h => hen (sP_iff.1 h).2)), Hm, Hx, EL1⟩
          · obtain rfl : q = a.length := by omega
            have hf : ¬ 0 ≤ shG rr a i := by unfold shG; rw [first_no hq]; omega
            repeat' (conv => whnf
                     first
                     | (refine Dr.quiet tyOk (by kernel_rfl) ?_)
                     | (refine Rng.mk (by omega) ?_)
                     | (refine Split.pos (by omega) ?_)
                     | (refine Split.neg (by omega) ?_)
                     | (refine Split.mk (fun h => ?_) (fun h => ?_))
                     | (refine Need.mk (by omega) ?_)
                     | (refine Ints.ln (by assumption) ?_)
                     | (refine Mat.ln (by assumption) ?_)
                     | (refine Ints.ln (Mat.row (by assumption) _ (by omega)) ?_)
                     | (refine Ints.ix (by assumption) (by omega) ?_)
                     | (refine Mat.ix (by assumption) (by omega) ?_)
                     | (refine Ints.ix (Mat.row (by assumption) _ (by omega)) (by omega) ?_)
                     | (refine Ints.ix (c := 0) (by assumption) (by omega) ?_)
                     | (refine Mat.ix (c := 0) (by assumption) (by omega) ?_)
                     | (refine Ints.ix (c := 0) (Mat.row (by assumption) _ (by omega)) (by omega) ?_)
                     | (refine Ints.ixI (by assumption) (by omega) ?_)
                     | (refine Mat.ixI (by assumption) (by omega) ?_)
                     | (refine Ints.ixI (Mat.row (by assumption) _ (by omega)) (by omega) ?_)
                     | (refine Ints.ld (by assumption) (by omega) ?_)
                     | (refine Mat.ld (by assumption) (by omega) ?_)
                     | (refine Ints.ld (Mat.row (by assumption) _ (by omega)) (by omega) ?_)
                     | (refine At.ld (by assumption) rfl ?_)
                     | (refine At.ldN (by assumption) rfl ?_)
                     | (refine Prs.ln (by assumption) ?_)
                     | (refine Trs.ln (by assumption) ?_)
                     | (refine Prs.ix (by assumption) (by omega) ?_)
                     | (refine Trs.ix (by assumption) (by omega) ?_)
                     | (refine Prs.ldN (by assumption) (by omega) ?_)
                     | (refine Trs.ldN (by assumption) (by omega) ?_)
                     | (refine At.ldN (Blk.at (by assumption)) rfl ?_)
                     | (refine At.ld (Blk.at (by assumption)) rfl ?_)
                     | (refine IxA.mk (by omega) ?_)
                     | (refine Sl.ln (Own.sl (by assumption)) ?_))
            refine VE.lit1 Try.underlying25 eInt (rfl) fun lv w10 E10 Hl => ?_
            replace Hg := Hg.ext E10
            replace Ha := Ha.ext E10
            replace EE := EE.ext E10
            replace Hb := Hb.ext E10
            replace HT := HT.ext E10
            replace EL1 := EL1.ext E10
            replace Hm := Hm.ext E10
            replace Hx := Hx.ext E10
            conv => whnf
            refine VE.app Try.underlying25 eInt rfl (by omega) Hx EL1 rfl Hl (by simp [Value.oneCell']) (by first | omega | (simp only [List.length_map, List.length_range]; omega) | (simp; omega)) (by first | omega | (simp only [List.length_map, List.length_range]; omega) | (simp; omega)) fun v8 w11 E11 G11 H8 => ?_
            replace Hm := Own.gr Hm G11 (fun k hk hS => Own.ne Hx Hm (by decide) k hS hk)
            replace Hg := Hg__1.ext E11
            replace Ha := Ha__1.ext E11
            replace EE := EE__1.ext E11
            replace Hb := Hb__1.ext E11
            replace HT := HT__1.ext E11
            replace EL1 := E11
            repeat' (conv => whnf
                     first
                     | (refine Dr.quiet tyOk (by kernel_rfl) ?_)
                     | (refine Rng.mk (by omega) ?_)
                     | (refine Split.pos (by omega) ?_)
                     | (refine Split.neg (by omega) ?_)
                     | (refine Split.mk (fun h => ?_) (fun h => ?_))
                     | (refine Need.mk (by omega) ?_)
                     | (refine Ints.ln (by assumption) ?_)
                     | (refine Mat.ln (by assumption) ?_)
                     | (refine Ints.ln (Mat.row (by assumption) _ (by omega)) ?_)
                     | (refine Ints.ix (by assumption) (by omega) ?_)
                     | (refine Mat.ix (by assumption) (by omega) ?_)
                     | (refine Ints.ix (Mat.row (by assumption) _ (by omega)) (by omega) ?_)
                     | (refine Ints.ix (c := 0) (by assumption) (by omega) ?_)
                     | (refine Mat.ix (c := 0) (by assumption) (by omega) ?_)
                     | (refine Ints.ix (c := 0) (Mat.row (by assumption) _ (by omega)) (by omega) ?_)
                     | (refine Ints.ixI (by assumption) (by omega) ?_)
                     | (refine Mat.ixI (by assumption) (by omega) ?_)
                     | (refine Ints.ixI (Mat.row (by assumption) _ (by omega)) (by omega) ?_)
                     | (refine Ints.ld (by assumption) (by omega) ?_)
                     | (refine Mat.ld (by assumption) (by omega) ?_)
                     | (refine Ints.ld (Mat.row (by assumption) _ (by omega)) (by omega) ?_)
                     | (refine At.ld (by assumption) rfl ?_)
                     | (refine At.ldN (by assumption) rfl ?_)
                     | (refine Prs.ln (by assumption) ?_)
                     | (refine Trs.ln (by assumption) ?_)
                     | (refine Prs.ix (by assumption) (by omega) ?_)
                     | (refine Trs.ix (by assumption) (by omega) ?_)
                     | (refine Prs.ldN (by assumption) (by omega) ?_)
                     | (refine Trs.ldN (by assumption) (by omega) ?_)
                     | (refine At.ldN (Blk.at (by assumption)) rfl ?_)
                     | (refine At.ld (Blk.at (by assumption)) rfl ?_)
                     | (refine IxA.mk (by omega) ?_)
                     | (refine Sl.ln (Own.sl (by assumption)) ?_))
            refine ⟨_, (by omega : (poor rr a).length - (c + 1) < (poor rr a).length - c), rfl, c + 1, by omega, rfl, rfl, ?_, ?_, EL1⟩
            · rw [fm_snoc (by omega) hpi]
              simp only [shMOf, Int.toNat_natCast, if_neg hf, List.append_nil]; exact Hm
            · rw [fm_snoc (by omega) hpi]
              simp only [shXOf, Int.toNat_natCast, if_neg hf, List.map_append, List.length_append]; exact H8
      · obtain rfl : c = (poor rr a).length := by omega
        refine ⟨EE, _, _, by rw [hv], ?_⟩
        rw [List.take_length] at Hm Hx
        exact ⟨Own.base Hm hz1, OI.of Hx⟩
  · repeat' (conv => whnf
             first
             | (refine Dr.quiet tyOk (by kernel_rfl) ?_)
             | (refine Rng.mk (by omega) ?_)
             | (refine Split.pos (by omega) ?_)
             | (refine Split.neg (by omega) ?_)
             | (refine Split.mk (fun h => ?_) (fun h => ?_))
             | (refine Need.mk (by omega) ?_)
             | (refine Ints.ln (by assumption) ?_)
             | (refine Mat.ln (by assumption) ?_)
             | (refine Ints.ln (Mat.row (by assumption) _ (by omega)) ?_)
             | (refine Ints.ix (by assumption) (by omega) ?_)
             | (refine Mat.ix (by assumption) (by omega) ?_)
             | (refine Ints.ix (Mat.row (by assumption) _ (by omega)) (by omega) ?_)
             | (refine Ints.ix (c := 0) (by assumption) (by omega) ?_)
             | (refine Mat.ix (c := 0) (by assumption) (by omega) ?_)
             | (refine Ints.ix (c := 0) (Mat.row (by assumption) _ (by omega)) (by omega) ?_)
             | (refine Ints.ixI (by assumption) (by omega) ?_)
             | (refine Mat.ixI (by assumption) (by omega) ?_)
             | (refine Ints.ixI (Mat.row (by assumption) _ (by omega)) (by omega) ?_)
             | (refine Ints.ld (by assumption) (by omega) ?_)
             | (refine Mat.ld (by assumption) (by omega) ?_)
             | (refine Ints.ld (Mat.row (by assumption) _ (by omega)) (by omega) ?_)
             | (refine At.ld (by assumption) rfl ?_)
             | (refine At.ldN (by assumption) rfl ?_))
    refine ⟨EE, _, _, rfl, ?_⟩
    rw [shM, shX, poorR, if_neg hv]
    exact ⟨Own.nil, Own.nil⟩
end Go.Proofs.Ytiahjkhfkbcjhaa
