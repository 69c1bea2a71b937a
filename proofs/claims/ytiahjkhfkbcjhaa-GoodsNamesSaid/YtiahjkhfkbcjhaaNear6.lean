/- Contract: the reference's Any of layer 17. -/
import Derived.Test.YtiahjkhfkbcjhaaNear5
set_option linter.unusedVariables false
set_option linter.unusedSimpArgs false
namespace Go.Proofs.Ytiahjkhfkbcjhaa
open Go.Eng
set_option maxRecDepth 100000
set_option maxHeartbeats 4000000

theorem hM_false {rr : List (List Int)} {a : List Int} {n m : Nat} (hal : Gd rr n m) {i k : Nat} : hM rr a false i k = markOf rr a false (i, k, moreV rr a i k) := by
  unfold hM
  by_cases h : wth rr a i i < wth rr a i k
  · rw [if_pos h]
  · rw [if_neg h]
    unfold markOf
    rw [if_neg]
    show ¬ 0 ≤ firstG rr a i k (moreV rr a i k) false
    rw [firstG_eq, first_no (fun j _ => boolF (fun hp => by have := (gP_f.1 hp).2; have := hal.val i j; unfold moreV at *; omega))]
    omega

theorem rany_rc {w : World} {gv av : Value} {vs : List Value} {rr : List (List Int)} {a : List Int} (Hg : Mat w gv vs rr) (Ha : Ints w av a) :
    RC Try.prog 41 [.agg #[gv], av] w NoB (fun u w' => ∃ mv, u = .tuple #[mv, .int .i64 (vld rr a)] ∧ OT w.heap.size w' mv (anyM rr a)) := by
  refine RC.mk tyOk Try.func41 rfl (by kernel_rfl) fun w1 E1 => ?_
  replace Hg := Hg.ext E1
  replace Ha := Ha.ext E1
  have EE := Ext.refl w1
  refine Bx.agg fun b2 w2 E2 hb2 Hb _ => ?_
  replace Hg := Hg.ext E2
  replace Ha := Ha.ext E2
  replace EE := EE.ext E2
  have cv := rvalid_pc Hg Ha
  have hla := Ha.le
  by_cases hv : vld rr a = 0
  · have hal := al_of_vld hv
    have hn := hal.n6
    have hm := hal.m10
    have hlen := hal.len
    have hrow := hal.row
    rw [anyM_g hv]
    repeat' (conv => whnf
             first
             | (refine Dr.quiet tyOk (by kernel_rfl) ?_)
             | (refine VC.pure cv ?_)
             | (refine Rng.mk (by omega) ?_)
             | (refine Split.pos (by omega) ?_)
             | (refine Split.neg (by omega) ?_)
             | (refine Split.mk (fun h => ?_) (fun h => ?_))
             | (refine Need.mk (by omega) ?_)
             | (refine Ints.ln (by assumption) ?_)
             | (refine Mat.ln (by assumption) ?_)
             | (refine Ints.ln (Mat.row (by assumption) _ (by omega)) ?_)
             | (refine Ints.ix (by assumption) (by omega) ?_)
             | (refine Mat.ix (by assumption) (by omega) ?_)
             | (refine Ints.ix (Mat.row (by assumption) _ (by omega)) (by omega) ?_)
             | (refine Ints.ix (c := 0) (by assumption) (by omega) ?_)
             | (refine Mat.ix (c := 0) (by assumption) (by omega) ?_)
             | (refine Ints.ix (c := 0) (Mat.row (by assumption) _ (by omega)) (by omega) ?_)
             | (refine Ints.ixI (by assumption) (by omega) ?_)
             | (refine Mat.ixI (by assumption) (by omega) ?_)
             | (refine Ints.ixI (Mat.row (by assumption) _ (by omega)) (by omega) ?_)
             | (refine Ints.ld (by assumption) (by omega) ?_)
             | (refine Mat.ld (by assumption) (by omega) ?_)
             | (refine Ints.ld (Mat.row (by assumption) _ (by omega)) (by omega) ?_)
             | (refine At.ld (by assumption) rfl ?_)
             | (refine At.ldN (by assumption) rfl ?_)
             | (refine Prs.ln (by assumption) ?_)
             | (refine Trs.ln (by assumption) ?_)
             | (refine Prs.ix (by assumption) (by omega) ?_)
             | (refine Trs.ix (by assumption) (by omega) ?_)
             | (refine Prs.ldN (by assumption) (by omega) ?_)
             | (refine Trs.ldN (by assumption) (by omega) ?_)
             | (refine At.ldN (Blk.at (by assumption)) rfl ?_)
             | (refine At.ld (Blk.at (by assumption)) rfl ?_)
             | (refine IxA.mk (by omega) ?_)
             | (refine Sl.ln (Own.sl (by assumption)) ?_))
    have Hg__1 := Hg
    have Ha__1 := Ha
    have EE__1 := EE
    have Hb__1 := Hb
    have hz1 := Nat.le_trans E1.size EE.size
    refine Lp.mk tyOk [false, false, false, false, false, false, true, true, true, true, false, false, false, false, false, false, false, true, true, true, true, true, true, true, true, true, true, true, true, true, true, true, true, true, true, true, true, true, true, true, true, true, true, true, true, true, true, true, true, true, true, true, true, true, true, true, true, true, true, true, true, true, true, true] (fun m fr wr => getK fr 7 fun i => getK fr 6 fun mv => ∃ c : Nat, c ≤ rr.length ∧ m = rr.length - c ∧ i = .int .i64 (c : Int) ∧ (OT w2.heap.size wr mv (gTo (hM rr a false) rr.length c)) ∧ Ext w2 wr) (rr.length) ?_ ?_
    · exact ⟨0, Nat.zero_le _, rfl, rfl, Own.nil, Ext.refl _⟩
    · intro m w3 u6 u7 u8 u9 u17 u18 u19 u20 u21 u22 u23 u24 u25 u26 u27 u28 u29 u30 u31 u32 u33 u34 u35 u36 u37 u38 u39 u40 u41 u42 u43 u44 u45 u46 u47 u48 u49 u50 u51 u52 u53 u54 u55 u56 u57 u58 u59 u60 u61 u62 u63 hR
      obtain ⟨c, hc, rfl, rfl, Hm, EL1⟩ := hR
      replace Hg := Hg__1.ext EL1
      replace Ha := Ha__1.ext EL1
      replace EE := EE__1.ext EL1
      replace Hb := Hb__1.ext EL1
      have hT := gTo_len (n := rr.length) (hM_len rr a false) c
      have hTc := Nat.mul_le_mul hc hn
      repeat' (conv => whnf
               first
               | (refine Dr.quiet tyOk (by kernel_rfl) ?_)
               | (refine Rng.mk (by omega) ?_)
               | (refine Split.pos (by omega) ?_)
               | (refine Split.neg (by omega) ?_)
               | (refine Split.mk (fun h => ?_) (fun h => ?_))
               | (refine Need.mk (by omega) ?_)
               | (refine Ints.ln (by assumption) ?_)
               | (refine Mat.ln (by assumption) ?_)
               | (refine Ints.ln (Mat.row (by assumption) _ (by omega)) ?_)
               | (refine Ints.ix (by assumption) (by omega) ?_)
               | (refine Mat.ix (by assumption) (by omega) ?_)
               | (refine Ints.ix (Mat.row (by assumption) _ (by omega)) (by omega) ?_)
               | (refine Ints.ix (c := 0) (by assumption) (by omega) ?_)
               | (refine Mat.ix (c := 0) (by assumption) (by omega) ?_)
               | (refine Ints.ix (c := 0) (Mat.row (by assumption) _ (by omega)) (by omega) ?_)
               | (refine Ints.ixI (by assumption) (by omega) ?_)
               | (refine Mat.ixI (by assumption) (by omega) ?_)
               | (refine Ints.ixI (Mat.row (by assumption) _ (by omega)) (by omega) ?_)
               | (refine Ints.ld (by assumption) (by omega) ?_)
               | (refine Mat.ld (by assumption) (by omega) ?_)
               | (refine Ints.ld (Mat.row (by assumption) _ (by omega)) (by omega) ?_)
               | (refine At.ld (by assumption) rfl ?_)
               | (refine At.ldN (by assumption) rfl ?_)
               | (refine Prs.ln (by assumption) ?_)
               | (refine Trs.ln (by assumption) ?_)
               | (refine Prs.ix (by assumption) (by omega) ?_)
               | (refine Trs.ix (by assumption) (by omega) ?_)
               | (refine Prs.ldN (by assumption) (by omega) ?_)
               | (refine Trs.ldN (by assumption) (by omega) ?_)
               | (refine At.ldN (Blk.at (by assumption)) rfl ?_)
               | (refine At.ld (Blk.at (by assumption)) rfl ?_)
               | (refine IxA.mk (by omega) ?_)
               | (refine Sl.ln (Own.sl (by assumption)) ?_))
      · refine Lp.mk tyOk [false, false, false, false, false, false, true, false, true, true, false, false, false, false, false, false, false, false, false, false, false, false, false, false, true, true, true, true, true, true, true, true, true, true, true, true, true, true, true, true, true, true, true, true, true, true, true, true, true, true, true, true, true, true, true, true, true, true, true, true, true, true, true, true] (fun m fr wr => getK fr 8 fun k => getK fr 6 fun mv => ∃ d : Nat, d ≤ rr.length ∧ m = rr.length - d ∧ k = .int .i64 (d : Int) ∧ (OT w2.heap.size wr mv (gTo (hM rr a false) rr.length c ++ gRow (hM rr a false) c d)) ∧ Ext w2 wr) (rr.length) ?_ ?_
        · exact ⟨0, Nat.zero_le _, rfl, rfl, by simpa [gRow] using Hm, EL1⟩
        · intro m w4 u6 u8 u9 u24 u25 u26 u27 u28 u29 u30 u31 u32 u33 u34 u35 u36 u37 u38 u39 u40 u41 u42 u43 u44 u45 u46 u47 u48 u49 u50 u51 u52 u53 u54 u55 u56 u57 u58 u59 u60 u61 u62 u63 hR
          obtain ⟨d, hd, rfl, rfl, Hm, EL1⟩ := hR
          replace Hg := Hg__1.ext EL1
          replace Ha := Ha__1.ext EL1
          replace EE := EE__1.ext EL1
          replace Hb := Hb__1.ext EL1
          have hL := gRow_len (hM_len rr a false c) d
          have hLA : (gTo (hM rr a false) rr.length c ++ gRow (hM rr a false) c d).length = (gTo (hM rr a false) rr.length c).length + (gRow (hM rr a false) c d).length := List.length_append
          have eM := hM_false (a := a) hal.toGd (i := c) (k := d)
          repeat' (conv => whnf
                   first
                   | (refine Dr.quiet tyOk (by kernel_rfl) ?_)
                   | (refine Rng.mk (by omega) ?_)
                   | (refine Split.pos (by omega) ?_)
                   | (refine Split.neg (by omega) ?_)
                   | (refine Split.mk (fun h => ?_) (fun h => ?_))
                   | (refine Need.mk (by omega) ?_)
                   | (refine Ints.ln (by assumption) ?_)
                   | (refine Mat.ln (by assumption) ?_)
                   | (refine Ints.ln (Mat.row (by assumption) _ (by omega)) ?_)
                   | (refine Ints.ix (by assumption) (by omega) ?_)
                   | (refine Mat.ix (by assumption) (by omega) ?_)
                   | (refine Ints.ix (Mat.row (by assumption) _ (by omega)) (by omega) ?_)
                   | (refine Ints.ix (c := 0) (by assumption) (by omega) ?_)
                   | (refine Mat.ix (c := 0) (by assumption) (by omega) ?_)
                   | (refine Ints.ix (c := 0) (Mat.row (by assumption) _ (by omega)) (by omega) ?_)
                   | (refine Ints.ixI (by assumption) (by omega) ?_)
                   | (refine Mat.ixI (by assumption) (by omega) ?_)
                   | (refine Ints.ixI (Mat.row (by assumption) _ (by omega)) (by omega) ?_)
                   | (refine Ints.ld (by assumption) (by omega) ?_)
                   | (refine Mat.ld (by assumption) (by omega) ?_)
                   | (refine Ints.ld (Mat.row (by assumption) _ (by omega)) (by omega) ?_)
                   | (refine At.ld (by assumption) rfl ?_)
                   | (refine At.ldN (by assumption) rfl ?_)
                   | (refine Prs.ln (by assumption) ?_)
                   | (refine Trs.ln (by assumption) ?_)
                   | (refine Prs.ix (by assumption) (by omega) ?_)
                   | (refine Trs.ix (by assumption) (by omega) ?_)
                   | (refine Prs.ldN (by assumption) (by omega) ?_)
                   | (refine Trs.ldN (by assumption) (by omega) ?_)
                   | (refine At.ldN (Blk.at (by assumption)) rfl ?_)
                   | (refine At.ld (Blk.at (by assumption)) rfl ?_)
                   | (refine IxA.mk (by omega) ?_)
                   | (refine Sl.ln (Own.sl (by assumption)) ?_))
          · refine Lp.mk tyOk [false, false, false, false, false, false, false, false, false, true, false, false, false, false, false, false, false, false, false, false, false, false, false, false, false, false, false, false, false, false, false, true, true, true, true, true, true, true, true, true, true, true, true, true, true, true, true, true, true, true, true, true, true] (fun m fr wr => getK fr 9 fun g => ∃ q : Nat, q ≤ a.length ∧ m = a.length - q ∧ g = .int .i64 (q : Int) ∧ (∀ j, j < q → gP rr a c d (moreV rr a c d) false j = false) ∧ wr = w4) (a.length) ?_ ?_
            · exact ⟨0, Nat.zero_le _, rfl, rfl, (by first | exact fun _ hi => absurd hi (Nat.not_lt_zero _) | exact fun _ _ hi => absurd hi (Nat.not_lt_zero _) | assumption | exact Own.nil | omega | simp), rfl⟩
            · intro m w5 u9 u31 u32 u33 u34 u35 u36 u37 u38 u39 u40 u41 u42 u43 u44 u45 u46 u47 u48 u49 u50 u51 u52 hR
              obtain ⟨q, hq, rfl, rfl, hq, rfl⟩ := hR
              have hval : (rr.getD c []).getD q 0 = val rr c q := rfl
              have cC := fun (h1 : q < a.length) => content_pc (i := c) (k := d) (good := (q : Int)) Hg Ha hal (by omega) (by omega)
              by_cases hmo : moreV rr a c d ≤ val rr c q
              · have cC2 := fun (h1 : q < a.length) (h2 : a.getD q 0 = d) => (by have := cC h1; rw [tf_t ((content_at h2).2 hmo)] at this; exact this : PC Try.prog _ _ _ (.bool true))
                repeat' (conv => whnf
                         first
                         | (refine Dr.quiet tyOk (by kernel_rfl) ?_)
                         | (refine VC.pure (cC2 (by omega) (by omega)) ?_)
                         | (refine Rng.mk (by omega) ?_)
                         | (refine Split.pos (by omega) ?_)
                         | (refine Split.neg (by omega) ?_)
                         | (refine Split.mk (fun h => ?_) (fun h => ?_))
                         | (refine Need.mk (by omega) ?_)
                         | (refine Ints.ln (by assumption) ?_)
                         | (refine Mat.ln (by assumption) ?_)
                         | (refine Ints.ln (Mat.row (by assumption) _ (by omega)) ?_)
                         | (refine Ints.ix (by assumption) (by omega) ?_)
                         | (refine Mat.ix (by assumption) (by omega) ?_)
                         | (refine Ints.ix (Mat.row (by assumption) _ (by omega)) (by omega) ?_)
                         | (refine Ints.ix (c := 0) (by assumption) (by omega) ?_)
                         | (refine Mat.ix (c := 0) (by assumption) (by omega) ?_)
                         | (refine Ints.ix (c := 0) (Mat.row (by assumption) _ (by omega)) (by omega) ?_)
                         | (refine Ints.ixI (by assumption) (by omega) ?_)
                         | (refine Mat.ixI (by assumption) (by omega) ?_)
                         | (refine Ints.ixI (Mat.row (by assumption) _ (by omega)) (by omega) ?_)
                         | (refine Ints.ld (by assumption) (by omega) ?_)
                         | (refine Mat.ld (by assumption) (by omega) ?_)
                         | (refine Ints.ld (Mat.row (by assumption) _ (by omega)) (by omega) ?_)
                         | (refine At.ld (by assumption) rfl ?_)
                         | (refine At.ldN (by assumption) rfl ?_)
                         | (refine Prs.ln (by assumption) ?_)
                         | (refine Trs.ln (by assumption) ?_)
                         | (refine Prs.ix (by assumption) (by omega) ?_)
                         | (refine Trs.ix (by assumption) (by omega) ?_)
                         | (refine Prs.ldN (by assumption) (by omega) ?_)
                         | (refine Trs.ldN (by assumption) (by omega) ?_)
                         | (refine At.ldN (Blk.at (by assumption)) rfl ?_)
                         | (refine At.ld (Blk.at (by assumption)) rfl ?_)
                         | (refine IxA.mk (by omega) ?_)
                         | (refine Sl.ln (Own.sl (by assumption)) ?_))
                · refine ⟨_, (by omega : a.length - (q + 1) < a.length - q), rfl, q + 1, by omega, rfl, rfl, all_succ hq (boolF (fun h => by have := (gP_f.1 h).2; omega)), rfl⟩
                · refine ⟨_, (by omega : a.length - (q + 1) < a.length - q), rfl, q + 1, by omega, rfl, rfl, all_succ hq (boolF (fun h => by have := (gP_f.1 h).2; omega)), rfl⟩
                · obtain rfl : q = a.length := by omega
                  have hf : ¬ 0 ≤ firstG rr a c d (moreV rr a c d) false := by rw [firstG_eq, first_no hq]; omega
                  repeat' (conv => whnf
                           first
                           | (refine Dr.quiet tyOk (by kernel_rfl) ?_)
                           | (refine Rng.mk (by omega) ?_)
                           | (refine Split.pos (by omega) ?_)
                           | (refine Split.neg (by omega) ?_)
                           | (refine Split.mk (fun h => ?_) (fun h => ?_))
                           | (refine Need.mk (by omega) ?_)
                           | (refine Ints.ln (by assumption) ?_)
                           | (refine Mat.ln (by assumption) ?_)
                           | (refine Ints.ln (Mat.row (by assumption) _ (by omega)) ?_)
                           | (refine Ints.ix (by assumption) (by omega) ?_)
                           | (refine Mat.ix (by assumption) (by omega) ?_)
                           | (refine Ints.ix (Mat.row (by assumption) _ (by omega)) (by omega) ?_)
                           | (refine Ints.ix (c := 0) (by assumption) (by omega) ?_)
                           | (refine Mat.ix (c := 0) (by assumption) (by omega) ?_)
                           | (refine Ints.ix (c := 0) (Mat.row (by assumption) _ (by omega)) (by omega) ?_)
                           | (refine Ints.ixI (by assumption) (by omega) ?_)
                           | (refine Mat.ixI (by assumption) (by omega) ?_)
                           | (refine Ints.ixI (Mat.row (by assumption) _ (by omega)) (by omega) ?_)
                           | (refine Ints.ld (by assumption) (by omega) ?_)
                           | (refine Mat.ld (by assumption) (by omega) ?_)
                           | (refine Ints.ld (Mat.row (by assumption) _ (by omega)) (by omega) ?_)
                           | (refine At.ld (by assumption) rfl ?_)
                           | (refine At.ldN (by assumption) rfl ?_)
                           | (refine Prs.ln (by assumption) ?_)
                           | (refine Trs.ln (by assumption) ?_)
                           | (refine Prs.ix (by assumption) (by omega) ?_)
                           | (refine Trs.ix (by assumption) (by omega) ?_)
                           | (refine Prs.ldN (by assumption) (by omega) ?_)
                           | (refine Trs.ldN (by assumption) (by omega) ?_)
                           | (refine At.ldN (Blk.at (by assumption)) rfl ?_)
                           | (refine At.ld (Blk.at (by assumption)) rfl ?_)
                           | (refine IxA.mk (by omega) ?_)
                           | (refine Sl.ln (Own.sl (by assumption)) ?_))
                  refine ⟨_, (by omega : rr.length - (d + 1) < rr.length - d), rfl, d + 1, by omega, rfl, rfl, ?_, EL1⟩
                  simp only [gRow, eM, markOf, if_neg hf, List.append_nil]; exact Hm
              · have cC2 := fun (h1 : q < a.length) (h2 : a.getD q 0 = d) => (by have := cC h1; rw [tf_f (fun h => hmo ((content_at h2).1 h))] at this; exact this : PC Try.prog _ _ _ (.bool false))
                repeat' (conv => whnf
                         first
                         | (refine Dr.quiet tyOk (by kernel_rfl) ?_)
                         | (refine VC.pure (cC2 (by omega) (by omega)) ?_)
                         | (refine VS.b3 Try.underlying74 eMark (by decide +kernel) ⟨rfl, rfl, rfl⟩ ?_)
                         | (refine Rng.mk (by omega) ?_)
                         | (refine Split.pos (by omega) ?_)
                         | (refine Split.neg (by omega) ?_)
                         | (refine Split.mk (fun h => ?_) (fun h => ?_))
                         | (refine Need.mk (by omega) ?_)
                         | (refine Ints.ln (by assumption) ?_)
                         | (refine Mat.ln (by assumption) ?_)
                         | (refine Ints.ln (Mat.row (by assumption) _ (by omega)) ?_)
                         | (refine Ints.ix (by assumption) (by omega) ?_)
                         | (refine Mat.ix (by assumption) (by omega) ?_)
                         | (refine Ints.ix (Mat.row (by assumption) _ (by omega)) (by omega) ?_)
                         | (refine Ints.ix (c := 0) (by assumption) (by omega) ?_)
                         | (refine Mat.ix (c := 0) (by assumption) (by omega) ?_)
                         | (refine Ints.ix (c := 0) (Mat.row (by assumption) _ (by omega)) (by omega) ?_)
                         | (refine Ints.ixI (by assumption) (by omega) ?_)
                         | (refine Mat.ixI (by assumption) (by omega) ?_)
                         | (refine Ints.ixI (Mat.row (by assumption) _ (by omega)) (by omega) ?_)
                         | (refine Ints.ld (by assumption) (by omega) ?_)
                         | (refine Mat.ld (by assumption) (by omega) ?_)
                         | (refine Ints.ld (Mat.row (by assumption) _ (by omega)) (by omega) ?_)
                         | (refine At.ld (by assumption) rfl ?_)
                         | (refine At.ldN (by assumption) rfl ?_)
                         | (refine Prs.ln (by assumption) ?_)
                         | (refine Trs.ln (by assumption) ?_)
                         | (refine Prs.ix (by assumption) (by omega) ?_)
                         | (refine Trs.ix (by assumption) (by omega) ?_)
                         | (refine Prs.ldN (by assumption) (by omega) ?_)
                         | (refine Trs.ldN (by assumption) (by omega) ?_)
                         | (refine At.ldN (Blk.at (by assumption)) rfl ?_)
                         | (refine At.ld (Blk.at (by assumption)) rfl ?_)
                         | (refine IxA.mk (by omega) ?_)
                         | (refine Sl.ln (Own.sl (by assumption)) ?_))
                · have hg : gP rr a c d (moreV rr a c d) false q = true := gP_f.2 ⟨by omega, by omega⟩
                  have ef : firstG rr a c d (moreV rr a c d) false = q := by rw [firstG_eq, first_at hq (by omega) hg]
                  have hf : 0 ≤ firstG rr a c d (moreV rr a c d) false := by omega
                  refine VE.lit1A Try.underlying58 eMark rfl (by decide) fun lv w6 E6 Hl => ?_
                  replace Hg := Hg.ext E6
                  replace Ha := Ha.ext E6
                  replace EE := EE.ext E6
                  replace Hb := Hb.ext E6
                  replace EL1 := EL1.ext E6
                  replace Hm := Hm.ext E6
                  conv => whnf
                  refine VE.app Try.underlying58 eMark rfl (by omega) Hm EL1 rfl Hl (by simp [Value.oneCell']) (by first | omega | (simp only [List.length_map, List.length_range]; omega) | (simp; omega)) (by first | omega | (simp only [List.length_map, List.length_range]; omega) | (simp; omega)) fun v8 w7 E7 G7 H8 => ?_
                  replace Hg := Hg__1.ext E7
                  replace Ha := Ha__1.ext E7
                  replace EE := EE__1.ext E7
                  replace Hb := Hb__1.ext E7
                  replace EL1 := E7
                  repeat' (conv => whnf
                           first
                           | (refine Dr.quiet tyOk (by kernel_rfl) ?_)
                           | (refine Rng.mk (by omega) ?_)
                           | (refine Split.pos (by omega) ?_)
                           | (refine Split.neg (by omega) ?_)
                           | (refine Split.mk (fun h => ?_) (fun h => ?_))
                           | (refine Need.mk (by omega) ?_)
                           | (refine Ints.ln (by assumption) ?_)
                           | (refine Mat.ln (by assumption) ?_)
                           | (refine Ints.ln (Mat.row (by assumption) _ (by omega)) ?_)
                           | (refine Ints.ix (by assumption) (by omega) ?_)
                           | (refine Mat.ix (by assumption) (by omega) ?_)
                           | (refine Ints.ix (Mat.row (by assumption) _ (by omega)) (by omega) ?_)
                           | (refine Ints.ix (c := 0) (by assumption) (by omega) ?_)
                           | (refine Mat.ix (c := 0) (by assumption) (by omega) ?_)
                           | (refine Ints.ix (c := 0) (Mat.row (by assumption) _ (by omega)) (by omega) ?_)
                           | (refine Ints.ixI (by assumption) (by omega) ?_)
                           | (refine Mat.ixI (by assumption) (by omega) ?_)
                           | (refine Ints.ixI (Mat.row (by assumption) _ (by omega)) (by omega) ?_)
                           | (refine Ints.ld (by assumption) (by omega) ?_)
                           | (refine Mat.ld (by assumption) (by omega) ?_)
                           | (refine Ints.ld (Mat.row (by assumption) _ (by omega)) (by omega) ?_)
                           | (refine At.ld (by assumption) rfl ?_)
                           | (refine At.ldN (by assumption) rfl ?_)
                           | (refine Prs.ln (by assumption) ?_)
                           | (refine Trs.ln (by assumption) ?_)
                           | (refine Prs.ix (by assumption) (by omega) ?_)
                           | (refine Trs.ix (by assumption) (by omega) ?_)
                           | (refine Prs.ldN (by assumption) (by omega) ?_)
                           | (refine Trs.ldN (by assumption) (by omega) ?_)
                           | (refine At.ldN (Blk.at (by assumption)) rfl ?_)
                           | (refine At.ld (Blk.at (by assumption)) rfl ?_)
                           | (refine IxA.mk (by omega) ?_)
                           | (refine Sl.ln (Own.sl (by assumption)) ?_))
                  refine ⟨_, (by omega : rr.length - (d + 1) < rr.length - d), rfl, d + 1, by omega, rfl, rfl, ?_, EL1⟩
                  simp only [gRow, eM, markOf, if_pos hf, ef]
                  rw [flat3_snoc, List.append_assoc] at H8
                  exact OT.of H8
                · refine ⟨_, (by omega : a.length - (q + 1) < a.length - q), rfl, q + 1, by omega, rfl, rfl, all_succ hq (boolF (fun h => by have := (gP_f.1 h).1; omega)), rfl⟩
                · obtain rfl : q = a.length := by omega
                  have hf : ¬ 0 ≤ firstG rr a c d (moreV rr a c d) false := by rw [firstG_eq, first_no hq]; omega
                  repeat' (conv => whnf
                           first
                           | (refine Dr.quiet tyOk (by kernel_rfl) ?_)
                           | (refine Rng.mk (by omega) ?_)
                           | (refine Split.pos (by omega) ?_)
                           | (refine Split.neg (by omega) ?_)
                           | (refine Split.mk (fun h => ?_) (fun h => ?_))
                           | (refine Need.mk (by omega) ?_)
                           | (refine Ints.ln (by assumption) ?_)
                           | (refine Mat.ln (by assumption) ?_)
                           | (refine Ints.ln (Mat.row (by assumption) _ (by omega)) ?_)
                           | (refine Ints.ix (by assumption) (by omega) ?_)
                           | (refine Mat.ix (by assumption) (by omega) ?_)
                           | (refine Ints.ix (Mat.row (by assumption) _ (by omega)) (by omega) ?_)
                           | (refine Ints.ix (c := 0) (by assumption) (by omega) ?_)
                           | (refine Mat.ix (c := 0) (by assumption) (by omega) ?_)
                           | (refine Ints.ix (c := 0) (Mat.row (by assumption) _ (by omega)) (by omega) ?_)
                           | (refine Ints.ixI (by assumption) (by omega) ?_)
                           | (refine Mat.ixI (by assumption) (by omega) ?_)
                           | (refine Ints.ixI (Mat.row (by assumption) _ (by omega)) (by omega) ?_)
                           | (refine Ints.ld (by assumption) (by omega) ?_)
                           | (refine Mat.ld (by assumption) (by omega) ?_)
                           | (refine Ints.ld (Mat.row (by assumption) _ (by omega)) (by omega) ?_)
                           | (refine At.ld (by assumption) rfl ?_)
                           | (refine At.ldN (by assumption) rfl ?_)
                           | (refine Prs.ln (by assumption) ?_)
                           | (refine Trs.ln (by assumption) ?_)
                           | (refine Prs.ix (by assumption) (by omega) ?_)
                           | (refine Trs.ix (by assumption) (by omega) ?_)
                           | (refine Prs.ldN (by assumption) (by omega) ?_)
                           | (refine Trs.ldN (by assumption) (by omega) ?_)
                           | (refine At.ldN (Blk.at (by assumption)) rfl ?_)
                           | (refine At.ld (Blk.at (by assumption)) rfl ?_)
                           | (refine IxA.mk (by omega) ?_)
                           | (refine Sl.ln (Own.sl (by assumption)) ?_))
                  refine ⟨_, (by omega : rr.length - (d + 1) < rr.length - d), rfl, d + 1, by omega, rfl, rfl, ?_, EL1⟩
                  simp only [gRow, eM, markOf, if_neg hf, List.append_nil]; exact Hm
          · obtain rfl : d = rr.length := by omega
            refine ⟨_, (by omega : rr.length - (c + 1) < rr.length - c), rfl, c + 1, by omega, rfl, rfl, ?_, EL1⟩
            exact Hm
      · obtain rfl : c = rr.length := by omega
        refine ⟨EE, _, by rw [hv], ?_⟩
        exact Own.base Hm hz1
  · repeat' (conv => whnf
             first
             | (refine Dr.quiet tyOk (by kernel_rfl) ?_)
             | (refine VC.pure cv ?_)
             | (refine Rng.mk (by omega) ?_)
             | (refine Split.pos (by omega) ?_)
             | (refine Split.neg (by omega) ?_)
             | (refine Split.mk (fun h => ?_) (fun h => ?_))
             | (refine Need.mk (by omega) ?_)
             | (refine Ints.ln (by assumption) ?_)
             | (refine Mat.ln (by assumption) ?_)
             | (refine Ints.ln (Mat.row (by assumption) _ (by omega)) ?_)
             | (refine Ints.ix (by assumption) (by omega) ?_)
             | (refine Mat.ix (by assumption) (by omega) ?_)
             | (refine Ints.ix (Mat.row (by assumption) _ (by omega)) (by omega) ?_)
             | (refine Ints.ix (c := 0) (by assumption) (by omega) ?_)
             | (refine Mat.ix (c := 0) (by assumption) (by omega) ?_)
             | (refine Ints.ix (c := 0) (Mat.row (by assumption) _ (by omega)) (by omega) ?_)
             | (refine Ints.ixI (by assumption) (by omega) ?_)
             | (refine Mat.ixI (by assumption) (by omega) ?_)
             | (refine Ints.ixI (Mat.row (by assumption) _ (by omega)) (by omega) ?_)
             | (refine Ints.ld (by assumption) (by omega) ?_)
             | (refine Mat.ld (by assumption) (by omega) ?_)
             | (refine Ints.ld (Mat.row (by assumption) _ (by omega)) (by omega) ?_)
             | (refine At.ld (by assumption) rfl ?_)
             | (refine At.ldN (by assumption) rfl ?_)
             | (refine Prs.ln (by assumption) ?_)
             | (refine Trs.ln (by assumption) ?_)
             | (refine Prs.ix (by assumption) (by omega) ?_)
             | (refine Trs.ix (by assumption) (by omega) ?_)
             | (refine Prs.ldN (by assumption) (by omega) ?_)
             | (refine Trs.ldN (by assumption) (by omega) ?_)
             | (refine At.ldN (Blk.at (by assumption)) rfl ?_)
             | (refine At.ld (Blk.at (by assumption)) rfl ?_)
             | (refine IxA.mk (by omega) ?_)
             | (refine Sl.ln (Own.sl (by assumption)) ?_))
    refine ⟨EE, _, rfl, ?_⟩
    rw [anyM, evsR, if_neg hv]
    exact Own.nil
end Go.Proofs.Ytiahjkhfkbcjhaa
