/- Contracts: the reference's One and Any of layer 17. -/
import Derived.Test.YtiahjkhfkbcjhaaNear4
set_option linter.unusedVariables false
set_option linter.unusedSimpArgs false
namespace Go.Proofs.Ytiahjkhfkbcjhaa
open Go.Eng
set_option maxRecDepth 100000
set_option maxHeartbeats 4000000

def hM (rr : List (List Int)) (a : List Int) (b : Bool) (i k : Nat) : List T3 := if wth rr a i i < wth rr a i k then markOf rr a b (i, k, moreV rr a i k) else []
def hX (rr : List (List Int)) (a : List Int) (i k : Nat) : List (Int × Int) := if wth rr a i i < wth rr a i k then missOf rr a (i, k, moreV rr a i k) else []
theorem hM_len (rr : List (List Int)) (a : List Int) (b : Bool) (i k : Nat) : (hM rr a b i k).length ≤ 1 := by unfold hM; split <;> simp [markOf_len]
theorem hX_len (rr : List (List Int)) (a : List Int) (i k : Nat) : (hX rr a i k).length ≤ 1 := by unfold hX; split <;> simp [missOf_len]
theorem oneM_g {rr : List (List Int)} {a : List Int} (hv : vld rr a = 0) : oneM rr a = gTo (hM rr a true) rr.length rr.length := by rw [oneM, evsR, if_pos hv, evs_flat]; rfl
theorem anyM_g {rr : List (List Int)} {a : List Int} (hv : vld rr a = 0) : anyM rr a = gTo (hM rr a false) rr.length rr.length := by rw [anyM, evsR, if_pos hv, evs_flat]; rfl
theorem oneX_g {rr : List (List Int)} {a : List Int} (hv : vld rr a = 0) : oneX rr a = gTo (hX rr a) rr.length rr.length := by rw [oneX, evsR, if_pos hv, evs_flat]; rfl
theorem content_at {rr : List (List Int)} {a : List Int} {i k j : Nat} (h : a.getD j 0 = k) : content rr a i k j ↔ moreV rr a i k ≤ val rr i j := by
  unfold content moreV
  rw [if_pos ⟨by omega, by rw [Int.toNat_natCast]; exact h⟩, Int.toNat_natCast]
  omega
theorem content_no {rr : List (List Int)} {a : List Int} {i k : Nat} : content rr a i k (-1) ↔ wth rr a i k ≤ wth rr a i i := by
  unfold content
  rw [if_neg (by omega)]; omega

theorem rone_rc {w : World} {gv av : Value} {vs : List Value} {rr : List (List Int)} {a : List Int} (Hg : Mat w gv vs rr) (Ha : Ints w av a) :
    RC Try.prog 39 [.agg #[gv], av] w NoB (fun u w' => ∃ mv xv, u = .tuple #[mv, xv, .int .i64 (vld rr a)] ∧ OT w.heap.size w' mv (oneM rr a) ∧ OP w.heap.size w' xv (oneX rr a)) := by
  refine RC.mk tyOk Try.func39 rfl (by kernel_rfl) fun w1 E1 => ?_
  replace Hg := Hg.ext E1
  replace Ha := Ha.ext E1
  have EE := Ext.refl w1
  refine Bx.agg fun b2 w2 E2 hb2 Hb _ => ?_
  replace Hg := Hg.ext E2
  replace Ha := Ha.ext E2
  replace EE := EE.ext E2
  have cv := rvalid_pc Hg Ha
  have hla := Ha.le
  by_cases hv : vld rr a = 0
  · have hal := al_of_vld hv
    have hn := hal.n6
    have hm := hal.m10
    have hlen := hal.len
    have hrow := hal.row
    rw [oneM_g hv, oneX_g hv]
    repeat' (conv => whnf
             first
             | (refine Dr.quiet tyOk (by kernel_rfl) ?_)
             | (refine VC.pure cv ?_)
             | (refine Rng.mk (by omega) ?_)
             | (refine Split.pos (by omega) ?_)
             | (refine Split.neg (by omega) ?_)
             | (refine Split.mk (fun h => ?_) (fun h => ?_))
             | (refine Need.mk (by omega) ?_)
             | (refine Ints.ln (by assumption) ?_)
             | (refine Mat.ln (by assumption) ?_)
             | (refine Ints.ln (Mat.row (by assumption) _ (by omega)) ?_)
             | (refine Ints.ix (by assumption) (by omega) ?_)
             | (refine Mat.ix (by assumption) (by omega) ?_)
             | (refine Ints.ix (Mat.row (by assumption) _ (by omega)) (by omega) ?_)
             | (refine Ints.ix (c := 0) (by assumption) (by omega) ?_)
             | (refine Mat.ix (c := 0) (by assumption) (by omega) ?_)
             | (refine Ints.ix (c := 0) (Mat.row (by assumption) _ (by omega)) (by omega) ?_)
             | (refine Ints.ixI (by assumption) (by omega) ?_)
             | (refine Mat.ixI (by assumption) (by omega) ?_)
             | (refine Ints.ixI (Mat.row (by assumption) _ (by omega)) (by omega) ?_)
             | (refine Ints.ld (by assumption) (by omega) ?_)
             | (refine Mat.ld (by assumption) (by omega) ?_)
             | (refine Ints.ld (Mat.row (by assumption) _ (by omega)) (by omega) ?_)
             | (refine At.ld (by assumption) rfl ?_)
             | (refine At.ldN (by assumption) rfl ?_)
             | (refine Prs.ln (by assumption) ?_)
             | (refine Trs.ln (by assumption) ?_)
             | (refine Prs.ix (by assumption) (by omega) ?_)
             | (refine Trs.ix (by assumption) (by omega) ?_)
             | (refine Prs.ldN (by assumption) (by omega) ?_)
             | (refine Trs.ldN (by assumption) (by omega) ?_)
             | (refine At.ldN (Blk.at (by assumption)) rfl ?_)
             | (refine At.ld (Blk.at (by assumption)) rfl ?_)
             | (refine IxA.mk (by omega) ?_)
             | (refine Sl.ln (Own.sl (by assumption)) ?_))
    have Hg__1 := Hg
    have Ha__1 := Ha
    have EE__1 := EE
    have Hb__1 := Hb
    have hz1 := Nat.le_trans E1.size EE.size
    refine Lp.mk tyOk [false, false, false, false, false, false, false, true, true, true, true, true, false, false, false, false, false, false, false, true, true, true, true, true, true, true, true, true, true, true, true, true, true, true, true, true, true, true, true, true, true, true, true, true, true, true, true, true, true, true, true, true, true, true, true, true, true, true, true, true, true, true, true, true, true, true, true, true, true, true, true, true, true, true, true, true, true, true] (fun m fr wr => getK fr 9 fun i => getK fr 7 fun mv => getK fr 8 fun xv => ∃ c : Nat, c ≤ rr.length ∧ m = rr.length - c ∧ i = .int .i64 (c : Int) ∧ (OT w2.heap.size wr mv (gTo (hM rr a true) rr.length c)) ∧ (OP w2.heap.size wr xv (gTo (hX rr a) rr.length c)) ∧ Ext w2 wr) (rr.length) ?_ ?_
    · exact ⟨0, Nat.zero_le _, rfl, rfl, Own.nil, Own.nil, Ext.refl _⟩
    · intro m w3 u7 u8 u9 u10 u11 u19 u20 u21 u22 u23 u24 u25 u26 u27 u28 u29 u30 u31 u32 u33 u34 u35 u36 u37 u38 u39 u40 u41 u42 u43 u44 u45 u46 u47 u48 u49 u50 u51 u52 u53 u54 u55 u56 u57 u58 u59 u60 u61 u62 u63 u64 u65 u66 u67 u68 u69 u70 u71 u72 u73 u74 u75 u76 u77 hR
      obtain ⟨c, hc, rfl, rfl, Hm, Hx, EL1⟩ := hR
      replace Hg := Hg__1.ext EL1
      replace Ha := Ha__1.ext EL1
      replace EE := EE__1.ext EL1
      replace Hb := Hb__1.ext EL1
      have hT := gTo_len (n := rr.length) (hM_len rr a true) c
      have hT2 := gTo_len (n := rr.length) (hX_len rr a) c
      have hTc := Nat.mul_le_mul hc hn
      repeat' (conv => whnf
               first
               | (refine Dr.quiet tyOk (by kernel_rfl) ?_)
               | (refine Rng.mk (by omega) ?_)
               | (refine Split.pos (by omega) ?_)
               | (refine Split.neg (by omega) ?_)
               | (refine Split.mk (fun h => ?_) (fun h => ?_))
               | (refine Need.mk (by omega) ?_)
               | (refine Ints.ln (by assumption) ?_)
               | (refine Mat.ln (by assumption) ?_)
               | (refine Ints.ln (Mat.row (by assumption) _ (by omega)) ?_)
               | (refine Ints.ix (by assumption) (by omega) ?_)
               | (refine Mat.ix (by assumption) (by omega) ?_)
               | (refine Ints.ix (Mat.row (by assumption) _ (by omega)) (by omega) ?_)
               | (refine Ints.ix (c := 0) (by assumption) (by omega) ?_)
               | (refine Mat.ix (c := 0) (by assumption) (by omega) ?_)
               | (refine Ints.ix (c := 0) (Mat.row (by assumption) _ (by omega)) (by omega) ?_)
               | (refine Ints.ixI (by assumption) (by omega) ?_)
               | (refine Mat.ixI (by assumption) (by omega) ?_)
               | (refine Ints.ixI (Mat.row (by assumption) _ (by omega)) (by omega) ?_)
               | (refine Ints.ld (by assumption) (by omega) ?_)
               | (refine Mat.ld (by assumption) (by omega) ?_)
               | (refine Ints.ld (Mat.row (by assumption) _ (by omega)) (by omega) ?_)
               | (refine At.ld (by assumption) rfl ?_)
               | (refine At.ldN (by assumption) rfl ?_)
               | (refine Prs.ln (by assumption) ?_)
               | (refine Trs.ln (by assumption) ?_)
               | (refine Prs.ix (by assumption) (by omega) ?_)
               | (refine Trs.ix (by assumption) (by omega) ?_)
               | (refine Prs.ldN (by assumption) (by omega) ?_)
               | (refine Trs.ldN (by assumption) (by omega) ?_)
               | (refine At.ldN (Blk.at (by assumption)) rfl ?_)
               | (refine At.ld (Blk.at (by assumption)) rfl ?_)
               | (refine IxA.mk (by omega) ?_)
               | (refine Sl.ln (Own.sl (by assumption)) ?_))
      · refine Lp.mk tyOk [false, false, false, false, false, false, false, true, true, false, true, true, false, false, false, false, false, false, false, false, false, false, false, false, false, false, true, true, true, true, true, true, true, true, true, true, true, true, true, true, true, true, true, true, true, true, true, true, true, true, true, true, true, true, true, true, true, true, true, true, true, true, true, true, true, true, true, true, true, true, true, true, true, true, true, true, true, true] (fun m fr wr => getK fr 10 fun k => getK fr 7 fun mv => getK fr 8 fun xv => ∃ d : Nat, d ≤ rr.length ∧ m = rr.length - d ∧ k = .int .i64 (d : Int) ∧ (OT w2.heap.size wr mv (gTo (hM rr a true) rr.length c ++ gRow (hM rr a true) c d)) ∧ (OP w2.heap.size wr xv (gTo (hX rr a) rr.length c ++ gRow (hX rr a) c d)) ∧ Ext w2 wr) (rr.length) ?_ ?_
        · exact ⟨0, Nat.zero_le _, rfl, rfl, by simpa [gRow] using Hm, by simpa [gRow] using Hx, EL1⟩
        · intro m w4 u7 u8 u10 u11 u26 u27 u28 u29 u30 u31 u32 u33 u34 u35 u36 u37 u38 u39 u40 u41 u42 u43 u44 u45 u46 u47 u48 u49 u50 u51 u52 u53 u54 u55 u56 u57 u58 u59 u60 u61 u62 u63 u64 u65 u66 u67 u68 u69 u70 u71 u72 u73 u74 u75 u76 u77 hR
          obtain ⟨d, hd, rfl, rfl, Hm, Hx, EL1⟩ := hR
          replace Hg := Hg__1.ext EL1
          replace Ha := Ha__1.ext EL1
          replace EE := EE__1.ext EL1
          replace Hb := Hb__1.ext EL1
          have hL := gRow_len (hM_len rr a true c) d
          have hL2 := gRow_len (hX_len rr a c) d
          have hLA : (gTo (hM rr a true) rr.length c ++ gRow (hM rr a true) c d).length = (gTo (hM rr a true) rr.length c).length + (gRow (hM rr a true) c d).length := List.length_append
          have hLB : (gTo (hX rr a) rr.length c ++ gRow (hX rr a) c d).length = (gTo (hX rr a) rr.length c).length + (gRow (hX rr a) c d).length := List.length_append
          have cN := fun (h1 : c < rr.length) => content_pc (k := d) (good := -1) Hg Ha hal h1 (by omega)
          by_cases hcn : wth rr a c d ≤ wth rr a c c
          · rw [tf_t (content_no.2 hcn)] at cN
            have eM : hM rr a true c d = [] := by unfold hM; rw [if_neg (by omega)]
            have eX : hX rr a c d = [] := by unfold hX; rw [if_neg (by omega)]
            repeat' (conv => whnf
                     first
                     | (refine Dr.quiet tyOk (by kernel_rfl) ?_)
                     | (refine VC.pure (cN (by omega)) ?_)
                     | (refine Rng.mk (by omega) ?_)
                     | (refine Split.pos (by omega) ?_)
                     | (refine Split.neg (by omega) ?_)
                     | (refine Split.mk (fun h => ?_) (fun h => ?_))
                     | (refine Need.mk (by omega) ?_)
                     | (refine Ints.ln (by assumption) ?_)
                     | (refine Mat.ln (by assumption) ?_)
                     | (refine Ints.ln (Mat.row (by assumption) _ (by omega)) ?_)
                     | (refine Ints.ix (by assumption) (by omega) ?_)
                     | (refine Mat.ix (by assumption) (by omega) ?_)
                     | (refine Ints.ix (Mat.row (by assumption) _ (by omega)) (by omega) ?_)
                     | (refine Ints.ix (c := 0) (by assumption) (by omega) ?_)
                     | (refine Mat.ix (c := 0) (by assumption) (by omega) ?_)
                     | (refine Ints.ix (c := 0) (Mat.row (by assumption) _ (by omega)) (by omega) ?_)
                     | (refine Ints.ixI (by assumption) (by omega) ?_)
                     | (refine Mat.ixI (by assumption) (by omega) ?_)
                     | (refine Ints.ixI (Mat.row (by assumption) _ (by omega)) (by omega) ?_)
                     | (refine Ints.ld (by assumption) (by omega) ?_)
                     | (refine Mat.ld (by assumption) (by omega) ?_)
                     | (refine Ints.ld (Mat.row (by assumption) _ (by omega)) (by omega) ?_)
                     | (refine At.ld (by assumption) rfl ?_)
                     | (refine At.ldN (by assumption) rfl ?_)
                     | (refine Prs.ln (by assumption) ?_)
                     | (refine Trs.ln (by assumption) ?_)
                     | (refine Prs.ix (by assumption) (by omega) ?_)
                     | (refine Trs.ix (by assumption) (by omega) ?_)
                     | (refine Prs.ldN (by assumption) (by omega) ?_)
                     | (refine Trs.ldN (by assumption) (by omega) ?_)
                     | (refine At.ldN (Blk.at (by assumption)) rfl ?_)
                     | (refine At.ld (Blk.at (by assumption)) rfl ?_)
                     | (refine IxA.mk (by omega) ?_)
                     | (refine Sl.ln (Own.sl (by assumption)) ?_))
            · refine ⟨_, (by omega : rr.length - (d + 1) < rr.length - d), rfl, d + 1, by omega, rfl, rfl, ?_, ?_, EL1⟩
              · simpa only [gRow, eM, List.append_nil] using Hm
              · simpa only [gRow, eX, List.append_nil] using Hx
            · obtain rfl : d = rr.length := by omega
              refine ⟨_, (by omega : rr.length - (c + 1) < rr.length - c), rfl, c + 1, by omega, rfl, rfl, ?_, ?_, EL1⟩
              · exact Hm
              · exact Hx
          · rw [tf_f (fun h => hcn (content_no.1 h))] at cN
            have eM : hM rr a true c d = markOf rr a true (c, d, moreV rr a c d) := by unfold hM; rw [if_pos (by omega)]
            have eX : hX rr a c d = missOf rr a (c, d, moreV rr a c d) := by unfold hX; rw [if_pos (by omega)]
            repeat' (conv => whnf
                     first
                     | (refine Dr.quiet tyOk (by kernel_rfl) ?_)
                     | (refine VC.pure (cN (by omega)) ?_)
                     | (refine Rng.mk (by omega) ?_)
                     | (refine Split.pos (by omega) ?_)
                     | (refine Split.neg (by omega) ?_)
                     | (refine Split.mk (fun h => ?_) (fun h => ?_))
                     | (refine Need.mk (by omega) ?_)
                     | (refine Ints.ln (by assumption) ?_)
                     | (refine Mat.ln (by assumption) ?_)
                     | (refine Ints.ln (Mat.row (by assumption) _ (by omega)) ?_)
                     | (refine Ints.ix (by assumption) (by omega) ?_)
                     | (refine Mat.ix (by assumption) (by omega) ?_)
                     | (refine Ints.ix (Mat.row (by assumption) _ (by omega)) (by omega) ?_)
                     | (refine Ints.ix (c := 0) (by assumption) (by omega) ?_)
                     | (refine Mat.ix (c := 0) (by assumption) (by omega) ?_)
                     | (refine Ints.ix (c := 0) (Mat.row (by assumption) _ (by omega)) (by omega) ?_)
                     | (refine Ints.ixI (by assumption) (by omega) ?_)
                     | (refine Mat.ixI (by assumption) (by omega) ?_)
                     | (refine Ints.ixI (Mat.row (by assumption) _ (by omega)) (by omega) ?_)
                     | (refine Ints.ld (by assumption) (by omega) ?_)
                     | (refine Mat.ld (by assumption) (by omega) ?_)
                     | (refine Ints.ld (Mat.row (by assumption) _ (by omega)) (by omega) ?_)
                     | (refine At.ld (by assumption) rfl ?_)
                     | (refine At.ldN (by assumption) rfl ?_)
                     | (refine Prs.ln (by assumption) ?_)
                     | (refine Trs.ln (by assumption) ?_)
                     | (refine Prs.ix (by assumption) (by omega) ?_)
                     | (refine Trs.ix (by assumption) (by omega) ?_)
                     | (refine Prs.ldN (by assumption) (by omega) ?_)
                     | (refine Trs.ldN (by assumption) (by omega) ?_)
                     | (refine At.ldN (Blk.at (by assumption)) rfl ?_)
                     | (refine At.ld (Blk.at (by assumption)) rfl ?_)
                     | (refine IxA.mk (by omega) ?_)
                     | (refine Sl.ln (Own.sl (by assumption)) ?_))
            · refine Lp.mk tyOk [false, false, false, false, false, false, false, false, false, false, false, true, false, false, false, false, false, false, false, false, false, false, false, false, false, false, false, false, false, false, false, false, false, false, false, false, false, false, true, true, true, true, true, true, true, true, true, true, true, true, true, true, true, true, true, true, true, true, true, true, true] (fun m fr wr => getK fr 11 fun g => ∃ q : Nat, q ≤ a.length ∧ m = a.length - q ∧ g = .int .i64 (q : Int) ∧ (∀ j, j < q → gP rr a c d (moreV rr a c d) true j = false) ∧ wr = w4) (a.length) ?_ ?_
              · exact ⟨0, Nat.zero_le _, rfl, rfl, (by first | exact fun _ hi => absurd hi (Nat.not_lt_zero _) | exact fun _ _ hi => absurd hi (Nat.not_lt_zero _) | assumption | exact Own.nil | omega | simp), rfl⟩
              · intro m w5 u11 u38 u39 u40 u41 u42 u43 u44 u45 u46 u47 u48 u49 u50 u51 u52 u53 u54 u55 u56 u57 u58 u59 u60 hR
                obtain ⟨q, hq, rfl, rfl, hq, rfl⟩ := hR
                have hval : (rr.getD c []).getD q 0 = val rr c q := rfl
                have cC := fun (h1 : q < a.length) => content_pc (i := c) (k := d) (good := (q : Int)) Hg Ha hal (by omega) (by omega)
                by_cases hmo : moreV rr a c d ≤ val rr c q
                · have cC2 := fun (h1 : q < a.length) (h2 : a.getD q 0 = d) => (by have := cC h1; rw [tf_t ((content_at h2).2 hmo)] at this; exact this : PC Try.prog _ _ _ (.bool true))
                  repeat' (conv => whnf
                           first
                           | (refine Dr.quiet tyOk (by kernel_rfl) ?_)
                           | (refine VC.pure (cC2 (by omega) (by omega)) ?_)
                           | (refine Rng.mk (by omega) ?_)
                           | (refine Split.pos (by omega) ?_)
                           | (refine Split.neg (by omega) ?_)
                           | (refine Split.mk (fun h => ?_) (fun h => ?_))
                           | (refine Need.mk (by omega) ?_)
                           | (refine Ints.ln (by assumption) ?_)
                           | (refine Mat.ln (by assumption) ?_)
                           | (refine Ints.ln (Mat.row (by assumption) _ (by omega)) ?_)
                           | (refine Ints.ix (by assumption) (by omega) ?_)
                           | (refine Mat.ix (by assumption) (by omega) ?_)
                           | (refine Ints.ix (Mat.row (by assumption) _ (by omega)) (by omega) ?_)
                           | (refine Ints.ix (c := 0) (by assumption) (by omega) ?_)
                           | (refine Mat.ix (c := 0) (by assumption) (by omega) ?_)
                           | (refine Ints.ix (c := 0) (Mat.row (by assumption) _ (by omega)) (by omega) ?_)
                           | (refine Ints.ixI (by assumption) (by omega) ?_)
                           | (refine Mat.ixI (by assumption) (by omega) ?_)
                           | (refine Ints.ixI (Mat.row (by assumption) _ (by omega)) (by omega) ?_)
                           | (refine Ints.ld (by assumption) (by omega) ?_)
                           | (refine Mat.ld (by assumption) (by omega) ?_)
                           | (refine Ints.ld (Mat.row (by assumption) _ (by omega)) (by omega) ?_)
                           | (refine At.ld (by assumption) rfl ?_)
                           | (refine At.ldN (by assumption) rfl ?_)
                           | (refine Prs.ln (by assumption) ?_)
                           | (refine Trs.ln (by assumption) ?_)
                           | (refine Prs.ix (by assumption) (by omega) ?_)
                           | (refine Trs.ix (by assumption) (by omega) ?_)
                           | (refine Prs.ldN (by assumption) (by omega) ?_)
                           | (refine Trs.ldN (by assumption) (by omega) ?_)
                           | (refine At.ldN (Blk.at (by assumption)) rfl ?_)
                           | (refine At.ld (Blk.at (by assumption)) rfl ?_)
                           | (refine IxA.mk (by omega) ?_)
                           | (refine Sl.ln (Own.sl (by assumption)) ?_))
                  · have hg : gP rr a c d (moreV rr a c d) true q = true := gP_t.2 ⟨by omega, hmo⟩
                    have ef : firstG rr a c d (moreV rr a c d) true = q := by rw [firstG_eq, first_at hq (by omega) hg]
                    have hf : 0 ≤ firstG rr a c d (moreV rr a c d) true := by omega
                    repeat' (conv => whnf
                             first
                             | (refine Dr.quiet tyOk (by kernel_rfl) ?_)
                             | (refine VS.b3 Try.underlying74 eMark (by decide +kernel) ⟨rfl, rfl, rfl⟩ ?_)
                             | (refine Rng.mk (by omega) ?_)
                             | (refine Split.pos (by omega) ?_)
                             | (refine Split.neg (by omega) ?_)
                             | (refine Split.mk (fun h => ?_) (fun h => ?_))
                             | (refine Need.mk (by omega) ?_)
                             | (refine Ints.ln (by assumption) ?_)
                             | (refine Mat.ln (by assumption) ?_)
                             | (refine Ints.ln (Mat.row (by assumption) _ (by omega)) ?_)
                             | (refine Ints.ix (by assumption) (by omega) ?_)
                             | (refine Mat.ix (by assumption) (by omega) ?_)
                             | (refine Ints.ix (Mat.row (by assumption) _ (by omega)) (by omega) ?_)
                             | (refine Ints.ix (c := 0) (by assumption) (by omega) ?_)
                             | (refine Mat.ix (c := 0) (by assumption) (by omega) ?_)
                             | (refine Ints.ix (c := 0) (Mat.row (by assumption) _ (by omega)) (by omega) ?_)
                             | (refine Ints.ixI (by assumption) (by omega) ?_)
                             | (refine Mat.ixI (by assumption) (by omega) ?_)
                             | (refine Ints.ixI (Mat.row (by assumption) _ (by omega)) (by omega) ?_)
                             | (refine Ints.ld (by assumption) (by omega) ?_)
                             | (refine Mat.ld (by assumption) (by omega) ?_)
                             | (refine Ints.ld (Mat.row (by assumption) _ (by omega)) (by omega) ?_)
                             | (refine At.ld (by assumption) rfl ?_)
                             | (refine At.ldN (by assumption) rfl ?_)
                             | (refine Prs.ln (by assumption) ?_)
                             | (refine Trs.ln (by assumption) ?_)
                             | (refine Prs.ix (by assumption) (by omega) ?_)
                             | (refine Trs.ix (by assumption) (by omega) ?_)
                             | (refine Prs.ldN (by assumption) (by omega) ?_)
                             | (refine Trs.ldN (by assumption) (by omega) ?_)
                             | (refine At.ldN (Blk.at (by assumption)) rfl ?_)
                             | (refine At.ld (Blk.at (by assumption)) rfl ?_)
                             | (refine IxA.mk (by omega) ?_)
                             | (refine Sl.ln (Own.sl (by assumption)) ?_))
                    refine VE.lit1A Try.underlying58 eMark rfl (by decide) fun lv w6 E6 Hl => ?_
                    replace Hg := Hg.ext E6
                    replace Ha := Ha.ext E6
                    replace EE := EE.ext E6
                    replace Hb := Hb.ext E6
                    replace EL1 := EL1.ext E6
                    replace Hm := Hm.ext E6
                    replace Hx := Hx.ext E6
                    conv => whnf
                    refine VE.app Try.underlying58 eMark rfl (by omega) Hm EL1 rfl Hl (by simp [Value.oneCell']) (by first | omega | (simp only [List.length_map, List.length_range]; omega) | (simp; omega)) (by first | omega | (simp only [List.length_map, List.length_range]; omega) | (simp; omega)) fun v8 w7 E7 G7 H8 => ?_
                    replace Hx := Own.gr Hx G7 (fun k hk hS => Own.ne Hm Hx (by decide) k hS hk)
                    replace Hg := Hg__1.ext E7
                    replace Ha := Ha__1.ext E7
                    replace EE := EE__1.ext E7
                    replace Hb := Hb__1.ext E7
                    replace EL1 := E7
                    repeat' (conv => whnf
                             first
                             | (refine Dr.quiet tyOk (by kernel_rfl) ?_)
                             | (refine Rng.mk (by omega) ?_)
                             | (refine Split.pos (by omega) ?_)
                             | (refine Split.neg (by omega) ?_)
                             | (refine Split.mk (fun h => ?_) (fun h => ?_))
                             | (refine Need.mk (by omega) ?_)
                             | (refine Ints.ln (by assumption) ?_)
                             | (refine Mat.ln (by assumption) ?_)
                             | (refine Ints.ln (Mat.row (by assumption) _ (by omega)) ?_)
                             | (refine Ints.ix (by assumption) (by omega) ?_)
                             | (refine Mat.ix (by assumption) (by omega) ?_)
                             | (refine Ints.ix (Mat.row (by assumption) _ (by omega)) (by omega) ?_)
                             | (refine Ints.ix (c := 0) (by assumption) (by omega) ?_)
                             | (refine Mat.ix (c := 0) (by assumption) (by omega) ?_)
                             | (refine Ints.ix (c := 0) (Mat.row (by assumption) _ (by omega)) (by omega) ?_)
                             | (refine Ints.ixI (by assumption) (by omega) ?_)
                             | (refine Mat.ixI (by assumption) (by omega) ?_)
                             | (refine Ints.ixI (Mat.row (by assumption) _ (by omega)) (by omega) ?_)
                             | (refine Ints.ld (by assumption) (by omega) ?_)
                             | (refine Mat.ld (by assumption) (by omega) ?_)
                             | (refine Ints.ld (Mat.row (by assumption) _ (by omega)) (by omega) ?_)
                             | (refine At.ld (by assumption) rfl ?_)
                             | (refine At.ldN (by assumption) rfl ?_)
                             | (refine Prs.ln (by assumption) ?_)
                             | (refine Trs.ln (by assumption) ?_)
                             | (refine Prs.ix (by assumption) (by omega) ?_)
                             | (refine Trs.ix (by assumption) (by omega) ?_)
                             | (refine Prs.ldN (by assumption) (by omega) ?_)
                             | (refine Trs.ldN (by assumption) (by omega) ?_)
                             | (refine At.ldN (Blk.at (by assumption)) rfl ?_)
                             | (refine At.ld (Blk.at (by assumption)) rfl ?_)
                             | (refine IxA.mk (by omega) ?_)
                             | (refine Sl.ln (Own.sl (by assumption)) ?_))
                    refine ⟨_, (by omega : rr.length - (d + 1) < rr.length - d), rfl, d + 1, by omega, rfl, rfl, ?_, ?_, EL1⟩
                    · simp only [gRow, eM, markOf, if_pos hf, ef]
                      rw [flat3_snoc, List.append_assoc] at H8
                      exact OT.of H8
                    · simp only [gRow, eX, missOf, if_pos hf, List.append_nil]; exact Hx
                  · refine ⟨_, (by omega : a.length - (q + 1) < a.length - q), rfl, q + 1, by omega, rfl, rfl, all_succ hq (boolF (fun h => by have := (gP_t.1 h).1; omega)), rfl⟩
                  · obtain rfl : q = a.length := by omega
                    have hf : ¬ 0 ≤ firstG rr a c d (moreV rr a c d) true := by rw [firstG_eq, first_no hq]; omega
                    repeat' (conv => whnf
                             first
                             | (refine Dr.quiet tyOk (by kernel_rfl) ?_)
                             | (refine VS.arr2 Try.underlying51 ePair cells3 ?_)
                             | (refine Rng.mk (by omega) ?_)
                             | (refine Split.pos (by omega) ?_)
                             | (refine Split.neg (by omega) ?_)
                             | (refine Split.mk (fun h => ?_) (fun h => ?_))
                             | (refine Need.mk (by omega) ?_)
                             | (refine Ints.ln (by assumption) ?_)
                             | (refine Mat.ln (by assumption) ?_)
                             | (refine Ints.ln (Mat.row (by assumption) _ (by omega)) ?_)
                             | (refine Ints.ix (by assumption) (by omega) ?_)
                             | (refine Mat.ix (by assumption) (by omega) ?_)
                             | (refine Ints.ix (Mat.row (by assumption) _ (by omega)) (by omega) ?_)
                             | (refine Ints.ix (c := 0) (by assumption) (by omega) ?_)
                             | (refine Mat.ix (c := 0) (by assumption) (by omega) ?_)
                             | (refine Ints.ix (c := 0) (Mat.row (by assumption) _ (by omega)) (by omega) ?_)
                             | (refine Ints.ixI (by assumption) (by omega) ?_)
                             | (refine Mat.ixI (by assumption) (by omega) ?_)
                             | (refine Ints.ixI (Mat.row (by assumption) _ (by omega)) (by omega) ?_)
                             | (refine Ints.ld (by assumption) (by omega) ?_)
                             | (refine Mat.ld (by assumption) (by omega) ?_)
                             | (refine Ints.ld (Mat.row (by assumption) _ (by omega)) (by omega) ?_)
                             | (refine At.ld (by assumption) rfl ?_)
                             | (refine At.ldN (by assumption) rfl ?_)
                             | (refine Prs.ln (by assumption) ?_)
                             | (refine Trs.ln (by assumption) ?_)
                             | (refine Prs.ix (by assumption) (by omega) ?_)
                             | (refine Trs.ix (by assumption) (by omega) ?_)
                             | (refine Prs.ldN (by assumption) (by omega) ?_)
                             | (refine Trs.ldN (by assumption) (by omega) ?_)
                             | (refine At.ldN (Blk.at (by assumption)) rfl ?_)
                             | (refine At.ld (Blk.at (by assumption)) rfl ?_)
                             | (refine IxA.mk (by omega) ?_)
                             | (refine Sl.ln (Own.sl (by assumption)) ?_))
                    refine VE.lit1A Try.underlying33 ePair rfl (by decide) fun lv w8 E8 Hl => ?_
                    replace Hg := Hg.ext E8
                    replace Ha := Ha.ext E8
                    replace EE := EE.ext E8
                    replace Hb := Hb.ext E8
                    replace EL1 := EL1.ext E8
                    replace Hm := Hm.ext E8
                    replace Hx := Hx.ext E8
                    conv => whnf
                    refine VE.app Try.underlying33 ePair rfl (by omega) Hx EL1 rfl Hl (by simp [Value.oneCell']) (by first | omega | (simp only [List.length_map, List.length_range]; omega) | (simp; omega)) (by first | omega | (simp only [List.length_map, List.length_range]; omega) | (simp; omega)) fun v8 w9 E9 G9 H8 => ?_
                    replace Hm := Own.gr Hm G9 (fun k hk hS => Own.ne Hx Hm (by decide) k hS hk)
                    replace Hg := Hg__1.ext E9
                    replace Ha := Ha__1.ext E9
                    replace EE := EE__1.ext E9
                    replace Hb := Hb__1.ext E9
                    replace EL1 := E9
                    repeat' (conv => whnf
                             first
                             | (refine Dr.quiet tyOk (by kernel_rfl) ?_)
                             | (refine Rng.mk (by omega) ?_)
                             | (refine Split.pos (by omega) ?_)
                             | (refine Split.neg (by omega) ?_)
                             | (refine Split.mk (fun h => ?_) (fun h => ?_))
                             | (refine Need.mk (by omega) ?_)
                             | (refine Ints.ln (by assumption) ?_)
                             | (refine Mat.ln (by assumption) ?_)
                             | (refine Ints.ln (Mat.row (by assumption) _ (by omega)) ?_)
                             | (refine Ints.ix (by assumption) (by omega) ?_)
                             | (refine Mat.ix (by assumption) (by omega) ?_)
                             | (refine Ints.ix (Mat.row (by assumption) _ (by omega)) (by omega) ?_)
                             | (refine Ints.ix (c := 0) (by assumption) (by omega) ?_)
                             | (refine Mat.ix (c := 0) (by assumption) (by omega) ?_)
                             | (refine Ints.ix (c := 0) (Mat.row (by assumption) _ (by omega)) (by omega) ?_)
                             | (refine Ints.ixI (by assumption) (by omega) ?_)
                             | (refine Mat.ixI (by assumption) (by omega) ?_)
                             | (refine Ints.ixI (Mat.row (by assumption) _ (by omega)) (by omega) ?_)
                             | (refine Ints.ld (by assumption) (by omega) ?_)
                             | (refine Mat.ld (by assumption) (by omega) ?_)
                             | (refine Ints.ld (Mat.row (by assumption) _ (by omega)) (by omega) ?_)
                             | (refine At.ld (by assumption) rfl ?_)
                             | (refine At.ldN (by assumption) rfl ?_)
                             | (refine Prs.ln (by assumption) ?_)
                             | (refine Trs.ln (by assumption) ?_)
                             | (refine Prs.ix (by assumption) (by omega) ?_)
                             | (refine Trs.ix (by assumption) (by omega) ?_)
                             | (refine Prs.ldN (by assumption) (by omega) ?_)
                             | (refine Trs.ldN (by assumption) (by omega) ?_)
                             | (refine At.ldN (Blk.at (by assumption)) rfl ?_)
                             | (refine At.ld (Blk.at (by assumption)) rfl ?_)
                             | (refine IxA.mk (by omega) ?_)
                             | (refine Sl.ln (Own.sl (by assumption)) ?_))
                    refine ⟨_, (by omega : rr.length - (d + 1) < rr.length - d), rfl, d + 1, by omega, rfl, rfl, ?_, ?_, EL1⟩
                    · simp only [gRow, eM, markOf, if_neg hf, List.append_nil]; exact Hm
                    · simp only [gRow, eX, missOf, if_neg hf]
                      rw [flatP_snoc, List.append_assoc] at H8
                      exact OP.of H8
                · have cC2 := fun (h1 : q < a.length) (h2 : a.getD q 0 = d) => (by have := cC h1; rw [tf_f (fun h => hmo ((content_at h2).1 h))] at this; exact this : PC Try.prog _ _ _ (.bool false))
                  repeat' (conv => whnf
                           first
                           | (refine Dr.quiet tyOk (by kernel_rfl) ?_)
                           | (refine VC.pure (cC2 (by omega) (by omega)) ?_)
                           | (refine Rng.mk (by omega) ?_)
                           | (refine Split.pos (by omega) ?_)
                           | (refine Split.neg (by omega) ?_)
                           | (refine Split.mk (fun h => ?_) (fun h => ?_))
                           | (refine Need.mk (by omega) ?_)
                           | (refine Ints.ln (by assumption) ?_)
                           | (refine Mat.ln (by assumption) ?_)
                           | (refine Ints.ln (Mat.row (by assumption) _ (by omega)) ?_)
                           | (refine Ints.ix (by assumption) (by omega) ?_)
                           | (refine Mat.ix (by assumption) (by omega) ?_)
                           | (refine Ints.ix (Mat.row (by assumption) _ (by omega)) (by omega) ?_)
                           | (refine Ints.ix (c := 0) (by assumption) (by omega) ?_)
                           | (refine Mat.ix (c := 0) (by assumption) (by omega) ?_)
                           | (refine Ints.ix (c := 0) (Mat.row (by assumption) _ (by omega)) (by omega) ?_)
                           | (refine Ints.ixI (by assumption) (by omega) ?_)
                           | (refine Mat.ixI (by assumption) (by omega) ?_)
                           | (refine Ints.ixI (Mat.row (by assumption) _ (by omega)) (by omega) ?_)
                           | (refine Ints.ld (by assumption) (by omega) ?_)
                           | (refine Mat.ld (by assumption) (by omega) ?_)
                           | (refine Ints.ld (Mat.row (by assumption) _ (by omega)) (by omega) ?_)
                           | (refine At.ld (by assumption) rfl ?_)
                           | (refine At.ldN (by assumption) rfl ?_)
                           | (refine Prs.ln (by assumption) ?_)
                           | (refine Trs.ln (by assumption) ?_)
                           | (refine Prs.ix (by assumption) (by omega) ?_)
                           | (refine Trs.ix (by assumption) (by omega) ?_)
                           | (refine Prs.ldN (by assumption) (by omega) ?_)
                           | (refine Trs.ldN (by assumption) (by omega) ?_)
                           | (refine At.ldN (Blk.at (by assumption)) rfl ?_)
                           | (refine At.ld (Blk.at (by assumption)) rfl ?_)
                           | (refine IxA.mk (by omega) ?_)
                           | (refine Sl.ln (Own.sl (by assumption)) ?_))
                  · refine ⟨_, (by omega : a.length - (q + 1) < a.length - q), rfl, q + 1, by omega, rfl, rfl, all_succ hq (boolF (fun h => hmo (gP_t.1 h).2)), rfl⟩
                  · refine ⟨_, (by omega : a.length - (q + 1) < a.length - q), rfl, q + 1, by omega, rfl, rfl, all_succ hq (boolF (fun h => hmo (gP_t.1 h).2)), rfl⟩
                  · obtain rfl : q = a.length := by omega
                    have hf : ¬ 0 ≤ firstG rr a c d (moreV rr a c d) true := by rw [firstG_eq, first_no hq]; omega
                    repeat' (conv => whnf
                             first
                             | (refine Dr.quiet tyOk (by kernel_rfl) ?_)
                             | (refine VS.arr2 Try.underlying51 ePair cells3 ?_)
                             | (refine Rng.mk (by omega) ?_)
                             | (refine Split.pos (by omega) ?_)
                             | (refine Split.neg (by omega) ?_)
                             | (refine Split.mk (fun h => ?_) (fun h => ?_))
                             | (refine Need.mk (by omega) ?_)
                             | (refine Ints.ln (by assumption) ?_)
                             | (refine Mat.ln (by assumption) ?_)
                             | (refine Ints.ln (Mat.row (by assumption) _ (by omega)) ?_)
                             | (refine Ints.ix (by assumption) (by omega) ?_)
                             | (refine Mat.ix (by assumption) (by omega) ?_)
                             | (refine Ints.ix (Mat.row (by assumption) _ (by omega)) (by omega) ?_)
                             | (refine Ints.ix (c := 0) (by assumption) (by omega) ?_)
                             | (refine Mat.ix (c := 0) (by assumption) (by omega) ?_)
                             | (refine Ints.ix (c := 0) (Mat.row (by assumption) _ (by omega)) (by omega) ?_)
                             | (refine Ints.ixI (by assumption) (by omega) ?_)
                             | (refine Mat.ixI (by assumption) (by omega) ?_)
                             | (refine Ints.ixI (Mat.row (by assumption) _ (by omega)) (by omega) ?_)
                             | (refine Ints.ld (by assumption) (by omega) ?_)
                             | (refine Mat.ld (by assumption) (by omega) ?_)
                             | (refine Ints.ld (Mat.row (by assumption) _ (by omega)) (by omega) ?_)
                             | (refine At.ld (by assumption) rfl ?_)
                             | (refine At.ldN (by assumption) rfl ?_)
                             | (refine Prs.ln (by assumption) ?_)
                             | (refine Trs.ln (by assumption) ?_)
                             | (refine Prs.ix (by assumption) (by omega) ?_)
                             | (refine Trs.ix (by assumption) (by omega) ?_)
                             | (refine Prs.ldN (by assumption) (by omega) ?_)
                             | (refine Trs.ldN (by assumption) (by omega) ?_)
                             | (refine At.ldN (Blk.at (by assumption)) rfl ?_)
                             | (refine At.ld (Blk.at (by assumption)) rfl ?_)
                             | (refine IxA.mk (by omega) ?_)
                             | (refine Sl.ln (Own.sl (by assumption)) ?_))
                    refine VE.lit1A Try.underlying33 ePair rfl (by decide) fun lv w10 E10 Hl => ?_
                    replace Hg := Hg.ext E10
                    replace Ha := Ha.ext E10
                    replace EE := EE.ext E10
                    replace Hb := Hb.ext E10
                    replace EL1 := EL1.ext E10
                    replace Hm := Hm.ext E10
                    replace Hx := Hx.ext E10
                    conv => whnf
                    refine VE.app Try.underlying33 ePair rfl (by omega) Hx EL1 rfl Hl (by simp [Value.oneCell']) (by first | omega | (simp only [List.length_map, List.length_range]; omega) | (simp; omega)) (by first | omega | (simp only [List.length_map, List.length_range]; omega) | (simp; omega)) fun v8 w11 E11 G11 H8 => ?_
                    replace Hm := Own.gr Hm G11 (fun k hk hS => Own.ne Hx Hm (by decide) k hS hk)
                    replace Hg := Hg__1.ext E11
                    replace Ha := Ha__1.ext E11
                    replace EE := EE__1.ext E11
                    replace Hb := Hb__1.ext E11
                    replace EL1 := E11
                    repeat' (conv => whnf
                             first
                             | (refine Dr.quiet tyOk (by kernel_rfl) ?_)
                             | (refine Rng.mk (by omega) ?_)
                             | (refine Split.pos (by omega) ?_)
                             | (refine Split.neg (by omega) ?_)
                             | (refine Split.mk (fun h => ?_) (fun h => ?_))
                             | (refine Need.mk (by omega) ?_)
                             | (refine Ints.ln (by assumption) ?_)
                             | (refine Mat.ln (by assumption) ?_)
                             | (refine Ints.ln (Mat.row (by assumption) _ (by omega)) ?_)
                             | (refine Ints.ix (by assumption) (by omega) ?_)
                             | (refine Mat.ix (by assumption) (by omega) ?_)
                             | (refine Ints.ix (Mat.row (by assumption) _ (by omega)) (by omega) ?_)
                             | (refine Ints.ix (c := 0) (by assumption) (by omega) ?_)
                             | (refine Mat.ix (c := 0) (by assumption) (by omega) ?_)
                             | (refine Ints.ix (c := 0) (Mat.row (by assumption) _ (by omega)) (by omega) ?_)
                             | (refine Ints.ixI (by assumption) (by omega) ?_)
                             | (refine Mat.ixI (by assumption) (by omega) ?_)
                             | (refine Ints.ixI (Mat.row (by assumption) _ (by omega)) (by omega) ?_)
                             | (refine Ints.ld (by assumption) (by omega) ?_)
                             | (refine Mat.ld (by assumption) (by omega) ?_)
                             | (refine Ints.ld (Mat.row (by assumption) _ (by omega)) (by omega) ?_)
                             | (refine At.ld (by assumption) rfl ?_)
                             | (refine At.ldN (by assumption) rfl ?_)
                             | (refine Prs.ln (by assumption) ?_)
                             | (refine Trs.ln (by assumption) ?_)
                             | (refine Prs.ix (by assumption) (by omega) ?_)
                             | (refine Trs.ix (by assumption) (by omega) ?_)
                             | (refine Prs.ldN (by assumption) (by omega) ?_)
                             | (refine Trs.ldN (by assumption) (by omega) ?_)
                             | (refine At.ldN (Blk.at (by assumption)) rfl ?_)
                             | (refine At.ld (Blk.at (by assumption)) rfl ?_)
                             | (refine IxA.mk (by omega) ?_)
                             | (refine Sl.ln (Own.sl (by assumption)) ?_))
                    refine ⟨_, (by omega : rr.length - (d + 1) < rr.length - d), rfl, d + 1, by omega, rfl, rfl, ?_, ?_, EL1⟩
                    · simp only [gRow, eM, markOf, if_neg hf, List.append_nil]; exact Hm
                    · simp only [gRow, eX, missOf, if_neg hf]
                      rw [flatP_snoc, List.append_assoc] at H8
                      exact OP.of H8
            · obtain rfl : d = rr.length := by omega
              refine ⟨_, (by omega : rr.length - (c + 1) < rr.length - c), rfl, c + 1, by omega, rfl, rfl, ?_, ?_, EL1⟩
              · exact Hm
              · exact Hx
      · obtain rfl : c = rr.length := by omega
        refine ⟨EE, _, _, by rw [hv], ?_⟩
        exact ⟨Own.base Hm hz1, Own.base Hx hz1⟩
  · repeat' (conv => whnf
             first
             | (refine Dr.quiet tyOk (by kernel_rfl) ?_)
             | (refine VC.pure cv ?_)
             | (refine Rng.mk (by omega) ?_)
             | (refine Split.pos (by omega) ?_)
             | (refine Split.neg (by omega) ?_)
             | (refine Split.mk (fun h => ?_) (fun h => ?_))
             | (refine Need.mk (by omega) ?_)
             | (refine Ints.ln (by assumption) ?_)
             | (refine Mat.ln (by assumption) ?_)
             | (refine Ints.ln (Mat.row (by assumption) _ (by omega)) ?_)
             | (refine Ints.ix (by assumption) (by omega) ?_)
             | (refine Mat.ix (by assumption) (by omega) ?_)
             | (refine Ints.ix (Mat.row (by assumption) _ (by omega)) (by omega) ?_)
             | (refine Ints.ix (c := 0) (by assumption) (by omega) ?_)
             | (refine Mat.ix (c := 0) (by assumption) (by omega) ?_)
             | (refine Ints.ix (c := 0) (Mat.row (by assumption) _ (by omega)) (by omega) ?_)
             | (refine Ints.ixI (by assumption) (by omega) ?_)
             | (refine Mat.ixI (by assumption) (by omega) ?_)
             | (refine Ints.ixI (Mat.row (by assumption) _ (by omega)) (by omega) ?_)
             | (refine Ints.ld (by assumption) (by omega) ?_)
             | (refine Mat.ld (by assumption) (by omega) ?_)
             | (refine Ints.ld (Mat.row (by assumption) _ (by omega)) (by omega) ?_)
             | (refine At.ld (by assumption) rfl ?_)
             | (refine At.ldN (by assumption) rfl ?_)
             | (refine Prs.ln (by assumption) ?_)
             | (refine Trs.ln (by assumption) ?_)
             | (refine Prs.ix (by assumption) (by omega) ?_)
             | (refine Trs.ix (by assumption) (by omega) ?_)
             | (refine Prs.ldN (by assumption) (by omega) ?_)
             | (refine Trs.ldN (by assumption) (by omega) ?_)
             | (refine At.ldN (Blk.at (by assumption)) rfl ?_)
             | (refine At.ld (Blk.at (by assumption)) rfl ?_)
             | (refine IxA.mk (by omega) ?_)
             | (refine Sl.ln (Own.sl (by assumption)) ?_))
    refine ⟨EE, _, _, rfl, ?_⟩
    rw [oneM, oneX, evsR, if_neg hv]
    exact ⟨Own.nil, Own.nil⟩
end Go.Proofs.Ytiahjkhfkbcjhaa
