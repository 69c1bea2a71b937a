/- The statement StripFirst. -/
import Derived.Test.YtclbiabiiknolaaJ4
import Derived.Test.YtclbiabiiknolaaRows
set_option linter.unusedVariables false
set_option linter.unusedSimpArgs false
namespace Go.Proofs.Ytclbiabiiknolaa
open Go.Eng
set_option maxRecDepth 100000
set_option maxHeartbeats 4000000

theorem lexlt_at3 : ∀ {a b : List Int} {k : Nat}, k < a.length → k < b.length → (∀ i, i < k → a.getD i 0 = b.getD i 0) → a.getD k 0 < b.getD k 0 → lexlt a b
  | [], _, _, h, _, _, _ => absurd h (by simp)
  | _ :: _, [], _, _, h, _, _ => absurd h (by simp)
  | x :: a, y :: b, 0, _, _, _, h => .inl h
  | x :: a, y :: b, k + 1, h1, h2, h3, h4 => .inr ⟨h3 0 (by omega), lexlt_at3 (k := k) (by simpa using h1) (by simpa using h2) (fun i hi => h3 (i + 1) (by omega)) h4⟩
theorem stripfirst_pc {w : World} {vv av : Value} {vs : List Value} {rr : List (List Int)} {a : List Int} (Hv : Mat w vv vs rr) (Ha : Ints w av a) : PC Try.prog 8 [vv, av] w (.bool true) := by
  refine PC.mk tyOk Try.func8 rfl (by kernel_rfl) fun w1 E1 => ?_
  replace Hv := Hv.ext E1
  replace Ha := Ha.ext E1
  have EE := Ext.refl w1
  have cc := rsk_pc Hv
  by_cases hE : skE rr = 0
  · obtain ⟨mm, hmm⟩ : ∃ mm, mm = (rr.getD 0 []).length := ⟨_, rfl⟩
    have hk := sd_of hE
    rw [← hmm] at hk
    have hm0 := hk.m0
    have hm16 := hk.m16
    have cd := rdiv_pc Hv Ha hk
    rw [hE] at cc
    by_cases hd : divn rr a
    · rw [tf_t hd] at cd
      repeat' ((conv => whnf); first | (refine Dr.quiet tyOk (by kernel_rfl) ?_) | (refine VC.pure alive31_pc ?_) | (refine VC.pure cc ?_) | (refine VCQ.pure cc ?_) | (refine VC.pure cd ?_) | (refine VCQ.pure cd ?_) | (refine Rng.mk (by omega) ?_) | (refine Split.pos (by omega) ?_) | (refine Split.neg (by omega) ?_) | (refine Split.mk (fun h => ?_) (fun h => ?_)) | (refine Need.mk (by omega) ?_) | (refine Ints.ln (by assumption) ?_) | (refine Mat.ln (by assumption) ?_) | (refine Ints.ln (Mat.row (by assumption) _ (by omega)) ?_) | (refine Ints.ix (by assumption) (by omega) ?_) | (refine Mat.ix (by assumption) (by omega) ?_) | (refine Ints.ix (Mat.row (by assumption) _ (by omega)) (by omega) ?_) | (refine Ints.ix (c := 0) (by assumption) (by omega) ?_) | (refine Mat.ix (c := 0) (by assumption) (by omega) ?_) | (refine Ints.ix (c := 0) (Mat.row (by assumption) _ (by omega)) (by omega) ?_) | (refine Ints.ixI (by assumption) (by omega) ?_) | (refine Mat.ixI (by assumption) (by omega) ?_) | (refine Ints.ixI (Mat.row (by assumption) _ (by omega)) (by omega) ?_) | (refine Ints.ld (by assumption) (by omega) ?_) | (refine Mat.ld (by assumption) (by omega) ?_) | (refine Ints.ld (Mat.row (by assumption) _ (by omega)) (by omega) ?_) | (refine At.ld (by assumption) rfl ?_) | (refine At.ldN (by assumption) rfl ?_) | (refine Prs.ln (by assumption) ?_) | (refine Trs.ln (by assumption) ?_) | (refine Prs.ix (by assumption) (by omega) ?_) | (refine Trs.ix (by assumption) (by omega) ?_) | (refine Prs.ldN (by assumption) (by omega) ?_) | (refine Trs.ldN (by assumption) (by omega) ?_) | (refine At.ldN (Blk.at (by assumption)) rfl ?_) | (refine At.ld (Blk.at (by assumption)) rfl ?_) | (refine IxA.mk (by omega) ?_) | (refine Sl.ln (Own.sl (by assumption)) ?_) | (refine Ints.ix (Own.sl (by assumption)) (by omega) ?_) | (refine Ints.ixI (Own.sl (by assumption)) (by omega) ?_) | (refine Ints.ld (Own.sl (by assumption)) (by omega) ?_))
      conv => whnf
      refine VC.rc (sbest_rc Hv) ?_
      rintro _ w2 E2 ⟨bv, rfl, HB, hB⟩
      replace Hv := Hv.ext E2
      replace Ha := Ha.ext E2
      replace EE := EE.ext E2
      replace hB := hB hE
      rw [bA_ok hE] at HB
      rw [bL_ok hE, hE]
      have hla := (divn_iff.1 hd).1
      have hlb := (divn_iff.1 hB.1).1
      have hle := (hB.2 a hd).1
      have hfst := (hB.2 a hd).2
      obtain ⟨b, hb⟩ : ∃ b, bst rr = b := ⟨_, rfl⟩
      obtain ⟨x, hx⟩ : ∃ x, lvl rr a = x := ⟨_, rfl⟩
      obtain ⟨y, hy⟩ : ∃ y, lvl rr (bst rr) = y := ⟨_, rfl⟩
      have c1 := glevel_pc Hv Ha
      rw [lvV_ok hE hd, lvE_ok hE hd, hx] at c1
      rw [hx, hy] at hle hfst
      rw [hy]
      rw [hb] at HB hlb hfst
      by_cases hlt : x < y
      · repeat' ((conv => whnf); first | (refine Dr.quiet tyOk (by kernel_rfl) ?_) | (refine VC.pure c1 ?_) | (refine Rng.mk (by omega) ?_) | (refine Split.pos (by omega) ?_) | (refine Split.neg (by omega) ?_) | (refine Split.mk (fun h => ?_) (fun h => ?_)) | (refine Need.mk (by omega) ?_) | (refine Ints.ln (by assumption) ?_) | (refine Mat.ln (by assumption) ?_) | (refine Ints.ln (Mat.row (by assumption) _ (by omega)) ?_) | (refine Ints.ix (by assumption) (by omega) ?_) | (refine Mat.ix (by assumption) (by omega) ?_) | (refine Ints.ix (Mat.row (by assumption) _ (by omega)) (by omega) ?_) | (refine Ints.ix (c := 0) (by assumption) (by omega) ?_) | (refine Mat.ix (c := 0) (by assumption) (by omega) ?_) | (refine Ints.ix (c := 0) (Mat.row (by assumption) _ (by omega)) (by omega) ?_) | (refine Ints.ixI (by assumption) (by omega) ?_) | (refine Mat.ixI (by assumption) (by omega) ?_) | (refine Ints.ixI (Mat.row (by assumption) _ (by omega)) (by omega) ?_) | (refine Ints.ld (by assumption) (by omega) ?_) | (refine Mat.ld (by assumption) (by omega) ?_) | (refine Ints.ld (Mat.row (by assumption) _ (by omega)) (by omega) ?_) | (refine At.ld (by assumption) rfl ?_) | (refine At.ldN (by assumption) rfl ?_) | (refine Prs.ln (by assumption) ?_) | (refine Trs.ln (by assumption) ?_) | (refine Prs.ix (by assumption) (by omega) ?_) | (refine Trs.ix (by assumption) (by omega) ?_) | (refine Prs.ldN (by assumption) (by omega) ?_) | (refine Trs.ldN (by assumption) (by omega) ?_) | (refine At.ldN (Blk.at (by assumption)) rfl ?_) | (refine At.ld (Blk.at (by assumption)) rfl ?_) | (refine IxA.mk (by omega) ?_) | (refine Sl.ln (Own.sl (by assumption)) ?_) | (refine Ints.ix (Own.sl (by assumption)) (by omega) ?_) | (refine Ints.ixI (Own.sl (by assumption)) (by omega) ?_) | (refine Ints.ld (Own.sl (by assumption)) (by omega) ?_))
        exact ⟨rfl, EE⟩
      · obtain rfl : x = y := by omega
        have hfst := hfst rfl
        repeat' ((conv => whnf); first | (refine Dr.quiet tyOk (by kernel_rfl) ?_) | (refine VC.pure c1 ?_) | (refine Rng.mk (by omega) ?_) | (refine Split.pos (by omega) ?_) | (refine Split.neg (by omega) ?_) | (refine Split.mk (fun h => ?_) (fun h => ?_)) | (refine Need.mk (by omega) ?_) | (refine Ints.ln (by assumption) ?_) | (refine Mat.ln (by assumption) ?_) | (refine Ints.ln (Mat.row (by assumption) _ (by omega)) ?_) | (refine Ints.ix (by assumption) (by omega) ?_) | (refine Mat.ix (by assumption) (by omega) ?_) | (refine Ints.ix (Mat.row (by assumption) _ (by omega)) (by omega) ?_) | (refine Ints.ix (c := 0) (by assumption) (by omega) ?_) | (refine Mat.ix (c := 0) (by assumption) (by omega) ?_) | (refine Ints.ix (c := 0) (Mat.row (by assumption) _ (by omega)) (by omega) ?_) | (refine Ints.ixI (by assumption) (by omega) ?_) | (refine Mat.ixI (by assumption) (by omega) ?_) | (refine Ints.ixI (Mat.row (by assumption) _ (by omega)) (by omega) ?_) | (refine Ints.ld (by assumption) (by omega) ?_) | (refine Mat.ld (by assumption) (by omega) ?_) | (refine Ints.ld (Mat.row (by assumption) _ (by omega)) (by omega) ?_) | (refine At.ld (by assumption) rfl ?_) | (refine At.ldN (by assumption) rfl ?_) | (refine Prs.ln (by assumption) ?_) | (refine Trs.ln (by assumption) ?_) | (refine Prs.ix (by assumption) (by omega) ?_) | (refine Trs.ix (by assumption) (by omega) ?_) | (refine Prs.ldN (by assumption) (by omega) ?_) | (refine Trs.ldN (by assumption) (by omega) ?_) | (refine At.ldN (Blk.at (by assumption)) rfl ?_) | (refine At.ld (Blk.at (by assumption)) rfl ?_) | (refine IxA.mk (by omega) ?_) | (refine Sl.ln (Own.sl (by assumption)) ?_) | (refine Ints.ix (Own.sl (by assumption)) (by omega) ?_) | (refine Ints.ixI (Own.sl (by assumption)) (by omega) ?_) | (refine Ints.ld (Own.sl (by assumption)) (by omega) ?_))
        refine Lp.mk tyOk [false, false, false, false, true, false, false, false, false, false, false, true, false, false, false, false, false, false, false, false, false, false, false, false, false, false, false, false, false, false, false, false, false, false, false, false, false, false, false, false, false, false, false, false, false, false, false, false, false, false, false, false, false, false, false, false, false, false, false, false, false, true, true, true, true, true, true, true, true, true, true, true, true, true, true, true, true, true, true, true, true, true, true, true, true, true, true, true] (fun m fr wr => getK fr 11 fun i => ∃ c : Nat, c ≤ a.length ∧ m = a.length - c ∧ i = .int .i64 (c : Int) ∧ (∀ j, j < c → a.getD j 0 = b.getD j 0) ∧ wr = w2) (a.length) ?_ ?_
        · exact ⟨0, Nat.zero_le _, rfl, rfl, (fun j hj => absurd hj (Nat.not_lt_zero _)), rfl⟩
        · intro m w3 u4 u11 u61 u62 u63 u64 u65 u66 u67 u68 u69 u70 u71 u72 u73 u74 u75 u76 u77 u78 u79 u80 u81 u82 u83 u84 u85 u86 u87 hR
          obtain ⟨c, hc, rfl, rfl, hp, rfl⟩ := hR
          by_cases hcl : c < a.length
          · by_cases he : a.getD c 0 = b.getD c 0
            · repeat' ((conv => whnf); first | (refine Dr.quiet tyOk (by kernel_rfl) ?_) | (refine Rng.mk (by omega) ?_) | (refine Split.pos (by omega) ?_) | (refine Split.neg (by omega) ?_) | (refine Split.mk (fun h => ?_) (fun h => ?_)) | (refine Need.mk (by omega) ?_) | (refine Ints.ln (by assumption) ?_) | (refine Mat.ln (by assumption) ?_) | (refine Ints.ln (Mat.row (by assumption) _ (by omega)) ?_) | (refine Ints.ix (by assumption) (by omega) ?_) | (refine Mat.ix (by assumption) (by omega) ?_) | (refine Ints.ix (Mat.row (by assumption) _ (by omega)) (by omega) ?_) | (refine Ints.ix (c := 0) (by assumption) (by omega) ?_) | (refine Mat.ix (c := 0) (by assumption) (by omega) ?_) | (refine Ints.ix (c := 0) (Mat.row (by assumption) _ (by omega)) (by omega) ?_) | (refine Ints.ixI (by assumption) (by omega) ?_) | (refine Mat.ixI (by assumption) (by omega) ?_) | (refine Ints.ixI (Mat.row (by assumption) _ (by omega)) (by omega) ?_) | (refine Ints.ld (by assumption) (by omega) ?_) | (refine Mat.ld (by assumption) (by omega) ?_) | (refine Ints.ld (Mat.row (by assumption) _ (by omega)) (by omega) ?_) | (refine At.ld (by assumption) rfl ?_) | (refine At.ldN (by assumption) rfl ?_) | (refine Prs.ln (by assumption) ?_) | (refine Trs.ln (by assumption) ?_) | (refine Prs.ix (by assumption) (by omega) ?_) | (refine Trs.ix (by assumption) (by omega) ?_) | (refine Prs.ldN (by assumption) (by omega) ?_) | (refine Trs.ldN (by assumption) (by omega) ?_) | (refine At.ldN (Blk.at (by assumption)) rfl ?_) | (refine At.ld (Blk.at (by assumption)) rfl ?_) | (refine IxA.mk (by omega) ?_) | (refine Sl.ln (Own.sl (by assumption)) ?_) | (refine Ints.ix (Own.sl (by assumption)) (by omega) ?_) | (refine Ints.ixI (Own.sl (by assumption)) (by omega) ?_) | (refine Ints.ld (Own.sl (by assumption)) (by omega) ?_))
              refine ⟨_, (by omega : a.length - (c + 1) < a.length - c), rfl, c + 1, by omega, rfl, rfl, fun j hj => ?_, rfl⟩
              by_cases e : j = c
              · subst e; exact he
              · exact hp j (by omega)
            · have hgt : b.getD c 0 < a.getD c 0 := by
                refine Classical.byContradiction fun hn => ?_
                exact hfst (lexlt_at3 hcl (by omega) hp (by omega))
              repeat' ((conv => whnf); first | (refine Dr.quiet tyOk (by kernel_rfl) ?_) | (refine Rng.mk (by omega) ?_) | (refine Split.pos (by omega) ?_) | (refine Split.neg (by omega) ?_) | (refine Split.mk (fun h => ?_) (fun h => ?_)) | (refine Need.mk (by omega) ?_) | (refine Ints.ln (by assumption) ?_) | (refine Mat.ln (by assumption) ?_) | (refine Ints.ln (Mat.row (by assumption) _ (by omega)) ?_) | (refine Ints.ix (by assumption) (by omega) ?_) | (refine Mat.ix (by assumption) (by omega) ?_) | (refine Ints.ix (Mat.row (by assumption) _ (by omega)) (by omega) ?_) | (refine Ints.ix (c := 0) (by assumption) (by omega) ?_) | (refine Mat.ix (c := 0) (by assumption) (by omega) ?_) | (refine Ints.ix (c := 0) (Mat.row (by assumption) _ (by omega)) (by omega) ?_) | (refine Ints.ixI (by assumption) (by omega) ?_) | (refine Mat.ixI (by assumption) (by omega) ?_) | (refine Ints.ixI (Mat.row (by assumption) _ (by omega)) (by omega) ?_) | (refine Ints.ld (by assumption) (by omega) ?_) | (refine Mat.ld (by assumption) (by omega) ?_) | (refine Ints.ld (Mat.row (by assumption) _ (by omega)) (by omega) ?_) | (refine At.ld (by assumption) rfl ?_) | (refine At.ldN (by assumption) rfl ?_) | (refine Prs.ln (by assumption) ?_) | (refine Trs.ln (by assumption) ?_) | (refine Prs.ix (by assumption) (by omega) ?_) | (refine Trs.ix (by assumption) (by omega) ?_) | (refine Prs.ldN (by assumption) (by omega) ?_) | (refine Trs.ldN (by assumption) (by omega) ?_) | (refine At.ldN (Blk.at (by assumption)) rfl ?_) | (refine At.ld (Blk.at (by assumption)) rfl ?_) | (refine IxA.mk (by omega) ?_) | (refine Sl.ln (Own.sl (by assumption)) ?_) | (refine Ints.ix (Own.sl (by assumption)) (by omega) ?_) | (refine Ints.ixI (Own.sl (by assumption)) (by omega) ?_) | (refine Ints.ld (Own.sl (by assumption)) (by omega) ?_))
              exact ⟨rfl, EE⟩
          · obtain rfl : c = a.length := by omega
            repeat' ((conv => whnf); first | (refine Dr.quiet tyOk (by kernel_rfl) ?_) | (refine Rng.mk (by omega) ?_) | (refine Split.pos (by omega) ?_) | (refine Split.neg (by omega) ?_) | (refine Split.mk (fun h => ?_) (fun h => ?_)) | (refine Need.mk (by omega) ?_) | (refine Ints.ln (by assumption) ?_) | (refine Mat.ln (by assumption) ?_) | (refine Ints.ln (Mat.row (by assumption) _ (by omega)) ?_) | (refine Ints.ix (by assumption) (by omega) ?_) | (refine Mat.ix (by assumption) (by omega) ?_) | (refine Ints.ix (Mat.row (by assumption) _ (by omega)) (by omega) ?_) | (refine Ints.ix (c := 0) (by assumption) (by omega) ?_) | (refine Mat.ix (c := 0) (by assumption) (by omega) ?_) | (refine Ints.ix (c := 0) (Mat.row (by assumption) _ (by omega)) (by omega) ?_) | (refine Ints.ixI (by assumption) (by omega) ?_) | (refine Mat.ixI (by assumption) (by omega) ?_) | (refine Ints.ixI (Mat.row (by assumption) _ (by omega)) (by omega) ?_) | (refine Ints.ld (by assumption) (by omega) ?_) | (refine Mat.ld (by assumption) (by omega) ?_) | (refine Ints.ld (Mat.row (by assumption) _ (by omega)) (by omega) ?_) | (refine At.ld (by assumption) rfl ?_) | (refine At.ldN (by assumption) rfl ?_) | (refine Prs.ln (by assumption) ?_) | (refine Trs.ln (by assumption) ?_) | (refine Prs.ix (by assumption) (by omega) ?_) | (refine Trs.ix (by assumption) (by omega) ?_) | (refine Prs.ldN (by assumption) (by omega) ?_) | (refine Trs.ldN (by assumption) (by omega) ?_) | (refine At.ldN (Blk.at (by assumption)) rfl ?_) | (refine At.ld (Blk.at (by assumption)) rfl ?_) | (refine IxA.mk (by omega) ?_) | (refine Sl.ln (Own.sl (by assumption)) ?_) | (refine Ints.ix (Own.sl (by assumption)) (by omega) ?_) | (refine Ints.ixI (Own.sl (by assumption)) (by omega) ?_) | (refine Ints.ld (Own.sl (by assumption)) (by omega) ?_))
            exact ⟨rfl, EE⟩
    · rw [tf_f hd] at cd
      repeat' ((conv => whnf); first | (refine Dr.quiet tyOk (by kernel_rfl) ?_) | (refine VC.pure alive31_pc ?_) | (refine VC.pure cc ?_) | (refine VCQ.pure cc ?_) | (refine VC.pure cd ?_) | (refine VCQ.pure cd ?_) | (refine Rng.mk (by omega) ?_) | (refine Split.pos (by omega) ?_) | (refine Split.neg (by omega) ?_) | (refine Split.mk (fun h => ?_) (fun h => ?_)) | (refine Need.mk (by omega) ?_) | (refine Ints.ln (by assumption) ?_) | (refine Mat.ln (by assumption) ?_) | (refine Ints.ln (Mat.row (by assumption) _ (by omega)) ?_) | (refine Ints.ix (by assumption) (by omega) ?_) | (refine Mat.ix (by assumption) (by omega) ?_) | (refine Ints.ix (Mat.row (by assumption) _ (by omega)) (by omega) ?_) | (refine Ints.ix (c := 0) (by assumption) (by omega) ?_) | (refine Mat.ix (c := 0) (by assumption) (by omega) ?_) | (refine Ints.ix (c := 0) (Mat.row (by assumption) _ (by omega)) (by omega) ?_) | (refine Ints.ixI (by assumption) (by omega) ?_) | (refine Mat.ixI (by assumption) (by omega) ?_) | (refine Ints.ixI (Mat.row (by assumption) _ (by omega)) (by omega) ?_) | (refine Ints.ld (by assumption) (by omega) ?_) | (refine Mat.ld (by assumption) (by omega) ?_) | (refine Ints.ld (Mat.row (by assumption) _ (by omega)) (by omega) ?_) | (refine At.ld (by assumption) rfl ?_) | (refine At.ldN (by assumption) rfl ?_) | (refine Prs.ln (by assumption) ?_) | (refine Trs.ln (by assumption) ?_) | (refine Prs.ix (by assumption) (by omega) ?_) | (refine Trs.ix (by assumption) (by omega) ?_) | (refine Prs.ldN (by assumption) (by omega) ?_) | (refine Trs.ldN (by assumption) (by omega) ?_) | (refine At.ldN (Blk.at (by assumption)) rfl ?_) | (refine At.ld (Blk.at (by assumption)) rfl ?_) | (refine IxA.mk (by omega) ?_) | (refine Sl.ln (Own.sl (by assumption)) ?_) | (refine Ints.ix (Own.sl (by assumption)) (by omega) ?_) | (refine Ints.ixI (Own.sl (by assumption)) (by omega) ?_) | (refine Ints.ld (Own.sl (by assumption)) (by omega) ?_))
      exact ⟨rfl, EE⟩
  · repeat' ((conv => whnf); first | (refine Dr.quiet tyOk (by kernel_rfl) ?_) | (refine VC.pure alive31_pc ?_) | (refine VC.pure cc ?_) | (refine VCQ.pure cc ?_) | (refine Rng.mk (by omega) ?_) | (refine Split.pos (by omega) ?_) | (refine Split.neg (by omega) ?_) | (refine Split.mk (fun h => ?_) (fun h => ?_)) | (refine Need.mk (by omega) ?_) | (refine Ints.ln (by assumption) ?_) | (refine Mat.ln (by assumption) ?_) | (refine Ints.ln (Mat.row (by assumption) _ (by omega)) ?_) | (refine Ints.ix (by assumption) (by omega) ?_) | (refine Mat.ix (by assumption) (by omega) ?_) | (refine Ints.ix (Mat.row (by assumption) _ (by omega)) (by omega) ?_) | (refine Ints.ix (c := 0) (by assumption) (by omega) ?_) | (refine Mat.ix (c := 0) (by assumption) (by omega) ?_) | (refine Ints.ix (c := 0) (Mat.row (by assumption) _ (by omega)) (by omega) ?_) | (refine Ints.ixI (by assumption) (by omega) ?_) | (refine Mat.ixI (by assumption) (by omega) ?_) | (refine Ints.ixI (Mat.row (by assumption) _ (by omega)) (by omega) ?_) | (refine Ints.ld (by assumption) (by omega) ?_) | (refine Mat.ld (by assumption) (by omega) ?_) | (refine Ints.ld (Mat.row (by assumption) _ (by omega)) (by omega) ?_) | (refine At.ld (by assumption) rfl ?_) | (refine At.ldN (by assumption) rfl ?_) | (refine Prs.ln (by assumption) ?_) | (refine Trs.ln (by assumption) ?_) | (refine Prs.ix (by assumption) (by omega) ?_) | (refine Trs.ix (by assumption) (by omega) ?_) | (refine Prs.ldN (by assumption) (by omega) ?_) | (refine Trs.ldN (by assumption) (by omega) ?_) | (refine At.ldN (Blk.at (by assumption)) rfl ?_) | (refine At.ld (Blk.at (by assumption)) rfl ?_) | (refine IxA.mk (by omega) ?_) | (refine Sl.ln (Own.sl (by assumption)) ?_) | (refine Ints.ix (Own.sl (by assumption)) (by omega) ?_) | (refine Ints.ixI (Own.sl (by assumption)) (by omega) ?_) | (refine Ints.ld (Own.sl (by assumption)) (by omega) ?_))
    exact ⟨rfl, EE⟩

open Go.ChangeShapes Go.WideShapes Go.ChangeAt Go.RowKit Go.Eng in
theorem stripFirst_lifted (os : Os) (started : os.Started) (H : Type) (enc : TypeId × Value → H) :
    ReturnsInHanded {} Try.checked os 8 .any (Rows.stripFirstSpec.pre6 enc Try.prog Try.f8 Rows.stripFirstRow.domain false) (Rows.stripFirstSpec.post enc Try.prog Try.f8 false true false false) := by
  refine returnsInHanded_of_change (C := Try.checked) own started (by kernel_rfl) Try.func8
    (ChangeSpec.witness6 (enc := enc) (C := Try.checked) false ⟨#[], #[.slice none 0 0, .slice none 0 0], []⟩ 8 (by kernel_rfl) (by kernel_rfl) (by kernel_rfl) (by kernel_rfl)) ?_
  intro W base args ds gs before hval0 hW hcnd _
  have hval : ∀ (j : Nat) t v, Try.f8.params[j]? = some t → args[j]? = some v → Value.okWide Try.prog W .any base t v := hval0
  have hW' := hW
  obtain ⟨p, q, hA0, hV, e0, hfz, hnd⟩ := hW
  have hA : DataW.TrodAll enc Try.prog W 0 (fun _ => true) true Try.f8.params.toList args.toList ds p := hA0
  rw [Try.params8] at hA hval
  clear hfz hnd hV e0 hval0
  obtain ⟨v0, vs0, d0, ds0, p0, q0, e0, rfl, f0, h0, t0⟩ := trodAll_cons hA
  obtain ⟨v1, vs1, d1, ds1, p1, q1, e1, rfl, f1, h1, t1⟩ := trodAll_cons t0
  subst e1
  obtain ⟨ee, rfl, _⟩ := trodAll_nil t1
  subst ee
  obtain rfl : args = #[v0, v1] := Array.toList_inj.1 (by simpa using e0)
  obtain ⟨s0, r0, H0, R0⟩ := open_M Try.underlying22 Try.underlying24 Try.underlying3 (by kernel_rfl) (by kernel_rfl) (hval 0 22 _ rfl rfl) h0
  obtain ⟨l1, H1, R1⟩ := open_L Try.underlying24 Try.underlying3 (by kernel_rfl) (hval 1 24 _ rfl rfl) h1
  exact law_calls laidOut (by rw [Try.params8]; intro t ht; revert t; decide +kernel) rfl Try.underlying4 rfl ⟨rfl, rfl, rfl⟩ hW' (stripfirst_pc H0 H1)

theorem stripFirst_holds : Rows.StripFirstSaid :=
  OpenClaim.holds_of_wide 8 Try.f8 rfl rfl rfl rfl rfl rfl rfl ⟨rfl, rfl, rfl, rfl, rfl⟩ rfl rfl rfl rfl rfl (by kernel_rfl) Try.func8 (by kernel_rfl)
    (of_decide_eq_true (by kernel_rfl)) (by unfold Func.isWrapper; first | (rw [if_pos (by decide +kernel)]; kernel_rfl) | (rw [if_neg (by decide +kernel)]; exact ⟨rfl, rfl⟩))
    (fun os started H enc _ => stripFirst_lifted os started H enc)
end Go.Proofs.Ytclbiabiiknolaa
