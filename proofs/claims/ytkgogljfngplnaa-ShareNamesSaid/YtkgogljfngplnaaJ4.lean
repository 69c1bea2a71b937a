/- Joined texts: Share4 Share5 Share6 Share7 Share8 Share9 Share10 Share11 L20. -/
import Derived.Test.YtkgogljfngplnaaJ3
set_option linter.unusedVariables false
set_option linter.unusedSimpArgs false
namespace Go.Proofs.Ytkgogljfngplnaa
open Go.Eng
set_option maxRecDepth 100000
set_option maxHeartbeats 4000000

def bst1 (f : List Int → Int) (s : Int × List Int) (x : List Int) : Int × List Int := if s.1 < f x then (f x, x) else s
def bst (f : List Int → Int) (l : List (List Int)) : Int × List Int := l.foldl (bst1 f) (-1, [])
theorem bst_snoc (f : List Int → Int) (l : List (List Int)) (x : List Int) : bst f (l ++ [x]) = bst1 f (bst f l) x := by unfold bst; rw [List.foldl_append]; rfl
theorem bst_yes {f : List Int → Int} {l : List (List Int)} {x : List Int} (h : (bst f l).1 < f x) : bst f (l ++ [x]) = (f x, x) := by rw [bst_snoc]; unfold bst1; rw [if_pos h]
theorem bst_no {f : List Int → Int} {l : List (List Int)} {x : List Int} (h : ¬ (bst f l).1 < f x) : bst f (l ++ [x]) = bst f l := by rw [bst_snoc]; unfold bst1; rw [if_neg h]
theorem partsF_ok {n : Nat} : ∀ {r used : Nat} {x : List Int}, x ∈ partsF n r used → x.length = r ∧ rng x n
  | 0, used, x, h => by
    simp only [partsF, List.mem_singleton] at h; subst h
    exact ⟨rfl, fun k hk => absurd hk (Nat.not_lt_zero _)⟩
  | r + 1, used, x, h => by
    simp only [partsF, List.mem_flatMap, List.mem_range, List.mem_map] at h
    obtain ⟨k, hk, s, hs, rfl⟩ := h
    obtain ⟨h1, h2⟩ := partsF_ok hs
    refine ⟨by simp [h1], fun j hj => ?_⟩
    cases j with
    | zero => simp only [List.getD_cons_zero]; omega
    | succ j => simp only [List.getD_cons_succ]; exact h2 j (by simpa using hj)
theorem mem_pre {α : Type} {pre l : List α} {x : α} (h : pre ++ [x] <+: l) : x ∈ l := by
  obtain ⟨t, ht⟩ := h
  rw [← ht]; simp
theorem eFnI : Elem Try.prog 106 .nilFunc 1 8 := by unfold Elem; kernel_rfl
theorem best_rc {w : World} {rv : Value} {r : List Int} {n : Nat} (Hr : Ints w rv r) (hr : ∀ j, 0 ≤ r.getD j 0 ∧ r.getD j 0 ≤ 1000) (h10 : r.length ≤ 10) (hn : 1 ≤ n ∧ n ≤ 6) :
    RC Try.prog 56 [.agg #[rv, .int .i64 (n : Int)]] w NoB (fun u w' => ∃ v, u = .tuple #[.int .i64 (bst (fun l => leastP r l n) (partsF n r.length 0)).1, v] ∧ OI w' v (bst (fun l => leastP r l n) (partsF n r.length 0)).2) := by
  refine RCX.mk tyOk Try.func56 rfl (by kernel_rfl) fun w1 E1 => ?_
  replace Hr := Hr.ext E1
  have EE := Ext.refl w1
  have hrE := Hr
  refine Bx.agg fun b2 w2 E2 hb2 Hb _ => ?_
  replace Hr := Hr.ext E2
  replace EE := EE.ext E2
  have hb2l : b2 < w2.heap.size := by have := Hb 0 _ rfl; exact World.block_lt_of_cell? _ _ this
  repeat' ((conv => whnf); first | (refine At.ldN Hb rfl ?_) | (refine Rng.mk (by omega) ?_) | (refine Split.pos (by omega) ?_) | (refine Split.neg (by omega) ?_) | (refine Split.mk (fun h => ?_) (fun h => ?_)) | (refine Need.mk (by omega) ?_) | (refine Ints.ln (by assumption) ?_) | (refine Mat.ln (by assumption) ?_) | (refine Ints.ln (Mat.row (by assumption) _ (by omega)) ?_) | (refine Ints.ix (by assumption) (by omega) ?_) | (refine Mat.ix (by assumption) (by omega) ?_) | (refine Ints.ix (Mat.row (by assumption) _ (by omega)) (by omega) ?_) | (refine Ints.ix (c := 0) (by assumption) (by omega) ?_) | (refine Mat.ix (c := 0) (by assumption) (by omega) ?_) | (refine Ints.ix (c := 0) (Mat.row (by assumption) _ (by omega)) (by omega) ?_) | (refine Ints.ixI (by assumption) (by omega) ?_) | (refine Mat.ixI (by assumption) (by omega) ?_) | (refine Ints.ixI (Mat.row (by assumption) _ (by omega)) (by omega) ?_) | (refine Ints.ld (by assumption) (by omega) ?_) | (refine Mat.ld (by assumption) (by omega) ?_) | (refine Ints.ld (Mat.row (by assumption) _ (by omega)) (by omega) ?_) | (refine At.ld (by assumption) rfl ?_) | (refine At.ldN (by assumption) rfl ?_) | (refine Prs.ln (by assumption) ?_) | (refine Trs.ln (by assumption) ?_) | (refine Prs.ix (by assumption) (by omega) ?_) | (refine Trs.ix (by assumption) (by omega) ?_) | (refine Prs.ldN (by assumption) (by omega) ?_) | (refine Trs.ldN (by assumption) (by omega) ?_) | (refine At.ldN (Blk.at (by assumption)) rfl ?_) | (refine At.ld (Blk.at (by assumption)) rfl ?_) | (refine IxA.mk (by omega) ?_) | (refine Sl.ln (Own.sl (by assumption)) ?_) | (refine Ints.ix (Own.sl (by assumption)) (by omega) ?_) | (refine Ints.ixI (Own.sl (by assumption)) (by omega) ?_) | (refine Ints.ld (Own.sl (by assumption)) (by omega) ?_))
  refine VE.alloc eFnI fun lb w3 E3 hlb Hlb => ?_
  repeat' ((conv => whnf); first | (refine Rng.mk (by omega) ?_) | (refine Split.pos (by omega) ?_) | (refine Split.neg (by omega) ?_) | (refine Split.mk (fun h => ?_) (fun h => ?_)) | (refine Need.mk (by omega) ?_) | (refine Ints.ln (by assumption) ?_) | (refine Mat.ln (by assumption) ?_) | (refine Ints.ln (Mat.row (by assumption) _ (by omega)) ?_) | (refine Ints.ix (by assumption) (by omega) ?_) | (refine Mat.ix (by assumption) (by omega) ?_) | (refine Ints.ix (Mat.row (by assumption) _ (by omega)) (by omega) ?_) | (refine Ints.ix (c := 0) (by assumption) (by omega) ?_) | (refine Mat.ix (c := 0) (by assumption) (by omega) ?_) | (refine Ints.ix (c := 0) (Mat.row (by assumption) _ (by omega)) (by omega) ?_) | (refine Ints.ixI (by assumption) (by omega) ?_) | (refine Mat.ixI (by assumption) (by omega) ?_) | (refine Ints.ixI (Mat.row (by assumption) _ (by omega)) (by omega) ?_) | (refine Ints.ld (by assumption) (by omega) ?_) | (refine Mat.ld (by assumption) (by omega) ?_) | (refine Ints.ld (Mat.row (by assumption) _ (by omega)) (by omega) ?_) | (refine At.ld (by assumption) rfl ?_) | (refine At.ldN (by assumption) rfl ?_) | (refine Prs.ln (by assumption) ?_) | (refine Trs.ln (by assumption) ?_) | (refine Prs.ix (by assumption) (by omega) ?_) | (refine Trs.ix (by assumption) (by omega) ?_) | (refine Prs.ldN (by assumption) (by omega) ?_) | (refine Trs.ldN (by assumption) (by omega) ?_) | (refine At.ldN (Blk.at (by assumption)) rfl ?_) | (refine At.ld (Blk.at (by assumption)) rfl ?_) | (refine IxA.mk (by omega) ?_) | (refine Sl.ln (Own.sl (by assumption)) ?_) | (refine Ints.ix (Own.sl (by assumption)) (by omega) ?_) | (refine Ints.ixI (Own.sl (by assumption)) (by omega) ?_) | (refine Ints.ld (Own.sl (by assumption)) (by omega) ?_))
  refine Blk.set0 Hlb (by decide) rfl fun w4 G4 Hl4 => ?_
  repeat' ((conv => whnf); first | (refine Rng.mk (by omega) ?_) | (refine Split.pos (by omega) ?_) | (refine Split.neg (by omega) ?_) | (refine Split.mk (fun h => ?_) (fun h => ?_)) | (refine Need.mk (by omega) ?_) | (refine Ints.ln (by assumption) ?_) | (refine Mat.ln (by assumption) ?_) | (refine Ints.ln (Mat.row (by assumption) _ (by omega)) ?_) | (refine Ints.ix (by assumption) (by omega) ?_) | (refine Mat.ix (by assumption) (by omega) ?_) | (refine Ints.ix (Mat.row (by assumption) _ (by omega)) (by omega) ?_) | (refine Ints.ix (c := 0) (by assumption) (by omega) ?_) | (refine Mat.ix (c := 0) (by assumption) (by omega) ?_) | (refine Ints.ix (c := 0) (Mat.row (by assumption) _ (by omega)) (by omega) ?_) | (refine Ints.ixI (by assumption) (by omega) ?_) | (refine Mat.ixI (by assumption) (by omega) ?_) | (refine Ints.ixI (Mat.row (by assumption) _ (by omega)) (by omega) ?_) | (refine Ints.ld (by assumption) (by omega) ?_) | (refine Mat.ld (by assumption) (by omega) ?_) | (refine Ints.ld (Mat.row (by assumption) _ (by omega)) (by omega) ?_) | (refine At.ld (by assumption) rfl ?_) | (refine At.ldN (by assumption) rfl ?_) | (refine Prs.ln (by assumption) ?_) | (refine Trs.ln (by assumption) ?_) | (refine Prs.ix (by assumption) (by omega) ?_) | (refine Trs.ix (by assumption) (by omega) ?_) | (refine Prs.ldN (by assumption) (by omega) ?_) | (refine Trs.ldN (by assumption) (by omega) ?_) | (refine At.ldN (Blk.at (by assumption)) rfl ?_) | (refine At.ld (Blk.at (by assumption)) rfl ?_) | (refine IxA.mk (by omega) ?_) | (refine Sl.ln (Own.sl (by assumption)) ?_) | (refine Ints.ix (Own.sl (by assumption)) (by omega) ?_) | (refine Ints.ixI (Own.sl (by assumption)) (by omega) ?_) | (refine Ints.ld (Own.sl (by assumption)) (by omega) ?_))
  refine VE.alloc eInt fun vb w5 E5 hvb Hvb => ?_
  repeat' ((conv => whnf); first | (refine Rng.mk (by omega) ?_) | (refine Split.pos (by omega) ?_) | (refine Split.neg (by omega) ?_) | (refine Split.mk (fun h => ?_) (fun h => ?_)) | (refine Need.mk (by omega) ?_) | (refine Ints.ln (by assumption) ?_) | (refine Mat.ln (by assumption) ?_) | (refine Ints.ln (Mat.row (by assumption) _ (by omega)) ?_) | (refine Ints.ix (by assumption) (by omega) ?_) | (refine Mat.ix (by assumption) (by omega) ?_) | (refine Ints.ix (Mat.row (by assumption) _ (by omega)) (by omega) ?_) | (refine Ints.ix (c := 0) (by assumption) (by omega) ?_) | (refine Mat.ix (c := 0) (by assumption) (by omega) ?_) | (refine Ints.ix (c := 0) (Mat.row (by assumption) _ (by omega)) (by omega) ?_) | (refine Ints.ixI (by assumption) (by omega) ?_) | (refine Mat.ixI (by assumption) (by omega) ?_) | (refine Ints.ixI (Mat.row (by assumption) _ (by omega)) (by omega) ?_) | (refine Ints.ld (by assumption) (by omega) ?_) | (refine Mat.ld (by assumption) (by omega) ?_) | (refine Ints.ld (Mat.row (by assumption) _ (by omega)) (by omega) ?_) | (refine At.ld (by assumption) rfl ?_) | (refine At.ldN (by assumption) rfl ?_) | (refine Prs.ln (by assumption) ?_) | (refine Trs.ln (by assumption) ?_) | (refine Prs.ix (by assumption) (by omega) ?_) | (refine Trs.ix (by assumption) (by omega) ?_) | (refine Prs.ldN (by assumption) (by omega) ?_) | (refine Trs.ldN (by assumption) (by omega) ?_) | (refine At.ldN (Blk.at (by assumption)) rfl ?_) | (refine At.ld (Blk.at (by assumption)) rfl ?_) | (refine IxA.mk (by omega) ?_) | (refine Sl.ln (Own.sl (by assumption)) ?_) | (refine Ints.ix (Own.sl (by assumption)) (by omega) ?_) | (refine Ints.ixI (Own.sl (by assumption)) (by omega) ?_) | (refine Ints.ld (Own.sl (by assumption)) (by omega) ?_))
  refine VE.alloc eRow fun pb w6 E6 hpb Hpb => ?_
  have hl3 := Blk.lt Hlb
  have hv5 := Blk.lt Hvb
  have hp6 := Blk.lt Hpb
  have hs2 := E2.size
  have hs3 := E3.size
  have hs4 := G4.size
  have hs5 := E5.size
  have hs6 := E6.size
  repeat' ((conv => whnf); first | (refine Rng.mk (by omega) ?_) | (refine Split.pos (by omega) ?_) | (refine Split.neg (by omega) ?_) | (refine Split.mk (fun h => ?_) (fun h => ?_)) | (refine Need.mk (by omega) ?_) | (refine Ints.ln (by assumption) ?_) | (refine Mat.ln (by assumption) ?_) | (refine Ints.ln (Mat.row (by assumption) _ (by omega)) ?_) | (refine Ints.ix (by assumption) (by omega) ?_) | (refine Mat.ix (by assumption) (by omega) ?_) | (refine Ints.ix (Mat.row (by assumption) _ (by omega)) (by omega) ?_) | (refine Ints.ix (c := 0) (by assumption) (by omega) ?_) | (refine Mat.ix (c := 0) (by assumption) (by omega) ?_) | (refine Ints.ix (c := 0) (Mat.row (by assumption) _ (by omega)) (by omega) ?_) | (refine Ints.ixI (by assumption) (by omega) ?_) | (refine Mat.ixI (by assumption) (by omega) ?_) | (refine Ints.ixI (Mat.row (by assumption) _ (by omega)) (by omega) ?_) | (refine Ints.ld (by assumption) (by omega) ?_) | (refine Mat.ld (by assumption) (by omega) ?_) | (refine Ints.ld (Mat.row (by assumption) _ (by omega)) (by omega) ?_) | (refine At.ld (by assumption) rfl ?_) | (refine At.ldN (by assumption) rfl ?_) | (refine Prs.ln (by assumption) ?_) | (refine Trs.ln (by assumption) ?_) | (refine Prs.ix (by assumption) (by omega) ?_) | (refine Trs.ix (by assumption) (by omega) ?_) | (refine Prs.ldN (by assumption) (by omega) ?_) | (refine Trs.ldN (by assumption) (by omega) ?_) | (refine At.ldN (Blk.at (by assumption)) rfl ?_) | (refine At.ld (Blk.at (by assumption)) rfl ?_) | (refine IxA.mk (by omega) ?_) | (refine Sl.ln (Own.sl (by assumption)) ?_) | (refine Ints.ix (Own.sl (by assumption)) (by omega) ?_) | (refine Ints.ixI (Own.sl (by assumption)) (by omega) ?_) | (refine Ints.ld (Own.sl (by assumption)) (by omega) ?_))
  refine Blk.set0 (Hvb.ext E6) (by decide) rfl fun w7 G7 Hv7 => ?_
  repeat' ((conv => whnf); first | (refine Rng.mk (by omega) ?_) | (refine Split.pos (by omega) ?_) | (refine Split.neg (by omega) ?_) | (refine Split.mk (fun h => ?_) (fun h => ?_)) | (refine Need.mk (by omega) ?_) | (refine Ints.ln (by assumption) ?_) | (refine Mat.ln (by assumption) ?_) | (refine Ints.ln (Mat.row (by assumption) _ (by omega)) ?_) | (refine Ints.ix (by assumption) (by omega) ?_) | (refine Mat.ix (by assumption) (by omega) ?_) | (refine Ints.ix (Mat.row (by assumption) _ (by omega)) (by omega) ?_) | (refine Ints.ix (c := 0) (by assumption) (by omega) ?_) | (refine Mat.ix (c := 0) (by assumption) (by omega) ?_) | (refine Ints.ix (c := 0) (Mat.row (by assumption) _ (by omega)) (by omega) ?_) | (refine Ints.ixI (by assumption) (by omega) ?_) | (refine Mat.ixI (by assumption) (by omega) ?_) | (refine Ints.ixI (Mat.row (by assumption) _ (by omega)) (by omega) ?_) | (refine Ints.ld (by assumption) (by omega) ?_) | (refine Mat.ld (by assumption) (by omega) ?_) | (refine Ints.ld (Mat.row (by assumption) _ (by omega)) (by omega) ?_) | (refine At.ld (by assumption) rfl ?_) | (refine At.ldN (by assumption) rfl ?_) | (refine Prs.ln (by assumption) ?_) | (refine Trs.ln (by assumption) ?_) | (refine Prs.ix (by assumption) (by omega) ?_) | (refine Trs.ix (by assumption) (by omega) ?_) | (refine Prs.ldN (by assumption) (by omega) ?_) | (refine Trs.ldN (by assumption) (by omega) ?_) | (refine At.ldN (Blk.at (by assumption)) rfl ?_) | (refine At.ld (Blk.at (by assumption)) rfl ?_) | (refine IxA.mk (by omega) ?_) | (refine Sl.ln (Own.sl (by assumption)) ?_) | (refine Ints.ix (Own.sl (by assumption)) (by omega) ?_) | (refine Ints.ixI (Own.sl (by assumption)) (by omega) ?_) | (refine Ints.ld (Own.sl (by assumption)) (by omega) ?_))
  refine Blk.set0 (Hpb.gr G7 (by omega)) (by decide) rfl fun w8 G8 Hp8 => ?_
  have hs7 := G7.size
  have hs8 := G8.size
  have E24 : Ext w2 w4 := E3.new G4 (fun i hi hk => by omega)
  have E28 : Ext w2 w8 := ((((E24.ext E5).ext E6).new G7 (fun i hi hk => by omega))).new G8 (fun i hi hk => by omega)
  have E18 : Ext w1 w8 := E2.ext E28
  have Hb8 := Hb.ext E28
  have Hl8 := ((((Hl4.ext E5).ext E6).gr G7 (by omega))).gr G8 (by omega)
  have Hv8 := Hv7.gr G8 (by omega)
  have Hr8 := hrE.ext E18
  repeat' ((conv => whnf); first | (refine At.ld Hb8 rfl ?_) | (refine Ints.ln Hr8 ?_) | (refine Rng.mk (by omega) ?_) | (refine Split.pos (by omega) ?_) | (refine Split.neg (by omega) ?_) | (refine Split.mk (fun h => ?_) (fun h => ?_)) | (refine Need.mk (by omega) ?_) | (refine Ints.ln (by assumption) ?_) | (refine Mat.ln (by assumption) ?_) | (refine Ints.ln (Mat.row (by assumption) _ (by omega)) ?_) | (refine Ints.ix (by assumption) (by omega) ?_) | (refine Mat.ix (by assumption) (by omega) ?_) | (refine Ints.ix (Mat.row (by assumption) _ (by omega)) (by omega) ?_) | (refine Ints.ix (c := 0) (by assumption) (by omega) ?_) | (refine Mat.ix (c := 0) (by assumption) (by omega) ?_) | (refine Ints.ix (c := 0) (Mat.row (by assumption) _ (by omega)) (by omega) ?_) | (refine Ints.ixI (by assumption) (by omega) ?_) | (refine Mat.ixI (by assumption) (by omega) ?_) | (refine Ints.ixI (Mat.row (by assumption) _ (by omega)) (by omega) ?_) | (refine Ints.ld (by assumption) (by omega) ?_) | (refine Mat.ld (by assumption) (by omega) ?_) | (refine Ints.ld (Mat.row (by assumption) _ (by omega)) (by omega) ?_) | (refine At.ld (by assumption) rfl ?_) | (refine At.ldN (by assumption) rfl ?_) | (refine Prs.ln (by assumption) ?_) | (refine Trs.ln (by assumption) ?_) | (refine Prs.ix (by assumption) (by omega) ?_) | (refine Trs.ix (by assumption) (by omega) ?_) | (refine Prs.ldN (by assumption) (by omega) ?_) | (refine Trs.ldN (by assumption) (by omega) ?_) | (refine At.ldN (Blk.at (by assumption)) rfl ?_) | (refine At.ld (Blk.at (by assumption)) rfl ?_) | (refine IxA.mk (by omega) ?_) | (refine Sl.ln (Own.sl (by assumption)) ?_) | (refine Ints.ix (Own.sl (by assumption)) (by omega) ?_) | (refine Ints.ixI (Own.sl (by assumption)) (by omega) ?_) | (refine Ints.ld (Own.sl (by assumption)) (by omega) ?_))
  refine VC.rc (partitions_rc (mg := r.length) (n := n)) ?_
  rintro _ w9 E9 ⟨bm, bn, rfl, Hm, Hn, hm1, hm2, hn1', hn2'⟩
  have hs9 := E9.size
  have E19 : Ext w1 w9 := E18.ext E9
  repeat' ((conv => whnf); first | (refine Rng.mk (by omega) ?_) | (refine Split.pos (by omega) ?_) | (refine Split.neg (by omega) ?_) | (refine Split.mk (fun h => ?_) (fun h => ?_)) | (refine Need.mk (by omega) ?_) | (refine Ints.ln (by assumption) ?_) | (refine Mat.ln (by assumption) ?_) | (refine Ints.ln (Mat.row (by assumption) _ (by omega)) ?_) | (refine Ints.ix (by assumption) (by omega) ?_) | (refine Mat.ix (by assumption) (by omega) ?_) | (refine Ints.ix (Mat.row (by assumption) _ (by omega)) (by omega) ?_) | (refine Ints.ix (c := 0) (by assumption) (by omega) ?_) | (refine Mat.ix (c := 0) (by assumption) (by omega) ?_) | (refine Ints.ix (c := 0) (Mat.row (by assumption) _ (by omega)) (by omega) ?_) | (refine Ints.ixI (by assumption) (by omega) ?_) | (refine Mat.ixI (by assumption) (by omega) ?_) | (refine Ints.ixI (Mat.row (by assumption) _ (by omega)) (by omega) ?_) | (refine Ints.ld (by assumption) (by omega) ?_) | (refine Mat.ld (by assumption) (by omega) ?_) | (refine Ints.ld (Mat.row (by assumption) _ (by omega)) (by omega) ?_) | (refine At.ld (by assumption) rfl ?_) | (refine At.ldN (by assumption) rfl ?_) | (refine Prs.ln (by assumption) ?_) | (refine Trs.ln (by assumption) ?_) | (refine Prs.ix (by assumption) (by omega) ?_) | (refine Trs.ix (by assumption) (by omega) ?_) | (refine Prs.ldN (by assumption) (by omega) ?_) | (refine Trs.ldN (by assumption) (by omega) ?_) | (refine At.ldN (Blk.at (by assumption)) rfl ?_) | (refine At.ld (Blk.at (by assumption)) rfl ?_) | (refine IxA.mk (by omega) ?_) | (refine Sl.ln (Own.sl (by assumption)) ?_) | (refine Ints.ix (Own.sl (by assumption)) (by omega) ?_) | (refine Ints.ixI (Own.sl (by assumption)) (by omega) ?_) | (refine Ints.ld (Own.sl (by assumption)) (by omega) ?_))
  refine Rwx.range tyOk rfl (parts_it Hm Hn hm2 hn2' (by omega) (by omega)) (fun k hk => by rcases hk with rfl | rfl <;> omega) (fun k => k = vb ∨ k = pb) (fun k hk => ⟨fun hh => by rcases hh with h | h <;> rcases hk with h2 | h2 <;> omega, by rcases hk with h2 | h2 <;> omega⟩)
    (fun n1 pre W => Blk W vb 3 [.int .i64 (bst (fun l => leastP r l n) pre).1] ∧ ∃ pv, Blk W pb 27 [pv] ∧ OB n1 W pv (bst (fun l => leastP r l n) pre).2)
    (fun n1 c pre W => False)
    (fun n1 pre A B h hg => ?_) (fun n1 c pre A B h hg => h.elim) (fun n1 _ => ⟨Hv8.ext E9, _, Hp8.ext E9, Own.nil⟩) ?round ?done ?stop
  · obtain ⟨h1, pv, h2, h3⟩ := h
    exact ⟨h1.gr hg (by omega), pv, h2.gr hg (by omega), Own.gr h3 hg (fun q hq hS => by have := (Own.lt h3 q hq).1; omega)⟩
  case round =>
    intro l v W0
    conv => whnf
    refine ⟨rfl, rfl, rfl, ?_⟩
    intro n1 pre x W hn1 hn2 hpre hI hG Hx
    obtain ⟨HvW, pv, HpW, HO⟩ := hI
    obtain ⟨hxl, hxr⟩ := partsF_ok (mem_pre hpre)
    have hgS : ∀ i, i < w1.heap.size → ¬ (i = vb ∨ i = pb) := fun i hi hk => by rcases hk with h | h <;> omega
    have HrW : Ints W rv r := hrE.ext (E19.new hG hgS)
    have HlW := (Hl8.ext E9).gr hG (by omega)
    have cl := least_pc (n := n) HrW Hx hr (by omega) (by omega) hn hxr
    by_cases hgt : (bst (fun l => leastP r l n) pre).1 < leastP r x n
    · repeat' ((conv => whnf); first | (refine At.ld (i := 0) (Blk.at HlW) rfl ?_) | (refine At.ld (i := 0) (Blk.at HvW) rfl ?_) | (refine VC.pure cl ?_) | (refine Rng.mk (by omega) ?_) | (refine Split.pos (by omega) ?_) | (refine Split.neg (by omega) ?_) | (refine Split.mk (fun h => ?_) (fun h => ?_)) | (refine Need.mk (by omega) ?_) | (refine Ints.ln (by assumption) ?_) | (refine Mat.ln (by assumption) ?_) | (refine Ints.ln (Mat.row (by assumption) _ (by omega)) ?_) | (refine Ints.ix (by assumption) (by omega) ?_) | (refine Mat.ix (by assumption) (by omega) ?_) | (refine Ints.ix (Mat.row (by assumption) _ (by omega)) (by omega) ?_) | (refine Ints.ix (c := 0) (by assumption) (by omega) ?_) | (refine Mat.ix (c := 0) (by assumption) (by omega) ?_) | (refine Ints.ix (c := 0) (Mat.row (by assumption) _ (by omega)) (by omega) ?_) | (refine Ints.ixI (by assumption) (by omega) ?_) | (refine Mat.ixI (by assumption) (by omega) ?_) | (refine Ints.ixI (Mat.row (by assumption) _ (by omega)) (by omega) ?_) | (refine Ints.ld (by assumption) (by omega) ?_) | (refine Mat.ld (by assumption) (by omega) ?_) | (refine Ints.ld (Mat.row (by assumption) _ (by omega)) (by omega) ?_) | (refine At.ld (by assumption) rfl ?_) | (refine At.ldN (by assumption) rfl ?_) | (refine Prs.ln (by assumption) ?_) | (refine Trs.ln (by assumption) ?_) | (refine Prs.ix (by assumption) (by omega) ?_) | (refine Trs.ix (by assumption) (by omega) ?_) | (refine Prs.ldN (by assumption) (by omega) ?_) | (refine Trs.ldN (by assumption) (by omega) ?_) | (refine At.ldN (Blk.at (by assumption)) rfl ?_) | (refine At.ld (Blk.at (by assumption)) rfl ?_) | (refine IxA.mk (by omega) ?_) | (refine Sl.ln (Own.sl (by assumption)) ?_) | (refine Ints.ix (Own.sl (by assumption)) (by omega) ?_) | (refine Ints.ixI (Own.sl (by assumption)) (by omega) ?_) | (refine Ints.ld (Own.sl (by assumption)) (by omega) ?_))
      refine VC.rc (clone_rc Hx (by omega)) ?_
      rintro cv w31 E31 ⟨_, HC⟩
      repeat' ((conv => whnf); first | (refine Rng.mk (by omega) ?_) | (refine Split.pos (by omega) ?_) | (refine Split.neg (by omega) ?_) | (refine Split.mk (fun h => ?_) (fun h => ?_)) | (refine Need.mk (by omega) ?_) | (refine Ints.ln (by assumption) ?_) | (refine Mat.ln (by assumption) ?_) | (refine Ints.ln (Mat.row (by assumption) _ (by omega)) ?_) | (refine Ints.ix (by assumption) (by omega) ?_) | (refine Mat.ix (by assumption) (by omega) ?_) | (refine Ints.ix (Mat.row (by assumption) _ (by omega)) (by omega) ?_) | (refine Ints.ix (c := 0) (by assumption) (by omega) ?_) | (refine Mat.ix (c := 0) (by assumption) (by omega) ?_) | (refine Ints.ix (c := 0) (Mat.row (by assumption) _ (by omega)) (by omega) ?_) | (refine Ints.ixI (by assumption) (by omega) ?_) | (refine Mat.ixI (by assumption) (by omega) ?_) | (refine Ints.ixI (Mat.row (by assumption) _ (by omega)) (by omega) ?_) | (refine Ints.ld (by assumption) (by omega) ?_) | (refine Mat.ld (by assumption) (by omega) ?_) | (refine Ints.ld (Mat.row (by assumption) _ (by omega)) (by omega) ?_) | (refine At.ld (by assumption) rfl ?_) | (refine At.ldN (by assumption) rfl ?_) | (refine Prs.ln (by assumption) ?_) | (refine Trs.ln (by assumption) ?_) | (refine Prs.ix (by assumption) (by omega) ?_) | (refine Trs.ix (by assumption) (by omega) ?_) | (refine Prs.ldN (by assumption) (by omega) ?_) | (refine Trs.ldN (by assumption) (by omega) ?_) | (refine At.ldN (Blk.at (by assumption)) rfl ?_) | (refine At.ld (Blk.at (by assumption)) rfl ?_) | (refine IxA.mk (by omega) ?_) | (refine Sl.ln (Own.sl (by assumption)) ?_) | (refine Ints.ix (Own.sl (by assumption)) (by omega) ?_) | (refine Ints.ixI (Own.sl (by assumption)) (by omega) ?_) | (refine Ints.ld (Own.sl (by assumption)) (by omega) ?_))
      refine Blk.set0 (HvW.ext E31) (by simp) rfl fun w32 G32 Hv2 => ?_
      repeat' ((conv => whnf); first | (refine Rng.mk (by omega) ?_) | (refine Split.pos (by omega) ?_) | (refine Split.neg (by omega) ?_) | (refine Split.mk (fun h => ?_) (fun h => ?_)) | (refine Need.mk (by omega) ?_) | (refine Ints.ln (by assumption) ?_) | (refine Mat.ln (by assumption) ?_) | (refine Ints.ln (Mat.row (by assumption) _ (by omega)) ?_) | (refine Ints.ix (by assumption) (by omega) ?_) | (refine Mat.ix (by assumption) (by omega) ?_) | (refine Ints.ix (Mat.row (by assumption) _ (by omega)) (by omega) ?_) | (refine Ints.ix (c := 0) (by assumption) (by omega) ?_) | (refine Mat.ix (c := 0) (by assumption) (by omega) ?_) | (refine Ints.ix (c := 0) (Mat.row (by assumption) _ (by omega)) (by omega) ?_) | (refine Ints.ixI (by assumption) (by omega) ?_) | (refine Mat.ixI (by assumption) (by omega) ?_) | (refine Ints.ixI (Mat.row (by assumption) _ (by omega)) (by omega) ?_) | (refine Ints.ld (by assumption) (by omega) ?_) | (refine Mat.ld (by assumption) (by omega) ?_) | (refine Ints.ld (Mat.row (by assumption) _ (by omega)) (by omega) ?_) | (refine At.ld (by assumption) rfl ?_) | (refine At.ldN (by assumption) rfl ?_) | (refine Prs.ln (by assumption) ?_) | (refine Trs.ln (by assumption) ?_) | (refine Prs.ix (by assumption) (by omega) ?_) | (refine Trs.ix (by assumption) (by omega) ?_) | (refine Prs.ldN (by assumption) (by omega) ?_) | (refine Trs.ldN (by assumption) (by omega) ?_) | (refine At.ldN (Blk.at (by assumption)) rfl ?_) | (refine At.ld (Blk.at (by assumption)) rfl ?_) | (refine IxA.mk (by omega) ?_) | (refine Sl.ln (Own.sl (by assumption)) ?_) | (refine Ints.ix (Own.sl (by assumption)) (by omega) ?_) | (refine Ints.ixI (Own.sl (by assumption)) (by omega) ?_) | (refine Ints.ld (Own.sl (by assumption)) (by omega) ?_))
      refine Blk.set0 ((HpW.ext E31).gr G32 (by omega)) (by simp) (Sl.cells (Own.sl HC)).2 fun w33 G33 Hp2 => ?_
      have hs31 := E31.size
      repeat' ((conv => whnf); first | (refine Rng.mk (by omega) ?_) | (refine Split.pos (by omega) ?_) | (refine Split.neg (by omega) ?_) | (refine Split.mk (fun h => ?_) (fun h => ?_)) | (refine Need.mk (by omega) ?_) | (refine Ints.ln (by assumption) ?_) | (refine Mat.ln (by assumption) ?_) | (refine Ints.ln (Mat.row (by assumption) _ (by omega)) ?_) | (refine Ints.ix (by assumption) (by omega) ?_) | (refine Mat.ix (by assumption) (by omega) ?_) | (refine Ints.ix (Mat.row (by assumption) _ (by omega)) (by omega) ?_) | (refine Ints.ix (c := 0) (by assumption) (by omega) ?_) | (refine Mat.ix (c := 0) (by assumption) (by omega) ?_) | (refine Ints.ix (c := 0) (Mat.row (by assumption) _ (by omega)) (by omega) ?_) | (refine Ints.ixI (by assumption) (by omega) ?_) | (refine Mat.ixI (by assumption) (by omega) ?_) | (refine Ints.ixI (Mat.row (by assumption) _ (by omega)) (by omega) ?_) | (refine Ints.ld (by assumption) (by omega) ?_) | (refine Mat.ld (by assumption) (by omega) ?_) | (refine Ints.ld (Mat.row (by assumption) _ (by omega)) (by omega) ?_) | (refine At.ld (by assumption) rfl ?_) | (refine At.ldN (by assumption) rfl ?_) | (refine Prs.ln (by assumption) ?_) | (refine Trs.ln (by assumption) ?_) | (refine Prs.ix (by assumption) (by omega) ?_) | (refine Trs.ix (by assumption) (by omega) ?_) | (refine Prs.ldN (by assumption) (by omega) ?_) | (refine Trs.ldN (by assumption) (by omega) ?_) | (refine At.ldN (Blk.at (by assumption)) rfl ?_) | (refine At.ld (Blk.at (by assumption)) rfl ?_) | (refine IxA.mk (by omega) ?_) | (refine Sl.ln (Own.sl (by assumption)) ?_) | (refine Ints.ix (Own.sl (by assumption)) (by omega) ?_) | (refine Ints.ixI (Own.sl (by assumption)) (by omega) ?_) | (refine Ints.ld (Own.sl (by assumption)) (by omega) ?_))
      rw [bst_yes hgt]
      have HC2 := Own.gr HC G32 (fun q hq hS => by have := (Own.lt HC q hq).1; omega)
      exact ⟨⟨Hv2.gr G33 (by omega), _, Hp2, Own.base (Own.gr HC2 G33 (fun q hq hS => by have := (Own.lt HC q hq).1; omega)) hn2⟩, ((Gr.ofExt E31 : Gr _ _ _).trans (G32.mono fun k _ h => .inl (.inl h))).trans (G33.mono fun k _ h => .inl (.inr h))⟩
    · repeat' ((conv => whnf); first | (refine At.ld (i := 0) (Blk.at HlW) rfl ?_) | (refine At.ld (i := 0) (Blk.at HvW) rfl ?_) | (refine VC.pure cl ?_) | (refine Rng.mk (by omega) ?_) | (refine Split.pos (by omega) ?_) | (refine Split.neg (by omega) ?_) | (refine Split.mk (fun h => ?_) (fun h => ?_)) | (refine Need.mk (by omega) ?_) | (refine Ints.ln (by assumption) ?_) | (refine Mat.ln (by assumption) ?_) | (refine Ints.ln (Mat.row (by assumption) _ (by omega)) ?_) | (refine Ints.ix (by assumption) (by omega) ?_) | (refine Mat.ix (by assumption) (by omega) ?_) | (refine Ints.ix (Mat.row (by assumption) _ (by omega)) (by omega) ?_) | (refine Ints.ix (c := 0) (by assumption) (by omega) ?_) | (refine Mat.ix (c := 0) (by assumption) (by omega) ?_) | (refine Ints.ix (c := 0) (Mat.row (by assumption) _ (by omega)) (by omega) ?_) | (refine Ints.ixI (by assumption) (by omega) ?_) | (refine Mat.ixI (by assumption) (by omega) ?_) | (refine Ints.ixI (Mat.row (by assumption) _ (by omega)) (by omega) ?_) | (refine Ints.ld (by assumption) (by omega) ?_) | (refine Mat.ld (by assumption) (by omega) ?_) | (refine Ints.ld (Mat.row (by assumption) _ (by omega)) (by omega) ?_) | (refine At.ld (by assumption) rfl ?_) | (refine At.ldN (by assumption) rfl ?_) | (refine Prs.ln (by assumption) ?_) | (refine Trs.ln (by assumption) ?_) | (refine Prs.ix (by assumption) (by omega) ?_) | (refine Trs.ix (by assumption) (by omega) ?_) | (refine Prs.ldN (by assumption) (by omega) ?_) | (refine Trs.ldN (by assumption) (by omega) ?_) | (refine At.ldN (Blk.at (by assumption)) rfl ?_) | (refine At.ld (Blk.at (by assumption)) rfl ?_) | (refine IxA.mk (by omega) ?_) | (refine Sl.ln (Own.sl (by assumption)) ?_) | (refine Ints.ix (Own.sl (by assumption)) (by omega) ?_) | (refine Ints.ixI (Own.sl (by assumption)) (by omega) ?_) | (refine Ints.ld (Own.sl (by assumption)) (by omega) ?_))
      rw [bst_no hgt]
      exact ⟨⟨HvW, pv, HpW, HO⟩, Gr.refl _ _⟩
  case done =>
    intro D n1 W hD hDn hI hG hdf
    obtain ⟨HvW, pv, HpW, HO⟩ := hI
    have hgS : ∀ i, i < w1.heap.size → ¬ (i = vb ∨ i = pb) := fun i hi hk => by rcases hk with h | h <;> omega
    have EW : Ext w1 W := E19.new hG hgS
    repeat' ((conv => whnf); first | (refine Drx.plan 27 [] (.q 0 (.q 1 (.q 2 (.q 3 .nil)))) tyOk rfl (by kernel_rfl) ?_) | (refine At.ld (i := 0) (Blk.at HvW) rfl ?_) | (refine At.ld (i := 0) (Blk.at HpW) rfl ?_) | (refine Rng.mk (by omega) ?_) | (refine Split.pos (by omega) ?_) | (refine Split.neg (by omega) ?_) | (refine Split.mk (fun h => ?_) (fun h => ?_)) | (refine Need.mk (by omega) ?_) | (refine Ints.ln (by assumption) ?_) | (refine Mat.ln (by assumption) ?_) | (refine Ints.ln (Mat.row (by assumption) _ (by omega)) ?_) | (refine Ints.ix (by assumption) (by omega) ?_) | (refine Mat.ix (by assumption) (by omega) ?_) | (refine Ints.ix (Mat.row (by assumption) _ (by omega)) (by omega) ?_) | (refine Ints.ix (c := 0) (by assumption) (by omega) ?_) | (refine Mat.ix (c := 0) (by assumption) (by omega) ?_) | (refine Ints.ix (c := 0) (Mat.row (by assumption) _ (by omega)) (by omega) ?_) | (refine Ints.ixI (by assumption) (by omega) ?_) | (refine Mat.ixI (by assumption) (by omega) ?_) | (refine Ints.ixI (Mat.row (by assumption) _ (by omega)) (by omega) ?_) | (refine Ints.ld (by assumption) (by omega) ?_) | (refine Mat.ld (by assumption) (by omega) ?_) | (refine Ints.ld (Mat.row (by assumption) _ (by omega)) (by omega) ?_) | (refine At.ld (by assumption) rfl ?_) | (refine At.ldN (by assumption) rfl ?_) | (refine Prs.ln (by assumption) ?_) | (refine Trs.ln (by assumption) ?_) | (refine Prs.ix (by assumption) (by omega) ?_) | (refine Trs.ix (by assumption) (by omega) ?_) | (refine Prs.ldN (by assumption) (by omega) ?_) | (refine Trs.ldN (by assumption) (by omega) ?_) | (refine At.ldN (Blk.at (by assumption)) rfl ?_) | (refine At.ld (Blk.at (by assumption)) rfl ?_) | (refine IxA.mk (by omega) ?_) | (refine Sl.ln (Own.sl (by assumption)) ?_) | (refine Ints.ix (Own.sl (by assumption)) (by omega) ?_) | (refine Ints.ixI (Own.sl (by assumption)) (by omega) ?_) | (refine Ints.ld (Own.sl (by assumption)) (by omega) ?_))
    refine ⟨hdf, fun w33 G33 => ?_⟩
    conv => whnf
    exact ⟨EW.new G33 (fun i hi hk => by omega), _, rfl, Own.base (Own.gr HO G33 (fun q hq hS => by have := (Own.lt HO q hq).1; omega)) (Nat.zero_le _)⟩
  case stop =>
    intro D n1 c pre W hD hDn hpre hI hG hdf
    exact hI.elim
end Go.Proofs.Ytkgogljfngplnaa
set_option linter.unusedVariables false
set_option linter.unusedSimpArgs false
namespace Go.Proofs.Ytkgogljfngplnaa
open Go.Eng
set_option maxRecDepth 100000
set_option maxHeartbeats 4000000

/-- the first c lists of m digits to the base n -/
def lsts (n m c : Nat) : List (List Int) := mk c fun k => digs n m k
end Go.Proofs.Ytkgogljfngplnaa
set_option linter.unusedVariables false
set_option linter.unusedSimpArgs false
namespace Go.Proofs.Ytkgogljfngplnaa
open Go.Eng

theorem bst_le {f : List Int → Int} {l : List (List Int)} {s : Int × List Int} (h : ∀ y, y ∈ l → f y ≤ s.1) : l.foldl (bst1 f) s = s := by
  induction l generalizing s with
  | nil => rfl
  | cons y l ih =>
    have h1 := h y (by simp)
    rw [List.foldl_cons, show bst1 f s y = s from if_neg (by omega)]
    exact ih fun z hz => h z (by simp [hz])
theorem bst_lt {f : List Int → Int} {l : List (List Int)} {b : Int} : ∀ {s : Int × List Int}, s.1 < b → (∀ y, y ∈ l → f y < b) → (l.foldl (bst1 f) s).1 < b := by
  induction l with
  | nil => intro s h _; exact h
  | cons y l ih =>
    intro s h h2
    rw [List.foldl_cons]
    refine ih ?_ fun z hz => h2 z (by simp [hz])
    unfold bst1
    split
    · exact h2 y (by simp)
    · exact h
theorem bst_split {f : List Int → Int} {p t : List (List Int)} {x : List Int} (h0 : -1 < f x) (h1 : ∀ y, y ∈ p → f y < f x) (h2 : ∀ y, y ∈ t → f y ≤ f x) : bst f (p ++ x :: t) = (f x, x) := by
  unfold bst
  rw [List.foldl_append, List.foldl_cons]
  have h3 := bst_lt (f := f) (l := p) (b := f x) (s := (-1, [])) h0 h1
  rw [show bst1 f (p.foldl (bst1 f) (-1, [])) x = (f x, x) from if_pos h3]
  exact bst_le h2
theorem bst_find {f : List Int → Int} : ∀ {l : List (List Int)}, (∀ y, y ∈ l → -1 < f y) → l ≠ [] → ∃ p x t, l = p ++ x :: t ∧ (∀ y, y ∈ p → f y < f x) ∧ (∀ y, y ∈ t → f y ≤ f x)
  | [], _, h => absurd rfl h
  | y :: l, h, _ => by
    by_cases hl : l = []
    · subst hl
      exact ⟨[], y, [], rfl, fun z hz => by simp at hz, fun z hz => by simp at hz⟩
    · obtain ⟨p, x, t, rfl, h1, h2⟩ := bst_find (fun z hz => h z (by simp [hz])) hl
      by_cases e : f y < f x
      · exact ⟨y :: p, x, t, rfl, fun z hz => by rcases List.mem_cons.1 hz with rfl | hz; exact e; exact h1 z hz, h2⟩
      · refine ⟨[], y, p ++ x :: t, rfl, fun z hz => by simp at hz, fun z hz => ?_⟩
        rcases List.mem_append.1 hz with hz | hz
        · have := h1 z hz; omega
        · rcases List.mem_cons.1 hz with rfl | hz
          · omega
          · have := h2 z hz; omega

/-- the first greatest of an ordered list -/
def top (f : List Int → Int) (S : List (List Int)) (x : List Int) : Prop := x ∈ S ∧ (∀ y, y ∈ S → f y ≤ f x) ∧ ∀ y, y ∈ S → lexlt y x → f y < f x
theorem top_bst {f : List Int → Int} {S : List (List Int)} {x : List Int} (hS : S.Pairwise lexlt) (h0 : -1 < f x) (h : top f S x) : bst f S = (f x, x) := by
  obtain ⟨hx, h1, h2⟩ := h
  obtain ⟨p, t, rfl⟩ := List.append_of_mem hx
  refine bst_split h0 (fun y hy => h2 y (by simp [hy]) ?_) fun y hy => h1 y (by simp [hy])
  exact (List.pairwise_append.1 hS).2.2 y hy x (by simp)
theorem bst_top {f : List Int → Int} {S : List (List Int)} (hS : S.Pairwise lexlt) (h0 : ∀ y, y ∈ S → -1 < f y) (hn : S ≠ []) : ∃ x, top f S x ∧ bst f S = (f x, x) := by
  obtain ⟨p, x, t, rfl, h1, h2⟩ := bst_find h0 hn
  refine ⟨x, ⟨by simp, fun y hy => ?_, fun y hy hl => ?_⟩, bst_split (h0 x (by simp)) h1 h2⟩
  · rcases List.mem_append.1 hy with hy | hy
    · have := h1 y hy; omega
    · rcases List.mem_cons.1 hy with rfl | hy
      · omega
      · exact h2 y hy
  · rcases List.mem_append.1 hy with hy | hy
    · exact h1 y hy
    · have h3 := (List.pairwise_append.1 hS).2.1
      rcases List.mem_cons.1 hy with rfl | hy
      · exact absurd hl (lexlt_irrefl _)
      · exact absurd ((List.pairwise_cons.1 h3).1 y hy) (lexlt_asymm hl)

theorem lsts_pair {n m : Nat} (hn : 1 ≤ n) : (lsts n m (n ^ m)).Pairwise lexlt := by
  unfold lsts mk
  rw [List.pairwise_map]
  refine List.Pairwise.imp_of_mem ?_ List.pairwise_lt_range
  intro a b ha hb h
  exact digs_lt hn (List.mem_range.1 ha) (List.mem_range.1 hb) h
theorem lsts_mem {n m : Nat} (hn : 1 ≤ n) {x : List Int} : x ∈ lsts n m (n ^ m) ↔ x.length = m ∧ rng x n := by
  unfold lsts mk
  rw [List.mem_map]
  constructor
  · rintro ⟨k, hk, rfl⟩
    have hl := digs_len n m k
    exact ⟨hl, fun i hi => digs_rng hn (List.mem_range.1 hk) i (by omega)⟩
  · rintro ⟨rfl, h⟩
    obtain ⟨k, hk, e⟩ := digs_all hn (l := x) h
    exact ⟨k, List.mem_range.2 hk, e⟩
theorem partsF_pair (n : Nat) : ∀ r used, (partsF n r used).Pairwise lexlt
  | 0, _ => by simp [partsF]
  | r + 1, used => by
    simp only [partsF]
    rw [List.pairwise_flatMap]
    refine ⟨fun k _ => ?_, ?_⟩
    · rw [List.pairwise_map]
      exact (partsF_pair n r _).imp fun h => .inr ⟨rfl, h⟩
    · refine List.Pairwise.imp ?_ List.pairwise_lt_range
      intro a b hab x hx y hy
      obtain ⟨s, _, rfl⟩ := List.mem_map.1 hx
      obtain ⟨t, _, rfl⟩ := List.mem_map.1 hy
      exact .inl (Int.ofNat_lt.2 hab)

/-- where a list is not numbered by first goods -/
theorem not_parts {n : Nat} : ∀ {r used : Nat} {s : List Int}, s.length = r → rng s n → s ∉ partsF n r used → ∃ (u b : Nat) (p t : List Int), used ≤ u ∧ u < b ∧ b < n ∧ s = p ++ (b : Int) :: t ∧ ∀ y, y ∈ p → y < (u : Int)
  | 0, used, s, hl, _, h => absurd (by rw [List.length_eq_zero_iff.1 hl]; simp [partsF]) h
  | r + 1, used, [], hl, _, h => by simp at hl
  | r + 1, used, x :: s, hl, hr, h => by
    have hx := hr 0 (by simp)
    rw [List.getD_cons_zero] at hx
    obtain ⟨a, rfl⟩ : ∃ a : Nat, x = (a : Int) := ⟨x.toNat, by omega⟩
    by_cases ha : a < min (used + 1) n
    · have hs : s ∉ partsF n r (max used (a + 1)) := fun hs => h (by
        simp only [partsF, List.mem_flatMap, List.mem_range, List.mem_map]
        exact ⟨a, ha, s, hs, rfl⟩)
      have hrs : rng s n := fun k hk => by have := hr (k + 1) (by simp; omega); rwa [List.getD_cons_succ] at this
      obtain ⟨u, b, p, t, h1, h2, h3, rfl, h5⟩ := not_parts (by simpa using hl) hrs hs
      refine ⟨u, b, (a : Int) :: p, t, by omega, h2, h3, rfl, fun y hy => ?_⟩
      rcases List.mem_cons.1 hy with rfl | hy
      · omega
      · exact h5 y hy
    · exact ⟨used, a, [], s, Nat.le_refl _, by omega, by omega, rfl, fun y hy => by simp at hy⟩

/-- two labels change places -/
def sw (u b : Nat) (x : Int) : Int := if x = u then b else if x = b then u else x
def swN (u b i : Nat) : Nat := if i = u then b else if i = b then u else i
theorem sw_cast (u b i : Nat) : sw u b (i : Int) = ((swN u b i : Nat) : Int) := by
  unfold sw swN
  by_cases h1 : i = u
  · subst h1; simp
  · rw [if_neg h1, if_neg (by omega)]
    by_cases h2 : i = b
    · subst h2; simp
    · rw [if_neg h2, if_neg (by omega)]
theorem sw_iff {u b : Nat} {x y : Int} : sw u b x = y ↔ x = sw u b y := by
  unfold sw; constructor <;> intro h <;> (repeat' split at h) <;> (repeat' split) <;> omega
theorem sw_rng {u b n : Nat} (hu : u < n) (hb : b < n) {x : Int} (h : 0 ≤ x ∧ x < n) : 0 ≤ sw u b x ∧ sw u b x < n := by
  unfold sw; repeat' split
  all_goals omega
theorem swN_lt {u b n i : Nat} (hu : u < n) (hb : b < n) (h : i < n) : swN u b i < n := by
  unfold swN; repeat' split
  all_goals omega
theorem swN_swN (u b i : Nat) : swN u b (swN u b i) = i := by
  unfold swN; repeat' split
  all_goals omega
theorem map_getD {l : List Int} {g : Int → Int} {j : Nat} (h : j < l.length) : (l.map g).getD j 0 = g (l.getD j 0) := by simp [List.getD, h]
theorem worth_sw {l r : List Int} {u b : Nat} {k : Int} : ∀ {c : Nat}, c ≤ l.length → worth (l.map (sw u b)) r k c = worth l r (sw u b k) c
  | 0, _ => rfl
  | c + 1, h => by
    have ih := worth_sw (l := l) (r := r) (u := u) (b := b) (k := k) (c := c) (by omega)
    simp only [worth]
    rw [ih, map_getD (by omega)]
    by_cases e : sw u b (l.getD c 0) = k
    · rw [if_pos e, if_pos (sw_iff.1 e)]
    · rw [if_neg e, if_neg (fun h => e (sw_iff.2 h))]
theorem mnTo_le {f : Nat → Int} : ∀ {c i : Nat}, i ≤ c → mnTo f c ≤ f i
  | 0, i, h => by obtain rfl : i = 0 := by omega
                  exact Int.le_refl _
  | c + 1, i, h => by
    simp only [mnTo]
    by_cases e : i = c + 1
    · subst e; omega
    · have := mnTo_le (f := f) (c := c) (i := i) (by omega); omega
theorem mnTo_at (f : Nat → Int) : ∀ c : Nat, ∃ i, i ≤ c ∧ mnTo f c = f i
  | 0 => ⟨0, Nat.le_refl _, rfl⟩
  | c + 1 => by
    obtain ⟨i, hi, e⟩ := mnTo_at f c
    simp only [mnTo]
    by_cases h : f (c + 1) < mnTo f c
    · exact ⟨c + 1, Nat.le_refl _, by omega⟩
    · exact ⟨i, by omega, by omega⟩
theorem leastP_sw {r l : List Int} {n u b : Nat} (hu : u < n) (hb : b < n) : leastP r (l.map (sw u b)) n = leastP r l n := by
  unfold leastP
  rw [List.length_map]
  have e : ∀ i : Nat, worth (l.map (sw u b)) r (i : Int) l.length = worth l r ((swN u b i : Nat) : Int) l.length := fun i => by rw [worth_sw (Nat.le_refl _), sw_cast]
  refine Int.le_antisymm ?_ ?_
  · obtain ⟨i, hi, hx⟩ := mnTo_at (fun b : Nat => worth l r b l.length) (n - 1)
    have h1 := swN_lt (i := i) hu hb (by omega)
    have h2 := mnTo_le (f := fun k : Nat => worth (l.map (sw u b)) r k l.length) (c := n - 1) (i := swN u b i) (by omega)
    rw [hx]
    refine Int.le_trans h2 ?_
    show worth (l.map (sw u b)) r ((swN u b i : Nat) : Int) l.length ≤ _
    rw [e, swN_swN]; exact Int.le_refl _
  · obtain ⟨i, hi, hx⟩ := mnTo_at (fun k : Nat => worth (l.map (sw u b)) r k l.length) (n - 1)
    have h1 := swN_lt (i := i) hu hb (by omega)
    have h2 := mnTo_le (f := fun b : Nat => worth l r b l.length) (c := n - 1) (i := swN u b i) (by omega)
    rw [hx]
    refine Int.le_trans h2 ?_
    show _ ≤ worth (l.map (sw u b)) r (i : Int) l.length
    rw [e]; exact Int.le_refl _
theorem lexlt_app {x y : Int} (h : x < y) {t t' : List Int} : ∀ p : List Int, lexlt (p ++ x :: t) (p ++ y :: t')
  | [] => .inl h
  | a :: p => .inr ⟨rfl, lexlt_app h p⟩

/-- the share: all lists, or the partitions alone -/
theorem bst_same {r : List Int} {m n : Nat} (hr : ∀ j, 0 ≤ r.getD j 0 ∧ r.getD j 0 ≤ 1000) (hm : m ≤ 10) (hn : 1 ≤ n) :
    bst (fun l => leastP r l n) (lsts n m (n ^ m)) = bst (fun l => leastP r l n) (partsF n m 0) := by
  have h0 : ∀ y, y ∈ lsts n m (n ^ m) → -1 < leastP r y n := fun y hy => by
    have := leastP_bd (n := n) hr (show y.length ≤ 10 by have := ((lsts_mem hn).1 hy).1; omega)
    omega
  have hne : lsts n m (n ^ m) ≠ [] := by
    have : List.replicate m (0 : Int) ∈ lsts n m (n ^ m) := (lsts_mem hn).2 ⟨by simp, fun k hk => by
      simp [List.getD] at hk ⊢
      rw [List.getElem?_replicate, if_pos hk]
      simp; omega⟩
    intro e; rw [e] at this; simp at this
  obtain ⟨x, hx, e⟩ := bst_top (f := fun l => leastP r l n) (lsts_pair hn) h0 hne
  rw [e]
  obtain ⟨hxl, hxr⟩ := (lsts_mem hn).1 hx.1
  have hsub : ∀ y, y ∈ partsF n m 0 → y ∈ lsts n m (n ^ m) := fun y hy => (lsts_mem hn).2 (partsF_ok hy)
  symm
  refine top_bst (partsF_pair n m 0) (h0 x hx.1) ⟨?_, fun y hy => hx.2.1 y (hsub y hy), fun y hy hl => hx.2.2 y (hsub y hy) hl⟩
  refine Classical.byContradiction fun hno => ?_
  obtain ⟨u, b, p, t, h1, h2, h3, h4, h5⟩ := not_parts hxl hxr hno
  have hun : u < n := by omega
  have hmem : x.map (sw u b) ∈ lsts n m (n ^ m) := (lsts_mem hn).2 ⟨by rw [List.length_map]; exact hxl, fun k hk => by
    rw [List.length_map] at hk
    rw [map_getD hk]
    exact sw_rng hun h3 (hxr k hk)⟩
  have hpm : p.map (sw u b) = p := by
    conv => rhs; rw [← List.map_id p]
    refine List.map_congr_left fun y hy => ?_
    have hy1 := h5 y hy
    show sw u b y = y
    unfold sw
    rw [if_neg (by omega), if_neg (by omega)]
  have hxm : x.map (sw u b) = p ++ (u : Int) :: t.map (sw u b) := by
    rw [h4, List.map_append, hpm, List.map_cons]
    rw [show sw u b (b : Int) = u by unfold sw; rw [if_neg (by omega), if_pos rfl]]
  have hlt : lexlt (x.map (sw u b)) x := by
    rw [hxm]
    conv => rhs; rw [h4]
    exact lexlt_app (Int.ofNat_lt.2 h2) p
  have h6 := hx.2.2 _ hmem hlt
  have h7 := leastP_sw (r := r) (l := x) hun h3
  have h6' : leastP r (x.map (sw u b)) n < leastP r x n := h6
  omega
end Go.Proofs.Ytkgogljfngplnaa
set_option linter.unusedVariables false
set_option linter.unusedSimpArgs false
namespace Go.Proofs.Ytkgogljfngplnaa
open Go.Eng
set_option maxRecDepth 100000
set_option maxHeartbeats 4000000

/-- the share of an agent, and its best partition -/
def shB (rr : List (List Int)) (i n : Nat) : Int × List Int := bst (fun l => leastP (rr.getD i []) l n) (partsF n (mOf rr) 0)
theorem shB_all {rr : List (List Int)} {i n : Nat} (h : chk rr = 0) (hn : 1 ≤ n) : shB rr i n = bst (fun l => leastP (rr.getD i []) l n) (lsts n (mOf rr) (n ^ mOf rr)) :=
  (bst_same (fun j => (gd_of_chk h).val i j) (gd_of_chk h).m10 hn).symm
def badO (rr : List (List Int)) (ag k : Int) : Prop := ag < 0 ∨ (rr.length : Int) ≤ ag ∨ k < 1 ∨ 6 < k
open Classical in noncomputable def ofE (rr : List (List Int)) (ag k : Int) : Int := if chk rr ≠ 0 then chk rr else if badO rr ag k then 2 else 0
open Classical in noncomputable def ofR (rr : List (List Int)) (ag k : Int) : Int × List Int := if ofE rr ag k = 0 then shB rr ag.toNat k.toNat else (0, [])
theorem ofE_chk {rr : List (List Int)} {ag k : Int} (h : chk rr ≠ 0) : ofE rr ag k = chk rr := by unfold ofE; rw [if_pos h]
theorem ofE_bad {rr : List (List Int)} {ag k : Int} (h : chk rr = 0) (hb : badO rr ag k) : ofE rr ag k = 2 := by unfold ofE; rw [if_neg (by omega), if_pos hb]
theorem ofE_ok {rr : List (List Int)} {ag k : Int} (h : chk rr = 0) (hb : ¬ badO rr ag k) : ofE rr ag k = 0 := by unfold ofE; rw [if_neg (by omega), if_neg hb]
/-- the shares of all agents -/
noncomputable def shA (rr : List (List Int)) : List Int := if chk rr = 0 then (List.range rr.length).map fun i => (shB rr i rr.length).1 else []

theorem eBun : Elem Try.prog 75 (.agg #[.slice none 0 0, .int .i64 0]) 2 32 := by unfold Elem; kernel_rfl
theorem VS.two {P : Program} {w : World} {t : TypeId} {z0 z1 x : Value} {y : Int} {N b : Nat} {f0 f1 : Field} {K : Value → Prop} (ht : P.underlying t = some (.struct #[f0, f1])) (hz : Elem P t (.agg #[z0, z1]) N b) (hg : P.cellsOf f0.type = 1 ∧ P.cellsOf f1.type = 1) (ho : f0.offset = 0 ∧ f1.offset = 1) (hx : x.cells = #[x]) (hk : K (.agg #[x, .int .i64 y])) :
    VS P (Instr.build t #[(0, x), (1, .int .i64 y)]) w K :=
  VS.fields (l := [f0, f1]) (ps := [(0, x), (1, .int .i64 y)]) ht hz (by simp [hg.1, hg.2]) (by simp [ho.1, ho.2, List.range, List.range.loop]) rfl rfl rfl (by intro v hv; simp at hv; rcases hv with rfl | rfl; exact hx; rfl) hk

theorem sof_rc {w : World} {gv : Value} {vs : List Value} {rr : List (List Int)} {ag k : Int} (Hg : Mat w gv vs rr) :
    RC Try.prog 18 [.agg #[gv], .int .i64 ag, .int .i64 k] w NoB (fun u w' => ∃ v, u = .tuple #[.int .i64 (ofR rr ag k).1, v, .int .i64 (ofE rr ag k)] ∧ OI w' v (ofR rr ag k).2) := by
  refine RC.mk tyOk Try.func18 rfl (by kernel_rfl) fun w1 E1 => ?_
  replace Hg := Hg.ext E1
  have EE := Ext.refl w1
  refine Bx.agg fun b2 w2 E2 hb2 Hb _ => ?_
  replace Hg := Hg.ext E2
  replace EE := EE.ext E2
  have cc := gcheck_pc Hg
  by_cases hck : chk rr = 0
  · have hgd := gd_of_chk hck
    have hn6 := hgd.n6
    have hm10 := hgd.m10
    have hmO : mOf rr = (rr.getD 0 []).length := rfl
    by_cases hbad : badO rr ag k
    · rw [ofR, ofE_bad hck hbad, if_neg (by decide)]
      have hbad' : ag < 0 ∨ (rr.length : Int) ≤ ag ∨ k < 1 ∨ 6 < k := hbad
      repeat' ((conv => whnf); first | (refine Dr.quiet tyOk (by kernel_rfl) ?_) | (refine VC.pure cc ?_) | (refine Rng.mk (by omega) ?_) | (refine Split.pos (by omega) ?_) | (refine Split.neg (by omega) ?_) | (refine Split.mk (fun h => ?_) (fun h => ?_)) | (refine Need.mk (by omega) ?_) | (refine Ints.ln (by assumption) ?_) | (refine Mat.ln (by assumption) ?_) | (refine Ints.ln (Mat.row (by assumption) _ (by omega)) ?_) | (refine Ints.ix (by assumption) (by omega) ?_) | (refine Mat.ix (by assumption) (by omega) ?_) | (refine Ints.ix (Mat.row (by assumption) _ (by omega)) (by omega) ?_) | (refine Ints.ix (c := 0) (by assumption) (by omega) ?_) | (refine Mat.ix (c := 0) (by assumption) (by omega) ?_) | (refine Ints.ix (c := 0) (Mat.row (by assumption) _ (by omega)) (by omega) ?_) | (refine Ints.ixI (by assumption) (by omega) ?_) | (refine Mat.ixI (by assumption) (by omega) ?_) | (refine Ints.ixI (Mat.row (by assumption) _ (by omega)) (by omega) ?_) | (refine Ints.ld (by assumption) (by omega) ?_) | (refine Mat.ld (by assumption) (by omega) ?_) | (refine Ints.ld (Mat.row (by assumption) _ (by omega)) (by omega) ?_) | (refine At.ld (by assumption) rfl ?_) | (refine At.ldN (by assumption) rfl ?_) | (refine Prs.ln (by assumption) ?_) | (refine Trs.ln (by assumption) ?_) | (refine Prs.ix (by assumption) (by omega) ?_) | (refine Trs.ix (by assumption) (by omega) ?_) | (refine Prs.ldN (by assumption) (by omega) ?_) | (refine Trs.ldN (by assumption) (by omega) ?_) | (refine At.ldN (Blk.at (by assumption)) rfl ?_) | (refine At.ld (Blk.at (by assumption)) rfl ?_) | (refine IxA.mk (by omega) ?_) | (refine Sl.ln (Own.sl (by assumption)) ?_) | (refine Ints.ix (Own.sl (by assumption)) (by omega) ?_) | (refine Ints.ixI (Own.sl (by assumption)) (by omega) ?_) | (refine Ints.ld (Own.sl (by assumption)) (by omega) ?_))
      all_goals exact ⟨EE, _, rfl, Own.nil⟩
    · rw [ofR, ofE_ok hck hbad, if_pos rfl]
      have hbad' : ¬ (ag < 0 ∨ (rr.length : Int) ≤ ag ∨ k < 1 ∨ 6 < k) := hbad
      obtain ⟨i, rfl⟩ : ∃ i : Nat, ag = (i : Int) := ⟨ag.toNat, by omega⟩
      obtain ⟨n, rfl⟩ : ∃ n : Nat, k = (n : Int) := ⟨k.toNat, by omega⟩
      have hi : i < rr.length := by omega
      have hrow := hgd.row i hi
      have Hr := Hg.row i hi
      rw [Int.toNat_natCast, Int.toNat_natCast]
      repeat' ((conv => whnf); first | (refine Dr.quiet tyOk (by kernel_rfl) ?_) | (refine VC.pure cc ?_) | (refine Rng.mk (by omega) ?_) | (refine Split.pos (by omega) ?_) | (refine Split.neg (by omega) ?_) | (refine Split.mk (fun h => ?_) (fun h => ?_)) | (refine Need.mk (by omega) ?_) | (refine Ints.ln (by assumption) ?_) | (refine Mat.ln (by assumption) ?_) | (refine Ints.ln (Mat.row (by assumption) _ (by omega)) ?_) | (refine Ints.ix (by assumption) (by omega) ?_) | (refine Mat.ix (by assumption) (by omega) ?_) | (refine Ints.ix (Mat.row (by assumption) _ (by omega)) (by omega) ?_) | (refine Ints.ix (c := 0) (by assumption) (by omega) ?_) | (refine Mat.ix (c := 0) (by assumption) (by omega) ?_) | (refine Ints.ix (c := 0) (Mat.row (by assumption) _ (by omega)) (by omega) ?_) | (refine Ints.ixI (by assumption) (by omega) ?_) | (refine Mat.ixI (by assumption) (by omega) ?_) | (refine Ints.ixI (Mat.row (by assumption) _ (by omega)) (by omega) ?_) | (refine Ints.ld (by assumption) (by omega) ?_) | (refine Mat.ld (by assumption) (by omega) ?_) | (refine Ints.ld (Mat.row (by assumption) _ (by omega)) (by omega) ?_) | (refine At.ld (by assumption) rfl ?_) | (refine At.ldN (by assumption) rfl ?_) | (refine Prs.ln (by assumption) ?_) | (refine Trs.ln (by assumption) ?_) | (refine Prs.ix (by assumption) (by omega) ?_) | (refine Trs.ix (by assumption) (by omega) ?_) | (refine Prs.ldN (by assumption) (by omega) ?_) | (refine Trs.ldN (by assumption) (by omega) ?_) | (refine At.ldN (Blk.at (by assumption)) rfl ?_) | (refine At.ld (Blk.at (by assumption)) rfl ?_) | (refine IxA.mk (by omega) ?_) | (refine Sl.ln (Own.sl (by assumption)) ?_) | (refine Ints.ix (Own.sl (by assumption)) (by omega) ?_) | (refine Ints.ixI (Own.sl (by assumption)) (by omega) ?_) | (refine Ints.ld (Own.sl (by assumption)) (by omega) ?_))
      conv => whnf
      refine VS.two Try.underlying75 eBun ⟨by kernel_rfl, by kernel_rfl⟩ ⟨rfl, rfl⟩ (Sl.cells Hr).1 ?_
      repeat' ((conv => whnf); first | (refine Dr.quiet tyOk (by kernel_rfl) ?_) | (refine Rng.mk (by omega) ?_) | (refine Split.pos (by omega) ?_) | (refine Split.neg (by omega) ?_) | (refine Split.mk (fun h => ?_) (fun h => ?_)) | (refine Need.mk (by omega) ?_) | (refine Ints.ln (by assumption) ?_) | (refine Mat.ln (by assumption) ?_) | (refine Ints.ln (Mat.row (by assumption) _ (by omega)) ?_) | (refine Ints.ix (by assumption) (by omega) ?_) | (refine Mat.ix (by assumption) (by omega) ?_) | (refine Ints.ix (Mat.row (by assumption) _ (by omega)) (by omega) ?_) | (refine Ints.ix (c := 0) (by assumption) (by omega) ?_) | (refine Mat.ix (c := 0) (by assumption) (by omega) ?_) | (refine Ints.ix (c := 0) (Mat.row (by assumption) _ (by omega)) (by omega) ?_) | (refine Ints.ixI (by assumption) (by omega) ?_) | (refine Mat.ixI (by assumption) (by omega) ?_) | (refine Ints.ixI (Mat.row (by assumption) _ (by omega)) (by omega) ?_) | (refine Ints.ld (by assumption) (by omega) ?_) | (refine Mat.ld (by assumption) (by omega) ?_) | (refine Ints.ld (Mat.row (by assumption) _ (by omega)) (by omega) ?_) | (refine At.ld (by assumption) rfl ?_) | (refine At.ldN (by assumption) rfl ?_) | (refine Prs.ln (by assumption) ?_) | (refine Trs.ln (by assumption) ?_) | (refine Prs.ix (by assumption) (by omega) ?_) | (refine Trs.ix (by assumption) (by omega) ?_) | (refine Prs.ldN (by assumption) (by omega) ?_) | (refine Trs.ldN (by assumption) (by omega) ?_) | (refine At.ldN (Blk.at (by assumption)) rfl ?_) | (refine At.ld (Blk.at (by assumption)) rfl ?_) | (refine IxA.mk (by omega) ?_) | (refine Sl.ln (Own.sl (by assumption)) ?_) | (refine Ints.ix (Own.sl (by assumption)) (by omega) ?_) | (refine Ints.ixI (Own.sl (by assumption)) (by omega) ?_) | (refine Ints.ld (Own.sl (by assumption)) (by omega) ?_))
      conv => whnf
      refine VC.rc (best_rc (n := n) Hr (fun j => hgd.val i j) (by omega) (by omega)) ?_
      rintro _ w3 E3 ⟨v, rfl, HV⟩
      replace Hg := Hg.ext E3
      replace EE := EE.ext E3
      replace Hb := Hb.ext E3
      rw [hrow, ← hmO] at HV
      rw [hrow, ← hmO]
      repeat' ((conv => whnf); first | (refine Dr.quiet tyOk (by kernel_rfl) ?_) | (refine Rng.mk (by omega) ?_) | (refine Split.pos (by omega) ?_) | (refine Split.neg (by omega) ?_) | (refine Split.mk (fun h => ?_) (fun h => ?_)) | (refine Need.mk (by omega) ?_) | (refine Ints.ln (by assumption) ?_) | (refine Mat.ln (by assumption) ?_) | (refine Ints.ln (Mat.row (by assumption) _ (by omega)) ?_) | (refine Ints.ix (by assumption) (by omega) ?_) | (refine Mat.ix (by assumption) (by omega) ?_) | (refine Ints.ix (Mat.row (by assumption) _ (by omega)) (by omega) ?_) | (refine Ints.ix (c := 0) (by assumption) (by omega) ?_) | (refine Mat.ix (c := 0) (by assumption) (by omega) ?_) | (refine Ints.ix (c := 0) (Mat.row (by assumption) _ (by omega)) (by omega) ?_) | (refine Ints.ixI (by assumption) (by omega) ?_) | (refine Mat.ixI (by assumption) (by omega) ?_) | (refine Ints.ixI (Mat.row (by assumption) _ (by omega)) (by omega) ?_) | (refine Ints.ld (by assumption) (by omega) ?_) | (refine Mat.ld (by assumption) (by omega) ?_) | (refine Ints.ld (Mat.row (by assumption) _ (by omega)) (by omega) ?_) | (refine At.ld (by assumption) rfl ?_) | (refine At.ldN (by assumption) rfl ?_) | (refine Prs.ln (by assumption) ?_) | (refine Trs.ln (by assumption) ?_) | (refine Prs.ix (by assumption) (by omega) ?_) | (refine Trs.ix (by assumption) (by omega) ?_) | (refine Prs.ldN (by assumption) (by omega) ?_) | (refine Trs.ldN (by assumption) (by omega) ?_) | (refine At.ldN (Blk.at (by assumption)) rfl ?_) | (refine At.ld (Blk.at (by assumption)) rfl ?_) | (refine IxA.mk (by omega) ?_) | (refine Sl.ln (Own.sl (by assumption)) ?_) | (refine Ints.ix (Own.sl (by assumption)) (by omega) ?_) | (refine Ints.ixI (Own.sl (by assumption)) (by omega) ?_) | (refine Ints.ld (Own.sl (by assumption)) (by omega) ?_))
      exact ⟨EE, _, rfl, HV⟩
  · rw [ofR, ofE_chk hck, if_neg hck]
    repeat' ((conv => whnf); first | (refine Dr.quiet tyOk (by kernel_rfl) ?_) | (refine VC.pure cc ?_) | (refine Rng.mk (by omega) ?_) | (refine Split.pos (by omega) ?_) | (refine Split.neg (by omega) ?_) | (refine Split.mk (fun h => ?_) (fun h => ?_)) | (refine Need.mk (by omega) ?_) | (refine Ints.ln (by assumption) ?_) | (refine Mat.ln (by assumption) ?_) | (refine Ints.ln (Mat.row (by assumption) _ (by omega)) ?_) | (refine Ints.ix (by assumption) (by omega) ?_) | (refine Mat.ix (by assumption) (by omega) ?_) | (refine Ints.ix (Mat.row (by assumption) _ (by omega)) (by omega) ?_) | (refine Ints.ix (c := 0) (by assumption) (by omega) ?_) | (refine Mat.ix (c := 0) (by assumption) (by omega) ?_) | (refine Ints.ix (c := 0) (Mat.row (by assumption) _ (by omega)) (by omega) ?_) | (refine Ints.ixI (by assumption) (by omega) ?_) | (refine Mat.ixI (by assumption) (by omega) ?_) | (refine Ints.ixI (Mat.row (by assumption) _ (by omega)) (by omega) ?_) | (refine Ints.ld (by assumption) (by omega) ?_) | (refine Mat.ld (by assumption) (by omega) ?_) | (refine Ints.ld (Mat.row (by assumption) _ (by omega)) (by omega) ?_) | (refine At.ld (by assumption) rfl ?_) | (refine At.ldN (by assumption) rfl ?_) | (refine Prs.ln (by assumption) ?_) | (refine Trs.ln (by assumption) ?_) | (refine Prs.ix (by assumption) (by omega) ?_) | (refine Trs.ix (by assumption) (by omega) ?_) | (refine Prs.ldN (by assumption) (by omega) ?_) | (refine Trs.ldN (by assumption) (by omega) ?_) | (refine At.ldN (Blk.at (by assumption)) rfl ?_) | (refine At.ld (Blk.at (by assumption)) rfl ?_) | (refine IxA.mk (by omega) ?_) | (refine Sl.ln (Own.sl (by assumption)) ?_) | (refine Ints.ix (Own.sl (by assumption)) (by omega) ?_) | (refine Ints.ixI (Own.sl (by assumption)) (by omega) ?_) | (refine Ints.ld (Own.sl (by assumption)) (by omega) ?_))
    exact ⟨EE, _, rfl, Own.nil⟩
theorem sall_rc {w : World} {gv : Value} {vs : List Value} {rr : List (List Int)} (Hg : Mat w gv vs rr) :
    RC Try.prog 20 [.agg #[gv]] w NoB (fun u w' => ∃ v, u = .tuple #[v, .int .i64 (chk rr)] ∧ OB w.heap.size w' v (shA rr)) := by
  refine RC.mk tyOk Try.func20 rfl (by kernel_rfl) fun w1 E1 => ?_
  replace Hg := Hg.ext E1
  have EE := Ext.refl w1
  refine Bx.agg fun b2 w2 E2 hb2 Hb _ => ?_
  replace Hg := Hg.ext E2
  replace EE := EE.ext E2
  have cc := gcheck_pc Hg
  by_cases hck : chk rr = 0
  · have hgd := gd_of_chk hck
    have hn6 := hgd.n6
    rw [shA, if_pos hck, hck]
    repeat' ((conv => whnf); first | (refine Dr.quiet tyOk (by kernel_rfl) ?_) | (refine VC.pure cc ?_) | (refine Rng.mk (by omega) ?_) | (refine Split.pos (by omega) ?_) | (refine Split.neg (by omega) ?_) | (refine Split.mk (fun h => ?_) (fun h => ?_)) | (refine Need.mk (by omega) ?_) | (refine Ints.ln (by assumption) ?_) | (refine Mat.ln (by assumption) ?_) | (refine Ints.ln (Mat.row (by assumption) _ (by omega)) ?_) | (refine Ints.ix (by assumption) (by omega) ?_) | (refine Mat.ix (by assumption) (by omega) ?_) | (refine Ints.ix (Mat.row (by assumption) _ (by omega)) (by omega) ?_) | (refine Ints.ix (c := 0) (by assumption) (by omega) ?_) | (refine Mat.ix (c := 0) (by assumption) (by omega) ?_) | (refine Ints.ix (c := 0) (Mat.row (by assumption) _ (by omega)) (by omega) ?_) | (refine Ints.ixI (by assumption) (by omega) ?_) | (refine Mat.ixI (by assumption) (by omega) ?_) | (refine Ints.ixI (Mat.row (by assumption) _ (by omega)) (by omega) ?_) | (refine Ints.ld (by assumption) (by omega) ?_) | (refine Mat.ld (by assumption) (by omega) ?_) | (refine Ints.ld (Mat.row (by assumption) _ (by omega)) (by omega) ?_) | (refine At.ld (by assumption) rfl ?_) | (refine At.ldN (by assumption) rfl ?_) | (refine Prs.ln (by assumption) ?_) | (refine Trs.ln (by assumption) ?_) | (refine Prs.ix (by assumption) (by omega) ?_) | (refine Trs.ix (by assumption) (by omega) ?_) | (refine Prs.ldN (by assumption) (by omega) ?_) | (refine Trs.ldN (by assumption) (by omega) ?_) | (refine At.ldN (Blk.at (by assumption)) rfl ?_) | (refine At.ld (Blk.at (by assumption)) rfl ?_) | (refine IxA.mk (by omega) ?_) | (refine Sl.ln (Own.sl (by assumption)) ?_) | (refine Ints.ix (Own.sl (by assumption)) (by omega) ?_) | (refine Ints.ixI (Own.sl (by assumption)) (by omega) ?_) | (refine Ints.ld (Own.sl (by assumption)) (by omega) ?_))
    have Hg__1 := Hg
    have EE__1 := EE
    have Hb__1 := Hb
    have hz1 := Nat.le_trans E1.size EE.size
    refine Lp.mk tyOk [false, false, false, false, false, true, true, true, true, true, false, false, false, false, false, false, false, false, true, true, true, true, true, true, true, true, true, true, true, true, true, true, true, true, true, true] (fun m fr wr => getK fr 18 fun j => getK fr 5 fun v => ∃ c : Nat, c ≤ rr.length ∧ m = rr.length - c ∧ j = .int .i64 (c : Int) ∧ (Go.Eng.Own w2.heap.size 3 1 wr v c (((List.range c).map fun i => (shB rr i rr.length).1).map i64v)) ∧ Ext w2 wr) (rr.length) ?_ ?_
    · exact ⟨0, Nat.zero_le _, rfl, rfl, Own.nil, Ext.refl _⟩
    · intro m w3 u5 u6 u7 u8 u9 u18 u19 u20 u21 u22 u23 u24 u25 u26 u27 u28 u29 u30 u31 u32 u33 u34 u35 hR
      obtain ⟨c, hc, rfl, rfl, Hv, EL1⟩ := hR
      replace Hg := Hg__1.ext EL1
      replace EE := EE__1.ext EL1
      replace Hb := Hb__1.ext EL1
      by_cases hcl : c < rr.length
      · have hnb : ¬ badO rr (c : Int) (rr.length : Int) := by unfold badO; omega
        repeat' ((conv => whnf); first | (refine Dr.quiet tyOk (by kernel_rfl) ?_) | (refine Rng.mk (by omega) ?_) | (refine Split.pos (by omega) ?_) | (refine Split.neg (by omega) ?_) | (refine Split.mk (fun h => ?_) (fun h => ?_)) | (refine Need.mk (by omega) ?_) | (refine Ints.ln (by assumption) ?_) | (refine Mat.ln (by assumption) ?_) | (refine Ints.ln (Mat.row (by assumption) _ (by omega)) ?_) | (refine Ints.ix (by assumption) (by omega) ?_) | (refine Mat.ix (by assumption) (by omega) ?_) | (refine Ints.ix (Mat.row (by assumption) _ (by omega)) (by omega) ?_) | (refine Ints.ix (c := 0) (by assumption) (by omega) ?_) | (refine Mat.ix (c := 0) (by assumption) (by omega) ?_) | (refine Ints.ix (c := 0) (Mat.row (by assumption) _ (by omega)) (by omega) ?_) | (refine Ints.ixI (by assumption) (by omega) ?_) | (refine Mat.ixI (by assumption) (by omega) ?_) | (refine Ints.ixI (Mat.row (by assumption) _ (by omega)) (by omega) ?_) | (refine Ints.ld (by assumption) (by omega) ?_) | (refine Mat.ld (by assumption) (by omega) ?_) | (refine Ints.ld (Mat.row (by assumption) _ (by omega)) (by omega) ?_) | (refine At.ld (by assumption) rfl ?_) | (refine At.ldN (by assumption) rfl ?_) | (refine Prs.ln (by assumption) ?_) | (refine Trs.ln (by assumption) ?_) | (refine Prs.ix (by assumption) (by omega) ?_) | (refine Trs.ix (by assumption) (by omega) ?_) | (refine Prs.ldN (by assumption) (by omega) ?_) | (refine Trs.ldN (by assumption) (by omega) ?_) | (refine At.ldN (Blk.at (by assumption)) rfl ?_) | (refine At.ld (Blk.at (by assumption)) rfl ?_) | (refine IxA.mk (by omega) ?_) | (refine Sl.ln (Own.sl (by assumption)) ?_) | (refine Ints.ix (Own.sl (by assumption)) (by omega) ?_) | (refine Ints.ixI (Own.sl (by assumption)) (by omega) ?_) | (refine Ints.ld (Own.sl (by assumption)) (by omega) ?_))
        conv => whnf
        refine VC.rc (sof_rc (ag := (c : Int)) (k := (rr.length : Int)) Hg) ?_
        rintro _ w4 E4 ⟨pv, rfl, HP⟩
        replace Hg := Hg.ext E4
        replace EE := EE.ext E4
        replace Hb := Hb.ext E4
        replace EL1 := EL1.ext E4
        replace Hv := Hv.ext E4
        rw [ofR, ofE_ok hck hnb, if_pos rfl, Int.toNat_natCast, Int.toNat_natCast] at *
        repeat' ((conv => whnf); first | (refine Dr.quiet tyOk (by kernel_rfl) ?_) | (refine Rng.mk (by omega) ?_) | (refine Split.pos (by omega) ?_) | (refine Split.neg (by omega) ?_) | (refine Split.mk (fun h => ?_) (fun h => ?_)) | (refine Need.mk (by omega) ?_) | (refine Ints.ln (by assumption) ?_) | (refine Mat.ln (by assumption) ?_) | (refine Ints.ln (Mat.row (by assumption) _ (by omega)) ?_) | (refine Ints.ix (by assumption) (by omega) ?_) | (refine Mat.ix (by assumption) (by omega) ?_) | (refine Ints.ix (Mat.row (by assumption) _ (by omega)) (by omega) ?_) | (refine Ints.ix (c := 0) (by assumption) (by omega) ?_) | (refine Mat.ix (c := 0) (by assumption) (by omega) ?_) | (refine Ints.ix (c := 0) (Mat.row (by assumption) _ (by omega)) (by omega) ?_) | (refine Ints.ixI (by assumption) (by omega) ?_) | (refine Mat.ixI (by assumption) (by omega) ?_) | (refine Ints.ixI (Mat.row (by assumption) _ (by omega)) (by omega) ?_) | (refine Ints.ld (by assumption) (by omega) ?_) | (refine Mat.ld (by assumption) (by omega) ?_) | (refine Ints.ld (Mat.row (by assumption) _ (by omega)) (by omega) ?_) | (refine At.ld (by assumption) rfl ?_) | (refine At.ldN (by assumption) rfl ?_) | (refine Prs.ln (by assumption) ?_) | (refine Trs.ln (by assumption) ?_) | (refine Prs.ix (by assumption) (by omega) ?_) | (refine Trs.ix (by assumption) (by omega) ?_) | (refine Prs.ldN (by assumption) (by omega) ?_) | (refine Trs.ldN (by assumption) (by omega) ?_) | (refine At.ldN (Blk.at (by assumption)) rfl ?_) | (refine At.ld (Blk.at (by assumption)) rfl ?_) | (refine IxA.mk (by omega) ?_) | (refine Sl.ln (Own.sl (by assumption)) ?_) | (refine Ints.ix (Own.sl (by assumption)) (by omega) ?_) | (refine Ints.ixI (Own.sl (by assumption)) (by omega) ?_) | (refine Ints.ld (Own.sl (by assumption)) (by omega) ?_))
        refine VE.lit1 Try.underlying27 eInt (rfl) fun lv w5 E5 Hl => ?_
        replace Hg := Hg.ext E5
        replace EE := EE.ext E5
        replace Hb := Hb.ext E5
        replace EL1 := EL1.ext E5
        replace Hv := Hv.ext E5
        replace HP := HP.ext E5
        conv => whnf
        refine VE.app Try.underlying27 eInt rfl (by omega) Hv EL1 rfl Hl (by simp [Value.oneCell']) (by first | omega | (simp only [List.length_map, List.length_range]; omega) | (simp; omega)) (by first | omega | (simp only [List.length_map, List.length_range]; omega) | (simp; omega)) fun v8 w6 E6 G6 H8 => ?_
        replace Hg := Hg__1.ext E6
        replace EE := EE__1.ext E6
        replace Hb := Hb__1.ext E6
        replace EL1 := E6
        repeat' ((conv => whnf); first | (refine Dr.quiet tyOk (by kernel_rfl) ?_) | (refine Rng.mk (by omega) ?_) | (refine Split.pos (by omega) ?_) | (refine Split.neg (by omega) ?_) | (refine Split.mk (fun h => ?_) (fun h => ?_)) | (refine Need.mk (by omega) ?_) | (refine Ints.ln (by assumption) ?_) | (refine Mat.ln (by assumption) ?_) | (refine Ints.ln (Mat.row (by assumption) _ (by omega)) ?_) | (refine Ints.ix (by assumption) (by omega) ?_) | (refine Mat.ix (by assumption) (by omega) ?_) | (refine Ints.ix (Mat.row (by assumption) _ (by omega)) (by omega) ?_) | (refine Ints.ix (c := 0) (by assumption) (by omega) ?_) | (refine Mat.ix (c := 0) (by assumption) (by omega) ?_) | (refine Ints.ix (c := 0) (Mat.row (by assumption) _ (by omega)) (by omega) ?_) | (refine Ints.ixI (by assumption) (by omega) ?_) | (refine Mat.ixI (by assumption) (by omega) ?_) | (refine Ints.ixI (Mat.row (by assumption) _ (by omega)) (by omega) ?_) | (refine Ints.ld (by assumption) (by omega) ?_) | (refine Mat.ld (by assumption) (by omega) ?_) | (refine Ints.ld (Mat.row (by assumption) _ (by omega)) (by omega) ?_) | (refine At.ld (by assumption) rfl ?_) | (refine At.ldN (by assumption) rfl ?_) | (refine Prs.ln (by assumption) ?_) | (refine Trs.ln (by assumption) ?_) | (refine Prs.ix (by assumption) (by omega) ?_) | (refine Trs.ix (by assumption) (by omega) ?_) | (refine Prs.ldN (by assumption) (by omega) ?_) | (refine Trs.ldN (by assumption) (by omega) ?_) | (refine At.ldN (Blk.at (by assumption)) rfl ?_) | (refine At.ld (Blk.at (by assumption)) rfl ?_) | (refine IxA.mk (by omega) ?_) | (refine Sl.ln (Own.sl (by assumption)) ?_) | (refine Ints.ix (Own.sl (by assumption)) (by omega) ?_) | (refine Ints.ixI (Own.sl (by assumption)) (by omega) ?_) | (refine Ints.ld (Own.sl (by assumption)) (by omega) ?_))
        refine ⟨_, (by omega : rr.length - (c + 1) < rr.length - c), rfl, c + 1, by omega, rfl, rfl, ?_, EL1⟩
        rw [map_range_succ, List.map_append]
        exact H8
      · obtain rfl : c = rr.length := by omega
        repeat' ((conv => whnf); first | (refine Dr.quiet tyOk (by kernel_rfl) ?_) | (refine Rng.mk (by omega) ?_) | (refine Split.pos (by omega) ?_) | (refine Split.neg (by omega) ?_) | (refine Split.mk (fun h => ?_) (fun h => ?_)) | (refine Need.mk (by omega) ?_) | (refine Ints.ln (by assumption) ?_) | (refine Mat.ln (by assumption) ?_) | (refine Ints.ln (Mat.row (by assumption) _ (by omega)) ?_) | (refine Ints.ix (by assumption) (by omega) ?_) | (refine Mat.ix (by assumption) (by omega) ?_) | (refine Ints.ix (Mat.row (by assumption) _ (by omega)) (by omega) ?_) | (refine Ints.ix (c := 0) (by assumption) (by omega) ?_) | (refine Mat.ix (c := 0) (by assumption) (by omega) ?_) | (refine Ints.ix (c := 0) (Mat.row (by assumption) _ (by omega)) (by omega) ?_) | (refine Ints.ixI (by assumption) (by omega) ?_) | (refine Mat.ixI (by assumption) (by omega) ?_) | (refine Ints.ixI (Mat.row (by assumption) _ (by omega)) (by omega) ?_) | (refine Ints.ld (by assumption) (by omega) ?_) | (refine Mat.ld (by assumption) (by omega) ?_) | (refine Ints.ld (Mat.row (by assumption) _ (by omega)) (by omega) ?_) | (refine At.ld (by assumption) rfl ?_) | (refine At.ldN (by assumption) rfl ?_) | (refine Prs.ln (by assumption) ?_) | (refine Trs.ln (by assumption) ?_) | (refine Prs.ix (by assumption) (by omega) ?_) | (refine Trs.ix (by assumption) (by omega) ?_) | (refine Prs.ldN (by assumption) (by omega) ?_) | (refine Trs.ldN (by assumption) (by omega) ?_) | (refine At.ldN (Blk.at (by assumption)) rfl ?_) | (refine At.ld (Blk.at (by assumption)) rfl ?_) | (refine IxA.mk (by omega) ?_) | (refine Sl.ln (Own.sl (by assumption)) ?_) | (refine Ints.ix (Own.sl (by assumption)) (by omega) ?_) | (refine Ints.ixI (Own.sl (by assumption)) (by omega) ?_) | (refine Ints.ld (Own.sl (by assumption)) (by omega) ?_))
        exact ⟨EE, _, rfl, by show Go.Eng.Own _ _ _ _ _ (List.map _ _).length _; rw [List.length_map, List.length_range]; exact Own.base Hv hz1⟩
  · rw [shA, if_neg hck]
    repeat' ((conv => whnf); first | (refine Dr.quiet tyOk (by kernel_rfl) ?_) | (refine VC.pure cc ?_) | (refine Rng.mk (by omega) ?_) | (refine Split.pos (by omega) ?_) | (refine Split.neg (by omega) ?_) | (refine Split.mk (fun h => ?_) (fun h => ?_)) | (refine Need.mk (by omega) ?_) | (refine Ints.ln (by assumption) ?_) | (refine Mat.ln (by assumption) ?_) | (refine Ints.ln (Mat.row (by assumption) _ (by omega)) ?_) | (refine Ints.ix (by assumption) (by omega) ?_) | (refine Mat.ix (by assumption) (by omega) ?_) | (refine Ints.ix (Mat.row (by assumption) _ (by omega)) (by omega) ?_) | (refine Ints.ix (c := 0) (by assumption) (by omega) ?_) | (refine Mat.ix (c := 0) (by assumption) (by omega) ?_) | (refine Ints.ix (c := 0) (Mat.row (by assumption) _ (by omega)) (by omega) ?_) | (refine Ints.ixI (by assumption) (by omega) ?_) | (refine Mat.ixI (by assumption) (by omega) ?_) | (refine Ints.ixI (Mat.row (by assumption) _ (by omega)) (by omega) ?_) | (refine Ints.ld (by assumption) (by omega) ?_) | (refine Mat.ld (by assumption) (by omega) ?_) | (refine Ints.ld (Mat.row (by assumption) _ (by omega)) (by omega) ?_) | (refine At.ld (by assumption) rfl ?_) | (refine At.ldN (by assumption) rfl ?_) | (refine Prs.ln (by assumption) ?_) | (refine Trs.ln (by assumption) ?_) | (refine Prs.ix (by assumption) (by omega) ?_) | (refine Trs.ix (by assumption) (by omega) ?_) | (refine Prs.ldN (by assumption) (by omega) ?_) | (refine Trs.ldN (by assumption) (by omega) ?_) | (refine At.ldN (Blk.at (by assumption)) rfl ?_) | (refine At.ld (Blk.at (by assumption)) rfl ?_) | (refine IxA.mk (by omega) ?_) | (refine Sl.ln (Own.sl (by assumption)) ?_) | (refine Ints.ix (Own.sl (by assumption)) (by omega) ?_) | (refine Ints.ixI (Own.sl (by assumption)) (by omega) ?_) | (refine Ints.ld (Own.sl (by assumption)) (by omega) ?_))
    exact ⟨EE, _, rfl, Own.nil⟩

end Go.Proofs.Ytkgogljfngplnaa
set_option linter.unusedVariables false
set_option linter.unusedSimpArgs false
namespace Go.Proofs.Ytkgogljfngplnaa
open Go.Eng
set_option maxRecDepth 100000
set_option maxHeartbeats 4000000

/-- the greatest of the first c + 1 numbers -/
def mxTo (f : Nat → Int) : Nat → Int
  | 0 => f 0
  | c + 1 => max (mxTo f c) (f (c + 1))
theorem mxTo_le {f : Nat → Int} {b : Int} : ∀ {c : Nat}, mxTo f c ≤ b ↔ ∀ i, i ≤ c → f i ≤ b
  | 0 => ⟨fun h i hi => by obtain rfl : i = 0 := by omega
                           exact h, fun h => h 0 (Nat.le_refl _)⟩
  | c + 1 => by
    have ih := mxTo_le (f := f) (b := b) (c := c)
    simp only [mxTo]
    constructor
    · intro h i hi
      by_cases e : i = c + 1
      · subst e; omega
      · exact ih.1 (by omega) i (by omega)
    · intro h
      have h1 := ih.2 fun i hi => h i (by omega)
      have h2 := h (c + 1) (Nat.le_refl _)
      omega
theorem smax_pc {w : World} {sv : Value} {l : List Int} (Hl : Ints w sv l) (h0 : 0 < l.length) : PC Try.prog 81 [sv] w (.int .i64 (mxTo (fun i => l.getD i 0) (l.length - 1))) := by
  refine PC.mk tyOk Try.func81 rfl (by kernel_rfl) fun w1 E1 => ?_
  replace Hl := Hl.ext E1
  have EE := Ext.refl w1
  have hle := Hl.le
  repeat' ((conv => whnf); first | (refine Dr.quiet tyOk (by kernel_rfl) ?_) | (refine Ints.ix (c := 0) Hl (by omega) ?_) | (refine Rng.mk (by omega) ?_) | (refine Split.pos (by omega) ?_) | (refine Split.neg (by omega) ?_) | (refine Split.mk (fun h => ?_) (fun h => ?_)) | (refine Need.mk (by omega) ?_) | (refine Ints.ln (by assumption) ?_) | (refine Mat.ln (by assumption) ?_) | (refine Ints.ln (Mat.row (by assumption) _ (by omega)) ?_) | (refine Ints.ix (by assumption) (by omega) ?_) | (refine Mat.ix (by assumption) (by omega) ?_) | (refine Ints.ix (Mat.row (by assumption) _ (by omega)) (by omega) ?_) | (refine Ints.ix (c := 0) (by assumption) (by omega) ?_) | (refine Mat.ix (c := 0) (by assumption) (by omega) ?_) | (refine Ints.ix (c := 0) (Mat.row (by assumption) _ (by omega)) (by omega) ?_) | (refine Ints.ixI (by assumption) (by omega) ?_) | (refine Mat.ixI (by assumption) (by omega) ?_) | (refine Ints.ixI (Mat.row (by assumption) _ (by omega)) (by omega) ?_) | (refine Ints.ld (by assumption) (by omega) ?_) | (refine Mat.ld (by assumption) (by omega) ?_) | (refine Ints.ld (Mat.row (by assumption) _ (by omega)) (by omega) ?_) | (refine At.ld (by assumption) rfl ?_) | (refine At.ldN (by assumption) rfl ?_) | (refine Prs.ln (by assumption) ?_) | (refine Trs.ln (by assumption) ?_) | (refine Prs.ix (by assumption) (by omega) ?_) | (refine Trs.ix (by assumption) (by omega) ?_) | (refine Prs.ldN (by assumption) (by omega) ?_) | (refine Trs.ldN (by assumption) (by omega) ?_) | (refine At.ldN (Blk.at (by assumption)) rfl ?_) | (refine At.ld (Blk.at (by assumption)) rfl ?_) | (refine IxA.mk (by omega) ?_) | (refine Sl.ln (Own.sl (by assumption)) ?_) | (refine Ints.ix (Own.sl (by assumption)) (by omega) ?_) | (refine Ints.ixI (Own.sl (by assumption)) (by omega) ?_) | (refine Ints.ld (Own.sl (by assumption)) (by omega) ?_))
  refine Lp.mk tyOk [false, false, false, true, true, false, false, false, false, false, false, false, true, true, true, true, true, true, true, true, true, true, true, true] (fun m fr wr => getK fr 4 fun i => getK fr 3 fun mm => ∃ c : Nat, c ≤ (l.length - 1) ∧ m = (l.length - 1) - c ∧ i = .int .i64 ((c + 1 : Nat) : Int) ∧ mm = .int .i64 (mxTo (fun i => l.getD i 0) c) ∧ wr = w1) ((l.length - 1)) ?_ ?_
  · exact ⟨0, Nat.zero_le _, rfl, rfl, rfl, rfl⟩
  · intro m w2 u3 u4 u12 u13 u14 u15 u16 u17 u18 u19 u20 u21 u22 u23 hR
    obtain ⟨c, hc, rfl, rfl, rfl, rfl⟩ := hR
    have hs : mxTo (fun i => l.getD i 0) (c + 1) = max (mxTo (fun i => l.getD i 0) c) (l.getD (c + 1) 0) := rfl
    by_cases hcl : c + 1 < l.length
    · by_cases hlt : mxTo (fun i => l.getD i 0) c < l.getD (c + 1) 0
      · rw [Int.max_eq_right (by omega)] at hs
        repeat' ((conv => whnf); first | (refine Dr.quiet tyOk (by kernel_rfl) ?_) | (refine Ints.ix (c := c + 1) Hl (by omega) ?_) | (refine Rng.mk (by omega) ?_) | (refine Split.pos (by omega) ?_) | (refine Split.neg (by omega) ?_) | (refine Split.mk (fun h => ?_) (fun h => ?_)) | (refine Need.mk (by omega) ?_) | (refine Ints.ln (by assumption) ?_) | (refine Mat.ln (by assumption) ?_) | (refine Ints.ln (Mat.row (by assumption) _ (by omega)) ?_) | (refine Ints.ix (by assumption) (by omega) ?_) | (refine Mat.ix (by assumption) (by omega) ?_) | (refine Ints.ix (Mat.row (by assumption) _ (by omega)) (by omega) ?_) | (refine Ints.ix (c := 0) (by assumption) (by omega) ?_) | (refine Mat.ix (c := 0) (by assumption) (by omega) ?_) | (refine Ints.ix (c := 0) (Mat.row (by assumption) _ (by omega)) (by omega) ?_) | (refine Ints.ixI (by assumption) (by omega) ?_) | (refine Mat.ixI (by assumption) (by omega) ?_) | (refine Ints.ixI (Mat.row (by assumption) _ (by omega)) (by omega) ?_) | (refine Ints.ld (by assumption) (by omega) ?_) | (refine Mat.ld (by assumption) (by omega) ?_) | (refine Ints.ld (Mat.row (by assumption) _ (by omega)) (by omega) ?_) | (refine At.ld (by assumption) rfl ?_) | (refine At.ldN (by assumption) rfl ?_) | (refine Prs.ln (by assumption) ?_) | (refine Trs.ln (by assumption) ?_) | (refine Prs.ix (by assumption) (by omega) ?_) | (refine Trs.ix (by assumption) (by omega) ?_) | (refine Prs.ldN (by assumption) (by omega) ?_) | (refine Trs.ldN (by assumption) (by omega) ?_) | (refine At.ldN (Blk.at (by assumption)) rfl ?_) | (refine At.ld (Blk.at (by assumption)) rfl ?_) | (refine IxA.mk (by omega) ?_) | (refine Sl.ln (Own.sl (by assumption)) ?_) | (refine Ints.ix (Own.sl (by assumption)) (by omega) ?_) | (refine Ints.ixI (Own.sl (by assumption)) (by omega) ?_) | (refine Ints.ld (Own.sl (by assumption)) (by omega) ?_))
        refine ⟨_, (by omega : (l.length - 1) - (c + 1) < (l.length - 1) - c), rfl, c + 1, by omega, rfl, (congrArg (Value.int .i64) (by omega)), (by rw [hs]), rfl⟩
      · rw [Int.max_eq_left (by omega)] at hs
        repeat' ((conv => whnf); first | (refine Dr.quiet tyOk (by kernel_rfl) ?_) | (refine Ints.ix (c := c + 1) Hl (by omega) ?_) | (refine Rng.mk (by omega) ?_) | (refine Split.pos (by omega) ?_) | (refine Split.neg (by omega) ?_) | (refine Split.mk (fun h => ?_) (fun h => ?_)) | (refine Need.mk (by omega) ?_) | (refine Ints.ln (by assumption) ?_) | (refine Mat.ln (by assumption) ?_) | (refine Ints.ln (Mat.row (by assumption) _ (by omega)) ?_) | (refine Ints.ix (by assumption) (by omega) ?_) | (refine Mat.ix (by assumption) (by omega) ?_) | (refine Ints.ix (Mat.row (by assumption) _ (by omega)) (by omega) ?_) | (refine Ints.ix (c := 0) (by assumption) (by omega) ?_) | (refine Mat.ix (c := 0) (by assumption) (by omega) ?_) | (refine Ints.ix (c := 0) (Mat.row (by assumption) _ (by omega)) (by omega) ?_) | (refine Ints.ixI (by assumption) (by omega) ?_) | (refine Mat.ixI (by assumption) (by omega) ?_) | (refine Ints.ixI (Mat.row (by assumption) _ (by omega)) (by omega) ?_) | (refine Ints.ld (by assumption) (by omega) ?_) | (refine Mat.ld (by assumption) (by omega) ?_) | (refine Ints.ld (Mat.row (by assumption) _ (by omega)) (by omega) ?_) | (refine At.ld (by assumption) rfl ?_) | (refine At.ldN (by assumption) rfl ?_) | (refine Prs.ln (by assumption) ?_) | (refine Trs.ln (by assumption) ?_) | (refine Prs.ix (by assumption) (by omega) ?_) | (refine Trs.ix (by assumption) (by omega) ?_) | (refine Prs.ldN (by assumption) (by omega) ?_) | (refine Trs.ldN (by assumption) (by omega) ?_) | (refine At.ldN (Blk.at (by assumption)) rfl ?_) | (refine At.ld (Blk.at (by assumption)) rfl ?_) | (refine IxA.mk (by omega) ?_) | (refine Sl.ln (Own.sl (by assumption)) ?_) | (refine Ints.ix (Own.sl (by assumption)) (by omega) ?_) | (refine Ints.ixI (Own.sl (by assumption)) (by omega) ?_) | (refine Ints.ld (Own.sl (by assumption)) (by omega) ?_))
        refine ⟨_, (by omega : (l.length - 1) - (c + 1) < (l.length - 1) - c), rfl, c + 1, by omega, rfl, (congrArg (Value.int .i64) (by omega)), (by rw [hs]), rfl⟩
    · have e : l.length - 1 = c := by omega
      rw [e]
      repeat' ((conv => whnf); first | (refine Dr.quiet tyOk (by kernel_rfl) ?_) | (refine Rng.mk (by omega) ?_) | (refine Split.pos (by omega) ?_) | (refine Split.neg (by omega) ?_) | (refine Split.mk (fun h => ?_) (fun h => ?_)) | (refine Need.mk (by omega) ?_) | (refine Ints.ln (by assumption) ?_) | (refine Mat.ln (by assumption) ?_) | (refine Ints.ln (Mat.row (by assumption) _ (by omega)) ?_) | (refine Ints.ix (by assumption) (by omega) ?_) | (refine Mat.ix (by assumption) (by omega) ?_) | (refine Ints.ix (Mat.row (by assumption) _ (by omega)) (by omega) ?_) | (refine Ints.ix (c := 0) (by assumption) (by omega) ?_) | (refine Mat.ix (c := 0) (by assumption) (by omega) ?_) | (refine Ints.ix (c := 0) (Mat.row (by assumption) _ (by omega)) (by omega) ?_) | (refine Ints.ixI (by assumption) (by omega) ?_) | (refine Mat.ixI (by assumption) (by omega) ?_) | (refine Ints.ixI (Mat.row (by assumption) _ (by omega)) (by omega) ?_) | (refine Ints.ld (by assumption) (by omega) ?_) | (refine Mat.ld (by assumption) (by omega) ?_) | (refine Ints.ld (Mat.row (by assumption) _ (by omega)) (by omega) ?_) | (refine At.ld (by assumption) rfl ?_) | (refine At.ldN (by assumption) rfl ?_) | (refine Prs.ln (by assumption) ?_) | (refine Trs.ln (by assumption) ?_) | (refine Prs.ix (by assumption) (by omega) ?_) | (refine Trs.ix (by assumption) (by omega) ?_) | (refine Prs.ldN (by assumption) (by omega) ?_) | (refine Trs.ldN (by assumption) (by omega) ?_) | (refine At.ldN (Blk.at (by assumption)) rfl ?_) | (refine At.ld (Blk.at (by assumption)) rfl ?_) | (refine IxA.mk (by omega) ?_) | (refine Sl.ln (Own.sl (by assumption)) ?_) | (refine Ints.ix (Own.sl (by assumption)) (by omega) ?_) | (refine Ints.ixI (Own.sl (by assumption)) (by omega) ?_) | (refine Ints.ld (Own.sl (by assumption)) (by omega) ?_))
      exact ⟨rfl, EE⟩

/-- the search's record: b; what the agents still lack, the list -/
structure KS (w0 w : World) (b : Nat) (vv gv av : Value) (L A : List Int) : Prop where
  ex : Ext w0 w
  bB : w0.heap.size ≤ b
  blk : Blk w b 93 [vv, gv, av]
  hg : OB w0.heap.size w gv L
  ha : OB w0.heap.size w av A
  ga : Dis gv av
  ag : Dis av gv
section
variable {w0 w : World} {b : Nat} {vv gv av : Value} {L A : List Int}
theorem KS.ext (h : KS w0 w b vv gv av L A) {w' : World} (hx : Ext w w') : KS w0 w' b vv gv av L A :=
  ⟨h.ex.ext hx, h.bB, h.blk.ext hx, Own.ext h.hg hx, Own.ext h.ha hx, h.ga, h.ag⟩
theorem KS.stA (h : KS w0 w b vv gv av L A) {k : Nat} {x : Int} {K : World → Prop} (hk : k < A.length)
    (hK : ∀ w', Gr (fun k => w0.heap.size ≤ k) w w' → KS w0 w' b vv gv av L (A.set k x) → K w') : St w (ea av k) (.int .i64 x) K :=
  OB.set h.ha hk fun w' hg h' => hK w' (Gr.up h.ha hg) ⟨Own.keep h.ha h.ex (Nat.le_refl _) hg, h.bB, h.blk.row h.ha (by decide) hg, Own.dis h.hg h.ag hg, h', h.ga, h.ag⟩
theorem KS.stG (h : KS w0 w b vv gv av L A) {k : Nat} {x : Int} {K : World → Prop} (hk : k < L.length)
    (hK : ∀ w', Gr (fun k => w0.heap.size ≤ k) w w' → KS w0 w' b vv gv av (L.set k x) A → K w') : St w (ea gv k) (.int .i64 x) K :=
  OB.set h.hg hk fun w' hg h' => hK w' (Gr.up h.hg hg) ⟨Own.keep h.hg h.ex (Nat.le_refl _) hg, h.bB, h.blk.row h.hg (by decide) hg, h', Own.dis h.ha h.ga hg, h.ga, h.ag⟩
end

/-- nobody is short -/
def kp (rr : List (List Int)) (S l : List Int) : Prop := ∀ i, i < rr.length → S.getD i 0 ≤ worth l (rr.getD i []) i l.length
/-- what the agents lack after the first c goods -/
def lackAt (rr : List (List Int)) (S L A : List Int) (c : Nat) : Prop := L.length = rr.length ∧ ∀ i, i < rr.length → L.getD i 0 = S.getD i 0 - worth A (rr.getD i []) i c
theorem lack_step {rr : List (List Int)} {S L A : List Int} {c k : Nat} (h : lackAt rr S L A c) (hc : c < A.length) (hk : k < rr.length) : lackAt rr S (L.set k (L.getD k 0 - val rr k c)) (A.set c k) (c + 1) := by
  refine ⟨by rw [List.length_set]; exact h.1, fun i hi => ?_⟩
  have e1 : worth (A.set c (k : Int)) (rr.getD i []) i c = worth A (rr.getD i []) i c := worth_take fun j hj => by rw [set_get hc, if_neg (by omega)]
  simp only [worth]
  rw [e1, set_get hc, if_pos rfl, set_get (by rw [h.1]; exact hk)]
  have h2 := h.2 i hi
  by_cases e : i = k
  · subst e; rw [if_pos rfl, if_pos rfl, h2]; show _ - _ - (rr.getD i []).getD c 0 = _; omega
  · rw [if_neg e, if_neg (by omega)]; omega
theorem lack_same {rr : List (List Int)} {S L A B : List Int} {c : Nat} (h : lackAt rr S L A c) (e : A.take c = B.take c) : lackAt rr S L B c := by
  refine ⟨h.1, fun i hi => ?_⟩
  rw [h.2 i hi]
  congr 1
  refine worth_take fun j hj => ?_
  have := congrArg (fun l => l.getD j 0) e
  simpa [List.getD, List.getElem?_take, hj] using this
theorem lack_kp {rr : List (List Int)} {S L A : List Int} (h : lackAt rr S L A A.length) (hn : 1 ≤ rr.length) : mxTo (fun i => L.getD i 0) (L.length - 1) ≤ 0 ↔ kp rr S A := by
  rw [mxTo_le, h.1]
  constructor
  · intro h2 i hi
    have := h2 i (by omega)
    have h3 := h.2 i hi
    omega
  · intro h2 i hi
    have h3 := h.2 i (by omega)
    have h4 := h2 i (by omega)
    show L.getD i 0 ≤ 0
    omega
theorem set_undo2 {G : List Int} {k : Nat} {v : Int} (hk : k < G.length) : (G.set k (G.getD k 0 - v)).set k ((G.set k (G.getD k 0 - v)).getD k 0 + v) = G := by
  have := set_undo (G := G) (k := k) (v := -v) hk
  rw [show G.getD k 0 + -v = G.getD k 0 - v by omega] at this
  rwa [show (G.set k (G.getD k 0 - v)).getD k 0 - -v = (G.set k (G.getD k 0 - v)).getD k 0 + v by omega] at this

theorem kfrom_rc {rr : List (List Int)} {S : List Int} (hck : chk rr = 0) (hS : ∀ i, 0 ≤ S.getD i 0 ∧ S.getD i 0 ≤ 10000) : ∀ (j good : Nat), good + j = mOf rr → ∀ {w0 w : World} {b : Nat} {vv gv av : Value} {vs : List Value} {L A : List Int}, A.length = mOf rr → Mat w0 vv vs rr → KS w0 w b vv gv av L A → lackAt rr S L A good →
    RC Try.prog 67 [.pointer (some ⟨b, 0, none⟩), .int .i64 (good : Int)] w (fun k => w0.heap.size ≤ k) (fun u w' =>
      (u = .bool true ∧ ∃ k L', k < rr.length ^ j ∧ (∀ q, q < k → ¬ kp rr S (A.take good ++ digs rr.length j q)) ∧ kp rr S (A.take good ++ digs rr.length j k) ∧ KS w0 w' b vv gv av L' (A.take good ++ digs rr.length j k)) ∨
      (u = .bool false ∧ (∀ q, q < rr.length ^ j → ¬ kp rr S (A.take good ++ digs rr.length j q)) ∧ ∃ A', A'.length = mOf rr ∧ A'.take good = A.take good ∧ KS w0 w' b vv gv av L A'))
  | 0, good, hgj, w0, w, b, vv, gv, av, vs, L, A, hA, HV0, HN, hG => by
    obtain rfl : good = mOf rr := by omega
    have hgd := gd_of_chk hck
    have hn := hgd.n1
    have hm := hgd.m10
    have hmO : mOf rr = (rr.getD 0 []).length := rfl
    have hGl := hG.1
    have ht : A.take (mOf rr) = A := by rw [← hA, List.take_length]
    have hkp := lack_kp (by rw [hA]; exact hG) hn
    refine RC.mk tyOk Try.func67 rfl (by kernel_rfl) fun w1 E1 => ?_
    replace HN := HN.ext E1
    have EE := Ext.refl w1
    have HK := HN.blk
    have HGI := HN.hg
    have HAI := HN.ha
    have HV := HV0.ext HN.ex
    have cm := smax_pc (Own.sl HGI) (by omega)
    have GS : Gr (fun k => w0.heap.size ≤ k) w1 w1 := Gr.refl _ _
    by_cases hk : mxTo (fun i => L.getD i 0) (L.length - 1) ≤ 0
    · repeat' ((conv => whnf); first | (refine Dr.quiet tyOk (by kernel_rfl) ?_) | (refine VC.pure cm ?_) | (refine Rng.mk (by omega) ?_) | (refine Split.pos (by omega) ?_) | (refine Split.neg (by omega) ?_) | (refine Split.mk (fun h => ?_) (fun h => ?_)) | (refine Need.mk (by omega) ?_) | (refine Ints.ln (by assumption) ?_) | (refine Mat.ln (by assumption) ?_) | (refine Ints.ln (Mat.row (by assumption) _ (by omega)) ?_) | (refine Ints.ix (by assumption) (by omega) ?_) | (refine Mat.ix (by assumption) (by omega) ?_) | (refine Ints.ix (Mat.row (by assumption) _ (by omega)) (by omega) ?_) | (refine Ints.ix (c := 0) (by assumption) (by omega) ?_) | (refine Mat.ix (c := 0) (by assumption) (by omega) ?_) | (refine Ints.ix (c := 0) (Mat.row (by assumption) _ (by omega)) (by omega) ?_) | (refine Ints.ixI (by assumption) (by omega) ?_) | (refine Mat.ixI (by assumption) (by omega) ?_) | (refine Ints.ixI (Mat.row (by assumption) _ (by omega)) (by omega) ?_) | (refine Ints.ld (by assumption) (by omega) ?_) | (refine Mat.ld (by assumption) (by omega) ?_) | (refine Ints.ld (Mat.row (by assumption) _ (by omega)) (by omega) ?_) | (refine At.ld (by assumption) rfl ?_) | (refine At.ldN (by assumption) rfl ?_) | (refine Prs.ln (by assumption) ?_) | (refine Trs.ln (by assumption) ?_) | (refine Prs.ix (by assumption) (by omega) ?_) | (refine Trs.ix (by assumption) (by omega) ?_) | (refine Prs.ldN (by assumption) (by omega) ?_) | (refine Trs.ldN (by assumption) (by omega) ?_) | (refine At.ldN (Blk.at (by assumption)) rfl ?_) | (refine At.ld (Blk.at (by assumption)) rfl ?_) | (refine IxA.mk (by omega) ?_) | (refine Sl.ln (Own.sl (by assumption)) ?_) | (refine Ints.ix (Own.sl (by assumption)) (by omega) ?_) | (refine Ints.ixI (Own.sl (by assumption)) (by omega) ?_) | (refine Ints.ld (Own.sl (by assumption)) (by omega) ?_))
      refine ⟨GS, .inl ⟨rfl, 0, L, by simp, fun q hq => absurd hq (Nat.not_lt_zero _), ?_, ?_⟩⟩
      · rw [ht]; simpa [digs] using hkp.1 hk
      · rw [ht]; simpa [digs] using HN
    · repeat' ((conv => whnf); first | (refine Dr.quiet tyOk (by kernel_rfl) ?_) | (refine VC.pure cm ?_) | (refine Rng.mk (by omega) ?_) | (refine Split.pos (by omega) ?_) | (refine Split.neg (by omega) ?_) | (refine Split.mk (fun h => ?_) (fun h => ?_)) | (refine Need.mk (by omega) ?_) | (refine Ints.ln (by assumption) ?_) | (refine Mat.ln (by assumption) ?_) | (refine Ints.ln (Mat.row (by assumption) _ (by omega)) ?_) | (refine Ints.ix (by assumption) (by omega) ?_) | (refine Mat.ix (by assumption) (by omega) ?_) | (refine Ints.ix (Mat.row (by assumption) _ (by omega)) (by omega) ?_) | (refine Ints.ix (c := 0) (by assumption) (by omega) ?_) | (refine Mat.ix (c := 0) (by assumption) (by omega) ?_) | (refine Ints.ix (c := 0) (Mat.row (by assumption) _ (by omega)) (by omega) ?_) | (refine Ints.ixI (by assumption) (by omega) ?_) | (refine Mat.ixI (by assumption) (by omega) ?_) | (refine Ints.ixI (Mat.row (by assumption) _ (by omega)) (by omega) ?_) | (refine Ints.ld (by assumption) (by omega) ?_) | (refine Mat.ld (by assumption) (by omega) ?_) | (refine Ints.ld (Mat.row (by assumption) _ (by omega)) (by omega) ?_) | (refine At.ld (by assumption) rfl ?_) | (refine At.ldN (by assumption) rfl ?_) | (refine Prs.ln (by assumption) ?_) | (refine Trs.ln (by assumption) ?_) | (refine Prs.ix (by assumption) (by omega) ?_) | (refine Trs.ix (by assumption) (by omega) ?_) | (refine Prs.ldN (by assumption) (by omega) ?_) | (refine Trs.ldN (by assumption) (by omega) ?_) | (refine At.ldN (Blk.at (by assumption)) rfl ?_) | (refine At.ld (Blk.at (by assumption)) rfl ?_) | (refine IxA.mk (by omega) ?_) | (refine Sl.ln (Own.sl (by assumption)) ?_) | (refine Ints.ix (Own.sl (by assumption)) (by omega) ?_) | (refine Ints.ixI (Own.sl (by assumption)) (by omega) ?_) | (refine Ints.ld (Own.sl (by assumption)) (by omega) ?_))
      refine ⟨GS, .inr ⟨rfl, fun q hq => ?_, A, hA, rfl, HN⟩⟩
      rw [ht]; simpa [digs] using fun h => hk (hkp.2 h)
  | j + 1, good, hgj, w0, w, b, vv, gv, av, vs, L, A, hA, HV0, HN, hG => by
    have hgd := gd_of_chk hck
    have hn := hgd.n6
    have hm := hgd.m10
    have hmO : mOf rr = (rr.getD 0 []).length := rfl
    have hgb : ∀ i, -10000 ≤ L.getD i 0 ∧ L.getD i 0 ≤ 10000 := fun i => by
      by_cases h : i < rr.length
      · rw [hG.2 i h]
        have := worth_bd (a := A) (k := (i : Int)) (fun j => hgd.val i j) good
        have := hS i
        omega
      · rw [getD_out (by rw [hG.1]; omega)]; omega
    have hGl := hG.1
    refine RC.mk tyOk Try.func67 rfl (by kernel_rfl) fun w1 E1 => ?_
    replace HN := HN.ext E1
    have EE := Ext.refl w1
    have HK := HN.blk
    have HGI := HN.hg
    have HAI := HN.ha
    have HV := HV0.ext HN.ex
    have GS : Gr (fun k => w0.heap.size ≤ k) w1 w1 := Gr.refl _ _
    repeat' ((conv => whnf); first | (refine Dr.quiet tyOk (by kernel_rfl) ?_) | (refine Rng.mk (by omega) ?_) | (refine Split.pos (by omega) ?_) | (refine Split.neg (by omega) ?_) | (refine Split.mk (fun h => ?_) (fun h => ?_)) | (refine Need.mk (by omega) ?_) | (refine Ints.ln (by assumption) ?_) | (refine Mat.ln (by assumption) ?_) | (refine Ints.ln (Mat.row (by assumption) _ (by omega)) ?_) | (refine Ints.ix (by assumption) (by omega) ?_) | (refine Mat.ix (by assumption) (by omega) ?_) | (refine Ints.ix (Mat.row (by assumption) _ (by omega)) (by omega) ?_) | (refine Ints.ix (c := 0) (by assumption) (by omega) ?_) | (refine Mat.ix (c := 0) (by assumption) (by omega) ?_) | (refine Ints.ix (c := 0) (Mat.row (by assumption) _ (by omega)) (by omega) ?_) | (refine Ints.ixI (by assumption) (by omega) ?_) | (refine Mat.ixI (by assumption) (by omega) ?_) | (refine Ints.ixI (Mat.row (by assumption) _ (by omega)) (by omega) ?_) | (refine Ints.ld (by assumption) (by omega) ?_) | (refine Mat.ld (by assumption) (by omega) ?_) | (refine Ints.ld (Mat.row (by assumption) _ (by omega)) (by omega) ?_) | (refine At.ld (by assumption) rfl ?_) | (refine At.ldN (by assumption) rfl ?_) | (refine Prs.ln (by assumption) ?_) | (refine Trs.ln (by assumption) ?_) | (refine Prs.ix (by assumption) (by omega) ?_) | (refine Trs.ix (by assumption) (by omega) ?_) | (refine Prs.ldN (by assumption) (by omega) ?_) | (refine Trs.ldN (by assumption) (by omega) ?_) | (refine At.ldN (Blk.at (by assumption)) rfl ?_) | (refine At.ld (Blk.at (by assumption)) rfl ?_) | (refine IxA.mk (by omega) ?_) | (refine Sl.ln (Own.sl (by assumption)) ?_) | (refine Ints.ix (Own.sl (by assumption)) (by omega) ?_) | (refine Ints.ixI (Own.sl (by assumption)) (by omega) ?_) | (refine Ints.ld (Own.sl (by assumption)) (by omega) ?_))
    refine Lp.mk tyOk [false, false, false, false, true, true, false, false, false, false, false, false, false, false, false, false, false, false, false, false, false, false, false, false, true, true, true, true, true, true, true, true, true, true, true, true, true, true, true, true, true, true, true, true, true, true, true, true, true, true, true, true, true, true, true, true, true, true, true, true, true, true, true, true, true, true, true, true, true, true, true, true, true, true, true, true, true] (fun m fr wr => getK fr 24 fun i => ∃ c : Nat, c ≤ rr.length ∧ m = rr.length - c ∧ i = .int .i64 (c : Int) ∧ (∀ q, q < c * rr.length ^ j → ¬ kp rr S (A.take good ++ digs rr.length (j + 1) q)) ∧ ((∃ A', A'.length = mOf rr ∧ A'.take good = A.take good ∧ KS w0 wr b vv gv av L A')) ∧ (Gr (fun k => w0.heap.size ≤ k) w1 wr)) (rr.length) ?_ ?_
    · exact ⟨0, Nat.zero_le _, rfl, rfl, (by intro q hq; omega), ⟨A, hA, rfl, HN⟩, (by first | exact fun _ hi => absurd hi (Nat.not_lt_zero _) | exact fun _ _ hi => absurd hi (Nat.not_lt_zero _) | assumption | exact Own.nil | omega | simp)⟩
    · intro m w2 u4 u5 u24 u25 u26 u27 u28 u29 u30 u31 u32 u33 u34 u35 u36 u37 u38 u39 u40 u41 u42 u43 u44 u45 u46 u47 u48 u49 u50 u51 u52 u53 u54 u55 u56 u57 u58 u59 u60 u61 u62 u63 u64 u65 u66 u67 u68 u69 u70 u71 u72 u73 u74 u75 u76 hR
      obtain ⟨c, hc, rfl, rfl, hno, HL, GS⟩ := hR
      obtain ⟨Ac, hAc, htc, HN⟩ := HL
      have HK := HN.blk
      have HGI := HN.hg
      have HAI := HN.ha
      have HV := HV0.ext HN.ex
      by_cases hcl : c < rr.length
      · have hrow := hgd.row c hcl
        have hgc := hgb c
        have hvb : 0 ≤ (rr.getD c []).getD good 0 ∧ (rr.getD c []).getD good 0 ≤ 1000 := hgd.val c good
        have hgAc := lack_same hG htc.symm
        repeat' ((conv => whnf); first | (refine Dr.quiet tyOk (by kernel_rfl) ?_) | (refine Rng.mk (by omega) ?_) | (refine Split.pos (by omega) ?_) | (refine Split.neg (by omega) ?_) | (refine Split.mk (fun h => ?_) (fun h => ?_)) | (refine Need.mk (by omega) ?_) | (refine Ints.ln (by assumption) ?_) | (refine Mat.ln (by assumption) ?_) | (refine Ints.ln (Mat.row (by assumption) _ (by omega)) ?_) | (refine Ints.ix (by assumption) (by omega) ?_) | (refine Mat.ix (by assumption) (by omega) ?_) | (refine Ints.ix (Mat.row (by assumption) _ (by omega)) (by omega) ?_) | (refine Ints.ix (c := 0) (by assumption) (by omega) ?_) | (refine Mat.ix (c := 0) (by assumption) (by omega) ?_) | (refine Ints.ix (c := 0) (Mat.row (by assumption) _ (by omega)) (by omega) ?_) | (refine Ints.ixI (by assumption) (by omega) ?_) | (refine Mat.ixI (by assumption) (by omega) ?_) | (refine Ints.ixI (Mat.row (by assumption) _ (by omega)) (by omega) ?_) | (refine Ints.ld (by assumption) (by omega) ?_) | (refine Mat.ld (by assumption) (by omega) ?_) | (refine Ints.ld (Mat.row (by assumption) _ (by omega)) (by omega) ?_) | (refine At.ld (by assumption) rfl ?_) | (refine At.ldN (by assumption) rfl ?_) | (refine Prs.ln (by assumption) ?_) | (refine Trs.ln (by assumption) ?_) | (refine Prs.ix (by assumption) (by omega) ?_) | (refine Trs.ix (by assumption) (by omega) ?_) | (refine Prs.ldN (by assumption) (by omega) ?_) | (refine Trs.ldN (by assumption) (by omega) ?_) | (refine At.ldN (Blk.at (by assumption)) rfl ?_) | (refine At.ld (Blk.at (by assumption)) rfl ?_) | (refine IxA.mk (by omega) ?_) | (refine Sl.ln (Own.sl (by assumption)) ?_) | (refine Ints.ix (Own.sl (by assumption)) (by omega) ?_) | (refine Ints.ixI (Own.sl (by assumption)) (by omega) ?_) | (refine Ints.ld (Own.sl (by assumption)) (by omega) ?_))
        refine KS.stA HN (by omega) fun w3 G3 HN => ?_
        have HK := HN.blk
        have HGI := HN.hg
        have HAI := HN.ha
        have HV := HV0.ext HN.ex
        repeat' ((conv => whnf); first | (refine Dr.plan 34 [19] (.q 0 (.q 1 (.q 2 (.q 3 (.q 4 (.q 5 (.q 6 (.q 7 (.q 8 (.q 9 (.q 10 (.q 11 (.q 12 (.q 13 (.q 14 (.q 15 (.q 16 (.q 17 (.q 18 (.e 19 .nil .nil)))))))))))))))))))) tyOk rfl (by kernel_rfl) ?_) | (refine Dr.plan 57 [19] (.q 0 (.q 1 (.q 2 (.q 3 (.q 4 (.q 5 (.q 6 (.q 7 (.q 8 (.q 9 (.q 10 (.q 11 (.q 12 (.q 13 (.q 14 (.q 15 (.q 16 (.q 17 (.q 18 (.e 19 .nil .nil)))))))))))))))))))) tyOk rfl (by kernel_rfl) ?_) | (refine Dr.quiet tyOk (by kernel_rfl) ?_) | (refine Rng.mk (by omega) ?_) | (refine Split.pos (by omega) ?_) | (refine Split.neg (by omega) ?_) | (refine Split.mk (fun h => ?_) (fun h => ?_)) | (refine Need.mk (by omega) ?_) | (refine Ints.ln (by assumption) ?_) | (refine Mat.ln (by assumption) ?_) | (refine Ints.ln (Mat.row (by assumption) _ (by omega)) ?_) | (refine Ints.ix (by assumption) (by omega) ?_) | (refine Mat.ix (by assumption) (by omega) ?_) | (refine Ints.ix (Mat.row (by assumption) _ (by omega)) (by omega) ?_) | (refine Ints.ix (c := 0) (by assumption) (by omega) ?_) | (refine Mat.ix (c := 0) (by assumption) (by omega) ?_) | (refine Ints.ix (c := 0) (Mat.row (by assumption) _ (by omega)) (by omega) ?_) | (refine Ints.ixI (by assumption) (by omega) ?_) | (refine Mat.ixI (by assumption) (by omega) ?_) | (refine Ints.ixI (Mat.row (by assumption) _ (by omega)) (by omega) ?_) | (refine Ints.ld (by assumption) (by omega) ?_) | (refine Mat.ld (by assumption) (by omega) ?_) | (refine Ints.ld (Mat.row (by assumption) _ (by omega)) (by omega) ?_) | (refine At.ld (by assumption) rfl ?_) | (refine At.ldN (by assumption) rfl ?_) | (refine Prs.ln (by assumption) ?_) | (refine Trs.ln (by assumption) ?_) | (refine Prs.ix (by assumption) (by omega) ?_) | (refine Trs.ix (by assumption) (by omega) ?_) | (refine Prs.ldN (by assumption) (by omega) ?_) | (refine Trs.ldN (by assumption) (by omega) ?_) | (refine At.ldN (Blk.at (by assumption)) rfl ?_) | (refine At.ld (Blk.at (by assumption)) rfl ?_) | (refine IxA.mk (by omega) ?_) | (refine Sl.ln (Own.sl (by assumption)) ?_) | (refine Ints.ix (Own.sl (by assumption)) (by omega) ?_) | (refine Ints.ixI (Own.sl (by assumption)) (by omega) ?_) | (refine Ints.ld (Own.sl (by assumption)) (by omega) ?_))
        refine KS.stG HN (by omega) fun w4 G4 HN => ?_
        have HK := HN.blk
        have HGI := HN.hg
        have HAI := HN.ha
        have HV := HV0.ext HN.ex
        have hst := lack_step (k := c) hgAc (by omega : good < Ac.length) hcl
        have hlt2 : (Ac.set good (c : Int)).take (good + 1) = A.take good ++ [(c : Int)] := by rw [set_take (by omega), htc]
        have happ : ∀ q, q < rr.length ^ j → (Ac.set good (c : Int)).take (good + 1) ++ digs rr.length j q = A.take good ++ digs rr.length (j + 1) (c * rr.length ^ j + q) := fun q hq => by rw [hlt2, digs_at hq, List.append_assoc]; rfl
        have hpw : (c + 1) * rr.length ^ j = c * rr.length ^ j + rr.length ^ j := by rw [Nat.add_mul, Nat.one_mul]
        have hpr : (c + 1) * rr.length ^ j ≤ rr.length ^ (j + 1) := by rw [Nat.pow_succ, Nat.mul_comm (rr.length ^ j)]; exact Nat.mul_le_mul_right _ hcl
        repeat' ((conv => whnf); first | (refine Dr.quiet tyOk (by kernel_rfl) ?_) | (refine Rng.mk (by omega) ?_) | (refine Split.pos (by omega) ?_) | (refine Split.neg (by omega) ?_) | (refine Split.mk (fun h => ?_) (fun h => ?_)) | (refine Need.mk (by omega) ?_) | (refine Ints.ln (by assumption) ?_) | (refine Mat.ln (by assumption) ?_) | (refine Ints.ln (Mat.row (by assumption) _ (by omega)) ?_) | (refine Ints.ix (by assumption) (by omega) ?_) | (refine Mat.ix (by assumption) (by omega) ?_) | (refine Ints.ix (Mat.row (by assumption) _ (by omega)) (by omega) ?_) | (refine Ints.ix (c := 0) (by assumption) (by omega) ?_) | (refine Mat.ix (c := 0) (by assumption) (by omega) ?_) | (refine Ints.ix (c := 0) (Mat.row (by assumption) _ (by omega)) (by omega) ?_) | (refine Ints.ixI (by assumption) (by omega) ?_) | (refine Mat.ixI (by assumption) (by omega) ?_) | (refine Ints.ixI (Mat.row (by assumption) _ (by omega)) (by omega) ?_) | (refine Ints.ld (by assumption) (by omega) ?_) | (refine Mat.ld (by assumption) (by omega) ?_) | (refine Ints.ld (Mat.row (by assumption) _ (by omega)) (by omega) ?_) | (refine At.ld (by assumption) rfl ?_) | (refine At.ldN (by assumption) rfl ?_) | (refine Prs.ln (by assumption) ?_) | (refine Trs.ln (by assumption) ?_) | (refine Prs.ix (by assumption) (by omega) ?_) | (refine Trs.ix (by assumption) (by omega) ?_) | (refine Prs.ldN (by assumption) (by omega) ?_) | (refine Trs.ldN (by assumption) (by omega) ?_) | (refine At.ldN (Blk.at (by assumption)) rfl ?_) | (refine At.ld (Blk.at (by assumption)) rfl ?_) | (refine IxA.mk (by omega) ?_) | (refine Sl.ln (Own.sl (by assumption)) ?_) | (refine Ints.ix (Own.sl (by assumption)) (by omega) ?_) | (refine Ints.ixI (Own.sl (by assumption)) (by omega) ?_) | (refine Ints.ld (Own.sl (by assumption)) (by omega) ?_))
        refine VC.rc (kfrom_rc hck hS j (good + 1) (by omega) (by rw [List.length_set]; exact hAc) HV0 HN hst) ?_
        rintro _ w5 G5 (⟨rfl, k, L5, hk, h1, h2, HN⟩ | ⟨rfl, h1, A5, hA5, ht5, HN⟩)
        · have HK := HN.blk
          have HGI := HN.hg
          have HAI := HN.ha
          have HV := HV0.ext HN.ex
          repeat' ((conv => whnf); first | (refine Dr.quiet tyOk (by kernel_rfl) ?_) | (refine Rng.mk (by omega) ?_) | (refine Split.pos (by omega) ?_) | (refine Split.neg (by omega) ?_) | (refine Split.mk (fun h => ?_) (fun h => ?_)) | (refine Need.mk (by omega) ?_) | (refine Ints.ln (by assumption) ?_) | (refine Mat.ln (by assumption) ?_) | (refine Ints.ln (Mat.row (by assumption) _ (by omega)) ?_) | (refine Ints.ix (by assumption) (by omega) ?_) | (refine Mat.ix (by assumption) (by omega) ?_) | (refine Ints.ix (Mat.row (by assumption) _ (by omega)) (by omega) ?_) | (refine Ints.ix (c := 0) (by assumption) (by omega) ?_) | (refine Mat.ix (c := 0) (by assumption) (by omega) ?_) | (refine Ints.ix (c := 0) (Mat.row (by assumption) _ (by omega)) (by omega) ?_) | (refine Ints.ixI (by assumption) (by omega) ?_) | (refine Mat.ixI (by assumption) (by omega) ?_) | (refine Ints.ixI (Mat.row (by assumption) _ (by omega)) (by omega) ?_) | (refine Ints.ld (by assumption) (by omega) ?_) | (refine Mat.ld (by assumption) (by omega) ?_) | (refine Ints.ld (Mat.row (by assumption) _ (by omega)) (by omega) ?_) | (refine At.ld (by assumption) rfl ?_) | (refine At.ldN (by assumption) rfl ?_) | (refine Prs.ln (by assumption) ?_) | (refine Trs.ln (by assumption) ?_) | (refine Prs.ix (by assumption) (by omega) ?_) | (refine Trs.ix (by assumption) (by omega) ?_) | (refine Prs.ldN (by assumption) (by omega) ?_) | (refine Trs.ldN (by assumption) (by omega) ?_) | (refine At.ldN (Blk.at (by assumption)) rfl ?_) | (refine At.ld (Blk.at (by assumption)) rfl ?_) | (refine IxA.mk (by omega) ?_) | (refine Sl.ln (Own.sl (by assumption)) ?_) | (refine Ints.ix (Own.sl (by assumption)) (by omega) ?_) | (refine Ints.ixI (Own.sl (by assumption)) (by omega) ?_) | (refine Ints.ld (Own.sl (by assumption)) (by omega) ?_))
          rw [happ k hk] at h2 HN
          refine ⟨((GS.trans G3).trans G4).trans G5, .inl ⟨rfl, c * rr.length ^ j + k, L5, by omega, fun q hq => ?_, h2, HN⟩⟩
          by_cases hqc : q < c * rr.length ^ j
          · exact hno q hqc
          · have h3 := h1 (q - c * rr.length ^ j) (by omega)
            rw [happ _ (by omega), show c * rr.length ^ j + (q - c * rr.length ^ j) = q by omega] at h3
            exact h3
        · have HK := HN.blk
          have HGI := HN.hg
          have HAI := HN.ha
          have HV := HV0.ext HN.ex
          have hg5 : (L.set c (L.getD c 0 - (rr.getD c []).getD good 0)).getD c 0 = L.getD c 0 - (rr.getD c []).getD good 0 := by rw [set_get (by omega), if_pos rfl]
          have hl5 : (L.set c (L.getD c 0 - (rr.getD c []).getD good 0)).length = L.length := by simp
          repeat' ((conv => whnf); first | (refine Dr.plan 34 [19] (.q 0 (.q 1 (.q 2 (.q 3 (.q 4 (.q 5 (.q 6 (.q 7 (.q 8 (.q 9 (.q 10 (.q 11 (.q 12 (.q 13 (.q 14 (.q 15 (.q 16 (.q 17 (.q 18 (.e 19 .nil .nil)))))))))))))))))))) tyOk rfl (by kernel_rfl) ?_) | (refine Dr.plan 57 [19] (.q 0 (.q 1 (.q 2 (.q 3 (.q 4 (.q 5 (.q 6 (.q 7 (.q 8 (.q 9 (.q 10 (.q 11 (.q 12 (.q 13 (.q 14 (.q 15 (.q 16 (.q 17 (.q 18 (.e 19 .nil .nil)))))))))))))))))))) tyOk rfl (by kernel_rfl) ?_) | (refine Dr.quiet tyOk (by kernel_rfl) ?_) | (refine Rng.mk (by omega) ?_) | (refine Split.pos (by omega) ?_) | (refine Split.neg (by omega) ?_) | (refine Split.mk (fun h => ?_) (fun h => ?_)) | (refine Need.mk (by omega) ?_) | (refine Ints.ln (by assumption) ?_) | (refine Mat.ln (by assumption) ?_) | (refine Ints.ln (Mat.row (by assumption) _ (by omega)) ?_) | (refine Ints.ix (by assumption) (by omega) ?_) | (refine Mat.ix (by assumption) (by omega) ?_) | (refine Ints.ix (Mat.row (by assumption) _ (by omega)) (by omega) ?_) | (refine Ints.ix (c := 0) (by assumption) (by omega) ?_) | (refine Mat.ix (c := 0) (by assumption) (by omega) ?_) | (refine Ints.ix (c := 0) (Mat.row (by assumption) _ (by omega)) (by omega) ?_) | (refine Ints.ixI (by assumption) (by omega) ?_) | (refine Mat.ixI (by assumption) (by omega) ?_) | (refine Ints.ixI (Mat.row (by assumption) _ (by omega)) (by omega) ?_) | (refine Ints.ld (by assumption) (by omega) ?_) | (refine Mat.ld (by assumption) (by omega) ?_) | (refine Ints.ld (Mat.row (by assumption) _ (by omega)) (by omega) ?_) | (refine At.ld (by assumption) rfl ?_) | (refine At.ldN (by assumption) rfl ?_) | (refine Prs.ln (by assumption) ?_) | (refine Trs.ln (by assumption) ?_) | (refine Prs.ix (by assumption) (by omega) ?_) | (refine Trs.ix (by assumption) (by omega) ?_) | (refine Prs.ldN (by assumption) (by omega) ?_) | (refine Trs.ldN (by assumption) (by omega) ?_) | (refine At.ldN (Blk.at (by assumption)) rfl ?_) | (refine At.ld (Blk.at (by assumption)) rfl ?_) | (refine IxA.mk (by omega) ?_) | (refine Sl.ln (Own.sl (by assumption)) ?_) | (refine Ints.ix (Own.sl (by assumption)) (by omega) ?_) | (refine Ints.ixI (Own.sl (by assumption)) (by omega) ?_) | (refine Ints.ld (Own.sl (by assumption)) (by omega) ?_))
          refine KS.stG HN (by omega) fun w6 G6 HN => ?_
          rw [set_undo2 (by omega)] at HN
          repeat' ((conv => whnf); first | (refine Dr.quiet tyOk (by kernel_rfl) ?_) | (refine Rng.mk (by omega) ?_) | (refine Split.pos (by omega) ?_) | (refine Split.neg (by omega) ?_) | (refine Split.mk (fun h => ?_) (fun h => ?_)) | (refine Need.mk (by omega) ?_) | (refine Ints.ln (by assumption) ?_) | (refine Mat.ln (by assumption) ?_) | (refine Ints.ln (Mat.row (by assumption) _ (by omega)) ?_) | (refine Ints.ix (by assumption) (by omega) ?_) | (refine Mat.ix (by assumption) (by omega) ?_) | (refine Ints.ix (Mat.row (by assumption) _ (by omega)) (by omega) ?_) | (refine Ints.ix (c := 0) (by assumption) (by omega) ?_) | (refine Mat.ix (c := 0) (by assumption) (by omega) ?_) | (refine Ints.ix (c := 0) (Mat.row (by assumption) _ (by omega)) (by omega) ?_) | (refine Ints.ixI (by assumption) (by omega) ?_) | (refine Mat.ixI (by assumption) (by omega) ?_) | (refine Ints.ixI (Mat.row (by assumption) _ (by omega)) (by omega) ?_) | (refine Ints.ld (by assumption) (by omega) ?_) | (refine Mat.ld (by assumption) (by omega) ?_) | (refine Ints.ld (Mat.row (by assumption) _ (by omega)) (by omega) ?_) | (refine At.ld (by assumption) rfl ?_) | (refine At.ldN (by assumption) rfl ?_) | (refine Prs.ln (by assumption) ?_) | (refine Trs.ln (by assumption) ?_) | (refine Prs.ix (by assumption) (by omega) ?_) | (refine Trs.ix (by assumption) (by omega) ?_) | (refine Prs.ldN (by assumption) (by omega) ?_) | (refine Trs.ldN (by assumption) (by omega) ?_) | (refine At.ldN (Blk.at (by assumption)) rfl ?_) | (refine At.ld (Blk.at (by assumption)) rfl ?_) | (refine IxA.mk (by omega) ?_) | (refine Sl.ln (Own.sl (by assumption)) ?_) | (refine Ints.ix (Own.sl (by assumption)) (by omega) ?_) | (refine Ints.ixI (Own.sl (by assumption)) (by omega) ?_) | (refine Ints.ld (Own.sl (by assumption)) (by omega) ?_))
          refine ⟨_, (by omega : rr.length - (c + 1) < rr.length - c), rfl, c + 1, by omega, rfl, rfl, ?_, ⟨A5, hA5, ?_, HN⟩, (((GS.trans G3).trans G4).trans G5).trans G6⟩
          · intro q hq
            by_cases hqc : q < c * rr.length ^ j
            · exact hno q hqc
            · have h3 := h1 (q - c * rr.length ^ j) (by omega)
              rw [happ _ (by omega), show c * rr.length ^ j + (q - c * rr.length ^ j) = q by omega] at h3
              exact h3
          · have h := congrArg (List.take good) ht5
            rw [List.take_take, Nat.min_eq_left (by omega), hlt2, List.take_append_of_le_length (by rw [List.length_take]; omega), List.take_take, Nat.min_self] at h
            exact h
      · obtain rfl : c = rr.length := by omega
        repeat' ((conv => whnf); first | (refine Dr.quiet tyOk (by kernel_rfl) ?_) | (refine Rng.mk (by omega) ?_) | (refine Split.pos (by omega) ?_) | (refine Split.neg (by omega) ?_) | (refine Split.mk (fun h => ?_) (fun h => ?_)) | (refine Need.mk (by omega) ?_) | (refine Ints.ln (by assumption) ?_) | (refine Mat.ln (by assumption) ?_) | (refine Ints.ln (Mat.row (by assumption) _ (by omega)) ?_) | (refine Ints.ix (by assumption) (by omega) ?_) | (refine Mat.ix (by assumption) (by omega) ?_) | (refine Ints.ix (Mat.row (by assumption) _ (by omega)) (by omega) ?_) | (refine Ints.ix (c := 0) (by assumption) (by omega) ?_) | (refine Mat.ix (c := 0) (by assumption) (by omega) ?_) | (refine Ints.ix (c := 0) (Mat.row (by assumption) _ (by omega)) (by omega) ?_) | (refine Ints.ixI (by assumption) (by omega) ?_) | (refine Mat.ixI (by assumption) (by omega) ?_) | (refine Ints.ixI (Mat.row (by assumption) _ (by omega)) (by omega) ?_) | (refine Ints.ld (by assumption) (by omega) ?_) | (refine Mat.ld (by assumption) (by omega) ?_) | (refine Ints.ld (Mat.row (by assumption) _ (by omega)) (by omega) ?_) | (refine At.ld (by assumption) rfl ?_) | (refine At.ldN (by assumption) rfl ?_) | (refine Prs.ln (by assumption) ?_) | (refine Trs.ln (by assumption) ?_) | (refine Prs.ix (by assumption) (by omega) ?_) | (refine Trs.ix (by assumption) (by omega) ?_) | (refine Prs.ldN (by assumption) (by omega) ?_) | (refine Trs.ldN (by assumption) (by omega) ?_) | (refine At.ldN (Blk.at (by assumption)) rfl ?_) | (refine At.ld (Blk.at (by assumption)) rfl ?_) | (refine IxA.mk (by omega) ?_) | (refine Sl.ln (Own.sl (by assumption)) ?_) | (refine Ints.ix (Own.sl (by assumption)) (by omega) ?_) | (refine Ints.ixI (Own.sl (by assumption)) (by omega) ?_) | (refine Ints.ld (Own.sl (by assumption)) (by omega) ?_))
        refine ⟨GS, .inr ⟨rfl, fun q hq => hno q (by rw [Nat.pow_succ, Nat.mul_comm] at hq; exact hq), Ac, hAc, htc, HN⟩⟩
end Go.Proofs.Ytkgogljfngplnaa
set_option linter.unusedVariables false
set_option linter.unusedSimpArgs false
namespace Go.Proofs.Ytkgogljfngplnaa
open Go.Eng
set_option maxRecDepth 100000
set_option maxHeartbeats 4000000

def isShort (rr : List (List Int)) (a S : List Int) (i : Nat) : Bool := decide (wth rr a i i < S.getD i 0)
def shortL (rr : List (List Int)) (a S : List Int) : List Int := filt (isShort rr a S) rr.length
noncomputable def shortR (rr : List (List Int)) (a : List Int) : List Int := if vld rr a = 0 then shortL rr a (shA rr) else []
theorem filt_nil {p : Nat → Bool} : ∀ {c : Nat}, filt p c = [] ↔ ∀ i, i < c → p i = false
  | 0 => ⟨fun _ i hi => absurd hi (Nat.not_lt_zero _), fun _ => rfl⟩
  | c + 1 => by
    have ih := filt_nil (p := p) (c := c)
    simp only [filt]
    rw [List.append_eq_nil_iff, ih]
    constructor
    · rintro ⟨h1, h2⟩ i hi
      by_cases e : i = c
      · subst e
        by_cases h : p i = true
        · rw [if_pos h] at h2; simp at h2
        · simpa using h
      · exact h1 i (by omega)
    · intro h
      exact ⟨fun i hi => h i (by omega), by rw [if_neg (by rw [h c (by omega)]; decide)]⟩
theorem short_kp {rr : List (List Int)} {a S : List Int} : shortL rr a S = [] ↔ kp rr S a := by
  unfold shortL; rw [filt_nil]
  constructor
  · intro h i hi
    have h1 := of_decide_eq_false (h i hi)
    have h2 : ¬ worth a (rr.getD i []) i a.length < S.getD i 0 := h1
    omega
  · intro h i hi
    have h1 := h i hi
    exact decide_eq_false (by show ¬ worth a (rr.getD i []) i a.length < S.getD i 0; omega)

theorem shB_bd {rr : List (List Int)} {i n : Nat} (h : chk rr = 0) (hn : 1 ≤ n) : 0 ≤ (shB rr i n).1 ∧ (shB rr i n).1 ≤ 10000 := by
  have hgd := gd_of_chk h
  have hm := hgd.m10
  rw [shB_all h hn]
  have hb : ∀ y, y ∈ lsts n (mOf rr) (n ^ mOf rr) → 0 ≤ leastP (rr.getD i []) y n ∧ leastP (rr.getD i []) y n ≤ 10000 := fun y hy =>
    leastP_bd (fun j => hgd.val i j) (by rw [((lsts_mem hn).1 hy).1]; exact hm)
  have hne : lsts n (mOf rr) (n ^ mOf rr) ≠ [] := by
    have hT : 0 < n ^ mOf rr := Nat.pow_pos (by omega)
    have : digs n (mOf rr) 0 ∈ lsts n (mOf rr) (n ^ mOf rr) := List.mem_map.2 ⟨0, List.mem_range.2 hT, rfl⟩
    intro e; rw [e] at this; simp at this
  obtain ⟨x, hx, e⟩ := bst_top (f := fun l => leastP (rr.getD i []) l n) (lsts_pair hn) (fun y hy => by have := (hb y hy).1; omega) hne
  rw [e]; exact hb x hx.1
theorem shA_len {rr : List (List Int)} (h : chk rr = 0) : (shA rr).length = rr.length := by rw [shA, if_pos h]; simp
theorem shA_get {rr : List (List Int)} (h : chk rr = 0) {i : Nat} (hi : i < rr.length) : (shA rr).getD i 0 = (shB rr i rr.length).1 := by
  rw [shA, if_pos h]; simp [List.getD, hi]
theorem shA_bd {rr : List (List Int)} (h : chk rr = 0) (i : Nat) : 0 ≤ (shA rr).getD i 0 ∧ (shA rr).getD i 0 ≤ 10000 := by
  by_cases hi : i < rr.length
  · rw [shA_get h hi]; exact shB_bd h (gd_of_chk h).n1
  · rw [getD_out (by rw [shA_len h]; omega)]; omega

theorem sshort_rc {w : World} {gv av : Value} {vs : List Value} {rr : List (List Int)} {a : List Int} (Hg : Mat w gv vs rr) (Ha : Ints w av a) :
    RC Try.prog 46 [.agg #[gv], av] w NoB (fun u w' => ∃ v, u = .tuple #[v, .int .i64 (vld rr a)] ∧ OI w' v (shortR rr a)) := by
  refine RC.mk tyOk Try.func46 rfl (by kernel_rfl) fun w1 E1 => ?_
  replace Hg := Hg.ext E1
  replace Ha := Ha.ext E1
  have EE := Ext.refl w1
  refine Bx.agg fun b2 w2 E2 hb2 Hb _ => ?_
  replace Hg := Hg.ext E2
  replace Ha := Ha.ext E2
  replace EE := EE.ext E2
  repeat' ((conv => whnf); first | (refine Dr.quiet tyOk (by kernel_rfl) ?_) | (refine Rng.mk (by omega) ?_) | (refine Split.pos (by omega) ?_) | (refine Split.neg (by omega) ?_) | (refine Split.mk (fun h => ?_) (fun h => ?_)) | (refine Need.mk (by omega) ?_) | (refine Ints.ln (by assumption) ?_) | (refine Mat.ln (by assumption) ?_) | (refine Ints.ln (Mat.row (by assumption) _ (by omega)) ?_) | (refine Ints.ix (by assumption) (by omega) ?_) | (refine Mat.ix (by assumption) (by omega) ?_) | (refine Ints.ix (Mat.row (by assumption) _ (by omega)) (by omega) ?_) | (refine Ints.ix (c := 0) (by assumption) (by omega) ?_) | (refine Mat.ix (c := 0) (by assumption) (by omega) ?_) | (refine Ints.ix (c := 0) (Mat.row (by assumption) _ (by omega)) (by omega) ?_) | (refine Ints.ixI (by assumption) (by omega) ?_) | (refine Mat.ixI (by assumption) (by omega) ?_) | (refine Ints.ixI (Mat.row (by assumption) _ (by omega)) (by omega) ?_) | (refine Ints.ld (by assumption) (by omega) ?_) | (refine Mat.ld (by assumption) (by omega) ?_) | (refine Ints.ld (Mat.row (by assumption) _ (by omega)) (by omega) ?_) | (refine At.ld (by assumption) rfl ?_) | (refine At.ldN (by assumption) rfl ?_) | (refine Prs.ln (by assumption) ?_) | (refine Trs.ln (by assumption) ?_) | (refine Prs.ix (by assumption) (by omega) ?_) | (refine Trs.ix (by assumption) (by omega) ?_) | (refine Prs.ldN (by assumption) (by omega) ?_) | (refine Trs.ldN (by assumption) (by omega) ?_) | (refine At.ldN (Blk.at (by assumption)) rfl ?_) | (refine At.ld (Blk.at (by assumption)) rfl ?_) | (refine IxA.mk (by omega) ?_) | (refine Sl.ln (Own.sl (by assumption)) ?_) | (refine Ints.ix (Own.sl (by assumption)) (by omega) ?_) | (refine Ints.ixI (Own.sl (by assumption)) (by omega) ?_) | (refine Ints.ld (Own.sl (by assumption)) (by omega) ?_))
  conv => whnf
  refine VC.rc (gvalues_rc Hg Ha) ?_
  rintro _ w3 E3 ⟨v, us, rfl, HO⟩
  replace Hg := Hg.ext E3
  replace Ha := Ha.ext E3
  replace EE := EE.ext E3
  replace Hb := Hb.ext E3
  by_cases hv : vld rr a = 0
  · have hck := (vld_zero hv).1
    have hgd := gd_of_chk hck
    have hn := hgd.n6
    rw [shortR, if_pos hv, hv]
    rw [valsR, if_pos hv] at HO
    have HV := HO.mat
    have hvl := vals_len rr a
    repeat' ((conv => whnf); first | (refine Dr.quiet tyOk (by kernel_rfl) ?_) | (refine Rng.mk (by omega) ?_) | (refine Split.pos (by omega) ?_) | (refine Split.neg (by omega) ?_) | (refine Split.mk (fun h => ?_) (fun h => ?_)) | (refine Need.mk (by omega) ?_) | (refine Ints.ln (by assumption) ?_) | (refine Mat.ln (by assumption) ?_) | (refine Ints.ln (Mat.row (by assumption) _ (by omega)) ?_) | (refine Ints.ix (by assumption) (by omega) ?_) | (refine Mat.ix (by assumption) (by omega) ?_) | (refine Ints.ix (Mat.row (by assumption) _ (by omega)) (by omega) ?_) | (refine Ints.ix (c := 0) (by assumption) (by omega) ?_) | (refine Mat.ix (c := 0) (by assumption) (by omega) ?_) | (refine Ints.ix (c := 0) (Mat.row (by assumption) _ (by omega)) (by omega) ?_) | (refine Ints.ixI (by assumption) (by omega) ?_) | (refine Mat.ixI (by assumption) (by omega) ?_) | (refine Ints.ixI (Mat.row (by assumption) _ (by omega)) (by omega) ?_) | (refine Ints.ld (by assumption) (by omega) ?_) | (refine Mat.ld (by assumption) (by omega) ?_) | (refine Ints.ld (Mat.row (by assumption) _ (by omega)) (by omega) ?_) | (refine At.ld (by assumption) rfl ?_) | (refine At.ldN (by assumption) rfl ?_) | (refine Prs.ln (by assumption) ?_) | (refine Trs.ln (by assumption) ?_) | (refine Prs.ix (by assumption) (by omega) ?_) | (refine Trs.ix (by assumption) (by omega) ?_) | (refine Prs.ldN (by assumption) (by omega) ?_) | (refine Trs.ldN (by assumption) (by omega) ?_) | (refine At.ldN (Blk.at (by assumption)) rfl ?_) | (refine At.ld (Blk.at (by assumption)) rfl ?_) | (refine IxA.mk (by omega) ?_) | (refine Sl.ln (Own.sl (by assumption)) ?_) | (refine Ints.ix (Own.sl (by assumption)) (by omega) ?_) | (refine Ints.ixI (Own.sl (by assumption)) (by omega) ?_) | (refine Ints.ld (Own.sl (by assumption)) (by omega) ?_))
    conv => whnf
    refine VC.rc (sall_rc Hg) ?_
    rintro _ w4 E4 ⟨sv, rfl, HO⟩
    replace Hg := Hg.ext E4
    replace Ha := Ha.ext E4
    replace EE := EE.ext E4
    replace Hb := Hb.ext E4
    replace HV := HV.ext E4
    have HS : Ints w4 sv (shA rr) := Own.sl HO
    have hSl := shA_len hck
    repeat' ((conv => whnf); first | (refine Dr.quiet tyOk (by kernel_rfl) ?_) | (refine Rng.mk (by omega) ?_) | (refine Split.pos (by omega) ?_) | (refine Split.neg (by omega) ?_) | (refine Split.mk (fun h => ?_) (fun h => ?_)) | (refine Need.mk (by omega) ?_) | (refine Ints.ln (by assumption) ?_) | (refine Mat.ln (by assumption) ?_) | (refine Ints.ln (Mat.row (by assumption) _ (by omega)) ?_) | (refine Ints.ix (by assumption) (by omega) ?_) | (refine Mat.ix (by assumption) (by omega) ?_) | (refine Ints.ix (Mat.row (by assumption) _ (by omega)) (by omega) ?_) | (refine Ints.ix (c := 0) (by assumption) (by omega) ?_) | (refine Mat.ix (c := 0) (by assumption) (by omega) ?_) | (refine Ints.ix (c := 0) (Mat.row (by assumption) _ (by omega)) (by omega) ?_) | (refine Ints.ixI (by assumption) (by omega) ?_) | (refine Mat.ixI (by assumption) (by omega) ?_) | (refine Ints.ixI (Mat.row (by assumption) _ (by omega)) (by omega) ?_) | (refine Ints.ld (by assumption) (by omega) ?_) | (refine Mat.ld (by assumption) (by omega) ?_) | (refine Ints.ld (Mat.row (by assumption) _ (by omega)) (by omega) ?_) | (refine At.ld (by assumption) rfl ?_) | (refine At.ldN (by assumption) rfl ?_) | (refine Prs.ln (by assumption) ?_) | (refine Trs.ln (by assumption) ?_) | (refine Prs.ix (by assumption) (by omega) ?_) | (refine Trs.ix (by assumption) (by omega) ?_) | (refine Prs.ldN (by assumption) (by omega) ?_) | (refine Trs.ldN (by assumption) (by omega) ?_) | (refine At.ldN (Blk.at (by assumption)) rfl ?_) | (refine At.ld (Blk.at (by assumption)) rfl ?_) | (refine IxA.mk (by omega) ?_) | (refine Sl.ln (Own.sl (by assumption)) ?_) | (refine Ints.ix (Own.sl (by assumption)) (by omega) ?_) | (refine Ints.ixI (Own.sl (by assumption)) (by omega) ?_) | (refine Ints.ld (Own.sl (by assumption)) (by omega) ?_))
    have Hg__1 := Hg
    have Ha__1 := Ha
    have EE__1 := EE
    have Hb__1 := Hb
    have HV__1 := HV
    have HS__1 := HS
    have hz1 := Nat.le_trans E1.size EE.size
    refine Lp.mk tyOk [false, false, false, false, false, false, false, false, false, false, true, true, true, false, false, false, false, false, false, false, false, false, false, false, false, false, false, false, false, true, true, true, true, true, true, true, true, true, true, true, true, true, true, true, true, true, true, true] (fun m fr wr => getK fr 29 fun j => getK fr 10 fun v => ∃ c : Nat, c ≤ rr.length ∧ m = rr.length - c ∧ j = .int .i64 (c : Int) ∧ (Go.Eng.Own w4.heap.size 3 1 wr v (filt (isShort rr a (shA rr)) c).length ((filt (isShort rr a (shA rr)) c).map i64v)) ∧ Ext w4 wr) (rr.length) ?_ ?_
    · exact ⟨0, Nat.zero_le _, rfl, rfl, Own.nil, Ext.refl _⟩
    · intro m w5 u10 u11 u12 u29 u30 u31 u32 u33 u34 u35 u36 u37 u38 u39 u40 u41 u42 u43 u44 u45 u46 u47 hR
      obtain ⟨c, hc, rfl, rfl, Hv, EL1⟩ := hR
      replace Hg := Hg__1.ext EL1
      replace Ha := Ha__1.ext EL1
      replace EE := EE__1.ext EL1
      replace Hb := Hb__1.ext EL1
      replace HV := HV__1.ext EL1
      replace HS := HS__1.ext EL1
      have hT := filt_len (isShort rr a (shA rr)) c
      have hrl := vals_rlen (rr := rr) (a := a) (i := c)
      by_cases hcl : c < rr.length
      · have e2 := vals_get (rr := rr) (a := a) (i := c) (k := c) hcl hcl
        by_cases hp : isShort rr a (shA rr) c = true
        · have hq : wth rr a c c < (shA rr).getD c 0 := of_decide_eq_true hp
          repeat' ((conv => whnf); first | (refine Dr.quiet tyOk (by kernel_rfl) ?_) | (refine Rng.mk (by omega) ?_) | (refine Split.pos (by omega) ?_) | (refine Split.neg (by omega) ?_) | (refine Split.mk (fun h => ?_) (fun h => ?_)) | (refine Need.mk (by omega) ?_) | (refine Ints.ln (by assumption) ?_) | (refine Mat.ln (by assumption) ?_) | (refine Ints.ln (Mat.row (by assumption) _ (by omega)) ?_) | (refine Ints.ix (by assumption) (by omega) ?_) | (refine Mat.ix (by assumption) (by omega) ?_) | (refine Ints.ix (Mat.row (by assumption) _ (by omega)) (by omega) ?_) | (refine Ints.ix (c := 0) (by assumption) (by omega) ?_) | (refine Mat.ix (c := 0) (by assumption) (by omega) ?_) | (refine Ints.ix (c := 0) (Mat.row (by assumption) _ (by omega)) (by omega) ?_) | (refine Ints.ixI (by assumption) (by omega) ?_) | (refine Mat.ixI (by assumption) (by omega) ?_) | (refine Ints.ixI (Mat.row (by assumption) _ (by omega)) (by omega) ?_) | (refine Ints.ld (by assumption) (by omega) ?_) | (refine Mat.ld (by assumption) (by omega) ?_) | (refine Ints.ld (Mat.row (by assumption) _ (by omega)) (by omega) ?_) | (refine At.ld (by assumption) rfl ?_) | (refine At.ldN (by assumption) rfl ?_) | (refine Prs.ln (by assumption) ?_) | (refine Trs.ln (by assumption) ?_) | (refine Prs.ix (by assumption) (by omega) ?_) | (refine Trs.ix (by assumption) (by omega) ?_) | (refine Prs.ldN (by assumption) (by omega) ?_) | (refine Trs.ldN (by assumption) (by omega) ?_) | (refine At.ldN (Blk.at (by assumption)) rfl ?_) | (refine At.ld (Blk.at (by assumption)) rfl ?_) | (refine IxA.mk (by omega) ?_) | (refine Sl.ln (Own.sl (by assumption)) ?_) | (refine Ints.ix (Own.sl (by assumption)) (by omega) ?_) | (refine Ints.ixI (Own.sl (by assumption)) (by omega) ?_) | (refine Ints.ld (Own.sl (by assumption)) (by omega) ?_))
          refine VE.lit1 Try.underlying27 eInt (rfl) fun lv w6 E6 Hl => ?_
          replace Hg := Hg.ext E6
          replace Ha := Ha.ext E6
          replace EE := EE.ext E6
          replace Hb := Hb.ext E6
          replace HV := HV.ext E6
          replace HS := HS.ext E6
          replace EL1 := EL1.ext E6
          replace Hv := Hv.ext E6
          conv => whnf
          refine VE.app Try.underlying27 eInt rfl (by omega) Hv EL1 rfl Hl (by simp [Value.oneCell']) (by first | omega | (simp only [List.length_map, List.length_range]; omega) | (simp; omega)) (by first | omega | (simp only [List.length_map, List.length_range]; omega) | (simp; omega)) fun v8 w7 E7 G7 H8 => ?_
          replace Hg := Hg__1.ext E7
          replace Ha := Ha__1.ext E7
          replace EE := EE__1.ext E7
          replace Hb := Hb__1.ext E7
          replace HV := HV__1.ext E7
          replace HS := HS__1.ext E7
          replace EL1 := E7
          repeat' ((conv => whnf); first | (refine Dr.quiet tyOk (by kernel_rfl) ?_) | (refine Rng.mk (by omega) ?_) | (refine Split.pos (by omega) ?_) | (refine Split.neg (by omega) ?_) | (refine Split.mk (fun h => ?_) (fun h => ?_)) | (refine Need.mk (by omega) ?_) | (refine Ints.ln (by assumption) ?_) | (refine Mat.ln (by assumption) ?_) | (refine Ints.ln (Mat.row (by assumption) _ (by omega)) ?_) | (refine Ints.ix (by assumption) (by omega) ?_) | (refine Mat.ix (by assumption) (by omega) ?_) | (refine Ints.ix (Mat.row (by assumption) _ (by omega)) (by omega) ?_) | (refine Ints.ix (c := 0) (by assumption) (by omega) ?_) | (refine Mat.ix (c := 0) (by assumption) (by omega) ?_) | (refine Ints.ix (c := 0) (Mat.row (by assumption) _ (by omega)) (by omega) ?_) | (refine Ints.ixI (by assumption) (by omega) ?_) | (refine Mat.ixI (by assumption) (by omega) ?_) | (refine Ints.ixI (Mat.row (by assumption) _ (by omega)) (by omega) ?_) | (refine Ints.ld (by assumption) (by omega) ?_) | (refine Mat.ld (by assumption) (by omega) ?_) | (refine Ints.ld (Mat.row (by assumption) _ (by omega)) (by omega) ?_) | (refine At.ld (by assumption) rfl ?_) | (refine At.ldN (by assumption) rfl ?_) | (refine Prs.ln (by assumption) ?_) | (refine Trs.ln (by assumption) ?_) | (refine Prs.ix (by assumption) (by omega) ?_) | (refine Trs.ix (by assumption) (by omega) ?_) | (refine Prs.ldN (by assumption) (by omega) ?_) | (refine Trs.ldN (by assumption) (by omega) ?_) | (refine At.ldN (Blk.at (by assumption)) rfl ?_) | (refine At.ld (Blk.at (by assumption)) rfl ?_) | (refine IxA.mk (by omega) ?_) | (refine Sl.ln (Own.sl (by assumption)) ?_) | (refine Ints.ix (Own.sl (by assumption)) (by omega) ?_) | (refine Ints.ixI (Own.sl (by assumption)) (by omega) ?_) | (refine Ints.ld (Own.sl (by assumption)) (by omega) ?_))
          refine ⟨_, (by omega : rr.length - (c + 1) < rr.length - c), rfl, c + 1, by omega, rfl, rfl, ?_, EL1⟩
          simp only [filt, if_pos hp, List.map_append, List.length_append]
          exact H8
        · have hq : ¬ wth rr a c c < (shA rr).getD c 0 := fun h => hp (decide_eq_true h)
          repeat' ((conv => whnf); first | (refine Dr.quiet tyOk (by kernel_rfl) ?_) | (refine Rng.mk (by omega) ?_) | (refine Split.pos (by omega) ?_) | (refine Split.neg (by omega) ?_) | (refine Split.mk (fun h => ?_) (fun h => ?_)) | (refine Need.mk (by omega) ?_) | (refine Ints.ln (by assumption) ?_) | (refine Mat.ln (by assumption) ?_) | (refine Ints.ln (Mat.row (by assumption) _ (by omega)) ?_) | (refine Ints.ix (by assumption) (by omega) ?_) | (refine Mat.ix (by assumption) (by omega) ?_) | (refine Ints.ix (Mat.row (by assumption) _ (by omega)) (by omega) ?_) | (refine Ints.ix (c := 0) (by assumption) (by omega) ?_) | (refine Mat.ix (c := 0) (by assumption) (by omega) ?_) | (refine Ints.ix (c := 0) (Mat.row (by assumption) _ (by omega)) (by omega) ?_) | (refine Ints.ixI (by assumption) (by omega) ?_) | (refine Mat.ixI (by assumption) (by omega) ?_) | (refine Ints.ixI (Mat.row (by assumption) _ (by omega)) (by omega) ?_) | (refine Ints.ld (by assumption) (by omega) ?_) | (refine Mat.ld (by assumption) (by omega) ?_) | (refine Ints.ld (Mat.row (by assumption) _ (by omega)) (by omega) ?_) | (refine At.ld (by assumption) rfl ?_) | (refine At.ldN (by assumption) rfl ?_) | (refine Prs.ln (by assumption) ?_) | (refine Trs.ln (by assumption) ?_) | (refine Prs.ix (by assumption) (by omega) ?_) | (refine Trs.ix (by assumption) (by omega) ?_) | (refine Prs.ldN (by assumption) (by omega) ?_) | (refine Trs.ldN (by assumption) (by omega) ?_) | (refine At.ldN (Blk.at (by assumption)) rfl ?_) | (refine At.ld (Blk.at (by assumption)) rfl ?_) | (refine IxA.mk (by omega) ?_) | (refine Sl.ln (Own.sl (by assumption)) ?_) | (refine Ints.ix (Own.sl (by assumption)) (by omega) ?_) | (refine Ints.ixI (Own.sl (by assumption)) (by omega) ?_) | (refine Ints.ld (Own.sl (by assumption)) (by omega) ?_))
          refine ⟨_, (by omega : rr.length - (c + 1) < rr.length - c), rfl, c + 1, by omega, rfl, rfl, ?_, EL1⟩
          simp only [filt, if_neg hp, List.append_nil]
          exact Hv
      · obtain rfl : c = rr.length := by omega
        repeat' ((conv => whnf); first | (refine Dr.quiet tyOk (by kernel_rfl) ?_) | (refine Rng.mk (by omega) ?_) | (refine Split.pos (by omega) ?_) | (refine Split.neg (by omega) ?_) | (refine Split.mk (fun h => ?_) (fun h => ?_)) | (refine Need.mk (by omega) ?_) | (refine Ints.ln (by assumption) ?_) | (refine Mat.ln (by assumption) ?_) | (refine Ints.ln (Mat.row (by assumption) _ (by omega)) ?_) | (refine Ints.ix (by assumption) (by omega) ?_) | (refine Mat.ix (by assumption) (by omega) ?_) | (refine Ints.ix (Mat.row (by assumption) _ (by omega)) (by omega) ?_) | (refine Ints.ix (c := 0) (by assumption) (by omega) ?_) | (refine Mat.ix (c := 0) (by assumption) (by omega) ?_) | (refine Ints.ix (c := 0) (Mat.row (by assumption) _ (by omega)) (by omega) ?_) | (refine Ints.ixI (by assumption) (by omega) ?_) | (refine Mat.ixI (by assumption) (by omega) ?_) | (refine Ints.ixI (Mat.row (by assumption) _ (by omega)) (by omega) ?_) | (refine Ints.ld (by assumption) (by omega) ?_) | (refine Mat.ld (by assumption) (by omega) ?_) | (refine Ints.ld (Mat.row (by assumption) _ (by omega)) (by omega) ?_) | (refine At.ld (by assumption) rfl ?_) | (refine At.ldN (by assumption) rfl ?_) | (refine Prs.ln (by assumption) ?_) | (refine Trs.ln (by assumption) ?_) | (refine Prs.ix (by assumption) (by omega) ?_) | (refine Trs.ix (by assumption) (by omega) ?_) | (refine Prs.ldN (by assumption) (by omega) ?_) | (refine Trs.ldN (by assumption) (by omega) ?_) | (refine At.ldN (Blk.at (by assumption)) rfl ?_) | (refine At.ld (Blk.at (by assumption)) rfl ?_) | (refine IxA.mk (by omega) ?_) | (refine Sl.ln (Own.sl (by assumption)) ?_) | (refine Ints.ix (Own.sl (by assumption)) (by omega) ?_) | (refine Ints.ixI (Own.sl (by assumption)) (by omega) ?_) | (refine Ints.ld (Own.sl (by assumption)) (by omega) ?_))
        exact ⟨EE, _, rfl, Own.base Hv (Nat.zero_le _)⟩
  · rw [shortR, if_neg hv]
    repeat' ((conv => whnf); first | (refine Dr.quiet tyOk (by kernel_rfl) ?_) | (refine Rng.mk (by omega) ?_) | (refine Split.pos (by omega) ?_) | (refine Split.neg (by omega) ?_) | (refine Split.mk (fun h => ?_) (fun h => ?_)) | (refine Need.mk (by omega) ?_) | (refine Ints.ln (by assumption) ?_) | (refine Mat.ln (by assumption) ?_) | (refine Ints.ln (Mat.row (by assumption) _ (by omega)) ?_) | (refine Ints.ix (by assumption) (by omega) ?_) | (refine Mat.ix (by assumption) (by omega) ?_) | (refine Ints.ix (Mat.row (by assumption) _ (by omega)) (by omega) ?_) | (refine Ints.ix (c := 0) (by assumption) (by omega) ?_) | (refine Mat.ix (c := 0) (by assumption) (by omega) ?_) | (refine Ints.ix (c := 0) (Mat.row (by assumption) _ (by omega)) (by omega) ?_) | (refine Ints.ixI (by assumption) (by omega) ?_) | (refine Mat.ixI (by assumption) (by omega) ?_) | (refine Ints.ixI (Mat.row (by assumption) _ (by omega)) (by omega) ?_) | (refine Ints.ld (by assumption) (by omega) ?_) | (refine Mat.ld (by assumption) (by omega) ?_) | (refine Ints.ld (Mat.row (by assumption) _ (by omega)) (by omega) ?_) | (refine At.ld (by assumption) rfl ?_) | (refine At.ldN (by assumption) rfl ?_) | (refine Prs.ln (by assumption) ?_) | (refine Trs.ln (by assumption) ?_) | (refine Prs.ix (by assumption) (by omega) ?_) | (refine Trs.ix (by assumption) (by omega) ?_) | (refine Prs.ldN (by assumption) (by omega) ?_) | (refine Trs.ldN (by assumption) (by omega) ?_) | (refine At.ldN (Blk.at (by assumption)) rfl ?_) | (refine At.ld (Blk.at (by assumption)) rfl ?_) | (refine IxA.mk (by omega) ?_) | (refine Sl.ln (Own.sl (by assumption)) ?_) | (refine Ints.ix (Own.sl (by assumption)) (by omega) ?_) | (refine Ints.ixI (Own.sl (by assumption)) (by omega) ?_) | (refine Ints.ld (Own.sl (by assumption)) (by omega) ?_))
    exact ⟨EE, _, rfl, Own.nil⟩
end Go.Proofs.Ytkgogljfngplnaa
set_option linter.unusedVariables false
set_option linter.unusedSimpArgs false
namespace Go.Proofs.Ytkgogljfngplnaa
open Go.Eng
set_option maxRecDepth 100000
set_option maxHeartbeats 4000000

theorem mk_find {p : List Int → Bool} {f : Nat → List Int} : ∀ {n k : Nat}, k < n → (∀ q, q < k → p (f q) = false) → p (f k) = true → (mk n f).find? p = some (f k)
  | n + 1, k, hk, h1, h2 => by
    rw [mk_succ, List.find?_append]
    by_cases e : k = n
    · subst e
      have : (mk k f).find? p = none := by
        rw [List.find?_eq_none]
        intro x hx
        obtain ⟨q, hq, rfl⟩ := List.mem_map.1 hx
        rw [h1 q (List.mem_range.1 hq)]; decide
      rw [this]; simp [h2]
    · rw [mk_find (by omega) h1 h2]; rfl
theorem mk_none {p : List Int → Bool} {f : Nat → List Int} {n : Nat} (h : ∀ q, q < n → p (f q) = false) : (mk n f).find? p = none := by
  rw [List.find?_eq_none]
  intro x hx
  obtain ⟨q, hq, rfl⟩ := List.mem_map.1 hx
  rw [h q (List.mem_range.1 hq)]; decide
/-- the first list in which nobody is short -/
noncomputable def fkO (rr : List (List Int)) : Option (List Int) := (lsts rr.length (mOf rr) (tot rr)).find? fun l => tf (kp rr (shA rr) l)
theorem fk_at {rr : List (List Int)} {k : Nat} (hk : k < tot rr) (h1 : ∀ q, q < k → ¬ kp rr (shA rr) (digs rr.length (mOf rr) q)) (h2 : kp rr (shA rr) (digs rr.length (mOf rr) k)) : fkO rr = some (digs rr.length (mOf rr) k) :=
  mk_find (f := fun k => digs rr.length (mOf rr) k) hk (fun q hq => tf_f (h1 q hq)) (tf_t h2)
theorem fk_no {rr : List (List Int)} (h : ∀ q, q < tot rr → ¬ kp rr (shA rr) (digs rr.length (mOf rr) q)) : fkO rr = none := mk_none fun q hq => tf_f (h q hq)
noncomputable def fkE (rr : List (List Int)) : Int := if chk rr ≠ 0 then chk rr else if 20000 < tot rr then 4 else if (fkO rr).isSome then 0 else 6
noncomputable def fkR (rr : List (List Int)) : List Int := if fkE rr = 0 then (fkO rr).getD [] else []
theorem fkE_chk {rr : List (List Int)} (h : chk rr ≠ 0) : fkE rr = chk rr := by unfold fkE; rw [if_pos h]
theorem fkE_many {rr : List (List Int)} (h : chk rr = 0) (h2 : 20000 < tot rr) : fkE rr = 4 := by unfold fkE; rw [if_neg (by omega), if_pos h2]
theorem fkE_none {rr : List (List Int)} (h : chk rr = 0) (h2 : ¬ 20000 < tot rr) (h3 : fkO rr = none) : fkE rr = 6 := by unfold fkE; rw [if_neg (by omega), if_neg h2, h3]; rfl
theorem fkE_some {rr : List (List Int)} {l : List Int} (h : chk rr = 0) (h2 : ¬ 20000 < tot rr) (h3 : fkO rr = some l) : fkE rr = 0 := by unfold fkE; rw [if_neg (by omega), if_neg h2, h3]; rfl
theorem eKept : Elem Try.prog 93 (.agg #[.slice none 0 0, .slice none 0 0, .slice none 0 0]) 3 72 := by unfold Elem; kernel_rfl

end Go.Proofs.Ytkgogljfngplnaa
set_option linter.unusedVariables false
set_option linter.unusedSimpArgs false
namespace Go.Proofs.Ytkgogljfngplnaa
open Go.Eng
set_option maxRecDepth 100000
set_option maxHeartbeats 4000000

theorem sfind_rc {w : World} {gv : Value} {vs : List Value} {rr : List (List Int)} (Hg : Mat w gv vs rr) :
    RC Try.prog 48 [.agg #[gv]] w NoB (fun u w' => ∃ v, u = .tuple #[v, .int .i64 (fkE rr)] ∧ OI w' v (fkR rr)) := by
  refine RC.mk tyOk Try.func48 rfl (by kernel_rfl) fun w1 E1 => ?_
  replace Hg := Hg.ext E1
  have EE := Ext.refl w1
  refine Bx.agg fun b2 w2 E2 hb2 Hb _ => ?_
  replace Hg := Hg.ext E2
  replace EE := EE.ext E2
  repeat' ((conv => whnf); first | (refine Dr.quiet tyOk (by kernel_rfl) ?_) | (refine Rng.mk (by omega) ?_) | (refine Split.pos (by omega) ?_) | (refine Split.neg (by omega) ?_) | (refine Split.mk (fun h => ?_) (fun h => ?_)) | (refine Need.mk (by omega) ?_) | (refine Ints.ln (by assumption) ?_) | (refine Mat.ln (by assumption) ?_) | (refine Ints.ln (Mat.row (by assumption) _ (by omega)) ?_) | (refine Ints.ix (by assumption) (by omega) ?_) | (refine Mat.ix (by assumption) (by omega) ?_) | (refine Ints.ix (Mat.row (by assumption) _ (by omega)) (by omega) ?_) | (refine Ints.ix (c := 0) (by assumption) (by omega) ?_) | (refine Mat.ix (c := 0) (by assumption) (by omega) ?_) | (refine Ints.ix (c := 0) (Mat.row (by assumption) _ (by omega)) (by omega) ?_) | (refine Ints.ixI (by assumption) (by omega) ?_) | (refine Mat.ixI (by assumption) (by omega) ?_) | (refine Ints.ixI (Mat.row (by assumption) _ (by omega)) (by omega) ?_) | (refine Ints.ld (by assumption) (by omega) ?_) | (refine Mat.ld (by assumption) (by omega) ?_) | (refine Ints.ld (Mat.row (by assumption) _ (by omega)) (by omega) ?_) | (refine At.ld (by assumption) rfl ?_) | (refine At.ldN (by assumption) rfl ?_) | (refine Prs.ln (by assumption) ?_) | (refine Trs.ln (by assumption) ?_) | (refine Prs.ix (by assumption) (by omega) ?_) | (refine Trs.ix (by assumption) (by omega) ?_) | (refine Prs.ldN (by assumption) (by omega) ?_) | (refine Trs.ldN (by assumption) (by omega) ?_) | (refine At.ldN (Blk.at (by assumption)) rfl ?_) | (refine At.ld (Blk.at (by assumption)) rfl ?_) | (refine IxA.mk (by omega) ?_) | (refine Sl.ln (Own.sl (by assumption)) ?_) | (refine Ints.ix (Own.sl (by assumption)) (by omega) ?_) | (refine Ints.ixI (Own.sl (by assumption)) (by omega) ?_) | (refine Ints.ld (Own.sl (by assumption)) (by omega) ?_))
  have Hg2 := Hg
  conv => whnf
  refine VC.rc (sall_rc Hg) ?_
  rintro _ w3 E3 ⟨sv, rfl, HO⟩
  replace Hg := Hg.ext E3
  replace EE := EE.ext E3
  replace Hb := Hb.ext E3
  by_cases hck : chk rr = 0
  · have hgd := gd_of_chk hck
    have hn := hgd.n6
    have hn1 := hgd.n1
    have hm := hgd.m10
    have hmO : mOf rr = (rr.getD 0 []).length := rfl
    have hSl := shA_len hck
    rw [hck]
    repeat' ((conv => whnf); first | (refine Dr.quiet tyOk (by kernel_rfl) ?_) | (refine Rng.mk (by omega) ?_) | (refine Split.pos (by omega) ?_) | (refine Split.neg (by omega) ?_) | (refine Split.mk (fun h => ?_) (fun h => ?_)) | (refine Need.mk (by omega) ?_) | (refine Ints.ln (by assumption) ?_) | (refine Mat.ln (by assumption) ?_) | (refine Ints.ln (Mat.row (by assumption) _ (by omega)) ?_) | (refine Ints.ix (by assumption) (by omega) ?_) | (refine Mat.ix (by assumption) (by omega) ?_) | (refine Ints.ix (Mat.row (by assumption) _ (by omega)) (by omega) ?_) | (refine Ints.ix (c := 0) (by assumption) (by omega) ?_) | (refine Mat.ix (c := 0) (by assumption) (by omega) ?_) | (refine Ints.ix (c := 0) (Mat.row (by assumption) _ (by omega)) (by omega) ?_) | (refine Ints.ixI (by assumption) (by omega) ?_) | (refine Mat.ixI (by assumption) (by omega) ?_) | (refine Ints.ixI (Mat.row (by assumption) _ (by omega)) (by omega) ?_) | (refine Ints.ld (by assumption) (by omega) ?_) | (refine Mat.ld (by assumption) (by omega) ?_) | (refine Ints.ld (Mat.row (by assumption) _ (by omega)) (by omega) ?_) | (refine At.ld (by assumption) rfl ?_) | (refine At.ldN (by assumption) rfl ?_) | (refine Prs.ln (by assumption) ?_) | (refine Trs.ln (by assumption) ?_) | (refine Prs.ix (by assumption) (by omega) ?_) | (refine Trs.ix (by assumption) (by omega) ?_) | (refine Prs.ldN (by assumption) (by omega) ?_) | (refine Trs.ldN (by assumption) (by omega) ?_) | (refine At.ldN (Blk.at (by assumption)) rfl ?_) | (refine At.ld (Blk.at (by assumption)) rfl ?_) | (refine IxA.mk (by omega) ?_) | (refine Sl.ln (Own.sl (by assumption)) ?_) | (refine Ints.ix (Own.sl (by assumption)) (by omega) ?_) | (refine Ints.ixI (Own.sl (by assumption)) (by omega) ?_) | (refine Ints.ld (Own.sl (by assumption)) (by omega) ?_))
    refine Lp.mk tyOk [false, false, true, true, false, false, true, false, false, false, false, false, false, false, false, false, false, false, false, false, false, true, true, true, true, true, true, true, true, true, true] (fun m fr wr => getK fr 21 fun j => getK fr 6 fun q => ∃ c : Nat, c ≤ (rr.getD 0 []).length ∧ m = (rr.getD 0 []).length - c ∧ j = .int .i64 (c : Int) ∧ q = .int .i64 ((rr.length ^ c : Nat) : Int) ∧ (rr.length ^ c ≤ 20000) ∧ wr = w3) ((rr.getD 0 []).length) ?_ ?_
    · exact ⟨0, Nat.zero_le _, rfl, rfl, (by simp), by simp, rfl⟩
    · intro m w4 u2 u3 u6 u21 u22 u23 u24 u25 u26 u27 u28 u29 u30 hR
      obtain ⟨c, hc, rfl, rfl, rfl, hle, rfl⟩ := hR
      have hpow : rr.length ^ (c + 1) = rr.length ^ c * rr.length := Nat.pow_succ _ _
      have hcast : ((rr.length ^ c : Nat) : Int) * (rr.length : Int) = ((rr.length ^ (c + 1) : Nat) : Int) := by rw [hpow, Int.natCast_mul]
      have hup : rr.length ^ (c + 1) ≤ 20000 * 6 := by rw [hpow]; exact Nat.mul_le_mul hle hn
      have htp : c < mOf rr → rr.length ^ (c + 1) ≤ tot rr := fun h => pow_le_tot hn1 h
      generalize hq : rr.length ^ c = q at *
      generalize hq1 : rr.length ^ (c + 1) = q1 at *
      by_cases hcl : c < (rr.getD 0 []).length
      · repeat' ((conv => whnf); first | (refine Dr.quiet tyOk (by kernel_rfl) ?_) | (refine Rng.mk (by omega) ?_) | (refine Split.pos (by omega) ?_) | (refine Split.neg (by omega) ?_) | (refine Split.mk (fun h => ?_) (fun h => ?_)) | (refine Need.mk (by omega) ?_) | (refine Ints.ln (by assumption) ?_) | (refine Mat.ln (by assumption) ?_) | (refine Ints.ln (Mat.row (by assumption) _ (by omega)) ?_) | (refine Ints.ix (by assumption) (by omega) ?_) | (refine Mat.ix (by assumption) (by omega) ?_) | (refine Ints.ix (Mat.row (by assumption) _ (by omega)) (by omega) ?_) | (refine Ints.ix (c := 0) (by assumption) (by omega) ?_) | (refine Mat.ix (c := 0) (by assumption) (by omega) ?_) | (refine Ints.ix (c := 0) (Mat.row (by assumption) _ (by omega)) (by omega) ?_) | (refine Ints.ixI (by assumption) (by omega) ?_) | (refine Mat.ixI (by assumption) (by omega) ?_) | (refine Ints.ixI (Mat.row (by assumption) _ (by omega)) (by omega) ?_) | (refine Ints.ld (by assumption) (by omega) ?_) | (refine Mat.ld (by assumption) (by omega) ?_) | (refine Ints.ld (Mat.row (by assumption) _ (by omega)) (by omega) ?_) | (refine At.ld (by assumption) rfl ?_) | (refine At.ldN (by assumption) rfl ?_) | (refine Prs.ln (by assumption) ?_) | (refine Trs.ln (by assumption) ?_) | (refine Prs.ix (by assumption) (by omega) ?_) | (refine Trs.ix (by assumption) (by omega) ?_) | (refine Prs.ldN (by assumption) (by omega) ?_) | (refine Trs.ldN (by assumption) (by omega) ?_) | (refine At.ldN (Blk.at (by assumption)) rfl ?_) | (refine At.ld (Blk.at (by assumption)) rfl ?_) | (refine IxA.mk (by omega) ?_) | (refine Sl.ln (Own.sl (by assumption)) ?_) | (refine Ints.ix (Own.sl (by assumption)) (by omega) ?_) | (refine Ints.ixI (Own.sl (by assumption)) (by omega) ?_) | (refine Ints.ld (Own.sl (by assumption)) (by omega) ?_))
        · have htt : 20000 < tot rr := by have := htp (by omega); omega
          rw [fkR, fkE_many hck htt, if_neg (by decide)]
          exact ⟨EE, _, rfl, Own.nil⟩
        · refine ⟨_, (by omega : (rr.getD 0 []).length - (c + 1) < (rr.getD 0 []).length - c), rfl, c + 1, by omega, rfl, rfl, (by rw [hq1, hcast]), (by rw [hq1]; omega), rfl⟩
      · have hcm : c = (rr.getD 0 []).length := by omega
        have htt : tot rr = q := by rw [← hq]; unfold tot; rw [hmO, hcm]
        repeat' ((conv => whnf); first | (refine Dr.plan 31 [] (.q 0 (.q 1 (.q 2 (.q 3 (.q 4 (.q 5 (.q 6 (.q 7 (.e 8 (.q 9 (.e 10 (.q 11 .nil) .nil)) .nil))))))))) tyOk rfl (by kernel_rfl) ?_) | (refine Dr.quiet tyOk (by kernel_rfl) ?_) | (refine Rng.mk (by omega) ?_) | (refine Split.pos (by omega) ?_) | (refine Split.neg (by omega) ?_) | (refine Split.mk (fun h => ?_) (fun h => ?_)) | (refine Need.mk (by omega) ?_) | (refine Ints.ln (by assumption) ?_) | (refine Mat.ln (by assumption) ?_) | (refine Ints.ln (Mat.row (by assumption) _ (by omega)) ?_) | (refine Ints.ix (by assumption) (by omega) ?_) | (refine Mat.ix (by assumption) (by omega) ?_) | (refine Ints.ix (Mat.row (by assumption) _ (by omega)) (by omega) ?_) | (refine Ints.ix (c := 0) (by assumption) (by omega) ?_) | (refine Mat.ix (c := 0) (by assumption) (by omega) ?_) | (refine Ints.ix (c := 0) (Mat.row (by assumption) _ (by omega)) (by omega) ?_) | (refine Ints.ixI (by assumption) (by omega) ?_) | (refine Mat.ixI (by assumption) (by omega) ?_) | (refine Ints.ixI (Mat.row (by assumption) _ (by omega)) (by omega) ?_) | (refine Ints.ld (by assumption) (by omega) ?_) | (refine Mat.ld (by assumption) (by omega) ?_) | (refine Ints.ld (Mat.row (by assumption) _ (by omega)) (by omega) ?_) | (refine At.ld (by assumption) rfl ?_) | (refine At.ldN (by assumption) rfl ?_) | (refine Prs.ln (by assumption) ?_) | (refine Trs.ln (by assumption) ?_) | (refine Prs.ix (by assumption) (by omega) ?_) | (refine Trs.ix (by assumption) (by omega) ?_) | (refine Prs.ldN (by assumption) (by omega) ?_) | (refine Trs.ldN (by assumption) (by omega) ?_) | (refine At.ldN (Blk.at (by assumption)) rfl ?_) | (refine At.ld (Blk.at (by assumption)) rfl ?_) | (refine IxA.mk (by omega) ?_) | (refine Sl.ln (Own.sl (by assumption)) ?_) | (refine Ints.ix (Own.sl (by assumption)) (by omega) ?_) | (refine Ints.ixI (Own.sl (by assumption)) (by omega) ?_) | (refine Ints.ld (Own.sl (by assumption)) (by omega) ?_))
        conv => whnf
        refine VX.made (n := mOf rr) Try.underlying27 eInt rfl (by omega) (by omega) fun aa w20 E20 H1 _ => ?_
        conv => whnf
        have H1b := H1 _ (Nat.le_refl _)
        have HA20 : OB w4.heap.size w20 aa (List.replicate (mOf rr) 0) := OB.made H1b
        have d1 : Dis sv aa := Dis.fresh HO H1b
        have d2 : Dis aa sv := fun k h1 h2 => d1 k h2 h1
        refine VS.sparseR (ps := [(0, gv), (1, sv), (2, aa)]) #[gv, sv, aa] Try.underlying93 eKept (by decide +kernel) (by
          intro p hp; simp at hp
          rcases hp with rfl | rfl | rfl
          · exact ⟨by kernel_rfl, by simp, (Sl.cells Hg.top).1⟩
          · exact ⟨by kernel_rfl, by simp, (Sl.cells (Own.sl HO)).1⟩
          · exact ⟨by kernel_rfl, by simp, (Sl.cells (Own.sl HA20)).1⟩) rfl ?_
        conv => whnf
        refine Bx.blk (l := [gv, sv, aa]) fun sb w21 E21 hsb HK => ?_
        have hz20 := E20.size
        have hz3 := E3.size
        have E3b := (E3.ext E20).ext E21
        have HN : KS w2 w21 sb gv sv aa (shA rr) (List.replicate (mOf rr) 0) :=
          ⟨E3b, by omega, HK, Own.ext (Own.ext HO E20) E21, Own.base (Own.ext HA20 E21) (by omega), d1, d2⟩
        have hL0 : lackAt rr (shA rr) (shA rr) (List.replicate (mOf rr) 0) 0 := ⟨hSl, fun i _ => by simp [worth]⟩
        conv => whnf
        refine VC.rc (kfrom_rc hck (shA_bd hck) (mOf rr) 0 (by omega) (by simp) Hg2 HN hL0) ?_
        rintro _ w22 G22 (⟨rfl, k, L5, hk, h1, h2, HN5⟩ | ⟨rfl, h1, A5, hA5, ht5, HN5⟩)
        · rw [List.take_zero, List.nil_append] at h2 HN5
          have hf := fk_at (rr := rr) hk (fun q hq => by have := h1 q hq; rwa [List.take_zero, List.nil_append] at this) h2
          have HK5 := HN5.blk
          have EX := E2.ext HN5.ex
          rw [fkR, fkE_some hck (by omega) hf, if_pos rfl, hf]
          repeat' ((conv => whnf); first | (refine Dr.quiet tyOk (by kernel_rfl) ?_) | (refine Rng.mk (by omega) ?_) | (refine Split.pos (by omega) ?_) | (refine Split.neg (by omega) ?_) | (refine Split.mk (fun h => ?_) (fun h => ?_)) | (refine Need.mk (by omega) ?_) | (refine Ints.ln (by assumption) ?_) | (refine Mat.ln (by assumption) ?_) | (refine Ints.ln (Mat.row (by assumption) _ (by omega)) ?_) | (refine Ints.ix (by assumption) (by omega) ?_) | (refine Mat.ix (by assumption) (by omega) ?_) | (refine Ints.ix (Mat.row (by assumption) _ (by omega)) (by omega) ?_) | (refine Ints.ix (c := 0) (by assumption) (by omega) ?_) | (refine Mat.ix (c := 0) (by assumption) (by omega) ?_) | (refine Ints.ix (c := 0) (Mat.row (by assumption) _ (by omega)) (by omega) ?_) | (refine Ints.ixI (by assumption) (by omega) ?_) | (refine Mat.ixI (by assumption) (by omega) ?_) | (refine Ints.ixI (Mat.row (by assumption) _ (by omega)) (by omega) ?_) | (refine Ints.ld (by assumption) (by omega) ?_) | (refine Mat.ld (by assumption) (by omega) ?_) | (refine Ints.ld (Mat.row (by assumption) _ (by omega)) (by omega) ?_) | (refine At.ld (by assumption) rfl ?_) | (refine At.ldN (by assumption) rfl ?_) | (refine Prs.ln (by assumption) ?_) | (refine Trs.ln (by assumption) ?_) | (refine Prs.ix (by assumption) (by omega) ?_) | (refine Trs.ix (by assumption) (by omega) ?_) | (refine Prs.ldN (by assumption) (by omega) ?_) | (refine Trs.ldN (by assumption) (by omega) ?_) | (refine At.ldN (Blk.at (by assumption)) rfl ?_) | (refine At.ld (Blk.at (by assumption)) rfl ?_) | (refine IxA.mk (by omega) ?_) | (refine Sl.ln (Own.sl (by assumption)) ?_) | (refine Ints.ix (Own.sl (by assumption)) (by omega) ?_) | (refine Ints.ixI (Own.sl (by assumption)) (by omega) ?_) | (refine Ints.ld (Own.sl (by assumption)) (by omega) ?_))
          exact ⟨EX, _, rfl, Own.base HN5.ha (Nat.zero_le _)⟩
        · have hf := fk_no (rr := rr) (fun q hq => by have := h1 q hq; rwa [List.take_zero, List.nil_append] at this)
          have EX := E2.ext HN5.ex
          rw [fkR, fkE_none hck (by omega) hf, if_neg (by decide)]
          repeat' ((conv => whnf); first | (refine Dr.quiet tyOk (by kernel_rfl) ?_) | (refine Rng.mk (by omega) ?_) | (refine Split.pos (by omega) ?_) | (refine Split.neg (by omega) ?_) | (refine Split.mk (fun h => ?_) (fun h => ?_)) | (refine Need.mk (by omega) ?_) | (refine Ints.ln (by assumption) ?_) | (refine Mat.ln (by assumption) ?_) | (refine Ints.ln (Mat.row (by assumption) _ (by omega)) ?_) | (refine Ints.ix (by assumption) (by omega) ?_) | (refine Mat.ix (by assumption) (by omega) ?_) | (refine Ints.ix (Mat.row (by assumption) _ (by omega)) (by omega) ?_) | (refine Ints.ix (c := 0) (by assumption) (by omega) ?_) | (refine Mat.ix (c := 0) (by assumption) (by omega) ?_) | (refine Ints.ix (c := 0) (Mat.row (by assumption) _ (by omega)) (by omega) ?_) | (refine Ints.ixI (by assumption) (by omega) ?_) | (refine Mat.ixI (by assumption) (by omega) ?_) | (refine Ints.ixI (Mat.row (by assumption) _ (by omega)) (by omega) ?_) | (refine Ints.ld (by assumption) (by omega) ?_) | (refine Mat.ld (by assumption) (by omega) ?_) | (refine Ints.ld (Mat.row (by assumption) _ (by omega)) (by omega) ?_) | (refine At.ld (by assumption) rfl ?_) | (refine At.ldN (by assumption) rfl ?_) | (refine Prs.ln (by assumption) ?_) | (refine Trs.ln (by assumption) ?_) | (refine Prs.ix (by assumption) (by omega) ?_) | (refine Trs.ix (by assumption) (by omega) ?_) | (refine Prs.ldN (by assumption) (by omega) ?_) | (refine Trs.ldN (by assumption) (by omega) ?_) | (refine At.ldN (Blk.at (by assumption)) rfl ?_) | (refine At.ld (Blk.at (by assumption)) rfl ?_) | (refine IxA.mk (by omega) ?_) | (refine Sl.ln (Own.sl (by assumption)) ?_) | (refine Ints.ix (Own.sl (by assumption)) (by omega) ?_) | (refine Ints.ixI (Own.sl (by assumption)) (by omega) ?_) | (refine Ints.ld (Own.sl (by assumption)) (by omega) ?_))
          exact ⟨EX, _, rfl, Own.nil⟩
  · rw [fkR, fkE_chk hck, if_neg hck]
    repeat' ((conv => whnf); first | (refine Dr.quiet tyOk (by kernel_rfl) ?_) | (refine Rng.mk (by omega) ?_) | (refine Split.pos (by omega) ?_) | (refine Split.neg (by omega) ?_) | (refine Split.mk (fun h => ?_) (fun h => ?_)) | (refine Need.mk (by omega) ?_) | (refine Ints.ln (by assumption) ?_) | (refine Mat.ln (by assumption) ?_) | (refine Ints.ln (Mat.row (by assumption) _ (by omega)) ?_) | (refine Ints.ix (by assumption) (by omega) ?_) | (refine Mat.ix (by assumption) (by omega) ?_) | (refine Ints.ix (Mat.row (by assumption) _ (by omega)) (by omega) ?_) | (refine Ints.ix (c := 0) (by assumption) (by omega) ?_) | (refine Mat.ix (c := 0) (by assumption) (by omega) ?_) | (refine Ints.ix (c := 0) (Mat.row (by assumption) _ (by omega)) (by omega) ?_) | (refine Ints.ixI (by assumption) (by omega) ?_) | (refine Mat.ixI (by assumption) (by omega) ?_) | (refine Ints.ixI (Mat.row (by assumption) _ (by omega)) (by omega) ?_) | (refine Ints.ld (by assumption) (by omega) ?_) | (refine Mat.ld (by assumption) (by omega) ?_) | (refine Ints.ld (Mat.row (by assumption) _ (by omega)) (by omega) ?_) | (refine At.ld (by assumption) rfl ?_) | (refine At.ldN (by assumption) rfl ?_) | (refine Prs.ln (by assumption) ?_) | (refine Trs.ln (by assumption) ?_) | (refine Prs.ix (by assumption) (by omega) ?_) | (refine Trs.ix (by assumption) (by omega) ?_) | (refine Prs.ldN (by assumption) (by omega) ?_) | (refine Trs.ldN (by assumption) (by omega) ?_) | (refine At.ldN (Blk.at (by assumption)) rfl ?_) | (refine At.ld (Blk.at (by assumption)) rfl ?_) | (refine IxA.mk (by omega) ?_) | (refine Sl.ln (Own.sl (by assumption)) ?_) | (refine Ints.ix (Own.sl (by assumption)) (by omega) ?_) | (refine Ints.ixI (Own.sl (by assumption)) (by omega) ?_) | (refine Ints.ld (Own.sl (by assumption)) (by omega) ?_))
    exact ⟨EE, _, rfl, Own.nil⟩
end Go.Proofs.Ytkgogljfngplnaa
set_option linter.unusedVariables false
set_option linter.unusedSimpArgs false
namespace Go.Proofs.Ytkgogljfngplnaa
open Go.Eng
set_option maxRecDepth 100000
set_option maxHeartbeats 4000000

theorem given20_rc {w : World} : RC Try.prog 50 [] w NoB (fun u w' => ∃ gv us, u = .agg #[gv] ∧ OM 0 w' gv us gvn) := by
  refine RC.mk tyOk Try.func50 rfl (by kernel_rfl) fun w1 E1 => ?_
  have EE := Ext.refl w1
  have EE__1 := EE
  conv => whnf
  refine VE.alloc eGoods fun b w2 E2 hb_b Hk => ?_
  replace EE := EE.ext E2
  have EL1 := E2
  conv => whnf
  refine VE.litI [5, 3, 1] Try.underlying27 eInt (by decide) fun gv_0 w3 E3 HO_0 _ => ?_
  replace HO_0 := HO_0 0 (Nat.zero_le _)
  replace EE := EE.ext E3
  replace EL1 := EL1.ext E3
  replace Hk := Hk.ext E3
  conv => whnf
  refine VE.litI [2, 2, 2] Try.underlying27 eInt (by decide) fun gv_1 w4 E4 HO_1 _ => ?_
  replace HO_1 := HO_1 0 (Nat.zero_le _)
  replace EE := EE.ext E4
  replace EL1 := EL1.ext E4
  replace Hk := Hk.ext E4
  replace HO_0 := HO_0.ext E4
  conv => whnf
  refine VE.litV [gv_0, gv_1] Try.underlying22 eRow (by intro v hv; simp at hv; rcases hv with rfl | rfl <;> first | exact (Sl.cells (Own.sl HO_0)).1 | exact (Sl.cells (Own.sl HO_1)).1) (by simp) fun gv w5 E5 HO _ => ?_
  replace EE := EE.ext E5
  replace EL1 := EL1.ext E5
  replace Hk := Hk.ext E5
  replace HO_0 := HO_0.ext E5
  replace HO_1 := HO_1.ext E5
  replace HO : OM 0 w5 gv [gv_0, gv_1] [[5, 3, 1], [2, 2, 2]] := by
    refine ⟨HO _ (Nat.zero_le _), fun i hi => ?_⟩
    match i, hi with
    | 0, _ => exact HO_0
    | 1, _ => exact HO_1
  conv => whnf
  refine VS.field1 Try.underlying24 eGoods (by kernel_rfl) rfl (Sl.cells (Own.sl HO.top)).1 ?_
  conv => whnf
  refine Blk.all Hk (by kernel_rfl) (by decide) rfl rfl (by intro v hv; simp at hv; subst hv; exact (Sl.cells (Own.sl HO.top)).2) fun w6 G6 Hk6 => ?_
  have EE6 := EL1.new G6 fun i hi hk => by omega
  replace HO := OM.blk HO Hk (by decide) (by decide) G6
  repeat' ((conv => whnf); first | (refine Dr.quiet tyOk (by kernel_rfl) ?_) | (refine Rng.mk (by omega) ?_) | (refine Split.pos (by omega) ?_) | (refine Split.neg (by omega) ?_) | (refine Split.mk (fun h => ?_) (fun h => ?_)) | (refine Need.mk (by omega) ?_) | (refine Ints.ln (by assumption) ?_) | (refine Mat.ln (by assumption) ?_) | (refine Ints.ln (Mat.row (by assumption) _ (by omega)) ?_) | (refine Ints.ix (by assumption) (by omega) ?_) | (refine Mat.ix (by assumption) (by omega) ?_) | (refine Ints.ix (Mat.row (by assumption) _ (by omega)) (by omega) ?_) | (refine Ints.ix (c := 0) (by assumption) (by omega) ?_) | (refine Mat.ix (c := 0) (by assumption) (by omega) ?_) | (refine Ints.ix (c := 0) (Mat.row (by assumption) _ (by omega)) (by omega) ?_) | (refine Ints.ixI (by assumption) (by omega) ?_) | (refine Mat.ixI (by assumption) (by omega) ?_) | (refine Ints.ixI (Mat.row (by assumption) _ (by omega)) (by omega) ?_) | (refine Ints.ld (by assumption) (by omega) ?_) | (refine Mat.ld (by assumption) (by omega) ?_) | (refine Ints.ld (Mat.row (by assumption) _ (by omega)) (by omega) ?_) | (refine At.ld (by assumption) rfl ?_) | (refine At.ldN (by assumption) rfl ?_) | (refine Prs.ln (by assumption) ?_) | (refine Trs.ln (by assumption) ?_) | (refine Prs.ix (by assumption) (by omega) ?_) | (refine Trs.ix (by assumption) (by omega) ?_) | (refine Prs.ldN (by assumption) (by omega) ?_) | (refine Trs.ldN (by assumption) (by omega) ?_) | (refine At.ldN (Blk.at (by assumption)) rfl ?_) | (refine At.ld (Blk.at (by assumption)) rfl ?_) | (refine IxA.mk (by omega) ?_) | (refine Sl.ln (Own.sl (by assumption)) ?_) | (refine Ints.ix (Own.sl (by assumption)) (by omega) ?_) | (refine Ints.ixI (Own.sl (by assumption)) (by omega) ?_) | (refine Ints.ld (Own.sl (by assumption)) (by omega) ?_))
  exact ⟨EE__1.ext EE6, gv, _, rfl, HO⟩

theorem gvn_ok : chk gvn = 0 := gvn_chk
theorem gvn_of (i n : Nat) (hi : i < 2) (hn : 1 ≤ n ∧ n ≤ 6) : ofE gvn (i : Int) (n : Int) = 0 ∧ ofR gvn (i : Int) (n : Int) = shB gvn i n := by
  have hb : ¬ badO gvn (i : Int) (n : Int) := by unfold badO; rw [show gvn.length = 2 from rfl]; omega
  have := ofE_ok gvn_ok hb
  exact ⟨this, by unfold ofR; rw [if_pos this, Int.toNat_natCast, Int.toNat_natCast]⟩
theorem gvn_sh : shA gvn = [4, 2] := by rw [shA, if_pos gvn_ok]; decide +kernel
theorem gvn_fk : fkO gvn = some [0, 0, 1] := by
  have h := fk_at (rr := gvn) (k := 1) (by decide +kernel) (fun q hq => by
    obtain rfl : q = 0 := by omega
    rw [gvn_sh]
    intro h
    have := h 1 (by decide)
    revert this
    decide +kernel) (by
    rw [gvn_sh]
    intro i hi
    have hi : i < 2 := hi
    have : i = 0 ∨ i = 1 := by omega
    rcases this with rfl | rfl <;> decide +kernel)
  exact h
theorem gvn_fkE : fkE gvn = 0 ∧ fkR gvn = [0, 0, 1] := by
  have h : fkE gvn = 0 := fkE_some gvn_ok (by decide +kernel) gvn_fk
  exact ⟨h, by rw [fkR, if_pos h, gvn_fk]; rfl⟩

theorem alive20_pc {w : World} : PC Try.prog 29 [] w (.bool true) := by
  refine PC.mk tyOk Try.func29 rfl (by kernel_rfl) fun w1 E1 => ?_
  have EE := Ext.refl w1
  conv => whnf
  refine VC.rc (given20_rc) ?_
  rintro _ w2 E2 ⟨g1, _, rfl, HG⟩
  replace EE := EE.ext E2
  conv => whnf
  refine VC.rc (sof_rc (ag := ((0 : Nat) : Int)) (k := ((2 : Nat) : Int)) HG.mat) ?_
  rintro _ w3 E3 ⟨hpv, rfl, HP⟩
  replace EE := EE.ext E3
  replace HG := HG.ext E3
  rw [(gvn_of 0 2 (by decide) (by decide)).2] at HP
  rw [(gvn_of 0 2 (by decide) (by decide)).1, (gvn_of 0 2 (by decide) (by decide)).2]
  rw [show shB gvn 0 2 = (4, [0, 1, 1]) by decide +kernel] at HP ⊢
  repeat' ((conv => whnf); first | (refine Dr.quiet tyOk (by kernel_rfl) ?_) | (refine Rng.mk (by omega) ?_) | (refine Split.pos (by omega) ?_) | (refine Split.neg (by omega) ?_) | (refine Split.mk (fun h => ?_) (fun h => ?_)) | (refine Need.mk (by omega) ?_) | (refine Ints.ln (by assumption) ?_) | (refine Mat.ln (by assumption) ?_) | (refine Ints.ln (Mat.row (by assumption) _ (by omega)) ?_) | (refine Ints.ix (by assumption) (by omega) ?_) | (refine Mat.ix (by assumption) (by omega) ?_) | (refine Ints.ix (Mat.row (by assumption) _ (by omega)) (by omega) ?_) | (refine Ints.ix (c := 0) (by assumption) (by omega) ?_) | (refine Mat.ix (c := 0) (by assumption) (by omega) ?_) | (refine Ints.ix (c := 0) (Mat.row (by assumption) _ (by omega)) (by omega) ?_) | (refine Ints.ixI (by assumption) (by omega) ?_) | (refine Mat.ixI (by assumption) (by omega) ?_) | (refine Ints.ixI (Mat.row (by assumption) _ (by omega)) (by omega) ?_) | (refine Ints.ld (by assumption) (by omega) ?_) | (refine Mat.ld (by assumption) (by omega) ?_) | (refine Ints.ld (Mat.row (by assumption) _ (by omega)) (by omega) ?_) | (refine At.ld (by assumption) rfl ?_) | (refine At.ldN (by assumption) rfl ?_) | (refine Prs.ln (by assumption) ?_) | (refine Trs.ln (by assumption) ?_) | (refine Prs.ix (by assumption) (by omega) ?_) | (refine Trs.ix (by assumption) (by omega) ?_) | (refine Prs.ldN (by assumption) (by omega) ?_) | (refine Trs.ldN (by assumption) (by omega) ?_) | (refine At.ldN (Blk.at (by assumption)) rfl ?_) | (refine At.ld (Blk.at (by assumption)) rfl ?_) | (refine IxA.mk (by omega) ?_) | (refine Sl.ln (Own.sl (by assumption)) ?_) | (refine Ints.ix (Own.sl (by assumption)) (by omega) ?_) | (refine Ints.ixI (Own.sl (by assumption)) (by omega) ?_) | (refine Ints.ld (Own.sl (by assumption)) (by omega) ?_))
  conv => whnf
  refine VC.rc (given20_rc) ?_
  rintro _ w4 E4 ⟨g1, _, rfl, HG⟩
  replace EE := EE.ext E4
  replace HP := HP.ext E4
  conv => whnf
  refine VC.rc (sof_rc (ag := ((0 : Nat) : Int)) (k := ((3 : Nat) : Int)) HG.mat) ?_
  rintro _ w5 E5 ⟨hav, rfl, HA⟩
  replace EE := EE.ext E5
  replace HP := HP.ext E5
  replace HG := HG.ext E5
  rw [(gvn_of 0 3 (by decide) (by decide)).2] at HA
  rw [(gvn_of 0 3 (by decide) (by decide)).1, (gvn_of 0 3 (by decide) (by decide)).2]
  rw [show shB gvn 0 3 = (1, [0, 1, 2]) by decide +kernel] at HA ⊢
  repeat' ((conv => whnf); first | (refine Dr.quiet tyOk (by kernel_rfl) ?_) | (refine Rng.mk (by omega) ?_) | (refine Split.pos (by omega) ?_) | (refine Split.neg (by omega) ?_) | (refine Split.mk (fun h => ?_) (fun h => ?_)) | (refine Need.mk (by omega) ?_) | (refine Ints.ln (by assumption) ?_) | (refine Mat.ln (by assumption) ?_) | (refine Ints.ln (Mat.row (by assumption) _ (by omega)) ?_) | (refine Ints.ix (by assumption) (by omega) ?_) | (refine Mat.ix (by assumption) (by omega) ?_) | (refine Ints.ix (Mat.row (by assumption) _ (by omega)) (by omega) ?_) | (refine Ints.ix (c := 0) (by assumption) (by omega) ?_) | (refine Mat.ix (c := 0) (by assumption) (by omega) ?_) | (refine Ints.ix (c := 0) (Mat.row (by assumption) _ (by omega)) (by omega) ?_) | (refine Ints.ixI (by assumption) (by omega) ?_) | (refine Mat.ixI (by assumption) (by omega) ?_) | (refine Ints.ixI (Mat.row (by assumption) _ (by omega)) (by omega) ?_) | (refine Ints.ld (by assumption) (by omega) ?_) | (refine Mat.ld (by assumption) (by omega) ?_) | (refine Ints.ld (Mat.row (by assumption) _ (by omega)) (by omega) ?_) | (refine At.ld (by assumption) rfl ?_) | (refine At.ldN (by assumption) rfl ?_) | (refine Prs.ln (by assumption) ?_) | (refine Trs.ln (by assumption) ?_) | (refine Prs.ix (by assumption) (by omega) ?_) | (refine Trs.ix (by assumption) (by omega) ?_) | (refine Prs.ldN (by assumption) (by omega) ?_) | (refine Trs.ldN (by assumption) (by omega) ?_) | (refine At.ldN (Blk.at (by assumption)) rfl ?_) | (refine At.ld (Blk.at (by assumption)) rfl ?_) | (refine IxA.mk (by omega) ?_) | (refine Sl.ln (Own.sl (by assumption)) ?_) | (refine Ints.ix (Own.sl (by assumption)) (by omega) ?_) | (refine Ints.ixI (Own.sl (by assumption)) (by omega) ?_) | (refine Ints.ld (Own.sl (by assumption)) (by omega) ?_))
  conv => whnf
  refine VC.rc (given20_rc) ?_
  rintro _ w6 E6 ⟨g1, _, rfl, HG⟩
  replace EE := EE.ext E6
  replace HP := HP.ext E6
  replace HA := HA.ext E6
  conv => whnf
  refine VC.rc (sof_rc (ag := ((0 : Nat) : Int)) (k := ((1 : Nat) : Int)) HG.mat) ?_
  rintro _ w7 E7 ⟨hbv, rfl, HB⟩
  replace EE := EE.ext E7
  replace HP := HP.ext E7
  replace HA := HA.ext E7
  replace HG := HG.ext E7
  rw [(gvn_of 0 1 (by decide) (by decide)).2] at HB
  rw [(gvn_of 0 1 (by decide) (by decide)).1, (gvn_of 0 1 (by decide) (by decide)).2]
  rw [show shB gvn 0 1 = (9, [0, 0, 0]) by decide +kernel] at HB ⊢
  repeat' ((conv => whnf); first | (refine Dr.quiet tyOk (by kernel_rfl) ?_) | (refine Rng.mk (by omega) ?_) | (refine Split.pos (by omega) ?_) | (refine Split.neg (by omega) ?_) | (refine Split.mk (fun h => ?_) (fun h => ?_)) | (refine Need.mk (by omega) ?_) | (refine Ints.ln (by assumption) ?_) | (refine Mat.ln (by assumption) ?_) | (refine Ints.ln (Mat.row (by assumption) _ (by omega)) ?_) | (refine Ints.ix (by assumption) (by omega) ?_) | (refine Mat.ix (by assumption) (by omega) ?_) | (refine Ints.ix (Mat.row (by assumption) _ (by omega)) (by omega) ?_) | (refine Ints.ix (c := 0) (by assumption) (by omega) ?_) | (refine Mat.ix (c := 0) (by assumption) (by omega) ?_) | (refine Ints.ix (c := 0) (Mat.row (by assumption) _ (by omega)) (by omega) ?_) | (refine Ints.ixI (by assumption) (by omega) ?_) | (refine Mat.ixI (by assumption) (by omega) ?_) | (refine Ints.ixI (Mat.row (by assumption) _ (by omega)) (by omega) ?_) | (refine Ints.ld (by assumption) (by omega) ?_) | (refine Mat.ld (by assumption) (by omega) ?_) | (refine Ints.ld (Mat.row (by assumption) _ (by omega)) (by omega) ?_) | (refine At.ld (by assumption) rfl ?_) | (refine At.ldN (by assumption) rfl ?_) | (refine Prs.ln (by assumption) ?_) | (refine Trs.ln (by assumption) ?_) | (refine Prs.ix (by assumption) (by omega) ?_) | (refine Trs.ix (by assumption) (by omega) ?_) | (refine Prs.ldN (by assumption) (by omega) ?_) | (refine Trs.ldN (by assumption) (by omega) ?_) | (refine At.ldN (Blk.at (by assumption)) rfl ?_) | (refine At.ld (Blk.at (by assumption)) rfl ?_) | (refine IxA.mk (by omega) ?_) | (refine Sl.ln (Own.sl (by assumption)) ?_) | (refine Ints.ix (Own.sl (by assumption)) (by omega) ?_) | (refine Ints.ixI (Own.sl (by assumption)) (by omega) ?_) | (refine Ints.ld (Own.sl (by assumption)) (by omega) ?_))
  conv => whnf
  refine VC.rc (given20_rc) ?_
  rintro _ w8 E8 ⟨g1, _, rfl, HG⟩
  replace EE := EE.ext E8
  replace HP := HP.ext E8
  replace HA := HA.ext E8
  replace HB := HB.ext E8
  conv => whnf
  refine VC.rc (sof_rc (ag := ((1 : Nat) : Int)) (k := ((2 : Nat) : Int)) HG.mat) ?_
  rintro _ w9 E9 ⟨hqv, rfl, HQ⟩
  replace EE := EE.ext E9
  replace HP := HP.ext E9
  replace HA := HA.ext E9
  replace HB := HB.ext E9
  replace HG := HG.ext E9
  rw [(gvn_of 1 2 (by decide) (by decide)).2] at HQ
  rw [(gvn_of 1 2 (by decide) (by decide)).1, (gvn_of 1 2 (by decide) (by decide)).2]
  rw [show shB gvn 1 2 = (2, [0, 0, 1]) by decide +kernel] at HQ ⊢
  repeat' ((conv => whnf); first | (refine Dr.quiet tyOk (by kernel_rfl) ?_) | (refine Rng.mk (by omega) ?_) | (refine Split.pos (by omega) ?_) | (refine Split.neg (by omega) ?_) | (refine Split.mk (fun h => ?_) (fun h => ?_)) | (refine Need.mk (by omega) ?_) | (refine Ints.ln (by assumption) ?_) | (refine Mat.ln (by assumption) ?_) | (refine Ints.ln (Mat.row (by assumption) _ (by omega)) ?_) | (refine Ints.ix (by assumption) (by omega) ?_) | (refine Mat.ix (by assumption) (by omega) ?_) | (refine Ints.ix (Mat.row (by assumption) _ (by omega)) (by omega) ?_) | (refine Ints.ix (c := 0) (by assumption) (by omega) ?_) | (refine Mat.ix (c := 0) (by assumption) (by omega) ?_) | (refine Ints.ix (c := 0) (Mat.row (by assumption) _ (by omega)) (by omega) ?_) | (refine Ints.ixI (by assumption) (by omega) ?_) | (refine Mat.ixI (by assumption) (by omega) ?_) | (refine Ints.ixI (Mat.row (by assumption) _ (by omega)) (by omega) ?_) | (refine Ints.ld (by assumption) (by omega) ?_) | (refine Mat.ld (by assumption) (by omega) ?_) | (refine Ints.ld (Mat.row (by assumption) _ (by omega)) (by omega) ?_) | (refine At.ld (by assumption) rfl ?_) | (refine At.ldN (by assumption) rfl ?_) | (refine Prs.ln (by assumption) ?_) | (refine Trs.ln (by assumption) ?_) | (refine Prs.ix (by assumption) (by omega) ?_) | (refine Trs.ix (by assumption) (by omega) ?_) | (refine Prs.ldN (by assumption) (by omega) ?_) | (refine Trs.ldN (by assumption) (by omega) ?_) | (refine At.ldN (Blk.at (by assumption)) rfl ?_) | (refine At.ld (Blk.at (by assumption)) rfl ?_) | (refine IxA.mk (by omega) ?_) | (refine Sl.ln (Own.sl (by assumption)) ?_) | (refine Ints.ix (Own.sl (by assumption)) (by omega) ?_) | (refine Ints.ixI (Own.sl (by assumption)) (by omega) ?_) | (refine Ints.ld (Own.sl (by assumption)) (by omega) ?_))
  conv => whnf
  refine VC.rc (given20_rc) ?_
  rintro _ w10 E10 ⟨g1, _, rfl, HG⟩
  replace EE := EE.ext E10
  replace HP := HP.ext E10
  replace HA := HA.ext E10
  replace HB := HB.ext E10
  replace HQ := HQ.ext E10
  conv => whnf
  refine VC.rc (sfind_rc HG.mat) ?_
  rintro _ w11 E11 ⟨fv, rfl, HF⟩
  replace EE := EE.ext E11
  replace HP := HP.ext E11
  replace HA := HA.ext E11
  replace HB := HB.ext E11
  replace HQ := HQ.ext E11
  replace HG := HG.ext E11
  rw [gvn_fkE.2] at HF
  rw [gvn_fkE.1]
  repeat' ((conv => whnf); first | (refine Dr.quiet tyOk (by kernel_rfl) ?_) | (refine Rng.mk (by omega) ?_) | (refine Split.pos (by omega) ?_) | (refine Split.neg (by omega) ?_) | (refine Split.mk (fun h => ?_) (fun h => ?_)) | (refine Need.mk (by omega) ?_) | (refine Ints.ln (by assumption) ?_) | (refine Mat.ln (by assumption) ?_) | (refine Ints.ln (Mat.row (by assumption) _ (by omega)) ?_) | (refine Ints.ix (by assumption) (by omega) ?_) | (refine Mat.ix (by assumption) (by omega) ?_) | (refine Ints.ix (Mat.row (by assumption) _ (by omega)) (by omega) ?_) | (refine Ints.ix (c := 0) (by assumption) (by omega) ?_) | (refine Mat.ix (c := 0) (by assumption) (by omega) ?_) | (refine Ints.ix (c := 0) (Mat.row (by assumption) _ (by omega)) (by omega) ?_) | (refine Ints.ixI (by assumption) (by omega) ?_) | (refine Mat.ixI (by assumption) (by omega) ?_) | (refine Ints.ixI (Mat.row (by assumption) _ (by omega)) (by omega) ?_) | (refine Ints.ld (by assumption) (by omega) ?_) | (refine Mat.ld (by assumption) (by omega) ?_) | (refine Ints.ld (Mat.row (by assumption) _ (by omega)) (by omega) ?_) | (refine At.ld (by assumption) rfl ?_) | (refine At.ldN (by assumption) rfl ?_) | (refine Prs.ln (by assumption) ?_) | (refine Trs.ln (by assumption) ?_) | (refine Prs.ix (by assumption) (by omega) ?_) | (refine Trs.ix (by assumption) (by omega) ?_) | (refine Prs.ldN (by assumption) (by omega) ?_) | (refine Trs.ldN (by assumption) (by omega) ?_) | (refine At.ldN (Blk.at (by assumption)) rfl ?_) | (refine At.ld (Blk.at (by assumption)) rfl ?_) | (refine IxA.mk (by omega) ?_) | (refine Sl.ln (Own.sl (by assumption)) ?_) | (refine Ints.ix (Own.sl (by assumption)) (by omega) ?_) | (refine Ints.ixI (Own.sl (by assumption)) (by omega) ?_) | (refine Ints.ld (Own.sl (by assumption)) (by omega) ?_))
  conv => whnf
  refine VE.litI [0, 1, 1] Try.underlying27 eInt (by first | decide | simp) fun x1 w12 E12 X1 _ => ?_
  replace X1 := X1 0 (Nat.zero_le _)
  replace EE := EE.ext E12
  replace HP := HP.ext E12
  replace HA := HA.ext E12
  replace HB := HB.ext E12
  replace HQ := HQ.ext E12
  replace HG := HG.ext E12
  replace HF := HF.ext E12
  have c1 := same_pc (Own.sl HP) (Own.sl X1)
  rw [tf_t rfl] at c1
  conv => whnf
  refine VC.pure c1 ?_
  repeat' ((conv => whnf); first | (refine Dr.quiet tyOk (by kernel_rfl) ?_) | (refine Rng.mk (by omega) ?_) | (refine Split.pos (by omega) ?_) | (refine Split.neg (by omega) ?_) | (refine Split.mk (fun h => ?_) (fun h => ?_)) | (refine Need.mk (by omega) ?_) | (refine Ints.ln (by assumption) ?_) | (refine Mat.ln (by assumption) ?_) | (refine Ints.ln (Mat.row (by assumption) _ (by omega)) ?_) | (refine Ints.ix (by assumption) (by omega) ?_) | (refine Mat.ix (by assumption) (by omega) ?_) | (refine Ints.ix (Mat.row (by assumption) _ (by omega)) (by omega) ?_) | (refine Ints.ix (c := 0) (by assumption) (by omega) ?_) | (refine Mat.ix (c := 0) (by assumption) (by omega) ?_) | (refine Ints.ix (c := 0) (Mat.row (by assumption) _ (by omega)) (by omega) ?_) | (refine Ints.ixI (by assumption) (by omega) ?_) | (refine Mat.ixI (by assumption) (by omega) ?_) | (refine Ints.ixI (Mat.row (by assumption) _ (by omega)) (by omega) ?_) | (refine Ints.ld (by assumption) (by omega) ?_) | (refine Mat.ld (by assumption) (by omega) ?_) | (refine Ints.ld (Mat.row (by assumption) _ (by omega)) (by omega) ?_) | (refine At.ld (by assumption) rfl ?_) | (refine At.ldN (by assumption) rfl ?_) | (refine Prs.ln (by assumption) ?_) | (refine Trs.ln (by assumption) ?_) | (refine Prs.ix (by assumption) (by omega) ?_) | (refine Trs.ix (by assumption) (by omega) ?_) | (refine Prs.ldN (by assumption) (by omega) ?_) | (refine Trs.ldN (by assumption) (by omega) ?_) | (refine At.ldN (Blk.at (by assumption)) rfl ?_) | (refine At.ld (Blk.at (by assumption)) rfl ?_) | (refine IxA.mk (by omega) ?_) | (refine Sl.ln (Own.sl (by assumption)) ?_) | (refine Ints.ix (Own.sl (by assumption)) (by omega) ?_) | (refine Ints.ixI (Own.sl (by assumption)) (by omega) ?_) | (refine Ints.ld (Own.sl (by assumption)) (by omega) ?_))
  conv => whnf
  refine VE.litI [0, 0, 1] Try.underlying27 eInt (by first | decide | simp) fun x2 w13 E13 X2 _ => ?_
  replace X2 := X2 0 (Nat.zero_le _)
  replace EE := EE.ext E13
  replace HP := HP.ext E13
  replace HA := HA.ext E13
  replace HB := HB.ext E13
  replace HQ := HQ.ext E13
  replace HG := HG.ext E13
  replace HF := HF.ext E13
  replace X1 := X1.ext E13
  have c2 := same_pc (Own.sl HQ) (Own.sl X2)
  rw [tf_t rfl] at c2
  conv => whnf
  refine VC.pure c2 ?_
  repeat' ((conv => whnf); first | (refine Dr.quiet tyOk (by kernel_rfl) ?_) | (refine Rng.mk (by omega) ?_) | (refine Split.pos (by omega) ?_) | (refine Split.neg (by omega) ?_) | (refine Split.mk (fun h => ?_) (fun h => ?_)) | (refine Need.mk (by omega) ?_) | (refine Ints.ln (by assumption) ?_) | (refine Mat.ln (by assumption) ?_) | (refine Ints.ln (Mat.row (by assumption) _ (by omega)) ?_) | (refine Ints.ix (by assumption) (by omega) ?_) | (refine Mat.ix (by assumption) (by omega) ?_) | (refine Ints.ix (Mat.row (by assumption) _ (by omega)) (by omega) ?_) | (refine Ints.ix (c := 0) (by assumption) (by omega) ?_) | (refine Mat.ix (c := 0) (by assumption) (by omega) ?_) | (refine Ints.ix (c := 0) (Mat.row (by assumption) _ (by omega)) (by omega) ?_) | (refine Ints.ixI (by assumption) (by omega) ?_) | (refine Mat.ixI (by assumption) (by omega) ?_) | (refine Ints.ixI (Mat.row (by assumption) _ (by omega)) (by omega) ?_) | (refine Ints.ld (by assumption) (by omega) ?_) | (refine Mat.ld (by assumption) (by omega) ?_) | (refine Ints.ld (Mat.row (by assumption) _ (by omega)) (by omega) ?_) | (refine At.ld (by assumption) rfl ?_) | (refine At.ldN (by assumption) rfl ?_) | (refine Prs.ln (by assumption) ?_) | (refine Trs.ln (by assumption) ?_) | (refine Prs.ix (by assumption) (by omega) ?_) | (refine Trs.ix (by assumption) (by omega) ?_) | (refine Prs.ldN (by assumption) (by omega) ?_) | (refine Trs.ldN (by assumption) (by omega) ?_) | (refine At.ldN (Blk.at (by assumption)) rfl ?_) | (refine At.ld (Blk.at (by assumption)) rfl ?_) | (refine IxA.mk (by omega) ?_) | (refine Sl.ln (Own.sl (by assumption)) ?_) | (refine Ints.ix (Own.sl (by assumption)) (by omega) ?_) | (refine Ints.ixI (Own.sl (by assumption)) (by omega) ?_) | (refine Ints.ld (Own.sl (by assumption)) (by omega) ?_))
  conv => whnf
  refine VE.litI [0, 0, 1] Try.underlying27 eInt (by first | decide | simp) fun x3 w14 E14 X3 _ => ?_
  replace X3 := X3 0 (Nat.zero_le _)
  replace EE := EE.ext E14
  replace HP := HP.ext E14
  replace HA := HA.ext E14
  replace HB := HB.ext E14
  replace HQ := HQ.ext E14
  replace HG := HG.ext E14
  replace HF := HF.ext E14
  replace X1 := X1.ext E14
  replace X2 := X2.ext E14
  have c3 := same_pc (Own.sl HF) (Own.sl X3)
  rw [tf_t rfl] at c3
  conv => whnf
  refine VC.pure c3 ?_
  repeat' ((conv => whnf); first | (refine Dr.quiet tyOk (by kernel_rfl) ?_) | (refine Rng.mk (by omega) ?_) | (refine Split.pos (by omega) ?_) | (refine Split.neg (by omega) ?_) | (refine Split.mk (fun h => ?_) (fun h => ?_)) | (refine Need.mk (by omega) ?_) | (refine Ints.ln (by assumption) ?_) | (refine Mat.ln (by assumption) ?_) | (refine Ints.ln (Mat.row (by assumption) _ (by omega)) ?_) | (refine Ints.ix (by assumption) (by omega) ?_) | (refine Mat.ix (by assumption) (by omega) ?_) | (refine Ints.ix (Mat.row (by assumption) _ (by omega)) (by omega) ?_) | (refine Ints.ix (c := 0) (by assumption) (by omega) ?_) | (refine Mat.ix (c := 0) (by assumption) (by omega) ?_) | (refine Ints.ix (c := 0) (Mat.row (by assumption) _ (by omega)) (by omega) ?_) | (refine Ints.ixI (by assumption) (by omega) ?_) | (refine Mat.ixI (by assumption) (by omega) ?_) | (refine Ints.ixI (Mat.row (by assumption) _ (by omega)) (by omega) ?_) | (refine Ints.ld (by assumption) (by omega) ?_) | (refine Mat.ld (by assumption) (by omega) ?_) | (refine Ints.ld (Mat.row (by assumption) _ (by omega)) (by omega) ?_) | (refine At.ld (by assumption) rfl ?_) | (refine At.ldN (by assumption) rfl ?_) | (refine Prs.ln (by assumption) ?_) | (refine Trs.ln (by assumption) ?_) | (refine Prs.ix (by assumption) (by omega) ?_) | (refine Trs.ix (by assumption) (by omega) ?_) | (refine Prs.ldN (by assumption) (by omega) ?_) | (refine Trs.ldN (by assumption) (by omega) ?_) | (refine At.ldN (Blk.at (by assumption)) rfl ?_) | (refine At.ld (Blk.at (by assumption)) rfl ?_) | (refine IxA.mk (by omega) ?_) | (refine Sl.ln (Own.sl (by assumption)) ?_) | (refine Ints.ix (Own.sl (by assumption)) (by omega) ?_) | (refine Ints.ixI (Own.sl (by assumption)) (by omega) ?_) | (refine Ints.ld (Own.sl (by assumption)) (by omega) ?_))
  exact ⟨rfl, EE⟩
end Go.Proofs.Ytkgogljfngplnaa
