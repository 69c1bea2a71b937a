/- Contracts of layer 17: Content, Enough, has, Same, first. -/
import Derived.Test.YtiahjkhfkbcjhaaNKit
set_option linter.unusedVariables false
set_option linter.unusedSimpArgs false
namespace Go.Proofs.Ytiahjkhfkbcjhaa
open Go.Eng
set_option maxRecDepth 100000
set_option maxHeartbeats 4000000

theorem content_pc {w : World} {gv av : Value} {vs : List Value} {rr : List (List Int)} {a : List Int} {i k : Nat} {good : Int} (Hg : Mat w gv vs rr) (Ha : Ints w av a) (hal : Al rr a rr.length (rr.getD 0 []).length) (hi : i < rr.length) (hgd : -1 ≤ good ∧ good < a.length) :
    PC Try.prog 64 [.agg #[gv], av, .int .i64 i, .int .i64 k, .int .i64 good] w (.bool (tf (content rr a i k good))) := by
  refine PC.mk tyOk Try.func64 rfl (by kernel_rfl) fun w1 E1 => ?_
  replace Hg := Hg.ext E1
  replace Ha := Ha.ext E1
  have EE := Ext.refl w1
  refine Bx.agg fun b2 w2 E2 hb2 Hb _ => ?_
  replace Hg := Hg.ext E2
  replace Ha := Ha.ext E2
  replace EE := EE.ext E2
  have hn := hal.n6
  have hm := hal.m10
  have hlen := hal.len
  have hrow := hal.row i hi
  have hw1 := wth_bd (a := a) hal.toGd i k
  have hw2 := wth_bd (a := a) hal.toGd i i
  have hv := hal.val i good.toNat
  have hvd : (rr.getD i []).getD good.toNat 0 = val rr i good.toNat := rfl
  have cw := fun (k : Nat) => worth_pc (k := (k : Int)) Hg Ha hi (by omega) hal.val (by omega)
  have e1 : wth rr a i k = worth a (rr.getD i []) k a.length := rfl
  by_cases hc : 0 ≤ good ∧ a.getD good.toNat 0 = k
  · have hcd : content rr a i k good ↔ wth rr a i k - val rr i good.toNat ≤ wth rr a i i := by unfold content; rw [if_pos hc]
    repeat' (conv => whnf
             first
             | (refine Dr.quiet tyOk (by kernel_rfl) ?_)
             | (refine VC.pure (cw _) ?_)
             | (refine VCQ.pure (cw _) ?_)
             | (refine Rng.mk (by omega) ?_)
             | (refine Split.pos (by omega) ?_)
             | (refine Split.neg (by omega) ?_)
             | (refine Split.mk (fun h => ?_) (fun h => ?_))
             | (refine Need.mk (by omega) ?_)
             | (refine Ints.ln (by assumption) ?_)
             | (refine Mat.ln (by assumption) ?_)
             | (refine Ints.ln (Mat.row (by assumption) _ (by omega)) ?_)
             | (refine Ints.ix (by assumption) (by omega) ?_)
             | (refine Mat.ix (by assumption) (by omega) ?_)
             | (refine Ints.ix (Mat.row (by assumption) _ (by omega)) (by omega) ?_)
             | (refine Ints.ix (c := 0) (by assumption) (by omega) ?_)
             | (refine Mat.ix (c := 0) (by assumption) (by omega) ?_)
             | (refine Ints.ix (c := 0) (Mat.row (by assumption) _ (by omega)) (by omega) ?_)
             | (refine Ints.ixI (by assumption) (by omega) ?_)
             | (refine Mat.ixI (by assumption) (by omega) ?_)
             | (refine Ints.ixI (Mat.row (by assumption) _ (by omega)) (by omega) ?_)
             | (refine Ints.ld (by assumption) (by omega) ?_)
             | (refine Mat.ld (by assumption) (by omega) ?_)
             | (refine Ints.ld (Mat.row (by assumption) _ (by omega)) (by omega) ?_)
             | (refine At.ld (by assumption) rfl ?_)
             | (refine At.ldN (by assumption) rfl ?_))
    all_goals first | (rw [tf_t (p := content rr a i k good) (hcd.2 (by omega))]; exact ⟨rfl, EE⟩) | (rw [tf_f (p := content rr a i k good) (fun h => by have := hcd.1 h; omega)]; exact ⟨rfl, EE⟩)
  · have hcd : content rr a i k good ↔ wth rr a i k ≤ wth rr a i i := by unfold content; rw [if_neg hc, Int.sub_zero]
    repeat' (conv => whnf
             first
             | (refine Dr.quiet tyOk (by kernel_rfl) ?_)
             | (refine VC.pure (cw _) ?_)
             | (refine VCQ.pure (cw _) ?_)
             | (refine Rng.mk (by omega) ?_)
             | (refine Split.pos (by omega) ?_)
             | (refine Split.neg (by omega) ?_)
             | (refine Split.mk (fun h => ?_) (fun h => ?_))
             | (refine Need.mk (by omega) ?_)
             | (refine Ints.ln (by assumption) ?_)
             | (refine Mat.ln (by assumption) ?_)
             | (refine Ints.ln (Mat.row (by assumption) _ (by omega)) ?_)
             | (refine Ints.ix (by assumption) (by omega) ?_)
             | (refine Mat.ix (by assumption) (by omega) ?_)
             | (refine Ints.ix (Mat.row (by assumption) _ (by omega)) (by omega) ?_)
             | (refine Ints.ix (c := 0) (by assumption) (by omega) ?_)
             | (refine Mat.ix (c := 0) (by assumption) (by omega) ?_)
             | (refine Ints.ix (c := 0) (Mat.row (by assumption) _ (by omega)) (by omega) ?_)
             | (refine Ints.ixI (by assumption) (by omega) ?_)
             | (refine Mat.ixI (by assumption) (by omega) ?_)
             | (refine Ints.ixI (Mat.row (by assumption) _ (by omega)) (by omega) ?_)
             | (refine Ints.ld (by assumption) (by omega) ?_)
             | (refine Mat.ld (by assumption) (by omega) ?_)
             | (refine Ints.ld (Mat.row (by assumption) _ (by omega)) (by omega) ?_)
             | (refine At.ld (by assumption) rfl ?_)
             | (refine At.ldN (by assumption) rfl ?_))
    all_goals first | (rw [tf_t (p := content rr a i k good) (hcd.2 (by omega))]; exact ⟨rfl, EE⟩) | (rw [tf_f (p := content rr a i k good) (fun h => by have := hcd.1 h; omega)]; exact ⟨rfl, EE⟩)

def enough (rr : List (List Int)) (a : List Int) (i : Nat) (good : Int) : Prop := allv rr i ≤ (rr.length : Int) * (wth rr a i i + if 0 ≤ good then val rr i good.toNat else 0)
theorem enough_pc {w : World} {gv av : Value} {vs : List Value} {rr : List (List Int)} {a : List Int} {i : Nat} {good : Int} (Hg : Mat w gv vs rr) (Ha : Ints w av a) (hal : Al rr a rr.length (rr.getD 0 []).length) (hi : i < rr.length) (hgd : -1 ≤ good ∧ good < a.length) :
    PC Try.prog 66 [.agg #[gv], av, .int .i64 i, .int .i64 good] w (.bool (tf (enough rr a i good))) := by
  refine PC.mk tyOk Try.func66 rfl (by kernel_rfl) fun w1 E1 => ?_
  replace Hg := Hg.ext E1
  replace Ha := Ha.ext E1
  have EE := Ext.refl w1
  refine Bx.agg fun b2 w2 E2 hb2 Hb _ => ?_
  replace Hg := Hg.ext E2
  replace Ha := Ha.ext E2
  replace EE := EE.ext E2
  have hn := hal.n6
  have hm := hal.m10
  have hlen := hal.len
  have hrow := hal.row i hi
  have hw2 := wth_bd (a := a) hal.toGd i i
  have hv := hal.val i good.toNat
  have hvd : (rr.getD i []).getD good.toNat 0 = val rr i good.toNat := rfl
  have cw := worth_pc (k := (i : Int)) Hg Ha hi (by omega) hal.val (by omega)
  have ca := rall_pc Hg hi hal.val (by omega)
  have hav := sumTo_bd (fun j => hal.val i j) (rr.getD i []).length
  by_cases hc : 0 ≤ good
  · have hmul := mul_bd (n := (rr.length : Int)) (N := 6) (x := wth rr a i i + (rr.getD i []).getD good.toNat 0) (X := 11000) (by omega) (by omega) (by omega) (by omega)
    have hcd : enough rr a i good ↔ allv rr i ≤ (rr.length : Int) * (wth rr a i i + (rr.getD i []).getD good.toNat 0) := by unfold enough; rw [if_pos hc]; exact Iff.rfl
    repeat' (conv => whnf
             first
             | (refine Dr.quiet tyOk (by kernel_rfl) ?_)
             | (refine VC.pure cw ?_)
             | (refine VCQ.pure ca ?_)
             | (refine Rng.mk (by omega) ?_)
             | (refine Split.pos (by omega) ?_)
             | (refine Split.neg (by omega) ?_)
             | (refine Split.mk (fun h => ?_) (fun h => ?_))
             | (refine Need.mk (by omega) ?_)
             | (refine Ints.ln (by assumption) ?_)
             | (refine Mat.ln (by assumption) ?_)
             | (refine Ints.ln (Mat.row (by assumption) _ (by omega)) ?_)
             | (refine Ints.ix (by assumption) (by omega) ?_)
             | (refine Mat.ix (by assumption) (by omega) ?_)
             | (refine Ints.ix (Mat.row (by assumption) _ (by omega)) (by omega) ?_)
             | (refine Ints.ix (c := 0) (by assumption) (by omega) ?_)
             | (refine Mat.ix (c := 0) (by assumption) (by omega) ?_)
             | (refine Ints.ix (c := 0) (Mat.row (by assumption) _ (by omega)) (by omega) ?_)
             | (refine Ints.ixI (by assumption) (by omega) ?_)
             | (refine Mat.ixI (by assumption) (by omega) ?_)
             | (refine Ints.ixI (Mat.row (by assumption) _ (by omega)) (by omega) ?_)
             | (refine Ints.ld (by assumption) (by omega) ?_)
             | (refine Mat.ld (by assumption) (by omega) ?_)
             | (refine Ints.ld (Mat.row (by assumption) _ (by omega)) (by omega) ?_)
             | (refine At.ld (by assumption) rfl ?_)
             | (refine At.ldN (by assumption) rfl ?_))
    all_goals first | (rw [tf_t (p := enough rr a i good) (hcd.2 (by omega))]; exact ⟨rfl, EE⟩) | (rw [tf_f (p := enough rr a i good) (fun h => by have := hcd.1 h; omega)]; exact ⟨rfl, EE⟩)
  · have hmul := mul_bd (n := (rr.length : Int)) (N := 6) (x := wth rr a i i) (X := 11000) (by omega) (by omega) (by omega) (by omega)
    have hcd : enough rr a i good ↔ allv rr i ≤ (rr.length : Int) * wth rr a i i := by unfold enough; rw [if_neg hc, Int.add_zero]
    repeat' (conv => whnf
             first
             | (refine Dr.quiet tyOk (by kernel_rfl) ?_)
             | (refine VC.pure cw ?_)
             | (refine VCQ.pure ca ?_)
             | (refine Rng.mk (by omega) ?_)
             | (refine Split.pos (by omega) ?_)
             | (refine Split.neg (by omega) ?_)
             | (refine Split.mk (fun h => ?_) (fun h => ?_))
             | (refine Need.mk (by omega) ?_)
             | (refine Ints.ln (by assumption) ?_)
             | (refine Mat.ln (by assumption) ?_)
             | (refine Ints.ln (Mat.row (by assumption) _ (by omega)) ?_)
             | (refine Ints.ix (by assumption) (by omega) ?_)
             | (refine Mat.ix (by assumption) (by omega) ?_)
             | (refine Ints.ix (Mat.row (by assumption) _ (by omega)) (by omega) ?_)
             | (refine Ints.ix (c := 0) (by assumption) (by omega) ?_)
             | (refine Mat.ix (c := 0) (by assumption) (by omega) ?_)
             | (refine Ints.ix (c := 0) (Mat.row (by assumption) _ (by omega)) (by omega) ?_)
             | (refine Ints.ixI (by assumption) (by omega) ?_)
             | (refine Mat.ixI (by assumption) (by omega) ?_)
             | (refine Ints.ixI (Mat.row (by assumption) _ (by omega)) (by omega) ?_)
             | (refine Ints.ld (by assumption) (by omega) ?_)
             | (refine Mat.ld (by assumption) (by omega) ?_)
             | (refine Ints.ld (Mat.row (by assumption) _ (by omega)) (by omega) ?_)
             | (refine At.ld (by assumption) rfl ?_)
             | (refine At.ldN (by assumption) rfl ?_))
    all_goals first | (rw [tf_t (p := enough rr a i good) (hcd.2 (by omega))]; exact ⟨rfl, EE⟩) | (rw [tf_f (p := enough rr a i good) (fun h => by have := hcd.1 h; omega)]; exact ⟨rfl, EE⟩)

theorem nhas_pc {w : World} {lv : Value} {l : List Int} {x : Int} (Hl : Ints w lv l) : PC Try.prog 65 [lv, .int .i64 x] w (.bool (tf (x ∈ l))) := by
  refine PC.mk tyOk Try.func65 rfl (by kernel_rfl) fun w1 E1 => ?_
  replace Hl := Hl.ext E1
  have EE := Ext.refl w1
  have hle := Hl.le
  repeat' (conv => whnf
           first
           | (refine Dr.quiet tyOk (by kernel_rfl) ?_)
           | (refine Rng.mk (by omega) ?_)
           | (refine Split.pos (by omega) ?_)
           | (refine Split.neg (by omega) ?_)
           | (refine Split.mk (fun h => ?_) (fun h => ?_))
           | (refine Need.mk (by omega) ?_)
           | (refine Ints.ln (by assumption) ?_)
           | (refine Mat.ln (by assumption) ?_)
           | (refine Ints.ln (Mat.row (by assumption) _ (by omega)) ?_)
           | (refine Ints.ix (by assumption) (by omega) ?_)
           | (refine Mat.ix (by assumption) (by omega) ?_)
           | (refine Ints.ix (Mat.row (by assumption) _ (by omega)) (by omega) ?_)
           | (refine Ints.ix (c := 0) (by assumption) (by omega) ?_)
           | (refine Mat.ix (c := 0) (by assumption) (by omega) ?_)
           | (refine Ints.ix (c := 0) (Mat.row (by assumption) _ (by omega)) (by omega) ?_)
           | (refine Ints.ixI (by assumption) (by omega) ?_)
           | (refine Mat.ixI (by assumption) (by omega) ?_)
           | (refine Ints.ixI (Mat.row (by assumption) _ (by omega)) (by omega) ?_)
           | (refine Ints.ld (by assumption) (by omega) ?_)
           | (refine Mat.ld (by assumption) (by omega) ?_)
           | (refine Ints.ld (Mat.row (by assumption) _ (by omega)) (by omega) ?_)
           | (refine At.ld (by assumption) rfl ?_)
           | (refine At.ldN (by assumption) rfl ?_))
  refine Lp.mk tyOk [false, false, false, false, true, false, true, false, false, true, true, true, true, true, true, true, true] (fun m fr wr => getK fr 9 fun j => ∃ c : Nat, c ≤ l.length ∧ m = l.length - c ∧ j = .int .i64 (c : Int) ∧ (∀ i, i < c → l.getD i 0 ≠ x) ∧ wr = w1) (l.length) ?_ ?_
  · exact ⟨0, Nat.zero_le _, rfl, rfl, (by first | exact fun _ hi => absurd hi (Nat.not_lt_zero _) | exact fun _ _ hi => absurd hi (Nat.not_lt_zero _) | assumption | exact Own.nil | omega | simp), rfl⟩
  · intro m w2 u4 u6 u9 u10 u11 u12 u13 u14 u15 u16 hR
    obtain ⟨c, hc, rfl, rfl, hv, rfl⟩ := hR
    repeat' (conv => whnf
             first
             | (refine Dr.quiet tyOk (by kernel_rfl) ?_)
             | (refine Rng.mk (by omega) ?_)
             | (refine Split.pos (by omega) ?_)
             | (refine Split.neg (by omega) ?_)
             | (refine Split.mk (fun h => ?_) (fun h => ?_))
             | (refine Need.mk (by omega) ?_)
             | (refine Ints.ln (by assumption) ?_)
             | (refine Mat.ln (by assumption) ?_)
             | (refine Ints.ln (Mat.row (by assumption) _ (by omega)) ?_)
             | (refine Ints.ix (by assumption) (by omega) ?_)
             | (refine Mat.ix (by assumption) (by omega) ?_)
             | (refine Ints.ix (Mat.row (by assumption) _ (by omega)) (by omega) ?_)
             | (refine Ints.ix (c := 0) (by assumption) (by omega) ?_)
             | (refine Mat.ix (c := 0) (by assumption) (by omega) ?_)
             | (refine Ints.ix (c := 0) (Mat.row (by assumption) _ (by omega)) (by omega) ?_)
             | (refine Ints.ixI (by assumption) (by omega) ?_)
             | (refine Mat.ixI (by assumption) (by omega) ?_)
             | (refine Ints.ixI (Mat.row (by assumption) _ (by omega)) (by omega) ?_)
             | (refine Ints.ld (by assumption) (by omega) ?_)
             | (refine Mat.ld (by assumption) (by omega) ?_)
             | (refine Ints.ld (Mat.row (by assumption) _ (by omega)) (by omega) ?_)
             | (refine At.ld (by assumption) rfl ?_)
             | (refine At.ldN (by assumption) rfl ?_))
    · rw [tf_t (p := x ∈ l) (mem_getD.2 ⟨c, by omega, by omega⟩)]; exact ⟨rfl, EE⟩
    · refine ⟨_, (by omega : l.length - (c + 1) < l.length - c), rfl, c + 1, by omega, rfl, rfl, all_succ hv (by omega), rfl⟩
    · obtain rfl : c = l.length := by omega
      rw [tf_f (p := x ∈ l) (fun h => by obtain ⟨i, hi, e⟩ := mem_getD.1 h; exact hv i hi e)]; exact ⟨rfl, EE⟩

theorem lhas_pc {w : World} {lv : Value} {l : List Int} {x : Int} (Hl : Ints w lv l) : PC Try.prog 49 [lv, .int .i64 x] w (.bool (tf (x ∈ l))) := by
  refine PC.mk tyOk Try.func49 rfl (by kernel_rfl) fun w1 E1 => ?_
  replace Hl := Hl.ext E1
  have EE := Ext.refl w1
  have hle := Hl.le
  refine Lp.mk tyOk [false, false, false, false, true, true, true, true, true, true, true, true, true, true, true, true, true, true] (fun m fr wr => getK fr 5 fun j => ∃ c : Nat, c ≤ l.length ∧ m = l.length - c ∧ j = .int .i64 (c : Int) ∧ (∀ i, i < c → l.getD i 0 ≠ x) ∧ wr = w1) (l.length) ?_ ?_
  · exact ⟨0, Nat.zero_le _, rfl, rfl, (by first | exact fun _ hi => absurd hi (Nat.not_lt_zero _) | exact fun _ _ hi => absurd hi (Nat.not_lt_zero _) | assumption | exact Own.nil | omega | simp), rfl⟩
  · intro m w2 u4 u5 u6 u7 u8 u9 u10 u11 u12 u13 u14 u15 u16 u17 hR
    obtain ⟨c, hc, rfl, rfl, hv, rfl⟩ := hR
    repeat' (conv => whnf
             first
             | (refine Dr.quiet tyOk (by kernel_rfl) ?_)
             | (refine Rng.mk (by omega) ?_)
             | (refine Split.pos (by omega) ?_)
             | (refine Split.neg (by omega) ?_)
             | (refine Split.mk (fun h => ?_) (fun h => ?_))
             | (refine Need.mk (by omega) ?_)
             | (refine Ints.ln (by assumption) ?_)
             | (refine Mat.ln (by assumption) ?_)
             | (refine Ints.ln (Mat.row (by assumption) _ (by omega)) ?_)
             | (refine Ints.ix (by assumption) (by omega) ?_)
             | (refine Mat.ix (by assumption) (by omega) ?_)
             | (refine Ints.ix (Mat.row (by assumption) _ (by omega)) (by omega) ?_)
             | (refine Ints.ix (c := 0) (by assumption) (by omega) ?_)
             | (refine Mat.ix (c := 0) (by assumption) (by omega) ?_)
             | (refine Ints.ix (c := 0) (Mat.row (by assumption) _ (by omega)) (by omega) ?_)
             | (refine Ints.ixI (by assumption) (by omega) ?_)
             | (refine Mat.ixI (by assumption) (by omega) ?_)
             | (refine Ints.ixI (Mat.row (by assumption) _ (by omega)) (by omega) ?_)
             | (refine Ints.ld (by assumption) (by omega) ?_)
             | (refine Mat.ld (by assumption) (by omega) ?_)
             | (refine Ints.ld (Mat.row (by assumption) _ (by omega)) (by omega) ?_)
             | (refine At.ld (by assumption) rfl ?_)
             | (refine At.ldN (by assumption) rfl ?_))
    · rw [tf_t (p := x ∈ l) (mem_getD.2 ⟨c, by omega, by omega⟩)]; exact ⟨rfl, EE⟩
    · refine ⟨_, (by omega : l.length - (c + 1) < l.length - c), rfl, c + 1, by omega, rfl, rfl, all_succ hv (by omega), rfl⟩
    · obtain rfl : c = l.length := by omega
      rw [tf_f (p := x ∈ l) (fun h => by obtain ⟨i, hi, e⟩ := mem_getD.1 h; exact hv i hi e)]; exact ⟨rfl, EE⟩

theorem samem_pc {w : World} {av bv : Value} {a b : List T3} (Ha : Trs w av a) (Hb : Trs w bv b) : PC Try.prog 44 [av, bv] w (.bool (tf (a = b))) := by
  refine PC.mk tyOk Try.func44 rfl (by kernel_rfl) fun w1 E1 => ?_
  replace Ha := Ha.ext E1
  replace Hb := Hb.ext E1
  have EE := Ext.refl w1
  have hle := Ha.le
  repeat' (conv => whnf
           first
           | (refine Dr.quiet tyOk (by kernel_rfl) ?_)
           | (refine Trs.ln (by assumption) ?_)
           | (refine Rng.mk (by omega) ?_)
           | (refine Split.pos (by omega) ?_)
           | (refine Split.neg (by omega) ?_)
           | (refine Split.mk (fun h => ?_) (fun h => ?_))
           | (refine Need.mk (by omega) ?_)
           | (refine Ints.ln (by assumption) ?_)
           | (refine Mat.ln (by assumption) ?_)
           | (refine Ints.ln (Mat.row (by assumption) _ (by omega)) ?_)
           | (refine Ints.ix (by assumption) (by omega) ?_)
           | (refine Mat.ix (by assumption) (by omega) ?_)
           | (refine Ints.ix (Mat.row (by assumption) _ (by omega)) (by omega) ?_)
           | (refine Ints.ix (c := 0) (by assumption) (by omega) ?_)
           | (refine Mat.ix (c := 0) (by assumption) (by omega) ?_)
           | (refine Ints.ix (c := 0) (Mat.row (by assumption) _ (by omega)) (by omega) ?_)
           | (refine Ints.ixI (by assumption) (by omega) ?_)
           | (refine Mat.ixI (by assumption) (by omega) ?_)
           | (refine Ints.ixI (Mat.row (by assumption) _ (by omega)) (by omega) ?_)
           | (refine Ints.ld (by assumption) (by omega) ?_)
           | (refine Mat.ld (by assumption) (by omega) ?_)
           | (refine Ints.ld (Mat.row (by assumption) _ (by omega)) (by omega) ?_)
           | (refine At.ld (by assumption) rfl ?_)
           | (refine At.ldN (by assumption) rfl ?_))
  · refine Lp.mk tyOk [false, false, false, false, true, true, false, false, false, false, false, true, true, true, true, true, true, true, true, true, true, true, true, true, true, true] (fun m fr wr => getK fr 5 fun j => ∃ c : Nat, c ≤ a.length ∧ m = a.length - c ∧ j = .int .i64 (c : Int) ∧ (∀ i, i < c → a.getD i (0, 0, 0) = b.getD i (0, 0, 0)) ∧ wr = w1) (a.length) ?_ ?_
    · exact ⟨0, Nat.zero_le _, rfl, rfl, (by first | exact fun _ hi => absurd hi (Nat.not_lt_zero _) | exact fun _ _ hi => absurd hi (Nat.not_lt_zero _) | assumption | exact Own.nil | omega | simp), rfl⟩
    · intro m w2 u4 u5 u11 u12 u13 u14 u15 u16 u17 u18 u19 u20 u21 u22 u23 u24 u25 hR
      obtain ⟨c, hc, rfl, rfl, hv, rfl⟩ := hR
      repeat' (conv => whnf
               first
               | (refine Dr.quiet tyOk (by kernel_rfl) ?_)
               | (refine Trs.ln (by assumption) ?_)
               | (refine Trs.ix (by assumption) (by omega) ?_)
               | (refine Trs.ldN (by assumption) (by omega) ?_)
               | (refine VS.ne3 Try.underlying74 (by kernel_rfl) (by decide) ⟨rfl, rfl, rfl⟩ Try.underlying3 Try.underlying3 Try.underlying3 guard3 ?_)
               | (refine Rng.mk (by omega) ?_)
               | (refine Split.pos (by omega) ?_)
               | (refine Split.neg (by omega) ?_)
               | (refine Split.mk (fun h => ?_) (fun h => ?_))
               | (refine Need.mk (by omega) ?_)
               | (refine Ints.ln (by assumption) ?_)
               | (refine Mat.ln (by assumption) ?_)
               | (refine Ints.ln (Mat.row (by assumption) _ (by omega)) ?_)
               | (refine Ints.ix (by assumption) (by omega) ?_)
               | (refine Mat.ix (by assumption) (by omega) ?_)
               | (refine Ints.ix (Mat.row (by assumption) _ (by omega)) (by omega) ?_)
               | (refine Ints.ix (c := 0) (by assumption) (by omega) ?_)
               | (refine Mat.ix (c := 0) (by assumption) (by omega) ?_)
               | (refine Ints.ix (c := 0) (Mat.row (by assumption) _ (by omega)) (by omega) ?_)
               | (refine Ints.ixI (by assumption) (by omega) ?_)
               | (refine Mat.ixI (by assumption) (by omega) ?_)
               | (refine Ints.ixI (Mat.row (by assumption) _ (by omega)) (by omega) ?_)
               | (refine Ints.ld (by assumption) (by omega) ?_)
               | (refine Mat.ld (by assumption) (by omega) ?_)
               | (refine Ints.ld (Mat.row (by assumption) _ (by omega)) (by omega) ?_)
               | (refine At.ld (by assumption) rfl ?_)
               | (refine At.ldN (by assumption) rfl ?_))
      · refine ⟨_, (by omega : a.length - (c + 1) < a.length - c), rfl, c + 1, by omega, rfl, rfl, all_succ hv (by obtain ⟨h1, h2, h3⟩ := ‹(a.getD c (0, 0, 0)).1 = (b.getD c (0, 0, 0)).1 ∧ (a.getD c (0, 0, 0)).2.1 = (b.getD c (0, 0, 0)).2.1 ∧ (a.getD c (0, 0, 0)).2.2 = (b.getD c (0, 0, 0)).2.2›; exact Prod.ext h1 (Prod.ext h2 h3)), rfl⟩
      · rw [tf_f (p := a = b) (fun e => ‹¬ ((a.getD c (0, 0, 0)).1 = (b.getD c (0, 0, 0)).1 ∧ (a.getD c (0, 0, 0)).2.1 = (b.getD c (0, 0, 0)).2.1 ∧ (a.getD c (0, 0, 0)).2.2 = (b.getD c (0, 0, 0)).2.2)› ⟨by rw [e], by rw [e], by rw [e]⟩)]; exact ⟨rfl, EE⟩
      · rw [tf_t (p := a = b) (ext_getD (0, 0, 0) (by omega) fun i hi => hv i (by omega))]; exact ⟨rfl, EE⟩
  · rw [tf_f (p := a = b) (by rintro rfl; omega)]; exact ⟨rfl, EE⟩
end Go.Proofs.Ytiahjkhfkbcjhaa
