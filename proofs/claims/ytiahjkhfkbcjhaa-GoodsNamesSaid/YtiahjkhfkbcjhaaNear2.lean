/- Contracts: near's first, envies. -/
import Derived.Test.YtiahjkhfkbcjhaaNear1
import Derived.Test.YtiahjkhfkbcjhaaEngP
set_option linter.unusedVariables false
set_option linter.unusedSimpArgs false
namespace Go.Proofs.Ytiahjkhfkbcjhaa
open Go.Eng
set_option maxRecDepth 100000
set_option maxHeartbeats 4000000

theorem first_at {p : Nat → Bool} {n c : Nat} (h : ∀ k, k < c → p k = false) (hc : c < n) (hp : p c = true) : firstFrom p n 0 = c := by
  rcases firstFrom_spec p n 0 with ⟨j, _, h2, h3, h4, h5⟩ | ⟨_, h2⟩
  · rw [h4]
    by_cases e : j = c
    · rw [e]
    · exfalso
      by_cases e2 : j < c
      · rw [h j e2] at h3; cases h3
      · rw [h5 c (Nat.zero_le _) (by omega)] at hp; cases hp
  · rw [h2 c (Nat.zero_le _) (by omega)] at hp; cases hp
theorem first_no {p : Nat → Bool} {n : Nat} (h : ∀ k, k < n → p k = false) : firstFrom p n 0 = -1 := by
  rcases firstFrom_spec p n 0 with ⟨j, _, h2, h3, h4, h5⟩ | ⟨h1, _⟩
  · rw [h j (by omega)] at h3; cases h3
  · exact h1

def gP (rr : List (List Int)) (a : List Int) (i : Nat) (k x : Int) (b : Bool) (j : Nat) : Bool := decide (a.getD j 0 = k) && (decide (x ≤ val rr i j) == b)
theorem firstG_eq (rr : List (List Int)) (a : List Int) (i : Nat) (k x : Int) (b : Bool) : firstG rr a i k x b = firstFrom (gP rr a i k x b) a.length 0 := by unfold firstG; simp only [Int.toNat_natCast]; rfl
theorem gP_f {rr : List (List Int)} {a : List Int} {i : Nat} {k x : Int} {j : Nat} : gP rr a i k x false j = true ↔ a.getD j 0 = k ∧ val rr i j < x := by
  unfold gP
  simp only [Bool.and_eq_true, decide_eq_true_eq, beq_iff_eq, decide_eq_false_iff_not, Int.not_le]
theorem gP_t {rr : List (List Int)} {a : List Int} {i : Nat} {k x : Int} {j : Nat} : gP rr a i k x true j = true ↔ a.getD j 0 = k ∧ x ≤ val rr i j := by
  unfold gP
  simp only [Bool.and_eq_true, decide_eq_true_eq, beq_iff_eq]
theorem boolF {b : Bool} (h : ¬ b = true) : b = false := by cases b <;> simp_all

theorem nfirst_pc {w : World} {gv av : Value} {vs : List Value} {rr : List (List Int)} {a : List Int} {i : Nat} {k x : Int} {b : Bool} (Hg : Mat w gv vs rr) (Ha : Ints w av a) (hi : i < rr.length) (hrow : (rr.getD i []).length = a.length) :
    PC Try.prog 63 [.agg #[.int .i64 i, .int .i64 k, .int .i64 x], .agg #[gv], av, .bool b] w (.int .i64 (firstG rr a i k x b)) := by
  rw [firstG_eq]
  refine PC.mk tyOk Try.func63 rfl (by kernel_rfl) fun w1 E1 => ?_
  replace Hg := Hg.ext E1
  replace Ha := Ha.ext E1
  have EE := Ext.refl w1
  have hle := Ha.le
  refine Bx.agg fun b2 w2 E2 hb2 He _ => ?_
  replace Hg := Hg.ext E2
  replace Ha := Ha.ext E2
  replace EE := EE.ext E2
  refine Bx.agg fun b3 w3 E3 hb3 Hb _ => ?_
  replace Hg := Hg.ext E3
  replace Ha := Ha.ext E3
  replace EE := EE.ext E3
  replace He := He.ext E3
  repeat' (conv => whnf
           first
           | (refine Dr.quiet tyOk (by kernel_rfl) ?_)
           | (refine Rng.mk (by omega) ?_)
           | (refine Split.pos (by omega) ?_)
           | (refine Split.neg (by omega) ?_)
           | (refine Split.mk (fun h => ?_) (fun h => ?_))
           | (refine Need.mk (by omega) ?_)
           | (refine Ints.ln (by assumption) ?_)
           | (refine Mat.ln (by assumption) ?_)
           | (refine Ints.ln (Mat.row (by assumption) _ (by omega)) ?_)
           | (refine Ints.ix (by assumption) (by omega) ?_)
           | (refine Mat.ix (by assumption) (by omega) ?_)
           | (refine Ints.ix (Mat.row (by assumption) _ (by omega)) (by omega) ?_)
           | (refine Ints.ix (c := 0) (by assumption) (by omega) ?_)
           | (refine Mat.ix (c := 0) (by assumption) (by omega) ?_)
           | (refine Ints.ix (c := 0) (Mat.row (by assumption) _ (by omega)) (by omega) ?_)
           | (refine Ints.ixI (by assumption) (by omega) ?_)
           | (refine Mat.ixI (by assumption) (by omega) ?_)
           | (refine Ints.ixI (Mat.row (by assumption) _ (by omega)) (by omega) ?_)
           | (refine Ints.ld (by assumption) (by omega) ?_)
           | (refine Mat.ld (by assumption) (by omega) ?_)
           | (refine Ints.ld (Mat.row (by assumption) _ (by omega)) (by omega) ?_)
           | (refine At.ld (by assumption) rfl ?_)
           | (refine At.ldN (by assumption) rfl ?_))
  refine Lp.mk tyOk [false, false, false, false, false, false, false, false, true, true, true, false, false, true, true, true, true, true, true, true, true, true, true, true, true, true, true, true, true, true, true, true, true, true, true, true, true, true, true, true] (fun m fr wr => getK fr 13 fun j => ∃ c : Nat, c ≤ a.length ∧ m = a.length - c ∧ j = .int .i64 (c : Int) ∧ (∀ j, j < c → gP rr a i k x b j = false) ∧ wr = w3) (a.length) ?_ ?_
  · exact ⟨0, Nat.zero_le _, rfl, rfl, (by first | exact fun _ hi => absurd hi (Nat.not_lt_zero _) | exact fun _ _ hi => absurd hi (Nat.not_lt_zero _) | assumption | exact Own.nil | omega | simp), rfl⟩
  · intro m w4 u8 u9 u10 u13 u14 u15 u16 u17 u18 u19 u20 u21 u22 u23 u24 u25 u26 u27 u28 u29 u30 u31 u32 u33 u34 u35 u36 u37 u38 u39 hR
    obtain ⟨c, hc, rfl, rfl, hv, rfl⟩ := hR
    have hvd : (rr.getD i []).getD c 0 = val rr i c := rfl
    cases b
    · repeat' (conv => whnf
               first
               | (refine Dr.quiet tyOk (by kernel_rfl) ?_)
               | (refine Rng.mk (by omega) ?_)
               | (refine Split.pos (by omega) ?_)
               | (refine Split.neg (by omega) ?_)
               | (refine Split.mk (fun h => ?_) (fun h => ?_))
               | (refine Need.mk (by omega) ?_)
               | (refine Ints.ln (by assumption) ?_)
               | (refine Mat.ln (by assumption) ?_)
               | (refine Ints.ln (Mat.row (by assumption) _ (by omega)) ?_)
               | (refine Ints.ix (by assumption) (by omega) ?_)
               | (refine Mat.ix (by assumption) (by omega) ?_)
               | (refine Ints.ix (Mat.row (by assumption) _ (by omega)) (by omega) ?_)
               | (refine Ints.ix (c := 0) (by assumption) (by omega) ?_)
               | (refine Mat.ix (c := 0) (by assumption) (by omega) ?_)
               | (refine Ints.ix (c := 0) (Mat.row (by assumption) _ (by omega)) (by omega) ?_)
               | (refine Ints.ixI (by assumption) (by omega) ?_)
               | (refine Mat.ixI (by assumption) (by omega) ?_)
               | (refine Ints.ixI (Mat.row (by assumption) _ (by omega)) (by omega) ?_)
               | (refine Ints.ld (by assumption) (by omega) ?_)
               | (refine Mat.ld (by assumption) (by omega) ?_)
               | (refine Ints.ld (Mat.row (by assumption) _ (by omega)) (by omega) ?_)
               | (refine At.ld (by assumption) rfl ?_)
               | (refine At.ldN (by assumption) rfl ?_))
      all_goals first
        | (rw [first_at hv (by omega) (gP_f.2 ⟨by omega, by omega⟩)]; exact ⟨rfl, EE⟩)
        | (refine ⟨_, (by omega : a.length - (c + 1) < a.length - c), rfl, c + 1, by omega, rfl, rfl, all_succ hv (boolF (fun h => by have := gP_f.1 h; omega)), rfl⟩)
        | (obtain rfl : c = a.length := by omega
           rw [first_no hv]; exact ⟨rfl, EE⟩)
    · repeat' (conv => whnf
               first
               | (refine Dr.quiet tyOk (by kernel_rfl) ?_)
               | (refine Rng.mk (by omega) ?_)
               | (refine Split.pos (by omega) ?_)
               | (refine Split.neg (by omega) ?_)
               | (refine Split.mk (fun h => ?_) (fun h => ?_))
               | (refine Need.mk (by omega) ?_)
               | (refine Ints.ln (by assumption) ?_)
               | (refine Mat.ln (by assumption) ?_)
               | (refine Ints.ln (Mat.row (by assumption) _ (by omega)) ?_)
               | (refine Ints.ix (by assumption) (by omega) ?_)
               | (refine Mat.ix (by assumption) (by omega) ?_)
               | (refine Ints.ix (Mat.row (by assumption) _ (by omega)) (by omega) ?_)
               | (refine Ints.ix (c := 0) (by assumption) (by omega) ?_)
               | (refine Mat.ix (c := 0) (by assumption) (by omega) ?_)
               | (refine Ints.ix (c := 0) (Mat.row (by assumption) _ (by omega)) (by omega) ?_)
               | (refine Ints.ixI (by assumption) (by omega) ?_)
               | (refine Mat.ixI (by assumption) (by omega) ?_)
               | (refine Ints.ixI (Mat.row (by assumption) _ (by omega)) (by omega) ?_)
               | (refine Ints.ld (by assumption) (by omega) ?_)
               | (refine Mat.ld (by assumption) (by omega) ?_)
               | (refine Ints.ld (Mat.row (by assumption) _ (by omega)) (by omega) ?_)
               | (refine At.ld (by assumption) rfl ?_)
               | (refine At.ldN (by assumption) rfl ?_))
      all_goals first
        | (rw [first_at hv (by omega) (gP_t.2 ⟨by omega, by omega⟩)]; exact ⟨rfl, EE⟩)
        | (refine ⟨_, (by omega : a.length - (c + 1) < a.length - c), rfl, c + 1, by omega, rfl, rfl, all_succ hv (boolF (fun h => by have := gP_t.1 h; omega)), rfl⟩)
        | (obtain rfl : c = a.length := by omega
           rw [first_no hv]; exact ⟨rfl, EE⟩)
end Go.Proofs.Ytiahjkhfkbcjhaa
