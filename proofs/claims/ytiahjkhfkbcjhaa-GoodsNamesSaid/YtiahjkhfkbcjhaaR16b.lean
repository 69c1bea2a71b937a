/- Contracts: Same, SameLists, SamePairs, Assigned, Twin of the references; the reference's Values, Envies, Poor, Pass, Give. -/
import Derived.Test.YtiahjkhfkbcjhaaEngJ
import Derived.Test.YtiahjkhfkbcjhaaR16a
set_option linter.unusedVariables false
set_option linter.unusedSimpArgs false
namespace Go.Proofs.Ytiahjkhfkbcjhaa
open Go.Eng
set_option maxRecDepth 100000

theorem eInt : Elem Try.prog 3 (.int .i64 0) 1 8 := by unfold Elem; kernel_rfl
theorem eRow : Elem Try.prog 25 (.slice none 0 0) 1 24 := by unfold Elem; kernel_rfl
theorem ePair : Elem Try.prog 51 (.agg #[.int .i64 0, .int .i64 0]) 2 16 := by unfold Elem; kernel_rfl

/-- A row of ints, and a matrix, that the call has made. -/
abbrev OI (w : World) (v : Value) (l : List Int) : Prop := Own 0 3 1 w v l.length (l.map i64v)
theorem OI.of {B n : Nat} {w : World} {v : Value} {l : List Int} (h : Own B 3 1 w v n (l.map i64v)) : OI w v l := by
  have e : n = l.length := by have := Own.len h; simpa using this.symm
  subst e; exact Own.base h (Nat.zero_le _)
structure OM (B : Nat) (w : World) (v : Value) (vs : List Value) (rr : List (List Int)) : Prop where
  top : Own B 25 1 w v rr.length vs
  row : ∀ i, i < rr.length → OI w (vs.getD i undef) (rr.getD i [])
theorem OM.mat {B : Nat} {w : World} {v : Value} {vs : List Value} {rr : List (List Int)} (h : OM B w v vs rr) : Mat w v vs rr := ⟨h.top.sl, fun i hi => (h.row i hi).sl⟩
theorem OM.ext {B : Nat} {w w' : World} {v : Value} {vs : List Value} {rr : List (List Int)} (h : OM B w v vs rr) (hg : Ext w w') : OM B w' v vs rr := ⟨Own.ext h.top hg, fun i hi => Own.ext (h.row i hi) hg⟩
theorem OM.base {B B' : Nat} {w : World} {v : Value} {vs : List Value} {rr : List (List Int)} (h : OM B w v vs rr) (hB : B' ≤ B) : OM B' w v vs rr := ⟨Own.base h.top hB, h.row⟩
theorem OM.nil {B : Nat} {w : World} : OM B w (.slice none 0 0) [] [] := ⟨Own.nil, fun _ hi => absurd hi (Nat.not_lt_zero _)⟩
theorem OM.push {B B' : Nat} {w w' : World} {v v' x : Value} {vs : List Value} {rr : List (List Int)} {l : List Int} (h : OM B w v vs rr) (hr : OI w x l) (hg : Gr (fun k => v.ownBlock = some k) w w') (ho : Own B' 25 1 w' v' (rr.length + 1) (vs ++ [x])) :
    OM B' w' v' (vs ++ [x]) (rr ++ [l]) := by
  have hl : vs.length = rr.length := by have := h.top.len; omega
  refine ⟨by simpa using ho, fun i hi => ?_⟩
  have keep : ∀ {y : Value} {m : List Int}, OI w y m → OI w' y m := fun {y m} hy => Own.gr hy hg fun k hk hk' => Own.ne hy h.top (by decide) k hk hk'
  by_cases e : i < rr.length
  · have := keep (h.row i e)
    simpa [List.getD, List.getElem?_append_left, hl, e] using this
  · have e2 : i = rr.length := by simp at hi; omega
    subst e2
    have := keep hr
    simpa [List.getD, hl] using this

theorem same_pc {w : World} {av bv : Value} {a b : List Int} (Ha : Ints w av a) (Hb : Ints w bv b) : PC Try.prog 29 [av, bv] w (.bool (tf (a = b))) := by
  refine PC.mk tyOk Try.func29 rfl (by kernel_rfl) fun w1 E1 => ?_
  replace Ha := Ha.ext E1
  replace Hb := Hb.ext E1
  have hla := Ha.le
  repeat' (conv => whnf
           first
           | (refine Dr.quiet tyOk (by kernel_rfl) ?_)
           | (refine Rng.mk (by omega) ?_)
           | (refine Split.pos (by omega) ?_)
           | (refine Split.neg (by omega) ?_)
           | (refine Split.mk (fun h => ?_) (fun h => ?_))
           | (refine Need.mk (by omega) ?_)
           | (refine Ints.ln (by assumption) ?_)
           | (refine Mat.ln (by assumption) ?_)
           | (refine Ints.ln (Mat.row (by assumption) _ (by omega)) ?_)
           | (refine Ints.ix (by assumption) (by omega) ?_)
           | (refine Mat.ix (by assumption) (by omega) ?_)
           | (refine Ints.ix (Mat.row (by assumption) _ (by omega)) (by omega) ?_)
           | (refine Ints.ix (c := 0) (by assumption) (by omega) ?_)
           | (refine Mat.ix (c := 0) (by assumption) (by omega) ?_)
           | (refine Ints.ix (c := 0) (Mat.row (by assumption) _ (by omega)) (by omega) ?_)
           | (refine Ints.ixI (by assumption) (by omega) ?_)
           | (refine Mat.ixI (by assumption) (by omega) ?_)
           | (refine Ints.ixI (Mat.row (by assumption) _ (by omega)) (by omega) ?_)
           | (refine Ints.ld (by assumption) (by omega) ?_)
           | (refine Mat.ld (by assumption) (by omega) ?_)
           | (refine Ints.ld (Mat.row (by assumption) _ (by omega)) (by omega) ?_)
           | (refine At.ld (by assumption) rfl ?_)
           | (refine At.ldN (by assumption) rfl ?_))
  · refine Lp.mk tyOk [false, false, false, false, true, true, false, false, false, false, false, true, true, true, true, true, true, true, true, true, true, true, true, true, true, true] (fun m fr wr => getK fr 5 fun j => ∃ c : Nat, c ≤ a.length ∧ m = a.length - c ∧ j = .int .i64 (c : Int) ∧ (∀ k, k < c → a.getD k 0 = b.getD k 0) ∧ wr = w1) a.length ?_ ?_
    · exact ⟨0, Nat.zero_le _, rfl, rfl, fun i hi => absurd hi (Nat.not_lt_zero _), rfl⟩
    · intro m w3 u4 u5 u11 u12 u13 u14 u15 u16 u17 u18 u19 u20 u21 u22 u23 u24 u25 hR
      obtain ⟨c, hc, rfl, rfl, hv, rfl⟩ := hR
      repeat' (conv => whnf
               first
               | (refine Dr.quiet tyOk (by kernel_rfl) ?_)
               | (refine Rng.mk (by omega) ?_)
               | (refine Split.pos (by omega) ?_)
               | (refine Split.neg (by omega) ?_)
               | (refine Split.mk (fun h => ?_) (fun h => ?_))
               | (refine Need.mk (by omega) ?_)
               | (refine Ints.ln (by assumption) ?_)
               | (refine Mat.ln (by assumption) ?_)
               | (refine Ints.ln (Mat.row (by assumption) _ (by omega)) ?_)
               | (refine Ints.ix (by assumption) (by omega) ?_)
               | (refine Mat.ix (by assumption) (by omega) ?_)
               | (refine Ints.ix (Mat.row (by assumption) _ (by omega)) (by omega) ?_)
               | (refine Ints.ix (c := 0) (by assumption) (by omega) ?_)
               | (refine Mat.ix (c := 0) (by assumption) (by omega) ?_)
               | (refine Ints.ix (c := 0) (Mat.row (by assumption) _ (by omega)) (by omega) ?_)
               | (refine Ints.ixI (by assumption) (by omega) ?_)
               | (refine Mat.ixI (by assumption) (by omega) ?_)
               | (refine Ints.ixI (Mat.row (by assumption) _ (by omega)) (by omega) ?_)
               | (refine Ints.ld (by assumption) (by omega) ?_)
               | (refine Mat.ld (by assumption) (by omega) ?_)
               | (refine Ints.ld (Mat.row (by assumption) _ (by omega)) (by omega) ?_)
               | (refine At.ld (by assumption) rfl ?_)
               | (refine At.ldN (by assumption) rfl ?_))
      · refine ⟨_, (by omega : a.length - (c + 1) < a.length - c), rfl, c + 1, by omega, rfl, rfl, fun i hi => ?_, rfl⟩
        by_cases e : i = c
        · subst e; assumption
        · exact hv i (by omega)
      · rw [tf_f (p := a = b) (by rintro rfl; exact absurd rfl ‹_›)]; exact ⟨rfl, Ext.refl _⟩
      · rw [tf_t (p := a = b) (ext_getD 0 (by omega) fun i hi => hv i (by omega))]; exact ⟨rfl, Ext.refl _⟩
  · rw [tf_f (p := a = b) (by rintro rfl; omega)]; exact ⟨rfl, Ext.refl _⟩

theorem samelists_pc {w : World} {av bv : Value} {vs us : List Value} {a b : List (List Int)} (Ha : Mat w av vs a) (Hb : Mat w bv us b) : PC Try.prog 27 [av, bv] w (.bool (tf (a = b))) := by
  refine PC.mk tyOk Try.func27 rfl (by kernel_rfl) fun w1 E1 => ?_
  replace Ha := Ha.ext E1
  replace Hb := Hb.ext E1
  have hla := Ha.top.le
  repeat' (conv => whnf
           first
           | (refine Dr.quiet tyOk (by kernel_rfl) ?_)
           | (refine Rng.mk (by omega) ?_)
           | (refine Split.pos (by omega) ?_)
           | (refine Split.neg (by omega) ?_)
           | (refine Split.mk (fun h => ?_) (fun h => ?_))
           | (refine Need.mk (by omega) ?_)
           | (refine Ints.ln (by assumption) ?_)
           | (refine Mat.ln (by assumption) ?_)
           | (refine Ints.ln (Mat.row (by assumption) _ (by omega)) ?_)
           | (refine Ints.ix (by assumption) (by omega) ?_)
           | (refine Mat.ix (by assumption) (by omega) ?_)
           | (refine Ints.ix (Mat.row (by assumption) _ (by omega)) (by omega) ?_)
           | (refine Ints.ix (c := 0) (by assumption) (by omega) ?_)
           | (refine Mat.ix (c := 0) (by assumption) (by omega) ?_)
           | (refine Ints.ix (c := 0) (Mat.row (by assumption) _ (by omega)) (by omega) ?_)
           | (refine Ints.ixI (by assumption) (by omega) ?_)
           | (refine Mat.ixI (by assumption) (by omega) ?_)
           | (refine Ints.ixI (Mat.row (by assumption) _ (by omega)) (by omega) ?_)
           | (refine Ints.ld (by assumption) (by omega) ?_)
           | (refine Mat.ld (by assumption) (by omega) ?_)
           | (refine Ints.ld (Mat.row (by assumption) _ (by omega)) (by omega) ?_)
           | (refine At.ld (by assumption) rfl ?_)
           | (refine At.ldN (by assumption) rfl ?_))
  · refine Lp.mk tyOk [false, false, false, false, true, true, false, false, false, false, false, true, true, true, true, true, true, true, true, true, true, true, true, true, true, true, true] (fun m fr wr => getK fr 5 fun j => ∃ c : Nat, c ≤ a.length ∧ m = a.length - c ∧ j = .int .i64 (c : Int) ∧ (∀ k, k < c → a.getD k [] = b.getD k []) ∧ wr = w1) a.length ?_ ?_
    · exact ⟨0, Nat.zero_le _, rfl, rfl, fun i hi => absurd hi (Nat.not_lt_zero _), rfl⟩
    · intro m w3 u4 u5 u11 u12 u13 u14 u15 u16 u17 u18 u19 u20 u21 u22 u23 u24 u25 u26 hR
      obtain ⟨c, hc, rfl, rfl, hv, rfl⟩ := hR
      by_cases he : a.getD c [] = b.getD c []
      · have ht : tf (a.getD c [] = b.getD c []) = true := tf_t he
        repeat' (conv => whnf
                 first
                 | (refine Dr.quiet tyOk (by kernel_rfl) ?_)
                 | (refine VCQ.pure (ht ▸ same_pc (Ha.row c (by omega)) (Hb.row c (by omega))) ?_)
                 | (refine Rng.mk (by omega) ?_)
                 | (refine Split.pos (by omega) ?_)
                 | (refine Split.neg (by omega) ?_)
                 | (refine Split.mk (fun h => ?_) (fun h => ?_))
                 | (refine Need.mk (by omega) ?_)
                 | (refine Ints.ln (by assumption) ?_)
                 | (refine Mat.ln (by assumption) ?_)
                 | (refine Ints.ln (Mat.row (by assumption) _ (by omega)) ?_)
                 | (refine Ints.ix (by assumption) (by omega) ?_)
                 | (refine Mat.ix (by assumption) (by omega) ?_)
                 | (refine Ints.ix (Mat.row (by assumption) _ (by omega)) (by omega) ?_)
                 | (refine Ints.ix (c := 0) (by assumption) (by omega) ?_)
                 | (refine Mat.ix (c := 0) (by assumption) (by omega) ?_)
                 | (refine Ints.ix (c := 0) (Mat.row (by assumption) _ (by omega)) (by omega) ?_)
                 | (refine Ints.ixI (by assumption) (by omega) ?_)
                 | (refine Mat.ixI (by assumption) (by omega) ?_)
                 | (refine Ints.ixI (Mat.row (by assumption) _ (by omega)) (by omega) ?_)
                 | (refine Ints.ld (by assumption) (by omega) ?_)
                 | (refine Mat.ld (by assumption) (by omega) ?_)
                 | (refine Ints.ld (Mat.row (by assumption) _ (by omega)) (by omega) ?_)
                 | (refine At.ld (by assumption) rfl ?_)
                 | (refine At.ldN (by assumption) rfl ?_))
        · refine ⟨_, (by omega : a.length - (c + 1) < a.length - c), rfl, c + 1, by omega, rfl, rfl, fun i hi => ?_, rfl⟩
          by_cases e : i = c
          · subst e; assumption
          · exact hv i (by omega)
        · rw [tf_t (p := a = b) (ext_getD [] (by omega) fun i hi => hv i (by omega))]; exact ⟨rfl, Ext.refl _⟩
      · have ht : tf (a.getD c [] = b.getD c []) = false := tf_f he
        repeat' (conv => whnf
                 first
                 | (refine Dr.quiet tyOk (by kernel_rfl) ?_)
                 | (refine VCQ.pure (ht ▸ same_pc (Ha.row c (by omega)) (Hb.row c (by omega))) ?_)
                 | (refine Rng.mk (by omega) ?_)
                 | (refine Split.pos (by omega) ?_)
                 | (refine Split.neg (by omega) ?_)
                 | (refine Split.mk (fun h => ?_) (fun h => ?_))
                 | (refine Need.mk (by omega) ?_)
                 | (refine Ints.ln (by assumption) ?_)
                 | (refine Mat.ln (by assumption) ?_)
                 | (refine Ints.ln (Mat.row (by assumption) _ (by omega)) ?_)
                 | (refine Ints.ix (by assumption) (by omega) ?_)
                 | (refine Mat.ix (by assumption) (by omega) ?_)
                 | (refine Ints.ix (Mat.row (by assumption) _ (by omega)) (by omega) ?_)
                 | (refine Ints.ix (c := 0) (by assumption) (by omega) ?_)
                 | (refine Mat.ix (c := 0) (by assumption) (by omega) ?_)
                 | (refine Ints.ix (c := 0) (Mat.row (by assumption) _ (by omega)) (by omega) ?_)
                 | (refine Ints.ixI (by assumption) (by omega) ?_)
                 | (refine Mat.ixI (by assumption) (by omega) ?_)
                 | (refine Ints.ixI (Mat.row (by assumption) _ (by omega)) (by omega) ?_)
                 | (refine Ints.ld (by assumption) (by omega) ?_)
                 | (refine Mat.ld (by assumption) (by omega) ?_)
                 | (refine Ints.ld (Mat.row (by assumption) _ (by omega)) (by omega) ?_)
                 | (refine At.ld (by assumption) rfl ?_)
                 | (refine At.ldN (by assumption) rfl ?_))
        · rw [tf_f (p := a = b) (by rintro rfl; exact absurd rfl he)]; exact ⟨rfl, Ext.refl _⟩
        · rw [tf_t (p := a = b) (ext_getD [] (by omega) fun i hi => hv i (by omega))]; exact ⟨rfl, Ext.refl _⟩
  · rw [tf_f (p := a = b) (by rintro rfl; omega)]; exact ⟨rfl, Ext.refl _⟩
end Go.Proofs.Ytiahjkhfkbcjhaa
