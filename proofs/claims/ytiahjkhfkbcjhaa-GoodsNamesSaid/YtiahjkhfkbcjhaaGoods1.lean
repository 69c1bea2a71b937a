/- Contracts: the library's IndexFunc and ContainsFunc; goods.Check, goods.Valid. -/
import Derived.Test.YtiahjkhfkbcjhaaR16a
import Derived.Test.YtiahjkhfkbcjhaaEngJ
set_option linter.unusedVariables false
set_option linter.unusedSimpArgs false
namespace Go.Proofs.Ytiahjkhfkbcjhaa
open Go.Eng
set_option maxRecDepth 100000

theorem indexfuncR_pc {w : World} {sv : Value} {n : Nat} {xs : List Value} {g : FuncId} {cap : List Value} {p : Nat → Bool} (Hs : Sl 1 w sv n xs) (hf : ∀ i, i < n → PC Try.prog g (xs.getD i undef :: cap) w (.bool (p i))) :
    PC Try.prog 67 [sv, .func (.func g) #[] cap.toArray] w (.int .i64 (firstFrom p n 0)) := by
  refine PC.mk tyOk Try.func67 rfl (by kernel_rfl) fun w1 E1 => ?_
  replace Hs := Hs.ext E1
  replace hf := fun i hi => (hf i hi).ext E1
  have hle := Hs.le
  repeat' (conv => whnf
           first
           | (refine Dr.quiet tyOk (by kernel_rfl) ?_)
           | (refine Sl.ln (by assumption) ?_)
           | (refine Rng.mk (by omega) ?_)
           | (refine Split.pos (by omega) ?_)
           | (refine Split.neg (by omega) ?_)
           | (refine Split.mk (fun h => ?_) (fun h => ?_))
           | (refine Need.mk (by omega) ?_)
           | (refine Ints.ln (by assumption) ?_)
           | (refine Mat.ln (by assumption) ?_)
           | (refine Ints.ln (Mat.row (by assumption) _ (by omega)) ?_)
           | (refine Ints.ix (by assumption) (by omega) ?_)
           | (refine Mat.ix (by assumption) (by omega) ?_)
           | (refine Ints.ix (Mat.row (by assumption) _ (by omega)) (by omega) ?_)
           | (refine Ints.ix (c := 0) (by assumption) (by omega) ?_)
           | (refine Mat.ix (c := 0) (by assumption) (by omega) ?_)
           | (refine Ints.ix (c := 0) (Mat.row (by assumption) _ (by omega)) (by omega) ?_)
           | (refine Ints.ixI (by assumption) (by omega) ?_)
           | (refine Mat.ixI (by assumption) (by omega) ?_)
           | (refine Ints.ixI (Mat.row (by assumption) _ (by omega)) (by omega) ?_)
           | (refine Ints.ld (by assumption) (by omega) ?_)
           | (refine Mat.ld (by assumption) (by omega) ?_)
           | (refine Ints.ld (Mat.row (by assumption) _ (by omega)) (by omega) ?_)
           | (refine At.ld (by assumption) rfl ?_)
           | (refine At.ldN (by assumption) rfl ?_))
  refine Lp.mk tyOk [false, false, false, false, true, true, false, false, true, true, true, true, true, true, true, true, true, true, true] (fun m fr wr => getK fr 8 fun j => ∃ c : Nat, c ≤ n ∧ m = n - c ∧ j = .int .i64 (c : Int) ∧ firstFrom p n 0 = firstFrom p (n - c) c ∧ wr = w1) n ?_ ?_
  · exact ⟨0, Nat.zero_le _, rfl, rfl, rfl, rfl⟩
  · intro m w3 u4 u5 u8 u9 u10 u11 u12 u13 u14 u15 u16 u17 u18 hR
    obtain ⟨c, hc, rfl, rfl, he, rfl⟩ := hR
    by_cases hlt : c < n
    · have hs : firstFrom p (n - c) c = if p c = true then (c : Int) else firstFrom p (n - (c + 1)) (c + 1) := by rw [show n - c = (n - (c + 1)) + 1 by omega]; rfl
      have hfc := hf c hlt
      cases hp : p c with
      | true =>
        rw [hp] at hfc hs
        repeat' (conv => whnf
                 first
                 | (refine Dr.quiet tyOk (by kernel_rfl) ?_)
                 | (refine Sl.ix (by assumption) (by omega) ?_)
                 | (refine Sl.ld1 (by assumption) (by omega) ?_)
                 | (refine VC.pure hfc ?_)
                 | (refine Rng.mk (by omega) ?_)
                 | (refine Split.pos (by omega) ?_)
                 | (refine Split.neg (by omega) ?_)
                 | (refine Split.mk (fun h => ?_) (fun h => ?_))
                 | (refine Need.mk (by omega) ?_)
                 | (refine Ints.ln (by assumption) ?_)
                 | (refine Mat.ln (by assumption) ?_)
                 | (refine Ints.ln (Mat.row (by assumption) _ (by omega)) ?_)
                 | (refine Ints.ix (by assumption) (by omega) ?_)
                 | (refine Mat.ix (by assumption) (by omega) ?_)
                 | (refine Ints.ix (Mat.row (by assumption) _ (by omega)) (by omega) ?_)
                 | (refine Ints.ix (c := 0) (by assumption) (by omega) ?_)
                 | (refine Mat.ix (c := 0) (by assumption) (by omega) ?_)
                 | (refine Ints.ix (c := 0) (Mat.row (by assumption) _ (by omega)) (by omega) ?_)
                 | (refine Ints.ixI (by assumption) (by omega) ?_)
                 | (refine Mat.ixI (by assumption) (by omega) ?_)
                 | (refine Ints.ixI (Mat.row (by assumption) _ (by omega)) (by omega) ?_)
                 | (refine Ints.ld (by assumption) (by omega) ?_)
                 | (refine Mat.ld (by assumption) (by omega) ?_)
                 | (refine Ints.ld (Mat.row (by assumption) _ (by omega)) (by omega) ?_)
                 | (refine At.ld (by assumption) rfl ?_)
                 | (refine At.ldN (by assumption) rfl ?_))
        rw [he, hs]; exact ⟨rfl, Ext.refl _⟩
      | false =>
        rw [hp] at hfc hs
        repeat' (conv => whnf
                 first
                 | (refine Dr.quiet tyOk (by kernel_rfl) ?_)
                 | (refine Sl.ix (by assumption) (by omega) ?_)
                 | (refine Sl.ld1 (by assumption) (by omega) ?_)
                 | (refine VC.pure hfc ?_)
                 | (refine Rng.mk (by omega) ?_)
                 | (refine Split.pos (by omega) ?_)
                 | (refine Split.neg (by omega) ?_)
                 | (refine Split.mk (fun h => ?_) (fun h => ?_))
                 | (refine Need.mk (by omega) ?_)
                 | (refine Ints.ln (by assumption) ?_)
                 | (refine Mat.ln (by assumption) ?_)
                 | (refine Ints.ln (Mat.row (by assumption) _ (by omega)) ?_)
                 | (refine Ints.ix (by assumption) (by omega) ?_)
                 | (refine Mat.ix (by assumption) (by omega) ?_)
                 | (refine Ints.ix (Mat.row (by assumption) _ (by omega)) (by omega) ?_)
                 | (refine Ints.ix (c := 0) (by assumption) (by omega) ?_)
                 | (refine Mat.ix (c := 0) (by assumption) (by omega) ?_)
                 | (refine Ints.ix (c := 0) (Mat.row (by assumption) _ (by omega)) (by omega) ?_)
                 | (refine Ints.ixI (by assumption) (by omega) ?_)
                 | (refine Mat.ixI (by assumption) (by omega) ?_)
                 | (refine Ints.ixI (Mat.row (by assumption) _ (by omega)) (by omega) ?_)
                 | (refine Ints.ld (by assumption) (by omega) ?_)
                 | (refine Mat.ld (by assumption) (by omega) ?_)
                 | (refine Ints.ld (Mat.row (by assumption) _ (by omega)) (by omega) ?_)
                 | (refine At.ld (by assumption) rfl ?_)
                 | (refine At.ldN (by assumption) rfl ?_))
        exact ⟨_, (by omega : n - (c + 1) < n - c), rfl, c + 1, by omega, rfl, rfl, by rw [he, hs]; rfl, rfl⟩
    · obtain rfl : c = n := by omega
      repeat' (conv => whnf
               first
               | (refine Dr.quiet tyOk (by kernel_rfl) ?_)
               | (refine Rng.mk (by omega) ?_)
               | (refine Split.pos (by omega) ?_)
               | (refine Split.neg (by omega) ?_)
               | (refine Split.mk (fun h => ?_) (fun h => ?_))
               | (refine Need.mk (by omega) ?_)
               | (refine Ints.ln (by assumption) ?_)
               | (refine Mat.ln (by assumption) ?_)
               | (refine Ints.ln (Mat.row (by assumption) _ (by omega)) ?_)
               | (refine Ints.ix (by assumption) (by omega) ?_)
               | (refine Mat.ix (by assumption) (by omega) ?_)
               | (refine Ints.ix (Mat.row (by assumption) _ (by omega)) (by omega) ?_)
               | (refine Ints.ix (c := 0) (by assumption) (by omega) ?_)
               | (refine Mat.ix (c := 0) (by assumption) (by omega) ?_)
               | (refine Ints.ix (c := 0) (Mat.row (by assumption) _ (by omega)) (by omega) ?_)
               | (refine Ints.ixI (by assumption) (by omega) ?_)
               | (refine Mat.ixI (by assumption) (by omega) ?_)
               | (refine Ints.ixI (Mat.row (by assumption) _ (by omega)) (by omega) ?_)
               | (refine Ints.ld (by assumption) (by omega) ?_)
               | (refine Mat.ld (by assumption) (by omega) ?_)
               | (refine Ints.ld (Mat.row (by assumption) _ (by omega)) (by omega) ?_)
               | (refine At.ld (by assumption) rfl ?_)
               | (refine At.ldN (by assumption) rfl ?_))
      rw [he, Nat.sub_self]; exact ⟨rfl, Ext.refl _⟩

theorem containsfuncR_pc {w : World} {sv : Value} {n : Nat} {xs : List Value} {g : FuncId} {cap : List Value} {p : Nat → Bool} (Hs : Sl 1 w sv n xs) (hf : ∀ i, i < n → PC Try.prog g (xs.getD i undef :: cap) w (.bool (p i))) :
    PC Try.prog 54 [sv, .func (.func g) #[] cap.toArray] w (.bool (tf (∃ i, i < n ∧ p i = true))) := by
  refine PC.mk tyOk Try.func54 rfl (by kernel_rfl) fun w1 E1 => ?_
  replace Hs := Hs.ext E1
  replace hf := fun i hi => (hf i hi).ext E1
  have hs := firstFrom_spec p n 0
  repeat' (conv => whnf
           first
           | (refine Dr.quiet tyOk (by kernel_rfl) ?_)
           | (refine VC.pure (indexfuncR_pc Hs hf) ?_)
           | (refine Rng.mk (by omega) ?_)
           | (refine Split.pos (by omega) ?_)
           | (refine Split.neg (by omega) ?_)
           | (refine Split.mk (fun h => ?_) (fun h => ?_))
           | (refine Need.mk (by omega) ?_)
           | (refine Ints.ln (by assumption) ?_)
           | (refine Mat.ln (by assumption) ?_)
           | (refine Ints.ln (Mat.row (by assumption) _ (by omega)) ?_)
           | (refine Ints.ix (by assumption) (by omega) ?_)
           | (refine Mat.ix (by assumption) (by omega) ?_)
           | (refine Ints.ix (Mat.row (by assumption) _ (by omega)) (by omega) ?_)
           | (refine Ints.ix (c := 0) (by assumption) (by omega) ?_)
           | (refine Mat.ix (c := 0) (by assumption) (by omega) ?_)
           | (refine Ints.ix (c := 0) (Mat.row (by assumption) _ (by omega)) (by omega) ?_)
           | (refine Ints.ixI (by assumption) (by omega) ?_)
           | (refine Mat.ixI (by assumption) (by omega) ?_)
           | (refine Ints.ixI (Mat.row (by assumption) _ (by omega)) (by omega) ?_)
           | (refine Ints.ld (by assumption) (by omega) ?_)
           | (refine Mat.ld (by assumption) (by omega) ?_)
           | (refine Ints.ld (Mat.row (by assumption) _ (by omega)) (by omega) ?_)
           | (refine At.ld (by assumption) rfl ?_)
           | (refine At.ldN (by assumption) rfl ?_))
  · rw [tf_t (p := ∃ i, i < n ∧ p i = true) (by
      rcases hs with ⟨j, h1, h2, h3, _⟩ | ⟨h1, _⟩
      · exact ⟨j, by omega, h3⟩
      · omega)]; exact ⟨rfl, Ext.refl _⟩
  · rw [tf_f (p := ∃ i, i < n ∧ p i = true) (by
      rintro ⟨i, hi, hp⟩
      rcases hs with ⟨j, h1, h2, h3, h4, _⟩ | ⟨_, h2⟩
      · omega
      · have := h2 i (by omega) (by omega); rw [hp] at this; cases this)]; exact ⟨rfl, Ext.refl _⟩
theorem indexfuncI_pc {w : World} {sv : Value} {n : Nat} {xs : List Value} {g : FuncId} {cap : List Value} {p : Nat → Bool} (Hs : Sl 1 w sv n xs) (hf : ∀ i, i < n → PC Try.prog g (xs.getD i undef :: cap) w (.bool (p i))) :
    PC Try.prog 68 [sv, .func (.func g) #[] cap.toArray] w (.int .i64 (firstFrom p n 0)) := by
  refine PC.mk tyOk Try.func68 rfl (by kernel_rfl) fun w1 E1 => ?_
  replace Hs := Hs.ext E1
  replace hf := fun i hi => (hf i hi).ext E1
  have hle := Hs.le
  repeat' (conv => whnf
           first
           | (refine Dr.quiet tyOk (by kernel_rfl) ?_)
           | (refine Sl.ln (by assumption) ?_)
           | (refine Rng.mk (by omega) ?_)
           | (refine Split.pos (by omega) ?_)
           | (refine Split.neg (by omega) ?_)
           | (refine Split.mk (fun h => ?_) (fun h => ?_))
           | (refine Need.mk (by omega) ?_)
           | (refine Ints.ln (by assumption) ?_)
           | (refine Mat.ln (by assumption) ?_)
           | (refine Ints.ln (Mat.row (by assumption) _ (by omega)) ?_)
           | (refine Ints.ix (by assumption) (by omega) ?_)
           | (refine Mat.ix (by assumption) (by omega) ?_)
           | (refine Ints.ix (Mat.row (by assumption) _ (by omega)) (by omega) ?_)
           | (refine Ints.ix (c := 0) (by assumption) (by omega) ?_)
           | (refine Mat.ix (c := 0) (by assumption) (by omega) ?_)
           | (refine Ints.ix (c := 0) (Mat.row (by assumption) _ (by omega)) (by omega) ?_)
           | (refine Ints.ixI (by assumption) (by omega) ?_)
           | (refine Mat.ixI (by assumption) (by omega) ?_)
           | (refine Ints.ixI (Mat.row (by assumption) _ (by omega)) (by omega) ?_)
           | (refine Ints.ld (by assumption) (by omega) ?_)
           | (refine Mat.ld (by assumption) (by omega) ?_)
           | (refine Ints.ld (Mat.row (by assumption) _ (by omega)) (by omega) ?_)
           | (refine At.ld (by assumption) rfl ?_)
           | (refine At.ldN (by assumption) rfl ?_))
  refine Lp.mk tyOk [false, false, false, false, true, true, false, false, true, true, true, true, true, true, true, true, true, true, true] (fun m fr wr => getK fr 8 fun j => ∃ c : Nat, c ≤ n ∧ m = n - c ∧ j = .int .i64 (c : Int) ∧ firstFrom p n 0 = firstFrom p (n - c) c ∧ wr = w1) n ?_ ?_
  · exact ⟨0, Nat.zero_le _, rfl, rfl, rfl, rfl⟩
  · intro m w3 u4 u5 u8 u9 u10 u11 u12 u13 u14 u15 u16 u17 u18 hR
    obtain ⟨c, hc, rfl, rfl, he, rfl⟩ := hR
    by_cases hlt : c < n
    · have hs : firstFrom p (n - c) c = if p c = true then (c : Int) else firstFrom p (n - (c + 1)) (c + 1) := by rw [show n - c = (n - (c + 1)) + 1 by omega]; rfl
      have hfc := hf c hlt
      cases hp : p c with
      | true =>
        rw [hp] at hfc hs
        repeat' (conv => whnf
                 first
                 | (refine Dr.quiet tyOk (by kernel_rfl) ?_)
                 | (refine Sl.ix (by assumption) (by omega) ?_)
                 | (refine Sl.ld1 (by assumption) (by omega) ?_)
                 | (refine VC.pure hfc ?_)
                 | (refine Rng.mk (by omega) ?_)
                 | (refine Split.pos (by omega) ?_)
                 | (refine Split.neg (by omega) ?_)
                 | (refine Split.mk (fun h => ?_) (fun h => ?_))
                 | (refine Need.mk (by omega) ?_)
                 | (refine Ints.ln (by assumption) ?_)
                 | (refine Mat.ln (by assumption) ?_)
                 | (refine Ints.ln (Mat.row (by assumption) _ (by omega)) ?_)
                 | (refine Ints.ix (by assumption) (by omega) ?_)
                 | (refine Mat.ix (by assumption) (by omega) ?_)
                 | (refine Ints.ix (Mat.row (by assumption) _ (by omega)) (by omega) ?_)
                 | (refine Ints.ix (c := 0) (by assumption) (by omega) ?_)
                 | (refine Mat.ix (c := 0) (by assumption) (by omega) ?_)
                 | (refine Ints.ix (c := 0) (Mat.row (by assumption) _ (by omega)) (by omega) ?_)
                 | (refine Ints.ixI (by assumption) (by omega) ?_)
                 | (refine Mat.ixI (by assumption) (by omega) ?_)
                 | (refine Ints.ixI (Mat.row (by assumption) _ (by omega)) (by omega) ?_)
                 | (refine Ints.ld (by assumption) (by omega) ?_)
                 | (refine Mat.ld (by assumption) (by omega) ?_)
                 | (refine Ints.ld (Mat.row (by assumption) _ (by omega)) (by omega) ?_)
                 | (refine At.ld (by assumption) rfl ?_)
                 | (refine At.ldN (by assumption) rfl ?_))
        rw [he, hs]; exact ⟨rfl, Ext.refl _⟩
      | false =>
        rw [hp] at hfc hs
        repeat' (conv => whnf
                 first
                 | (refine Dr.quiet tyOk (by kernel_rfl) ?_)
                 | (refine Sl.ix (by assumption) (by omega) ?_)
                 | (refine Sl.ld1 (by assumption) (by omega) ?_)
                 | (refine VC.pure hfc ?_)
                 | (refine Rng.mk (by omega) ?_)
                 | (refine Split.pos (by omega) ?_)
                 | (refine Split.neg (by omega) ?_)
                 | (refine Split.mk (fun h => ?_) (fun h => ?_))
                 | (refine Need.mk (by omega) ?_)
                 | (refine Ints.ln (by assumption) ?_)
                 | (refine Mat.ln (by assumption) ?_)
                 | (refine Ints.ln (Mat.row (by assumption) _ (by omega)) ?_)
                 | (refine Ints.ix (by assumption) (by omega) ?_)
                 | (refine Mat.ix (by assumption) (by omega) ?_)
                 | (refine Ints.ix (Mat.row (by assumption) _ (by omega)) (by omega) ?_)
                 | (refine Ints.ix (c := 0) (by assumption) (by omega) ?_)
                 | (refine Mat.ix (c := 0) (by assumption) (by omega) ?_)
                 | (refine Ints.ix (c := 0) (Mat.row (by assumption) _ (by omega)) (by omega) ?_)
                 | (refine Ints.ixI (by assumption) (by omega) ?_)
                 | (refine Mat.ixI (by assumption) (by omega) ?_)
                 | (refine Ints.ixI (Mat.row (by assumption) _ (by omega)) (by omega) ?_)
                 | (refine Ints.ld (by assumption) (by omega) ?_)
                 | (refine Mat.ld (by assumption) (by omega) ?_)
                 | (refine Ints.ld (Mat.row (by assumption) _ (by omega)) (by omega) ?_)
                 | (refine At.ld (by assumption) rfl ?_)
                 | (refine At.ldN (by assumption) rfl ?_))
        exact ⟨_, (by omega : n - (c + 1) < n - c), rfl, c + 1, by omega, rfl, rfl, by rw [he, hs]; rfl, rfl⟩
    · obtain rfl : c = n := by omega
      repeat' (conv => whnf
               first
               | (refine Dr.quiet tyOk (by kernel_rfl) ?_)
               | (refine Rng.mk (by omega) ?_)
               | (refine Split.pos (by omega) ?_)
               | (refine Split.neg (by omega) ?_)
               | (refine Split.mk (fun h => ?_) (fun h => ?_))
               | (refine Need.mk (by omega) ?_)
               | (refine Ints.ln (by assumption) ?_)
               | (refine Mat.ln (by assumption) ?_)
               | (refine Ints.ln (Mat.row (by assumption) _ (by omega)) ?_)
               | (refine Ints.ix (by assumption) (by omega) ?_)
               | (refine Mat.ix (by assumption) (by omega) ?_)
               | (refine Ints.ix (Mat.row (by assumption) _ (by omega)) (by omega) ?_)
               | (refine Ints.ix (c := 0) (by assumption) (by omega) ?_)
               | (refine Mat.ix (c := 0) (by assumption) (by omega) ?_)
               | (refine Ints.ix (c := 0) (Mat.row (by assumption) _ (by omega)) (by omega) ?_)
               | (refine Ints.ixI (by assumption) (by omega) ?_)
               | (refine Mat.ixI (by assumption) (by omega) ?_)
               | (refine Ints.ixI (Mat.row (by assumption) _ (by omega)) (by omega) ?_)
               | (refine Ints.ld (by assumption) (by omega) ?_)
               | (refine Mat.ld (by assumption) (by omega) ?_)
               | (refine Ints.ld (Mat.row (by assumption) _ (by omega)) (by omega) ?_)
               | (refine At.ld (by assumption) rfl ?_)
               | (refine At.ldN (by assumption) rfl ?_))
      rw [he, Nat.sub_self]; exact ⟨rfl, Ext.refl _⟩

theorem containsfuncI_pc {w : World} {sv : Value} {n : Nat} {xs : List Value} {g : FuncId} {cap : List Value} {p : Nat → Bool} (Hs : Sl 1 w sv n xs) (hf : ∀ i, i < n → PC Try.prog g (xs.getD i undef :: cap) w (.bool (p i))) :
    PC Try.prog 57 [sv, .func (.func g) #[] cap.toArray] w (.bool (tf (∃ i, i < n ∧ p i = true))) := by
  refine PC.mk tyOk Try.func57 rfl (by kernel_rfl) fun w1 E1 => ?_
  replace Hs := Hs.ext E1
  replace hf := fun i hi => (hf i hi).ext E1
  have hs := firstFrom_spec p n 0
  repeat' (conv => whnf
           first
           | (refine Dr.quiet tyOk (by kernel_rfl) ?_)
           | (refine VC.pure (indexfuncI_pc Hs hf) ?_)
           | (refine Rng.mk (by omega) ?_)
           | (refine Split.pos (by omega) ?_)
           | (refine Split.neg (by omega) ?_)
           | (refine Split.mk (fun h => ?_) (fun h => ?_))
           | (refine Need.mk (by omega) ?_)
           | (refine Ints.ln (by assumption) ?_)
           | (refine Mat.ln (by assumption) ?_)
           | (refine Ints.ln (Mat.row (by assumption) _ (by omega)) ?_)
           | (refine Ints.ix (by assumption) (by omega) ?_)
           | (refine Mat.ix (by assumption) (by omega) ?_)
           | (refine Ints.ix (Mat.row (by assumption) _ (by omega)) (by omega) ?_)
           | (refine Ints.ix (c := 0) (by assumption) (by omega) ?_)
           | (refine Mat.ix (c := 0) (by assumption) (by omega) ?_)
           | (refine Ints.ix (c := 0) (Mat.row (by assumption) _ (by omega)) (by omega) ?_)
           | (refine Ints.ixI (by assumption) (by omega) ?_)
           | (refine Mat.ixI (by assumption) (by omega) ?_)
           | (refine Ints.ixI (Mat.row (by assumption) _ (by omega)) (by omega) ?_)
           | (refine Ints.ld (by assumption) (by omega) ?_)
           | (refine Mat.ld (by assumption) (by omega) ?_)
           | (refine Ints.ld (Mat.row (by assumption) _ (by omega)) (by omega) ?_)
           | (refine At.ld (by assumption) rfl ?_)
           | (refine At.ldN (by assumption) rfl ?_))
  · rw [tf_t (p := ∃ i, i < n ∧ p i = true) (by
      rcases hs with ⟨j, h1, h2, h3, _⟩ | ⟨h1, _⟩
      · exact ⟨j, by omega, h3⟩
      · omega)]; exact ⟨rfl, Ext.refl _⟩
  · rw [tf_f (p := ∃ i, i < n ∧ p i = true) (by
      rintro ⟨i, hi, hp⟩
      rcases hs with ⟨j, h1, h2, h3, h4, _⟩ | ⟨_, h2⟩
      · omega
      · have := h2 i (by omega) (by omega); rw [hp] at this; cases this)]; exact ⟨rfl, Ext.refl _⟩

theorem check1_pc {w : World} {rv : Value} {l : List Int} (Hr : Ints w rv l) : PC Try.prog 55 [rv] w (.bool (decide (10 < l.length))) := by
  refine PC.mk tyOk Try.func55 rfl (by kernel_rfl) fun w1 E1 => ?_
  replace Hr := Hr.ext E1
  repeat' (conv => whnf
           first
           | (refine Dr.quiet tyOk (by kernel_rfl) ?_)
           | (refine Rng.mk (by omega) ?_)
           | (refine Split.pos (by omega) ?_)
           | (refine Split.neg (by omega) ?_)
           | (refine Split.mk (fun h => ?_) (fun h => ?_))
           | (refine Need.mk (by omega) ?_)
           | (refine Ints.ln (by assumption) ?_)
           | (refine Mat.ln (by assumption) ?_)
           | (refine Ints.ln (Mat.row (by assumption) _ (by omega)) ?_)
           | (refine Ints.ix (by assumption) (by omega) ?_)
           | (refine Mat.ix (by assumption) (by omega) ?_)
           | (refine Ints.ix (Mat.row (by assumption) _ (by omega)) (by omega) ?_)
           | (refine Ints.ix (c := 0) (by assumption) (by omega) ?_)
           | (refine Mat.ix (c := 0) (by assumption) (by omega) ?_)
           | (refine Ints.ix (c := 0) (Mat.row (by assumption) _ (by omega)) (by omega) ?_)
           | (refine Ints.ixI (by assumption) (by omega) ?_)
           | (refine Mat.ixI (by assumption) (by omega) ?_)
           | (refine Ints.ixI (Mat.row (by assumption) _ (by omega)) (by omega) ?_)
           | (refine Ints.ld (by assumption) (by omega) ?_)
           | (refine Mat.ld (by assumption) (by omega) ?_)
           | (refine Ints.ld (Mat.row (by assumption) _ (by omega)) (by omega) ?_)
           | (refine At.ld (by assumption) rfl ?_)
           | (refine At.ldN (by assumption) rfl ?_))
  · rw [decide_eq_true (by omega)]; exact ⟨rfl, Ext.refl _⟩
  · rw [decide_eq_false (by omega)]; exact ⟨rfl, Ext.refl _⟩

def odd (x : Int) : Bool := decide (x < 0) || decide (1000 < x)
theorem check2_pc {w : World} {x : Int} : PC Try.prog 56 [.int .i64 x] w (.bool (odd x)) := by
  refine PC.mk tyOk Try.func56 rfl (by kernel_rfl) fun w1 E1 => ?_
  unfold odd
  repeat' (conv => whnf
           first
           | (refine Dr.quiet tyOk (by kernel_rfl) ?_)
           | (refine Rng.mk (by omega) ?_)
           | (refine Split.pos (by omega) ?_)
           | (refine Split.neg (by omega) ?_)
           | (refine Split.mk (fun h => ?_) (fun h => ?_))
           | (refine Need.mk (by omega) ?_)
           | (refine Ints.ln (by assumption) ?_)
           | (refine Mat.ln (by assumption) ?_)
           | (refine Ints.ln (Mat.row (by assumption) _ (by omega)) ?_)
           | (refine Ints.ix (by assumption) (by omega) ?_)
           | (refine Mat.ix (by assumption) (by omega) ?_)
           | (refine Ints.ix (Mat.row (by assumption) _ (by omega)) (by omega) ?_)
           | (refine Ints.ix (c := 0) (by assumption) (by omega) ?_)
           | (refine Mat.ix (c := 0) (by assumption) (by omega) ?_)
           | (refine Ints.ix (c := 0) (Mat.row (by assumption) _ (by omega)) (by omega) ?_)
           | (refine Ints.ixI (by assumption) (by omega) ?_)
           | (refine Mat.ixI (by assumption) (by omega) ?_)
           | (refine Ints.ixI (Mat.row (by assumption) _ (by omega)) (by omega) ?_)
           | (refine Ints.ld (by assumption) (by omega) ?_)
           | (refine Mat.ld (by assumption) (by omega) ?_)
           | (refine Ints.ld (Mat.row (by assumption) _ (by omega)) (by omega) ?_)
           | (refine At.ld (by assumption) rfl ?_)
           | (refine At.ldN (by assumption) rfl ?_))
  · rw [decide_eq_true (by omega)]; exact ⟨rfl, Ext.refl _⟩
  · rw [decide_eq_false (by omega), decide_eq_true (by omega)]; exact ⟨rfl, Ext.refl _⟩
  · rw [decide_eq_false (by omega), decide_eq_false (by omega)]; exact ⟨rfl, Ext.refl _⟩

theorem Ints.elem {w : World} {v : Value} {l : List Int} {i : Nat} (h : i < l.length) : (l.map i64v).getD i undef = .int .i64 (l.getD i 0) := by simp [List.getD, h, i64v]

theorem gcheck_pc {w : World} {gv : Value} {vs : List Value} {rr : List (List Int)} (Hg : Mat w gv vs rr) :
    PC Try.prog 23 [.agg #[gv]] w (.int .i64 (chk rr)) := by
  refine PC.mk tyOk Try.func23 rfl (by kernel_rfl) fun w1 E1 => ?_
  replace Hg := Hg.ext E1
  have hle := Hg.top.le
  refine Bx.agg fun b w2 E2 _ Hb _ => ?_
  replace Hg := Hg.ext E2
  have hbig := containsfuncR_pc (g := 55) (cap := []) (p := fun i => decide (10 < (rr.getD i []).length)) Hg.top (fun i hi => check1_pc (Hg.row i hi))
  by_cases h6 : 6 < rr.length
  · repeat' (conv => whnf
             first
             | (refine Dr.quiet tyOk (by kernel_rfl) ?_)
             | (refine Rng.mk (by omega) ?_)
             | (refine Split.pos (by omega) ?_)
             | (refine Split.neg (by omega) ?_)
             | (refine Split.mk (fun h => ?_) (fun h => ?_))
             | (refine Need.mk (by omega) ?_)
             | (refine Ints.ln (by assumption) ?_)
             | (refine Mat.ln (by assumption) ?_)
             | (refine Ints.ln (Mat.row (by assumption) _ (by omega)) ?_)
             | (refine Ints.ix (by assumption) (by omega) ?_)
             | (refine Mat.ix (by assumption) (by omega) ?_)
             | (refine Ints.ix (Mat.row (by assumption) _ (by omega)) (by omega) ?_)
             | (refine Ints.ix (c := 0) (by assumption) (by omega) ?_)
             | (refine Mat.ix (c := 0) (by assumption) (by omega) ?_)
             | (refine Ints.ix (c := 0) (Mat.row (by assumption) _ (by omega)) (by omega) ?_)
             | (refine Ints.ixI (by assumption) (by omega) ?_)
             | (refine Mat.ixI (by assumption) (by omega) ?_)
             | (refine Ints.ixI (Mat.row (by assumption) _ (by omega)) (by omega) ?_)
             | (refine Ints.ld (by assumption) (by omega) ?_)
             | (refine Mat.ld (by assumption) (by omega) ?_)
             | (refine Ints.ld (Mat.row (by assumption) _ (by omega)) (by omega) ?_)
             | (refine At.ld (by assumption) rfl ?_)
             | (refine At.ldN (by assumption) rfl ?_))
    rw [chk_big (.inl h6)]; exact ⟨rfl, E2⟩
  · by_cases h10 : ∃ i, i < rr.length ∧ decide (10 < (rr.getD i []).length) = true
    · rw [tf_t h10] at hbig
      repeat' (conv => whnf
               first
               | (refine Dr.quiet tyOk (by kernel_rfl) ?_)
               | (refine VC.pure hbig ?_)
               | (refine Rng.mk (by omega) ?_)
               | (refine Split.pos (by omega) ?_)
               | (refine Split.neg (by omega) ?_)
               | (refine Split.mk (fun h => ?_) (fun h => ?_))
               | (refine Need.mk (by omega) ?_)
               | (refine Ints.ln (by assumption) ?_)
               | (refine Mat.ln (by assumption) ?_)
               | (refine Ints.ln (Mat.row (by assumption) _ (by omega)) ?_)
               | (refine Ints.ix (by assumption) (by omega) ?_)
               | (refine Mat.ix (by assumption) (by omega) ?_)
               | (refine Ints.ix (Mat.row (by assumption) _ (by omega)) (by omega) ?_)
               | (refine Ints.ix (c := 0) (by assumption) (by omega) ?_)
               | (refine Mat.ix (c := 0) (by assumption) (by omega) ?_)
               | (refine Ints.ix (c := 0) (Mat.row (by assumption) _ (by omega)) (by omega) ?_)
               | (refine Ints.ixI (by assumption) (by omega) ?_)
               | (refine Mat.ixI (by assumption) (by omega) ?_)
               | (refine Ints.ixI (Mat.row (by assumption) _ (by omega)) (by omega) ?_)
               | (refine Ints.ld (by assumption) (by omega) ?_)
               | (refine Mat.ld (by assumption) (by omega) ?_)
               | (refine Ints.ld (Mat.row (by assumption) _ (by omega)) (by omega) ?_)
               | (refine At.ld (by assumption) rfl ?_)
               | (refine At.ldN (by assumption) rfl ?_))
      obtain ⟨i, hi, hh⟩ := h10
      rw [chk_big (.inr ⟨i, hi, by simpa using hh⟩)]; exact ⟨rfl, E2⟩
    · rw [tf_f h10] at hbig
      have hnb : ¬ bigP rr := by
        rintro (h1 | ⟨i, hi, h1⟩)
        · omega
        · exact h10 ⟨i, hi, by simpa using h1⟩
      repeat' (conv => whnf
               first
               | (refine Dr.quiet tyOk (by kernel_rfl) ?_)
               | (refine VC.pure hbig ?_)
               | (refine Rng.mk (by omega) ?_)
               | (refine Split.pos (by omega) ?_)
               | (refine Split.neg (by omega) ?_)
               | (refine Split.mk (fun h => ?_) (fun h => ?_))
               | (refine Need.mk (by omega) ?_)
               | (refine Ints.ln (by assumption) ?_)
               | (refine Mat.ln (by assumption) ?_)
               | (refine Ints.ln (Mat.row (by assumption) _ (by omega)) ?_)
               | (refine Ints.ix (by assumption) (by omega) ?_)
               | (refine Mat.ix (by assumption) (by omega) ?_)
               | (refine Ints.ix (Mat.row (by assumption) _ (by omega)) (by omega) ?_)
               | (refine Ints.ix (c := 0) (by assumption) (by omega) ?_)
               | (refine Mat.ix (c := 0) (by assumption) (by omega) ?_)
               | (refine Ints.ix (c := 0) (Mat.row (by assumption) _ (by omega)) (by omega) ?_)
               | (refine Ints.ixI (by assumption) (by omega) ?_)
               | (refine Mat.ixI (by assumption) (by omega) ?_)
               | (refine Ints.ixI (Mat.row (by assumption) _ (by omega)) (by omega) ?_)
               | (refine Ints.ld (by assumption) (by omega) ?_)
               | (refine Mat.ld (by assumption) (by omega) ?_)
               | (refine Ints.ld (Mat.row (by assumption) _ (by omega)) (by omega) ?_)
               | (refine At.ld (by assumption) rfl ?_)
               | (refine At.ldN (by assumption) rfl ?_))
      · rw [chk_bad hnb (.inl (by omega))]; exact ⟨rfl, E2⟩
      · refine Lp.mk tyOk [false, false, true, false, false, true, false, false, false, false, false, false, false, false, false, false, false, false, false, false, false, false, true, true, true, true, true, true, true, true, true, true, true, true, true, true, true, true, true, true] (fun m fr wr => getK fr 22 fun j => ∃ c : Nat, c ≤ rr.length ∧ m = rr.length - c ∧ j = .int .i64 (c : Int) ∧ (∀ i, i < c → (rr.getD i []).length = (rr.getD 0 []).length ∧ ∀ j, j < (rr.getD i []).length → 0 ≤ val rr i j ∧ val rr i j ≤ 1000) ∧ wr = w2) rr.length ?_ ?_
        · exact ⟨0, Nat.zero_le _, rfl, rfl, fun i hi => absurd hi (Nat.not_lt_zero _), rfl⟩
        · intro m w3 u2 u5 u22 u23 u24 u25 u26 u27 u28 u29 u30 u31 u32 u33 u34 u35 u36 u37 u38 u39 hR
          obtain ⟨c, hc, rfl, rfl, hok, rfl⟩ := hR
          by_cases hlt : c < rr.length
          · have hodd := containsfuncI_pc (g := 56) (cap := []) (p := fun j => odd (val rr c j)) (Hg.row c hlt) (fun j hj => by rw [Ints.elem (w := w3) (v := gv) hj]; exact check2_pc)
            by_cases ho : ∃ j, j < (rr.getD c []).length ∧ odd (val rr c j) = true
            · rw [tf_t ho] at hodd
              repeat' (conv => whnf
                       first
                       | (refine Dr.quiet tyOk (by kernel_rfl) ?_)
                       | (refine VC.pure hodd ?_)
                       | (refine Rng.mk (by omega) ?_)
                       | (refine Split.pos (by omega) ?_)
                       | (refine Split.neg (by omega) ?_)
                       | (refine Split.mk (fun h => ?_) (fun h => ?_))
                       | (refine Need.mk (by omega) ?_)
                       | (refine Ints.ln (by assumption) ?_)
                       | (refine Mat.ln (by assumption) ?_)
                       | (refine Ints.ln (Mat.row (by assumption) _ (by omega)) ?_)
                       | (refine Ints.ix (by assumption) (by omega) ?_)
                       | (refine Mat.ix (by assumption) (by omega) ?_)
                       | (refine Ints.ix (Mat.row (by assumption) _ (by omega)) (by omega) ?_)
                       | (refine Ints.ix (c := 0) (by assumption) (by omega) ?_)
                       | (refine Mat.ix (c := 0) (by assumption) (by omega) ?_)
                       | (refine Ints.ix (c := 0) (Mat.row (by assumption) _ (by omega)) (by omega) ?_)
                       | (refine Ints.ixI (by assumption) (by omega) ?_)
                       | (refine Mat.ixI (by assumption) (by omega) ?_)
                       | (refine Ints.ixI (Mat.row (by assumption) _ (by omega)) (by omega) ?_)
                       | (refine Ints.ld (by assumption) (by omega) ?_)
                       | (refine Mat.ld (by assumption) (by omega) ?_)
                       | (refine Ints.ld (Mat.row (by assumption) _ (by omega)) (by omega) ?_)
                       | (refine At.ld (by assumption) rfl ?_)
                       | (refine At.ldN (by assumption) rfl ?_))
              · obtain ⟨j, hj, hh⟩ := ho
                simp only [odd, Bool.or_eq_true, decide_eq_true_eq] at hh
                rw [chk_bad hnb (.inr ⟨c, hlt, .inr ⟨j, hj, hh⟩⟩)]; exact ⟨rfl, E2⟩
              · rw [chk_bad hnb (.inr ⟨c, hlt, .inl (by omega)⟩)]; exact ⟨rfl, E2⟩
            · rw [tf_f ho] at hodd
              repeat' (conv => whnf
                       first
                       | (refine Dr.quiet tyOk (by kernel_rfl) ?_)
                       | (refine VC.pure hodd ?_)
                       | (refine Rng.mk (by omega) ?_)
                       | (refine Split.pos (by omega) ?_)
                       | (refine Split.neg (by omega) ?_)
                       | (refine Split.mk (fun h => ?_) (fun h => ?_))
                       | (refine Need.mk (by omega) ?_)
                       | (refine Ints.ln (by assumption) ?_)
                       | (refine Mat.ln (by assumption) ?_)
                       | (refine Ints.ln (Mat.row (by assumption) _ (by omega)) ?_)
                       | (refine Ints.ix (by assumption) (by omega) ?_)
                       | (refine Mat.ix (by assumption) (by omega) ?_)
                       | (refine Ints.ix (Mat.row (by assumption) _ (by omega)) (by omega) ?_)
                       | (refine Ints.ix (c := 0) (by assumption) (by omega) ?_)
                       | (refine Mat.ix (c := 0) (by assumption) (by omega) ?_)
                       | (refine Ints.ix (c := 0) (Mat.row (by assumption) _ (by omega)) (by omega) ?_)
                       | (refine Ints.ixI (by assumption) (by omega) ?_)
                       | (refine Mat.ixI (by assumption) (by omega) ?_)
                       | (refine Ints.ixI (Mat.row (by assumption) _ (by omega)) (by omega) ?_)
                       | (refine Ints.ld (by assumption) (by omega) ?_)
                       | (refine Mat.ld (by assumption) (by omega) ?_)
                       | (refine Ints.ld (Mat.row (by assumption) _ (by omega)) (by omega) ?_)
                       | (refine At.ld (by assumption) rfl ?_)
                       | (refine At.ldN (by assumption) rfl ?_))
              · refine ⟨_, (by omega : rr.length - (c + 1) < rr.length - c), rfl, c + 1, by omega, rfl, rfl, fun i hi => ?_, rfl⟩
                by_cases e : i = c
                · subst e
                  refine ⟨by omega, fun j hj => ?_⟩
                  have hh : ¬ odd (val rr i j) = true := fun hh => ho ⟨j, hj, hh⟩
                  simp only [odd, Bool.or_eq_true, decide_eq_true_eq] at hh
                  omega
                · exact hok i (by omega)
              · rw [chk_bad hnb (.inr ⟨c, hlt, .inl (by omega)⟩)]; exact ⟨rfl, E2⟩
          · repeat' (conv => whnf
                     first
                     | (refine Dr.quiet tyOk (by kernel_rfl) ?_)
                     | (refine Rng.mk (by omega) ?_)
                     | (refine Split.pos (by omega) ?_)
                     | (refine Split.neg (by omega) ?_)
                     | (refine Split.mk (fun h => ?_) (fun h => ?_))
                     | (refine Need.mk (by omega) ?_)
                     | (refine Ints.ln (by assumption) ?_)
                     | (refine Mat.ln (by assumption) ?_)
                     | (refine Ints.ln (Mat.row (by assumption) _ (by omega)) ?_)
                     | (refine Ints.ix (by assumption) (by omega) ?_)
                     | (refine Mat.ix (by assumption) (by omega) ?_)
                     | (refine Ints.ix (Mat.row (by assumption) _ (by omega)) (by omega) ?_)
                     | (refine Ints.ix (c := 0) (by assumption) (by omega) ?_)
                     | (refine Mat.ix (c := 0) (by assumption) (by omega) ?_)
                     | (refine Ints.ix (c := 0) (Mat.row (by assumption) _ (by omega)) (by omega) ?_)
                     | (refine Ints.ixI (by assumption) (by omega) ?_)
                     | (refine Mat.ixI (by assumption) (by omega) ?_)
                     | (refine Ints.ixI (Mat.row (by assumption) _ (by omega)) (by omega) ?_)
                     | (refine Ints.ld (by assumption) (by omega) ?_)
                     | (refine Mat.ld (by assumption) (by omega) ?_)
                     | (refine Ints.ld (Mat.row (by assumption) _ (by omega)) (by omega) ?_)
                     | (refine At.ld (by assumption) rfl ?_)
                     | (refine At.ldN (by assumption) rfl ?_))
            have hnb2 : ¬ badP rr := by
              rintro (h1 | ⟨i, hi, h1 | ⟨j, hj, h1⟩⟩)
              · omega
              · exact h1 (hok i (by omega)).1
              · have := (hok i (by omega)).2 j hj; omega
            rw [chk_ok hnb hnb2]; exact ⟨rfl, E2⟩

theorem within1_pc {w : World} {b1 b2 : Nat} {lo hi x : Int} (H1 : At w ⟨b1, 0, none⟩ [.int .i64 lo]) (H2 : At w ⟨b2, 0, none⟩ [.int .i64 hi]) :
    PC Try.prog 69 [.int .i64 x, .pointer (some ⟨b1, 0, none⟩), .pointer (some ⟨b2, 0, none⟩)] w (.bool (decide (x < lo) || decide (hi ≤ x))) := by
  refine PC.mk tyOk Try.func69 rfl (by kernel_rfl) fun w1 E1 => ?_
  replace H1 := H1.ext E1
  replace H2 := H2.ext E1
  repeat' (conv => whnf
           first
           | (refine Dr.quiet tyOk (by kernel_rfl) ?_)
           | (refine At.ld (i := 0) H1 rfl ?_)
           | (refine At.ld (i := 0) H2 rfl ?_)
           | (refine Rng.mk (by omega) ?_)
           | (refine Split.pos (by omega) ?_)
           | (refine Split.neg (by omega) ?_)
           | (refine Split.mk (fun h => ?_) (fun h => ?_))
           | (refine Need.mk (by omega) ?_)
           | (refine Ints.ln (by assumption) ?_)
           | (refine Mat.ln (by assumption) ?_)
           | (refine Ints.ln (Mat.row (by assumption) _ (by omega)) ?_)
           | (refine Ints.ix (by assumption) (by omega) ?_)
           | (refine Mat.ix (by assumption) (by omega) ?_)
           | (refine Ints.ix (Mat.row (by assumption) _ (by omega)) (by omega) ?_)
           | (refine Ints.ix (c := 0) (by assumption) (by omega) ?_)
           | (refine Mat.ix (c := 0) (by assumption) (by omega) ?_)
           | (refine Ints.ix (c := 0) (Mat.row (by assumption) _ (by omega)) (by omega) ?_)
           | (refine Ints.ixI (by assumption) (by omega) ?_)
           | (refine Mat.ixI (by assumption) (by omega) ?_)
           | (refine Ints.ixI (Mat.row (by assumption) _ (by omega)) (by omega) ?_)
           | (refine Ints.ld (by assumption) (by omega) ?_)
           | (refine Mat.ld (by assumption) (by omega) ?_)
           | (refine Ints.ld (Mat.row (by assumption) _ (by omega)) (by omega) ?_)
           | (refine At.ld (by assumption) rfl ?_)
           | (refine At.ldN (by assumption) rfl ?_))
  · rw [decide_eq_true (by omega)]; exact ⟨rfl, Ext.refl _⟩
  · rw [decide_eq_false (by omega), decide_eq_true (by omega)]; exact ⟨rfl, Ext.refl _⟩
  · rw [decide_eq_false (by omega), decide_eq_false (by omega)]; exact ⟨rfl, Ext.refl _⟩

theorem within_pc {w : World} {sv : Value} {l : List Int} {lo hi : Int} (Hs : Ints w sv l) :
    PC Try.prog 58 [.int .i64 lo, .int .i64 hi, sv] w (.bool (tf (∀ i, i < l.length → lo ≤ l.getD i 0 ∧ l.getD i 0 < hi))) := by
  refine PC.mk tyOk Try.func58 rfl (by kernel_rfl) fun w1 E1 => ?_
  replace Hs := Hs.ext E1
  refine Bx.one rfl fun b1 w2 E2 _ H1 _ => ?_
  replace Hs := Hs.ext E2
  refine Bx.one rfl fun b2 w3 E3 _ H2 _ => ?_
  replace Hs := Hs.ext E3
  replace H1 := H1.ext E3
  have hc := containsfuncI_pc (g := 69) (cap := [.pointer (some ⟨b1, 0, none⟩), .pointer (some ⟨b2, 0, none⟩)]) (p := fun j => decide (l.getD j 0 < lo) || decide (hi ≤ l.getD j 0)) Hs (fun j hj => by rw [Ints.elem (w := w3) (v := sv) hj]; exact within1_pc H1 H2)
  by_cases ho : ∃ j, j < l.length ∧ (decide (l.getD j 0 < lo) || decide (hi ≤ l.getD j 0)) = true
  · rw [tf_t ho] at hc
    repeat' (conv => whnf
             first
             | (refine Dr.quiet tyOk (by kernel_rfl) ?_)
             | (refine VC.pure hc ?_)
             | (refine Rng.mk (by omega) ?_)
             | (refine Split.pos (by omega) ?_)
             | (refine Split.neg (by omega) ?_)
             | (refine Split.mk (fun h => ?_) (fun h => ?_))
             | (refine Need.mk (by omega) ?_)
             | (refine Ints.ln (by assumption) ?_)
             | (refine Mat.ln (by assumption) ?_)
             | (refine Ints.ln (Mat.row (by assumption) _ (by omega)) ?_)
             | (refine Ints.ix (by assumption) (by omega) ?_)
             | (refine Mat.ix (by assumption) (by omega) ?_)
             | (refine Ints.ix (Mat.row (by assumption) _ (by omega)) (by omega) ?_)
             | (refine Ints.ix (c := 0) (by assumption) (by omega) ?_)
             | (refine Mat.ix (c := 0) (by assumption) (by omega) ?_)
             | (refine Ints.ix (c := 0) (Mat.row (by assumption) _ (by omega)) (by omega) ?_)
             | (refine Ints.ixI (by assumption) (by omega) ?_)
             | (refine Mat.ixI (by assumption) (by omega) ?_)
             | (refine Ints.ixI (Mat.row (by assumption) _ (by omega)) (by omega) ?_)
             | (refine Ints.ld (by assumption) (by omega) ?_)
             | (refine Mat.ld (by assumption) (by omega) ?_)
             | (refine Ints.ld (Mat.row (by assumption) _ (by omega)) (by omega) ?_)
             | (refine At.ld (by assumption) rfl ?_)
             | (refine At.ldN (by assumption) rfl ?_))
    rw [tf_f (p := ∀ i, i < l.length → lo ≤ l.getD i 0 ∧ l.getD i 0 < hi) (fun h => by
      obtain ⟨j, hj, hh⟩ := ho
      have := h j hj
      simp only [Bool.or_eq_true, decide_eq_true_eq] at hh
      omega)]
    exact ⟨rfl, E2.trans E3⟩
  · rw [tf_f ho] at hc
    repeat' (conv => whnf
             first
             | (refine Dr.quiet tyOk (by kernel_rfl) ?_)
             | (refine VC.pure hc ?_)
             | (refine Rng.mk (by omega) ?_)
             | (refine Split.pos (by omega) ?_)
             | (refine Split.neg (by omega) ?_)
             | (refine Split.mk (fun h => ?_) (fun h => ?_))
             | (refine Need.mk (by omega) ?_)
             | (refine Ints.ln (by assumption) ?_)
             | (refine Mat.ln (by assumption) ?_)
             | (refine Ints.ln (Mat.row (by assumption) _ (by omega)) ?_)
             | (refine Ints.ix (by assumption) (by omega) ?_)
             | (refine Mat.ix (by assumption) (by omega) ?_)
             | (refine Ints.ix (Mat.row (by assumption) _ (by omega)) (by omega) ?_)
             | (refine Ints.ix (c := 0) (by assumption) (by omega) ?_)
             | (refine Mat.ix (c := 0) (by assumption) (by omega) ?_)
             | (refine Ints.ix (c := 0) (Mat.row (by assumption) _ (by omega)) (by omega) ?_)
             | (refine Ints.ixI (by assumption) (by omega) ?_)
             | (refine Mat.ixI (by assumption) (by omega) ?_)
             | (refine Ints.ixI (Mat.row (by assumption) _ (by omega)) (by omega) ?_)
             | (refine Ints.ld (by assumption) (by omega) ?_)
             | (refine Mat.ld (by assumption) (by omega) ?_)
             | (refine Ints.ld (Mat.row (by assumption) _ (by omega)) (by omega) ?_)
             | (refine At.ld (by assumption) rfl ?_)
             | (refine At.ldN (by assumption) rfl ?_))
    rw [tf_t (p := ∀ i, i < l.length → lo ≤ l.getD i 0 ∧ l.getD i 0 < hi) (fun i hi' => by
      have hh : ¬ (decide (l.getD i 0 < lo) || decide (hi ≤ l.getD i 0)) = true := fun hh => ho ⟨i, hi', hh⟩
      simp only [Bool.or_eq_true, decide_eq_true_eq] at hh
      omega)]
    exact ⟨rfl, E2.trans E3⟩

theorem gvalid_pc {w : World} {gv av : Value} {vs : List Value} {rr : List (List Int)} {a : List Int} (Hg : Mat w gv vs rr) (Ha : Ints w av a) :
    PC Try.prog 25 [.agg #[gv], av] w (.int .i64 (vld rr a)) := by
  refine PC.mk tyOk Try.func25 rfl (by kernel_rfl) fun w1 E1 => ?_
  replace Hg := Hg.ext E1
  replace Ha := Ha.ext E1
  have hle := Hg.top.le
  refine Bx.agg fun b w2 E2 _ Hb _ => ?_
  replace Hg := Hg.ext E2
  replace Ha := Ha.ext E2
  have hw := within_pc (lo := -1) (hi := (rr.length : Int)) Ha
  by_cases hck : chk rr = 0
  · have hgd := gd_of_chk hck
    have hn1 := hgd.n1
    by_cases hin : ∀ i, i < a.length → -1 ≤ a.getD i 0 ∧ a.getD i 0 < rr.length
    · rw [tf_t hin] at hw
      repeat' (conv => whnf
               first
               | (refine Dr.quiet tyOk (by kernel_rfl) ?_)
               | (refine VC.pure (gcheck_pc Hg) ?_)
               | (refine VC.pure hw ?_)
               | (refine Rng.mk (by omega) ?_)
               | (refine Split.pos (by omega) ?_)
               | (refine Split.neg (by omega) ?_)
               | (refine Split.mk (fun h => ?_) (fun h => ?_))
               | (refine Need.mk (by omega) ?_)
               | (refine Ints.ln (by assumption) ?_)
               | (refine Mat.ln (by assumption) ?_)
               | (refine Ints.ln (Mat.row (by assumption) _ (by omega)) ?_)
               | (refine Ints.ix (by assumption) (by omega) ?_)
               | (refine Mat.ix (by assumption) (by omega) ?_)
               | (refine Ints.ix (Mat.row (by assumption) _ (by omega)) (by omega) ?_)
               | (refine Ints.ix (c := 0) (by assumption) (by omega) ?_)
               | (refine Mat.ix (c := 0) (by assumption) (by omega) ?_)
               | (refine Ints.ix (c := 0) (Mat.row (by assumption) _ (by omega)) (by omega) ?_)
               | (refine Ints.ixI (by assumption) (by omega) ?_)
               | (refine Mat.ixI (by assumption) (by omega) ?_)
               | (refine Ints.ixI (Mat.row (by assumption) _ (by omega)) (by omega) ?_)
               | (refine Ints.ld (by assumption) (by omega) ?_)
               | (refine Mat.ld (by assumption) (by omega) ?_)
               | (refine Ints.ld (Mat.row (by assumption) _ (by omega)) (by omega) ?_)
               | (refine At.ld (by assumption) rfl ?_)
               | (refine At.ldN (by assumption) rfl ?_))
      · have hnb : ¬ badA rr a := by
          rintro (h1 | ⟨k, hk, h1⟩)
          · omega
          · have := hin k hk; omega
        rw [vld_ok hck hnb]; exact ⟨rfl, E2⟩
      · rw [vld_bad hck (.inl (by omega))]; exact ⟨rfl, E2⟩
    · rw [tf_f hin] at hw
      repeat' (conv => whnf
               first
               | (refine Dr.quiet tyOk (by kernel_rfl) ?_)
               | (refine VC.pure (gcheck_pc Hg) ?_)
               | (refine VC.pure hw ?_)
               | (refine Rng.mk (by omega) ?_)
               | (refine Split.pos (by omega) ?_)
               | (refine Split.neg (by omega) ?_)
               | (refine Split.mk (fun h => ?_) (fun h => ?_))
               | (refine Need.mk (by omega) ?_)
               | (refine Ints.ln (by assumption) ?_)
               | (refine Mat.ln (by assumption) ?_)
               | (refine Ints.ln (Mat.row (by assumption) _ (by omega)) ?_)
               | (refine Ints.ix (by assumption) (by omega) ?_)
               | (refine Mat.ix (by assumption) (by omega) ?_)
               | (refine Ints.ix (Mat.row (by assumption) _ (by omega)) (by omega) ?_)
               | (refine Ints.ix (c := 0) (by assumption) (by omega) ?_)
               | (refine Mat.ix (c := 0) (by assumption) (by omega) ?_)
               | (refine Ints.ix (c := 0) (Mat.row (by assumption) _ (by omega)) (by omega) ?_)
               | (refine Ints.ixI (by assumption) (by omega) ?_)
               | (refine Mat.ixI (by assumption) (by omega) ?_)
               | (refine Ints.ixI (Mat.row (by assumption) _ (by omega)) (by omega) ?_)
               | (refine Ints.ld (by assumption) (by omega) ?_)
               | (refine Mat.ld (by assumption) (by omega) ?_)
               | (refine Ints.ld (Mat.row (by assumption) _ (by omega)) (by omega) ?_)
               | (refine At.ld (by assumption) rfl ?_)
               | (refine At.ldN (by assumption) rfl ?_))
      · have hbd : badA rr a := Classical.byContradiction fun h => hin fun i hi => ⟨Classical.byContradiction fun h1 => h (.inr ⟨i, hi, .inl (by omega)⟩), Classical.byContradiction fun h1 => h (.inr ⟨i, hi, .inr (by omega)⟩)⟩
        rw [vld_bad hck hbd]; exact ⟨rfl, E2⟩
      · rw [vld_bad hck (.inl (by omega))]; exact ⟨rfl, E2⟩
  · repeat' (conv => whnf
             first
             | (refine Dr.quiet tyOk (by kernel_rfl) ?_)
             | (refine VC.pure (gcheck_pc Hg) ?_)
             | (refine Rng.mk (by omega) ?_)
             | (refine Split.pos (by omega) ?_)
             | (refine Split.neg (by omega) ?_)
             | (refine Split.mk (fun h => ?_) (fun h => ?_))
             | (refine Need.mk (by omega) ?_)
             | (refine Ints.ln (by assumption) ?_)
             | (refine Mat.ln (by assumption) ?_)
             | (refine Ints.ln (Mat.row (by assumption) _ (by omega)) ?_)
             | (refine Ints.ix (by assumption) (by omega) ?_)
             | (refine Mat.ix (by assumption) (by omega) ?_)
             | (refine Ints.ix (Mat.row (by assumption) _ (by omega)) (by omega) ?_)
             | (refine Ints.ix (c := 0) (by assumption) (by omega) ?_)
             | (refine Mat.ix (c := 0) (by assumption) (by omega) ?_)
             | (refine Ints.ix (c := 0) (Mat.row (by assumption) _ (by omega)) (by omega) ?_)
             | (refine Ints.ixI (by assumption) (by omega) ?_)
             | (refine Mat.ixI (by assumption) (by omega) ?_)
             | (refine Ints.ixI (Mat.row (by assumption) _ (by omega)) (by omega) ?_)
             | (refine Ints.ld (by assumption) (by omega) ?_)
             | (refine Mat.ld (by assumption) (by omega) ?_)
             | (refine Ints.ld (Mat.row (by assumption) _ (by omega)) (by omega) ?_)
             | (refine At.ld (by assumption) rfl ?_)
             | (refine At.ldN (by assumption) rfl ?_))
    rw [vld_chk hck]; exact ⟨rfl, E2⟩
end Go.Proofs.Ytiahjkhfkbcjhaa
