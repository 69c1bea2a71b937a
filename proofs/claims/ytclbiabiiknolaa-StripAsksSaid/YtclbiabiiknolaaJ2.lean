/- Contracts of strip and its reference: divisions and levels. -/
import Derived.Test.YtclbiabiiknolaaJ1
import Derived.Laws.Entries
set_option linter.unusedVariables false
set_option linter.unusedSimpArgs false
namespace Go.Proofs.Ytclbiabiiknolaa
open Go.Eng
set_option maxRecDepth 100000

theorem indexfuncR_pc {w : World} {sv : Value} {n : Nat} {xs : List Value} {g : FuncId} {cap : List Value} {p : Nat → Bool} (Hs : Sl 1 w sv n xs) (hf : ∀ i, i < n → PC Try.prog g (xs.getD i undef :: cap) w (.bool (p i))) :
    PC Try.prog 44 [sv, .func (.func g) #[] cap.toArray] w (.int .i64 (firstFrom p n 0)) := by
  refine PC.mk tyOk Try.func44 rfl (by kernel_rfl) fun w1 E1 => ?_
  replace Hs := Hs.ext E1
  replace hf := fun i hi => (hf i hi).ext E1
  have hle := Hs.le
  repeat' (conv => whnf
           first
           | (refine Dr.quiet tyOk (by kernel_rfl) ?_)
           | (refine Sl.ln (by assumption) ?_)
           | (refine Rng.mk (by omega) ?_)
           | (refine Split.pos (by omega) ?_)
           | (refine Split.neg (by omega) ?_)
           | (refine Split.mk (fun h => ?_) (fun h => ?_))
           | (refine Need.mk (by omega) ?_)
           | (refine Ints.ln (by assumption) ?_)
           | (refine Mat.ln (by assumption) ?_)
           | (refine Ints.ln (Mat.row (by assumption) _ (by omega)) ?_)
           | (refine Ints.ix (by assumption) (by omega) ?_)
           | (refine Mat.ix (by assumption) (by omega) ?_)
           | (refine Ints.ix (Mat.row (by assumption) _ (by omega)) (by omega) ?_)
           | (refine Ints.ix (c := 0) (by assumption) (by omega) ?_)
           | (refine Mat.ix (c := 0) (by assumption) (by omega) ?_)
           | (refine Ints.ix (c := 0) (Mat.row (by assumption) _ (by omega)) (by omega) ?_)
           | (refine Ints.ixI (by assumption) (by omega) ?_)
           | (refine Mat.ixI (by assumption) (by omega) ?_)
           | (refine Ints.ixI (Mat.row (by assumption) _ (by omega)) (by omega) ?_)
           | (refine Ints.ld (by assumption) (by omega) ?_)
           | (refine Mat.ld (by assumption) (by omega) ?_)
           | (refine Ints.ld (Mat.row (by assumption) _ (by omega)) (by omega) ?_)
           | (refine At.ld (by assumption) rfl ?_)
           | (refine At.ldN (by assumption) rfl ?_))
  refine Lp.mk tyOk [false, false, false, false, true, true, false, false, true, true, true, true, true, true, true, true, true, true, true] (fun m fr wr => getK fr 8 fun j => ∃ c : Nat, c ≤ n ∧ m = n - c ∧ j = .int .i64 (c : Int) ∧ firstFrom p n 0 = firstFrom p (n - c) c ∧ wr = w1) n ?_ ?_
  · exact ⟨0, Nat.zero_le _, rfl, rfl, rfl, rfl⟩
  · intro m w3 u4 u5 u8 u9 u10 u11 u12 u13 u14 u15 u16 u17 u18 hR
    obtain ⟨c, hc, rfl, rfl, he, rfl⟩ := hR
    by_cases hlt : c < n
    · have hs : firstFrom p (n - c) c = if p c = true then (c : Int) else firstFrom p (n - (c + 1)) (c + 1) := by rw [show n - c = (n - (c + 1)) + 1 by omega]; rfl
      have hfc := hf c hlt
      cases hp : p c with
      | true =>
        rw [hp] at hfc hs
        repeat' (conv => whnf
                 first
                 | (refine Dr.quiet tyOk (by kernel_rfl) ?_)
                 | (refine Sl.ix (by assumption) (by omega) ?_)
                 | (refine Sl.ld1 (by assumption) (by omega) ?_)
                 | (refine VC.pure hfc ?_)
                 | (refine Rng.mk (by omega) ?_)
                 | (refine Split.pos (by omega) ?_)
                 | (refine Split.neg (by omega) ?_)
                 | (refine Split.mk (fun h => ?_) (fun h => ?_))
                 | (refine Need.mk (by omega) ?_)
                 | (refine Ints.ln (by assumption) ?_)
                 | (refine Mat.ln (by assumption) ?_)
                 | (refine Ints.ln (Mat.row (by assumption) _ (by omega)) ?_)
                 | (refine Ints.ix (by assumption) (by omega) ?_)
                 | (refine Mat.ix (by assumption) (by omega) ?_)
                 | (refine Ints.ix (Mat.row (by assumption) _ (by omega)) (by omega) ?_)
                 | (refine Ints.ix (c := 0) (by assumption) (by omega) ?_)
                 | (refine Mat.ix (c := 0) (by assumption) (by omega) ?_)
                 | (refine Ints.ix (c := 0) (Mat.row (by assumption) _ (by omega)) (by omega) ?_)
                 | (refine Ints.ixI (by assumption) (by omega) ?_)
                 | (refine Mat.ixI (by assumption) (by omega) ?_)
                 | (refine Ints.ixI (Mat.row (by assumption) _ (by omega)) (by omega) ?_)
                 | (refine Ints.ld (by assumption) (by omega) ?_)
                 | (refine Mat.ld (by assumption) (by omega) ?_)
                 | (refine Ints.ld (Mat.row (by assumption) _ (by omega)) (by omega) ?_)
                 | (refine At.ld (by assumption) rfl ?_)
                 | (refine At.ldN (by assumption) rfl ?_))
        rw [he, hs]; exact ⟨rfl, Ext.refl _⟩
      | false =>
        rw [hp] at hfc hs
        repeat' (conv => whnf
                 first
                 | (refine Dr.quiet tyOk (by kernel_rfl) ?_)
                 | (refine Sl.ix (by assumption) (by omega) ?_)
                 | (refine Sl.ld1 (by assumption) (by omega) ?_)
                 | (refine VC.pure hfc ?_)
                 | (refine Rng.mk (by omega) ?_)
                 | (refine Split.pos (by omega) ?_)
                 | (refine Split.neg (by omega) ?_)
                 | (refine Split.mk (fun h => ?_) (fun h => ?_))
                 | (refine Need.mk (by omega) ?_)
                 | (refine Ints.ln (by assumption) ?_)
                 | (refine Mat.ln (by assumption) ?_)
                 | (refine Ints.ln (Mat.row (by assumption) _ (by omega)) ?_)
                 | (refine Ints.ix (by assumption) (by omega) ?_)
                 | (refine Mat.ix (by assumption) (by omega) ?_)
                 | (refine Ints.ix (Mat.row (by assumption) _ (by omega)) (by omega) ?_)
                 | (refine Ints.ix (c := 0) (by assumption) (by omega) ?_)
                 | (refine Mat.ix (c := 0) (by assumption) (by omega) ?_)
                 | (refine Ints.ix (c := 0) (Mat.row (by assumption) _ (by omega)) (by omega) ?_)
                 | (refine Ints.ixI (by assumption) (by omega) ?_)
                 | (refine Mat.ixI (by assumption) (by omega) ?_)
                 | (refine Ints.ixI (Mat.row (by assumption) _ (by omega)) (by omega) ?_)
                 | (refine Ints.ld (by assumption) (by omega) ?_)
                 | (refine Mat.ld (by assumption) (by omega) ?_)
                 | (refine Ints.ld (Mat.row (by assumption) _ (by omega)) (by omega) ?_)
                 | (refine At.ld (by assumption) rfl ?_)
                 | (refine At.ldN (by assumption) rfl ?_))
        exact ⟨_, (by omega : n - (c + 1) < n - c), rfl, c + 1, by omega, rfl, rfl, by rw [he, hs]; rfl, rfl⟩
    · obtain rfl : c = n := by omega
      repeat' (conv => whnf
               first
               | (refine Dr.quiet tyOk (by kernel_rfl) ?_)
               | (refine Rng.mk (by omega) ?_)
               | (refine Split.pos (by omega) ?_)
               | (refine Split.neg (by omega) ?_)
               | (refine Split.mk (fun h => ?_) (fun h => ?_))
               | (refine Need.mk (by omega) ?_)
               | (refine Ints.ln (by assumption) ?_)
               | (refine Mat.ln (by assumption) ?_)
               | (refine Ints.ln (Mat.row (by assumption) _ (by omega)) ?_)
               | (refine Ints.ix (by assumption) (by omega) ?_)
               | (refine Mat.ix (by assumption) (by omega) ?_)
               | (refine Ints.ix (Mat.row (by assumption) _ (by omega)) (by omega) ?_)
               | (refine Ints.ix (c := 0) (by assumption) (by omega) ?_)
               | (refine Mat.ix (c := 0) (by assumption) (by omega) ?_)
               | (refine Ints.ix (c := 0) (Mat.row (by assumption) _ (by omega)) (by omega) ?_)
               | (refine Ints.ixI (by assumption) (by omega) ?_)
               | (refine Mat.ixI (by assumption) (by omega) ?_)
               | (refine Ints.ixI (Mat.row (by assumption) _ (by omega)) (by omega) ?_)
               | (refine Ints.ld (by assumption) (by omega) ?_)
               | (refine Mat.ld (by assumption) (by omega) ?_)
               | (refine Ints.ld (Mat.row (by assumption) _ (by omega)) (by omega) ?_)
               | (refine At.ld (by assumption) rfl ?_)
               | (refine At.ldN (by assumption) rfl ?_))
      rw [he, Nat.sub_self]; exact ⟨rfl, Ext.refl _⟩

theorem containsfuncR_pc {w : World} {sv : Value} {n : Nat} {xs : List Value} {g : FuncId} {cap : List Value} {p : Nat → Bool} (Hs : Sl 1 w sv n xs) (hf : ∀ i, i < n → PC Try.prog g (xs.getD i undef :: cap) w (.bool (p i))) :
    PC Try.prog 32 [sv, .func (.func g) #[] cap.toArray] w (.bool (tf (∃ i, i < n ∧ p i = true))) := by
  refine PC.mk tyOk Try.func32 rfl (by kernel_rfl) fun w1 E1 => ?_
  replace Hs := Hs.ext E1
  replace hf := fun i hi => (hf i hi).ext E1
  have hs := firstFrom_spec p n 0
  repeat' (conv => whnf
           first
           | (refine Dr.quiet tyOk (by kernel_rfl) ?_)
           | (refine VC.pure (indexfuncR_pc Hs hf) ?_)
           | (refine Rng.mk (by omega) ?_)
           | (refine Split.pos (by omega) ?_)
           | (refine Split.neg (by omega) ?_)
           | (refine Split.mk (fun h => ?_) (fun h => ?_))
           | (refine Need.mk (by omega) ?_)
           | (refine Ints.ln (by assumption) ?_)
           | (refine Mat.ln (by assumption) ?_)
           | (refine Ints.ln (Mat.row (by assumption) _ (by omega)) ?_)
           | (refine Ints.ix (by assumption) (by omega) ?_)
           | (refine Mat.ix (by assumption) (by omega) ?_)
           | (refine Ints.ix (Mat.row (by assumption) _ (by omega)) (by omega) ?_)
           | (refine Ints.ix (c := 0) (by assumption) (by omega) ?_)
           | (refine Mat.ix (c := 0) (by assumption) (by omega) ?_)
           | (refine Ints.ix (c := 0) (Mat.row (by assumption) _ (by omega)) (by omega) ?_)
           | (refine Ints.ixI (by assumption) (by omega) ?_)
           | (refine Mat.ixI (by assumption) (by omega) ?_)
           | (refine Ints.ixI (Mat.row (by assumption) _ (by omega)) (by omega) ?_)
           | (refine Ints.ld (by assumption) (by omega) ?_)
           | (refine Mat.ld (by assumption) (by omega) ?_)
           | (refine Ints.ld (Mat.row (by assumption) _ (by omega)) (by omega) ?_)
           | (refine At.ld (by assumption) rfl ?_)
           | (refine At.ldN (by assumption) rfl ?_))
  · rw [tf_t (p := ∃ i, i < n ∧ p i = true) (by
      rcases hs with ⟨j, h1, h2, h3, _⟩ | ⟨h1, _⟩
      · exact ⟨j, by omega, h3⟩
      · omega)]; exact ⟨rfl, Ext.refl _⟩
  · rw [tf_f (p := ∃ i, i < n ∧ p i = true) (by
      rintro ⟨i, hi, hp⟩
      rcases hs with ⟨j, h1, h2, h3, h4, _⟩ | ⟨_, h2⟩
      · omega
      · have := h2 i (by omega) (by omega); rw [hp] at this; cases this)]; exact ⟨rfl, Ext.refl _⟩
theorem indexfuncI_pc {w : World} {sv : Value} {n : Nat} {xs : List Value} {g : FuncId} {cap : List Value} {p : Nat → Bool} (Hs : Sl 1 w sv n xs) (hf : ∀ i, i < n → PC Try.prog g (xs.getD i undef :: cap) w (.bool (p i))) :
    PC Try.prog 45 [sv, .func (.func g) #[] cap.toArray] w (.int .i64 (firstFrom p n 0)) := by
  refine PC.mk tyOk Try.func45 rfl (by kernel_rfl) fun w1 E1 => ?_
  replace Hs := Hs.ext E1
  replace hf := fun i hi => (hf i hi).ext E1
  have hle := Hs.le
  repeat' (conv => whnf
           first
           | (refine Dr.quiet tyOk (by kernel_rfl) ?_)
           | (refine Sl.ln (by assumption) ?_)
           | (refine Rng.mk (by omega) ?_)
           | (refine Split.pos (by omega) ?_)
           | (refine Split.neg (by omega) ?_)
           | (refine Split.mk (fun h => ?_) (fun h => ?_))
           | (refine Need.mk (by omega) ?_)
           | (refine Ints.ln (by assumption) ?_)
           | (refine Mat.ln (by assumption) ?_)
           | (refine Ints.ln (Mat.row (by assumption) _ (by omega)) ?_)
           | (refine Ints.ix (by assumption) (by omega) ?_)
           | (refine Mat.ix (by assumption) (by omega) ?_)
           | (refine Ints.ix (Mat.row (by assumption) _ (by omega)) (by omega) ?_)
           | (refine Ints.ix (c := 0) (by assumption) (by omega) ?_)
           | (refine Mat.ix (c := 0) (by assumption) (by omega) ?_)
           | (refine Ints.ix (c := 0) (Mat.row (by assumption) _ (by omega)) (by omega) ?_)
           | (refine Ints.ixI (by assumption) (by omega) ?_)
           | (refine Mat.ixI (by assumption) (by omega) ?_)
           | (refine Ints.ixI (Mat.row (by assumption) _ (by omega)) (by omega) ?_)
           | (refine Ints.ld (by assumption) (by omega) ?_)
           | (refine Mat.ld (by assumption) (by omega) ?_)
           | (refine Ints.ld (Mat.row (by assumption) _ (by omega)) (by omega) ?_)
           | (refine At.ld (by assumption) rfl ?_)
           | (refine At.ldN (by assumption) rfl ?_))
  refine Lp.mk tyOk [false, false, false, false, true, true, false, false, true, true, true, true, true, true, true, true, true, true, true] (fun m fr wr => getK fr 8 fun j => ∃ c : Nat, c ≤ n ∧ m = n - c ∧ j = .int .i64 (c : Int) ∧ firstFrom p n 0 = firstFrom p (n - c) c ∧ wr = w1) n ?_ ?_
  · exact ⟨0, Nat.zero_le _, rfl, rfl, rfl, rfl⟩
  · intro m w3 u4 u5 u8 u9 u10 u11 u12 u13 u14 u15 u16 u17 u18 hR
    obtain ⟨c, hc, rfl, rfl, he, rfl⟩ := hR
    by_cases hlt : c < n
    · have hs : firstFrom p (n - c) c = if p c = true then (c : Int) else firstFrom p (n - (c + 1)) (c + 1) := by rw [show n - c = (n - (c + 1)) + 1 by omega]; rfl
      have hfc := hf c hlt
      cases hp : p c with
      | true =>
        rw [hp] at hfc hs
        repeat' (conv => whnf
                 first
                 | (refine Dr.quiet tyOk (by kernel_rfl) ?_)
                 | (refine Sl.ix (by assumption) (by omega) ?_)
                 | (refine Sl.ld1 (by assumption) (by omega) ?_)
                 | (refine VC.pure hfc ?_)
                 | (refine Rng.mk (by omega) ?_)
                 | (refine Split.pos (by omega) ?_)
                 | (refine Split.neg (by omega) ?_)
                 | (refine Split.mk (fun h => ?_) (fun h => ?_))
                 | (refine Need.mk (by omega) ?_)
                 | (refine Ints.ln (by assumption) ?_)
                 | (refine Mat.ln (by assumption) ?_)
                 | (refine Ints.ln (Mat.row (by assumption) _ (by omega)) ?_)
                 | (refine Ints.ix (by assumption) (by omega) ?_)
                 | (refine Mat.ix (by assumption) (by omega) ?_)
                 | (refine Ints.ix (Mat.row (by assumption) _ (by omega)) (by omega) ?_)
                 | (refine Ints.ix (c := 0) (by assumption) (by omega) ?_)
                 | (refine Mat.ix (c := 0) (by assumption) (by omega) ?_)
                 | (refine Ints.ix (c := 0) (Mat.row (by assumption) _ (by omega)) (by omega) ?_)
                 | (refine Ints.ixI (by assumption) (by omega) ?_)
                 | (refine Mat.ixI (by assumption) (by omega) ?_)
                 | (refine Ints.ixI (Mat.row (by assumption) _ (by omega)) (by omega) ?_)
                 | (refine Ints.ld (by assumption) (by omega) ?_)
                 | (refine Mat.ld (by assumption) (by omega) ?_)
                 | (refine Ints.ld (Mat.row (by assumption) _ (by omega)) (by omega) ?_)
                 | (refine At.ld (by assumption) rfl ?_)
                 | (refine At.ldN (by assumption) rfl ?_))
        rw [he, hs]; exact ⟨rfl, Ext.refl _⟩
      | false =>
        rw [hp] at hfc hs
        repeat' (conv => whnf
                 first
                 | (refine Dr.quiet tyOk (by kernel_rfl) ?_)
                 | (refine Sl.ix (by assumption) (by omega) ?_)
                 | (refine Sl.ld1 (by assumption) (by omega) ?_)
                 | (refine VC.pure hfc ?_)
                 | (refine Rng.mk (by omega) ?_)
                 | (refine Split.pos (by omega) ?_)
                 | (refine Split.neg (by omega) ?_)
                 | (refine Split.mk (fun h => ?_) (fun h => ?_))
                 | (refine Need.mk (by omega) ?_)
                 | (refine Ints.ln (by assumption) ?_)
                 | (refine Mat.ln (by assumption) ?_)
                 | (refine Ints.ln (Mat.row (by assumption) _ (by omega)) ?_)
                 | (refine Ints.ix (by assumption) (by omega) ?_)
                 | (refine Mat.ix (by assumption) (by omega) ?_)
                 | (refine Ints.ix (Mat.row (by assumption) _ (by omega)) (by omega) ?_)
                 | (refine Ints.ix (c := 0) (by assumption) (by omega) ?_)
                 | (refine Mat.ix (c := 0) (by assumption) (by omega) ?_)
                 | (refine Ints.ix (c := 0) (Mat.row (by assumption) _ (by omega)) (by omega) ?_)
                 | (refine Ints.ixI (by assumption) (by omega) ?_)
                 | (refine Mat.ixI (by assumption) (by omega) ?_)
                 | (refine Ints.ixI (Mat.row (by assumption) _ (by omega)) (by omega) ?_)
                 | (refine Ints.ld (by assumption) (by omega) ?_)
                 | (refine Mat.ld (by assumption) (by omega) ?_)
                 | (refine Ints.ld (Mat.row (by assumption) _ (by omega)) (by omega) ?_)
                 | (refine At.ld (by assumption) rfl ?_)
                 | (refine At.ldN (by assumption) rfl ?_))
        exact ⟨_, (by omega : n - (c + 1) < n - c), rfl, c + 1, by omega, rfl, rfl, by rw [he, hs]; rfl, rfl⟩
    · obtain rfl : c = n := by omega
      repeat' (conv => whnf
               first
               | (refine Dr.quiet tyOk (by kernel_rfl) ?_)
               | (refine Rng.mk (by omega) ?_)
               | (refine Split.pos (by omega) ?_)
               | (refine Split.neg (by omega) ?_)
               | (refine Split.mk (fun h => ?_) (fun h => ?_))
               | (refine Need.mk (by omega) ?_)
               | (refine Ints.ln (by assumption) ?_)
               | (refine Mat.ln (by assumption) ?_)
               | (refine Ints.ln (Mat.row (by assumption) _ (by omega)) ?_)
               | (refine Ints.ix (by assumption) (by omega) ?_)
               | (refine Mat.ix (by assumption) (by omega) ?_)
               | (refine Ints.ix (Mat.row (by assumption) _ (by omega)) (by omega) ?_)
               | (refine Ints.ix (c := 0) (by assumption) (by omega) ?_)
               | (refine Mat.ix (c := 0) (by assumption) (by omega) ?_)
               | (refine Ints.ix (c := 0) (Mat.row (by assumption) _ (by omega)) (by omega) ?_)
               | (refine Ints.ixI (by assumption) (by omega) ?_)
               | (refine Mat.ixI (by assumption) (by omega) ?_)
               | (refine Ints.ixI (Mat.row (by assumption) _ (by omega)) (by omega) ?_)
               | (refine Ints.ld (by assumption) (by omega) ?_)
               | (refine Mat.ld (by assumption) (by omega) ?_)
               | (refine Ints.ld (Mat.row (by assumption) _ (by omega)) (by omega) ?_)
               | (refine At.ld (by assumption) rfl ?_)
               | (refine At.ldN (by assumption) rfl ?_))
      rw [he, Nat.sub_self]; exact ⟨rfl, Ext.refl _⟩

theorem containsfuncI_pc {w : World} {sv : Value} {n : Nat} {xs : List Value} {g : FuncId} {cap : List Value} {p : Nat → Bool} (Hs : Sl 1 w sv n xs) (hf : ∀ i, i < n → PC Try.prog g (xs.getD i undef :: cap) w (.bool (p i))) :
    PC Try.prog 35 [sv, .func (.func g) #[] cap.toArray] w (.bool (tf (∃ i, i < n ∧ p i = true))) := by
  refine PC.mk tyOk Try.func35 rfl (by kernel_rfl) fun w1 E1 => ?_
  replace Hs := Hs.ext E1
  replace hf := fun i hi => (hf i hi).ext E1
  have hs := firstFrom_spec p n 0
  repeat' (conv => whnf
           first
           | (refine Dr.quiet tyOk (by kernel_rfl) ?_)
           | (refine VC.pure (indexfuncI_pc Hs hf) ?_)
           | (refine Rng.mk (by omega) ?_)
           | (refine Split.pos (by omega) ?_)
           | (refine Split.neg (by omega) ?_)
           | (refine Split.mk (fun h => ?_) (fun h => ?_))
           | (refine Need.mk (by omega) ?_)
           | (refine Ints.ln (by assumption) ?_)
           | (refine Mat.ln (by assumption) ?_)
           | (refine Ints.ln (Mat.row (by assumption) _ (by omega)) ?_)
           | (refine Ints.ix (by assumption) (by omega) ?_)
           | (refine Mat.ix (by assumption) (by omega) ?_)
           | (refine Ints.ix (Mat.row (by assumption) _ (by omega)) (by omega) ?_)
           | (refine Ints.ix (c := 0) (by assumption) (by omega) ?_)
           | (refine Mat.ix (c := 0) (by assumption) (by omega) ?_)
           | (refine Ints.ix (c := 0) (Mat.row (by assumption) _ (by omega)) (by omega) ?_)
           | (refine Ints.ixI (by assumption) (by omega) ?_)
           | (refine Mat.ixI (by assumption) (by omega) ?_)
           | (refine Ints.ixI (Mat.row (by assumption) _ (by omega)) (by omega) ?_)
           | (refine Ints.ld (by assumption) (by omega) ?_)
           | (refine Mat.ld (by assumption) (by omega) ?_)
           | (refine Ints.ld (Mat.row (by assumption) _ (by omega)) (by omega) ?_)
           | (refine At.ld (by assumption) rfl ?_)
           | (refine At.ldN (by assumption) rfl ?_))
  · rw [tf_t (p := ∃ i, i < n ∧ p i = true) (by
      rcases hs with ⟨j, h1, h2, h3, _⟩ | ⟨h1, _⟩
      · exact ⟨j, by omega, h3⟩
      · omega)]; exact ⟨rfl, Ext.refl _⟩
  · rw [tf_f (p := ∃ i, i < n ∧ p i = true) (by
      rintro ⟨i, hi, hp⟩
      rcases hs with ⟨j, h1, h2, h3, h4, _⟩ | ⟨_, h2⟩
      · omega
      · have := h2 i (by omega) (by omega); rw [hp] at this; cases this)]; exact ⟨rfl, Ext.refl _⟩

def odd (x : Int) : Bool := decide (x < 0) || decide (1000 < x)
theorem Ints.elem {w : World} {v : Value} {l : List Int} {i : Nat} (h : i < l.length) : (l.map i64v).getD i undef = .int .i64 (l.getD i 0) := by simp [List.getD, h, i64v]

end Go.Proofs.Ytclbiabiiknolaa
set_option linter.unusedVariables false
set_option linter.unusedSimpArgs false
namespace Go.Proofs.Ytclbiabiiknolaa
open Go.Eng
set_option maxRecDepth 100000

theorem eInt : Elem Try.prog 3 (.int .i64 0) 1 8 := by unfold Elem; kernel_rfl
theorem eRow : Elem Try.prog 24 (.slice none 0 0) 1 24 := by unfold Elem; kernel_rfl
/-- A row of ints, and a matrix, that the call has made. -/
abbrev OI (w : World) (v : Value) (l : List Int) : Prop := Own 0 3 1 w v l.length (l.map i64v)
theorem OI.of {B n : Nat} {w : World} {v : Value} {l : List Int} (h : Own B 3 1 w v n (l.map i64v)) : OI w v l := by
  have e : n = l.length := by have := Own.len h; simpa using this.symm
  subst e; exact Own.base h (Nat.zero_le _)
structure OM (B : Nat) (w : World) (v : Value) (vs : List Value) (rr : List (List Int)) : Prop where
  top : Own B 24 1 w v rr.length vs
  row : ∀ i, i < rr.length → OI w (vs.getD i undef) (rr.getD i [])
theorem OM.mat {B : Nat} {w : World} {v : Value} {vs : List Value} {rr : List (List Int)} (h : OM B w v vs rr) : Mat w v vs rr := ⟨h.top.sl, fun i hi => (h.row i hi).sl⟩
theorem OM.ext {B : Nat} {w w' : World} {v : Value} {vs : List Value} {rr : List (List Int)} (h : OM B w v vs rr) (hg : Ext w w') : OM B w' v vs rr := ⟨Own.ext h.top hg, fun i hi => Own.ext (h.row i hi) hg⟩
theorem OM.base {B B' : Nat} {w : World} {v : Value} {vs : List Value} {rr : List (List Int)} (h : OM B w v vs rr) (hB : B' ≤ B) : OM B' w v vs rr := ⟨Own.base h.top hB, h.row⟩
theorem OM.nil {B : Nat} {w : World} : OM B w (.slice none 0 0) [] [] := ⟨Own.nil, fun _ hi => absurd hi (Nat.not_lt_zero _)⟩
theorem OM.push {B B' : Nat} {w w' : World} {v v' x : Value} {vs : List Value} {rr : List (List Int)} {l : List Int} (h : OM B w v vs rr) (hr : OI w x l) (hg : Gr (fun k => v.ownBlock = some k) w w') (ho : Own B' 24 1 w' v' (rr.length + 1) (vs ++ [x])) :
    OM B' w' v' (vs ++ [x]) (rr ++ [l]) := by
  have hl : vs.length = rr.length := by have := h.top.len; omega
  refine ⟨by simpa using ho, fun i hi => ?_⟩
  have keep : ∀ {y : Value} {m : List Int}, OI w y m → OI w' y m := fun {y m} hy => Own.gr hy hg fun k hk hk' => Own.ne hy h.top (by decide) k hk hk'
  by_cases e : i < rr.length
  · have := keep (h.row i e)
    simpa [List.getD, List.getElem?_append_left, hl, e] using this
  · have e2 : i = rr.length := by simp at hi; omega
    subst e2
    have := keep hr
    simpa [List.getD, hl] using this

end Go.Proofs.Ytclbiabiiknolaa
set_option linter.unusedVariables false
set_option linter.unusedSimpArgs false
namespace Go.Proofs.Ytclbiabiiknolaa
open Go.Eng
set_option maxRecDepth 100000

theorem cells3 : Try.prog.cellsOf 3 = 1 := by kernel_rfl

theorem take_snoc {α : Type} (d : α) (l : List α) (c : Nat) (h : c < l.length) : l.take (c + 1) = l.take c ++ [l.getD c d] := by
  rw [List.take_succ_eq_append_getElem h]
  simp [List.getD, h]

end Go.Proofs.Ytclbiabiiknolaa
set_option linter.unusedVariables false
set_option linter.unusedSimpArgs false
namespace Go.Proofs.Ytclbiabiiknolaa
open Go.Eng
set_option maxRecDepth 100000

theorem map_range_succ {α : Type} (f : Nat → α) (c : Nat) : (List.range (c + 1)).map f = (List.range c).map f ++ [f c] := by simp [List.range_succ]

theorem flatP_snoc (l : List (Int × Int)) (x y : Int) : flatP l ++ [.int .i64 x, .int .i64 y] = flatP (l ++ [(x, y)]) := by rw [flatP_app]; rfl

end Go.Proofs.Ytclbiabiiknolaa
set_option linter.unusedVariables false
set_option linter.unusedSimpArgs false
namespace Go.Proofs.Ytclbiabiiknolaa
open Go.Eng
set_option maxRecDepth 100000

/-- the row of values when c goods are counted -/
def rowTo (a r : List Int) (n c : Nat) : List Int := (List.range n).map fun (k : Nat) => worth a r k c
theorem rowTo_len (a r : List Int) (n c : Nat) : (rowTo a r n c).length = n := by simp [rowTo]
theorem rowTo_get {a r : List Int} {n c k : Nat} (h : k < n) : (rowTo a r n c).getD k 0 = worth a r k c := by simp [rowTo, List.getD, h]
theorem rowTo_set {a r : List Int} {n c : Nat} {k : Int} (hk : a.getD c 0 = k) (h0 : 0 ≤ k) (h : k < n) : (rowTo a r n c).set k.toNat ((rowTo a r n c).getD k.toNat 0 + r.getD c 0) = rowTo a r n (c + 1) := by
  apply ext_getD 0
  · simp [rowTo]
  · intro i hi
    have hi' : i < n := by simpa [rowTo] using hi
    rw [rowTo_get hi', rowTo_get (by omega : k.toNat < n)]
    by_cases e : i = k.toNat
    · subst e
      have e2 : ((k.toNat : Nat) : Int) = k := by omega
      rw [List.getD, List.getElem?_set_self (by rw [rowTo_len]; exact hi')]
      simp only [Option.getD_some, worth, e2, if_pos hk]
    · rw [List.getD, List.getElem?_set_ne (fun h => e h.symm)]
      have : (rowTo a r n c)[i]?.getD 0 = worth a r i c := by have := rowTo_get (a := a) (r := r) (c := c) hi'; simpa [List.getD] using this
      rw [this]
      simp only [worth]
      rw [if_neg (by omega)]; omega
theorem rowTo_skip {a r : List Int} {n c : Nat} (h : a.getD c 0 < 0) : rowTo a r n (c + 1) = rowTo a r n c := by
  apply ext_getD 0
  · simp [rowTo]
  · intro i hi
    have hi' : i < n := by simpa [rowTo] using hi
    rw [rowTo_get hi', rowTo_get hi']
    simp only [worth]
    rw [if_neg (by omega)]; omega
theorem rowTo_zero (a r : List Int) (n : Nat) : (rowTo a r n 0).map i64v = List.replicate n (.int .i64 0) := by
  rw [List.eq_replicate_iff]; simp [rowTo, worth, i64v]

theorem set_map (l : List Int) (k : Nat) (x : Int) : (l.map i64v).set k (.int .i64 x) = (l.set k x).map i64v := by rw [List.map_set]; rfl

theorem vals_len (rr : List (List Int)) (a : List Int) : (vals rr a).length = rr.length := by simp [vals]
theorem vals_row {rr : List (List Int)} {a : List Int} {i : Nat} (h : i < rr.length) : (vals rr a).getD i [] = (List.range rr.length).map fun (k : Nat) => wth rr a i k := by simp [vals, List.getD, h]
theorem vals_rlen {rr : List (List Int)} {a : List Int} {i : Nat} (h : i < rr.length) : ((vals rr a).getD i []).length = rr.length := by rw [vals_row h]; simp
theorem vals_get {rr : List (List Int)} {a : List Int} {i k : Nat} (h : i < rr.length) (hk : k < rr.length) : ((vals rr a).getD i []).getD k 0 = wth rr a i k := by rw [vals_row h]; simp [List.getD, hk]

end Go.Proofs.Ytclbiabiiknolaa
set_option linter.unusedVariables false
set_option linter.unusedSimpArgs false
namespace Go.Proofs.Ytclbiabiiknolaa
open Go.Eng
abbrev OB (B : Nat) (w : World) (v : Value) (l : List Int) : Prop := Own B 3 1 w v l.length (l.map i64v)
theorem OB.set {B k : Nat} {x : Int} {w : World} {v : Value} {l : List Int} {K : World → Prop} (h : OB B w v l) (hk : k < l.length) (hK : ∀ w', Gr (fun j => v.ownBlock = some j) w w' → OB B w' v (l.set k x) → K w') : St w (ea v k) (.int .i64 x) K :=
  Own.set h (by rw [List.length_map]; exact hk) rfl fun w' hg h' => hK w' hg (by
    rw [set_map] at h'
    show Own B 3 1 w' v (l.set k x).length _
    rw [List.length_set]; exact h')
theorem OB.made {B n : Nat} {w : World} {v : Value} (h : Own B 3 1 w v n (List.replicate n (.int .i64 0))) : OB B w v (List.replicate n 0) := by
  show Own B 3 1 w v (List.replicate n (0 : Int)).length ((List.replicate n (0 : Int)).map i64v)
  rw [List.length_replicate, List.map_replicate]; exact h
end Go.Proofs.Ytclbiabiiknolaa
set_option linter.unusedVariables false
set_option linter.unusedSimpArgs false
namespace Go.Proofs.Ytclbiabiiknolaa
open Go.Eng

/-- the sum of the first n values -/
def sumK (f : Nat → Int) : Nat → Int
  | 0 => 0
  | k + 1 => sumK f k + f k

theorem sumK_congr {f g : Nat → Int} : ∀ {n : Nat}, (∀ k, k < n → f k = g k) → sumK f n = sumK g n
  | 0, _ => rfl
  | n + 1, h => by simp only [sumK]; rw [sumK_congr (fun k hk => h k (by omega)), h n (by omega)]
theorem sumK_add (f g : Nat → Int) : ∀ n, sumK (fun k => f k + g k) n = sumK f n + sumK g n
  | 0 => rfl
  | n + 1 => by simp only [sumK, sumK_add f g n]; omega
theorem sumK_zero : ∀ n, sumK (fun _ => 0) n = 0
  | 0 => rfl
  | n + 1 => by simp only [sumK, sumK_zero n]; rfl
theorem sumK_le {f g : Nat → Int} : ∀ {n : Nat}, (∀ k, k < n → f k ≤ g k) → sumK f n ≤ sumK g n
  | 0, _ => Int.le_refl _
  | n + 1, h => by have := sumK_le (f := f) (g := g) (n := n) (fun k hk => h k (by omega)); have := h n (by omega); simp only [sumK]; omega
theorem sumK_const (x : Int) : ∀ n : Nat, sumK (fun _ => x) n = (n : Int) * x
  | 0 => by simp [sumK]
  | n + 1 => by simp only [sumK, sumK_const x n, Int.natCast_add, Int.add_mul]; simp
theorem sumK_ind (v x : Int) : ∀ n : Nat, sumK (fun k : Nat => if v = (k : Int) then x else 0) n = if 0 ≤ v ∧ v < n then x else 0
  | 0 => by simp only [sumK]; rw [if_neg (by omega)]
  | n + 1 => by
    simp only [sumK, sumK_ind v x n]
    by_cases h : v = (n : Int)
    · rw [if_pos h, if_neg (by omega), if_pos (by omega)]; omega
    · by_cases h2 : 0 ≤ v ∧ v < n
      · rw [if_neg h, if_pos h2, if_pos (by omega)]; omega
      · rw [if_neg h, if_neg h2, if_neg (by omega)]; omega

/-- the value by the row r of the goods, of the first c, that somebody gets -/
def someTo (a r : List Int) : Nat → Int
  | 0 => 0
  | c + 1 => someTo a r c + if 0 ≤ a.getD c 0 then r.getD c 0 else 0

theorem sumK_worth {a r : List Int} {n : Nat} : ∀ {c : Nat}, (∀ j, j < c → a.getD j 0 < n) → sumK (fun k : Nat => worth a r k c) n = someTo a r c
  | 0, _ => by simp only [worth, someTo]; exact sumK_zero n
  | c + 1, h => by
    simp only [worth, someTo]
    rw [sumK_add, sumK_worth (fun j hj => h j (by omega)), sumK_ind]
    have := h c (by omega)
    by_cases h0 : 0 ≤ a.getD c 0
    · rw [if_pos h0, if_pos ⟨h0, this⟩]
    · rw [if_neg h0, if_neg (by omega)]

theorem someTo_all {a r : List Int} : ∀ {c : Nat}, (∀ j, j < c → 0 ≤ a.getD j 0) → someTo a r c = sumTo r c
  | 0, _ => rfl
  | c + 1, h => by simp only [someTo, sumTo]; rw [someTo_all (fun j hj => h j (by omega)), if_pos (h c (by omega))]

theorem someTo_bd {a r : List Int} (h : ∀ j, 0 ≤ r.getD j 0 ∧ r.getD j 0 ≤ 1000) : ∀ c : Nat, 0 ≤ someTo a r c ∧ someTo a r c ≤ 1000 * c
  | 0 => by simp [someTo]
  | c + 1 => by have := someTo_bd (a := a) h c; have := h c; simp only [someTo]; split <;> omega

/-- The bundles' values of a valid allocation. -/
theorem sum_wth {rr : List (List Int)} {a : List Int} (h : vld rr a = 0) (i : Nat) : sumK (fun k : Nat => wth rr a i k) rr.length = someTo a (rr.getD i []) a.length := by
  have hal := al_of_vld h
  exact sumK_worth (fun j hj => (hal.rng j (by rw [← hal.len]; exact hj)).2)

theorem sum_wth_all {rr : List (List Int)} {a : List Int} (h : vld rr a = 0) (hc : ∀ k, k < a.length → 0 ≤ a.getD k 0) {i : Nat} (hi : i < rr.length) : sumK (fun k : Nat => wth rr a i k) rr.length = allv rr i := by
  have hal := al_of_vld h
  rw [sum_wth h, someTo_all hc, allv, hal.row i hi, hal.len]

/-! ### members -/
theorem mem_envRow {f : Nat → Int} {i : Nat} {p : Int × Int} : ∀ {c : Nat}, p ∈ envRow f i c ↔ ∃ k, k < c ∧ f i < f k ∧ p = ((i : Int), (k : Int))
  | 0 => by simp [envRow]
  | c + 1 => by
    simp only [envRow, List.mem_append, mem_envRow (c := c)]
    constructor
    · rintro (⟨k, h1, h2, h3⟩ | h)
      · exact ⟨k, by omega, h2, h3⟩
      · split at h
        · simp at h; exact ⟨c, by omega, by assumption, h⟩
        · simp at h
    · rintro ⟨k, h1, h2, h3⟩
      by_cases e : k = c
      · subst e; right; rw [if_pos h2, h3]; simp
      · left; exact ⟨k, by omega, h2, h3⟩
theorem mem_envTo {f : Nat → Nat → Int} {n : Nat} {p : Int × Int} : ∀ {c : Nat}, p ∈ envTo f n c ↔ ∃ i k, i < c ∧ k < n ∧ f i i < f i k ∧ p = ((i : Int), (k : Int))
  | 0 => by simp [envTo]
  | c + 1 => by
    simp only [envTo, List.mem_append, mem_envTo (c := c), mem_envRow]
    constructor
    · rintro (⟨i, k, h1, h2, h3, h4⟩ | ⟨k, h1, h2, h3⟩)
      · exact ⟨i, k, by omega, h2, h3, h4⟩
      · exact ⟨c, k, by omega, h1, h2, h3⟩
    · rintro ⟨i, k, h1, h2, h3, h4⟩
      by_cases e : i = c
      · subst e; right; exact ⟨k, h2, h3, h4⟩
      · left; exact ⟨i, k, by omega, h2, h3, h4⟩
theorem mem_filt {p : Nat → Bool} {x : Int} : ∀ {c : Nat}, x ∈ filt p c ↔ ∃ i, i < c ∧ p i = true ∧ x = (i : Int)
  | 0 => by simp [filt]
  | c + 1 => by
    simp only [filt, List.mem_append, mem_filt (c := c)]
    constructor
    · rintro (⟨i, h1, h2, h3⟩ | h)
      · exact ⟨i, by omega, h2, h3⟩
      · split at h
        · simp at h; exact ⟨c, by omega, by assumption, h⟩
        · simp at h
    · rintro ⟨i, h1, h2, h3⟩
      by_cases e : i = c
      · subst e; right; rw [if_pos h2, h3]; simp
      · left; exact ⟨i, by omega, h2, h3⟩

/-- Who is poor in a complete allocation envies somebody. -/
theorem poor_envies {rr : List (List Int)} {a : List Int} (h : vld rr a = 0) (hc : ∀ k, k < a.length → 0 ≤ a.getD k 0) {i : Nat} (hi : i < rr.length) (hp : isPoor rr a i = true) : ∃ k, k < rr.length ∧ wth rr a i i < wth rr a i k := by
  apply Classical.byContradiction
  intro hn
  have hle : ∀ k, k < rr.length → wth rr a i k ≤ wth rr a i i := fun k hk => by
    apply Classical.byContradiction; intro e; exact hn ⟨k, hk, by omega⟩
  have h1 := sumK_le (f := fun k : Nat => wth rr a i k) (g := fun _ => wth rr a i i) hle
  rw [sum_wth_all h hc hi, sumK_const] at h1
  simp only [isPoor, decide_eq_true_eq] at hp
  omega

theorem poor_found {rr : List (List Int)} {a : List Int} (h : vld rr a = 0) (hc : ∀ k, k < a.length → 0 ≤ a.getD k 0) {x : Int} (hx : x ∈ poor rr a) : ∃ y, (x, y) ∈ envs rr a := by
  obtain ⟨i, hi, hp, rfl⟩ := mem_filt.1 hx
  obtain ⟨k, hk, hl⟩ := poor_envies h hc hi hp
  exact ⟨(k : Int), mem_envTo.2 ⟨i, k, hi, hk, hl, rfl⟩⟩

/-- Two agents: who is not poor envies nobody. -/
theorem two_fair {rr : List (List Int)} {a : List Int} (h : vld rr a = 0) (hc : ∀ k, k < a.length → 0 ≤ a.getD k 0) (h2 : rr.length = 2) (hp : poor rr a = []) : envs rr a = [] := by
  apply List.eq_nil_iff_forall_not_mem.2
  intro p hpm
  obtain ⟨i, k, hi, hk, hl, rfl⟩ := mem_envTo.1 hpm
  have hnp : ¬ isPoor rr a i = true := fun hh => by
    have : (i : Int) ∈ poor rr a := mem_filt.2 ⟨i, hi, hh, rfl⟩
    rw [hp] at this; simp at this
  simp only [isPoor, decide_eq_true_eq] at hnp
  have hs := sum_wth_all h hc hi
  rw [h2] at hs hnp
  simp only [sumK] at hs
  have hi' : i = 0 ∨ i = 1 := by omega
  have hk' : k = 0 ∨ k = 1 := by omega
  rcases hi' with rfl | rfl <;> rcases hk' with rfl | rfl <;> simp at hs hnp hl ⊢ <;> omega

/-! ### places in the lists -/
theorem envRow_pre {f : Nat → Int} {i c : Nat} : ∀ {d : Nat}, c ≤ d → envRow f i c <+: envRow f i d
  | 0, h => by rw [Nat.le_zero.1 h]; exact List.prefix_refl _
  | d + 1, h => by
    by_cases e : c = d + 1
    · rw [e]; exact List.prefix_refl _
    · exact (envRow_pre (d := d) (by omega)).trans (by simp only [envRow]; exact List.prefix_append _ _)
theorem envTo_pre {f : Nat → Nat → Int} {n c : Nat} : ∀ {d : Nat}, c ≤ d → envTo f n c <+: envTo f n d
  | 0, h => by rw [Nat.le_zero.1 h]; exact List.prefix_refl _
  | d + 1, h => by
    by_cases e : c = d + 1
    · rw [e]; exact List.prefix_refl _
    · exact (envTo_pre (d := d) (by omega)).trans (by simp only [envTo]; exact List.prefix_append _ _)
theorem filt_pre {p : Nat → Bool} {c : Nat} : ∀ {d : Nat}, c ≤ d → filt p c <+: filt p d
  | 0, h => by rw [Nat.le_zero.1 h]; exact List.prefix_refl _
  | d + 1, h => by
    by_cases e : c = d + 1
    · rw [e]; exact List.prefix_refl _
    · exact (filt_pre (d := d) (by omega)).trans (by simp only [filt]; exact List.prefix_append _ _)
theorem pre_get {α : Type} {l m : List α} {x d : α} (h : l ++ [x] <+: m) : l.length < m.length ∧ m.getD l.length d = x := by
  obtain ⟨t, rfl⟩ := h
  constructor
  · simp
  · simp [List.getD]
theorem env_at {f : Nat → Nat → Int} {n c k : Nat} (hc : c < n) (hk : k < n) (hl : f c c < f c k) :
    (envTo f n c ++ envRow (f c) c k).length < (envTo f n n).length ∧ (envTo f n n).getD (envTo f n c ++ envRow (f c) c k).length (0, 0) = ((c : Int), (k : Int)) := by
  apply pre_get
  have h1 : envTo f n c ++ envRow (f c) c (k + 1) <+: envTo f n (c + 1) := by
    simp only [envTo]
    exact (List.prefix_append_right_inj _).2 (envRow_pre (by omega))
  have h2 : envTo f n c ++ envRow (f c) c k ++ [((c : Int), (k : Int))] = envTo f n c ++ envRow (f c) c (k + 1) := by simp only [envRow, if_pos hl, List.append_assoc]
  rw [h2]
  exact h1.trans (envTo_pre hc)
theorem filt_at {p : Nat → Bool} {n c : Nat} (hc : c < n) (hp : p c = true) : (filt p c).length < (filt p n).length ∧ (filt p n).getD (filt p c).length 0 = (c : Int) := by
  apply pre_get
  have h2 : filt p c ++ [(c : Int)] = filt p (c + 1) := by simp only [filt, if_pos hp]
  rw [h2]
  exact filt_pre hc
theorem sumK_bd {f : Nat → Int} {X : Int} (h : ∀ k, 0 ≤ f k ∧ f k ≤ X) : ∀ n : Nat, 0 ≤ sumK f n ∧ sumK f n ≤ X * n
  | 0 => by simp [sumK]
  | n + 1 => by
    have := sumK_bd h n; have h2 := h n
    simp only [sumK]
    have e : X * ((n + 1 : Nat) : Int) = X * n + X := by rw [Int.natCast_add, Int.mul_add]; simp
    omega
end Go.Proofs.Ytclbiabiiknolaa
set_option linter.unusedVariables false
set_option linter.unusedSimpArgs false
namespace Go.Proofs.Ytclbiabiiknolaa
open Go.Eng

/-- how often j stands among the first c -/
def cntTo (o : List Int) (j : Int) : Nat → Int
  | 0 => 0
  | c + 1 => cntTo o j c + if o.getD c 0 = j then 1 else 0
/-- how many of the first c lie below n -/
def inTo (o : List Int) (n : Nat) : Nat → Int
  | 0 => 0
  | c + 1 => inTo o n c + if 0 ≤ o.getD c 0 ∧ o.getD c 0 < n then 1 else 0
theorem cntTo_bd (o : List Int) (j : Int) : ∀ c : Nat, 0 ≤ cntTo o j c ∧ cntTo o j c ≤ c
  | 0 => by simp [cntTo]
  | c + 1 => by have := cntTo_bd o j c; simp only [cntTo]; split <;> omega
theorem inTo_bd (o : List Int) (n : Nat) : ∀ c : Nat, 0 ≤ inTo o n c ∧ inTo o n c ≤ c
  | 0 => by simp [inTo]
  | c + 1 => by have := inTo_bd o n c; simp only [inTo]; split <;> omega
theorem sum_cnt (o : List Int) (n : Nat) : ∀ c : Nat, sumK (fun j : Nat => cntTo o j c) n = inTo o n c
  | 0 => by simp only [cntTo, inTo]; exact sumK_zero n
  | c + 1 => by simp only [cntTo, inTo]; rw [sumK_add, sum_cnt o n c, sumK_ind]
theorem inTo_all {o : List Int} {n : Nat} : ∀ {c : Nat}, inTo o n c = c → ∀ i, i < c → 0 ≤ o.getD i 0 ∧ o.getD i 0 < n
  | 0, _, i, hi => absurd hi (Nat.not_lt_zero _)
  | c + 1, h, i, hi => by
    have hb := inTo_bd o n c
    simp only [inTo] at h
    by_cases hc : 0 ≤ o.getD c 0 ∧ o.getD c 0 < n
    · rw [if_pos hc] at h
      by_cases e : i = c
      · subst e; exact hc
      · exact inTo_all (c := c) (by omega) i (by omega)
    · rw [if_neg hc] at h; omega
theorem cntTo_pos {o : List Int} {j : Int} : ∀ {c : Nat}, 1 ≤ cntTo o j c ↔ ∃ i, i < c ∧ o.getD i 0 = j
  | 0 => by simp [cntTo]
  | c + 1 => by
    have hb := cntTo_bd o j c
    simp only [cntTo]
    constructor
    · intro h
      by_cases e : o.getD c 0 = j
      · exact ⟨c, by omega, e⟩
      · rw [if_neg e] at h
        obtain ⟨i, hi, e2⟩ := (cntTo_pos (o := o) (j := j) (c := c)).1 (by omega)
        exact ⟨i, by omega, e2⟩
    · rintro ⟨i, hi, e⟩
      by_cases hic : i = c
      · subst hic; rw [if_pos e]; omega
      · have := (cntTo_pos (c := c)).2 ⟨i, by omega, e⟩
        split <;> omega
theorem sumK_ones {f : Nat → Int} : ∀ {n : Nat}, (∀ k, k < n → 1 ≤ f k) → (n : Int) ≤ sumK f n ∧ (sumK f n ≤ n → ∀ k, k < n → f k = 1)
  | 0, _ => ⟨by simp [sumK], fun _ k hk => absurd hk (Nat.not_lt_zero _)⟩
  | n + 1, h => by
    obtain ⟨h1, h2⟩ := sumK_ones (f := f) (n := n) (fun k hk => h k (by omega))
    have h3 := h n (by omega)
    refine ⟨by simp only [sumK]; omega, fun h4 k hk => ?_⟩
    simp only [sumK] at h4
    by_cases e : k = n
    · subst e; omega
    · exact h2 (by omega) k (by omega)

/-- An assignment of n agents. -/
def asg (o : List Int) (n : Nat) : Prop := o.length = n ∧ ∀ j : Nat, j < n → cntTo o j n = 1
theorem asg_iff {o : List Int} {n : Nat} (hl : o.length = n) : asg o n ↔ (∀ i, i < n → 0 ≤ o.getD i 0 ∧ o.getD i 0 < n) ∧ ∀ j : Nat, j < n → ∃ i, i < n ∧ o.getD i 0 = (j : Int) := by
  constructor
  · rintro ⟨_, h⟩
    have hs : sumK (fun j : Nat => cntTo o j n) n = n := by
      rw [sumK_congr (g := fun _ => (1 : Int)) h, sumK_const]; simp
    rw [sum_cnt] at hs
    exact ⟨inTo_all hs, fun j hj => cntTo_pos.1 (by rw [h j hj]; exact Int.le_refl _)⟩
  · rintro ⟨_, h2⟩
    refine ⟨hl, ?_⟩
    have h3 : ∀ k : Nat, k < n → 1 ≤ cntTo o k n := fun k hk => cntTo_pos.2 (h2 k hk)
    refine (sumK_ones (f := fun k : Nat => cntTo o k n) h3).2 ?_
    rw [sum_cnt]; exact (inTo_bd o n n).2

/-- the last place of x among the first c, or -1 -/
def lastTo (o : List Int) (x : Int) : Nat → Int
  | 0 => -1
  | c + 1 => if o.getD c 0 = x then (c : Int) else lastTo o x c
theorem lastTo_bd (o : List Int) (x : Int) : ∀ c : Nat, -1 ≤ lastTo o x c ∧ lastTo o x c < c
  | 0 => by simp [lastTo]
  | c + 1 => by have := lastTo_bd o x c; simp only [lastTo]; split <;> omega
theorem lastTo_neg {o : List Int} {x : Int} : ∀ {c : Nat}, lastTo o x c = -1 ↔ ∀ i, i < c → o.getD i 0 ≠ x
  | 0 => by simp [lastTo]
  | c + 1 => by
    simp only [lastTo]
    constructor
    · intro h i hi
      by_cases e : o.getD c 0 = x
      · rw [if_pos e] at h; omega
      · rw [if_neg e] at h
        by_cases hic : i = c
        · subst hic; exact e
        · exact (lastTo_neg (c := c)).1 h i (by omega)
    · intro h
      rw [if_neg (h c (by omega))]
      exact lastTo_neg.2 fun i hi => h i (by omega)
theorem lastTo_at {o : List Int} {x : Int} : ∀ {c : Nat}, lastTo o x c ≠ -1 → o.getD (lastTo o x c).toNat 0 = x
  | 0, h => absurd rfl h
  | c + 1, h => by
    simp only [lastTo] at h ⊢
    by_cases e : o.getD c 0 = x
    · rw [if_pos e]; simpa using e
    · rw [if_neg e] at h ⊢
      exact lastTo_at h

/-- what passing bundles gives -/
def passV (a o : List Int) : List Int := (List.range a.length).map fun k => lastTo o (a.getD k 0) o.length
open Classical in
noncomputable def passE (rr : List (List Int)) (a o : List Int) : Int := if vld rr a ≠ 0 then vld rr a else if asg o rr.length then 0 else 2
noncomputable def passR (rr : List (List Int)) (a o : List Int) : List Int := open Classical in if vld rr a = 0 ∧ asg o rr.length then passV a o else []

/-- what giving a good gives -/
def giveOk (rr : List (List Int)) (a : List Int) (good agent : Int) : Prop := 0 ≤ good ∧ good < a.length ∧ -1 ≤ agent ∧ agent < rr.length
open Classical in
noncomputable def giveE (rr : List (List Int)) (a : List Int) (good agent : Int) : Int := if vld rr a ≠ 0 then vld rr a else if giveOk rr a good agent then 0 else 2
noncomputable def giveR (rr : List (List Int)) (a : List Int) (good agent : Int) : List Int := open Classical in if vld rr a = 0 ∧ giveOk rr a good agent then a.set good.toNat agent else []
end Go.Proofs.Ytclbiabiiknolaa
set_option linter.unusedVariables false
set_option linter.unusedSimpArgs false
namespace Go.Proofs.Ytclbiabiiknolaa
open Go.Eng

theorem vld_of {rr : List (List Int)} {a b : List Int} (h : vld rr a = 0) (hl : b.length = a.length) (hr : ∀ k, k < b.length → -1 ≤ b.getD k 0 ∧ b.getD k 0 < rr.length) : vld rr b = 0 := by
  obtain ⟨h1, h2⟩ := vld_zero h
  refine vld_ok h1 ?_
  rintro (h3 | ⟨k, hk, h3⟩)
  · exact h2 (.inl (by omega))
  · have := hr k hk; omega

theorem passV_len (a o : List Int) : (passV a o).length = a.length := by simp [passV]
theorem passV_get {a o : List Int} {k : Nat} (h : k < a.length) : (passV a o).getD k 0 = lastTo o (a.getD k 0) o.length := by simp [passV, List.getD, h]
theorem vld_pass {rr : List (List Int)} {a o : List Int} (h : vld rr a = 0) (ho : asg o rr.length) : vld rr (passV a o) = 0 := by
  refine vld_of h (passV_len a o) fun k hk => ?_
  rw [passV_len] at hk
  rw [passV_get hk]
  have := lastTo_bd o (a.getD k 0) o.length
  have := ho.1
  omega

theorem cntTo_two {o : List Int} {x : Int} {i k : Nat} (hik : i < k) (hi : o.getD i 0 = x) (hk : o.getD k 0 = x) : ∀ {c : Nat}, k < c → 2 ≤ cntTo o x c
  | 0, h => absurd h (Nat.not_lt_zero _)
  | c + 1, h => by
    simp only [cntTo]
    by_cases e : k = c
    · subst e
      have := (cntTo_pos (o := o) (j := x) (c := k)).2 ⟨i, hik, hi⟩
      rw [if_pos hk]; omega
    · have := cntTo_two hik hi hk (c := c) (by omega)
      split <;> omega
/-- In an assignment every agent has one place. -/
theorem asg_inj {o : List Int} {n : Nat} (ho : asg o n) {i k : Nat} (hi : i < n) (hk : k < n) (e : o.getD i 0 = o.getD k 0) : i = k := by
  have hr := ((asg_iff ho.1).1 ho).1
  have h1 : cntTo o (o.getD k 0) n = 1 := by
    have := ho.2 (o.getD k 0).toNat (by have := hr k hk; omega)
    rwa [Int.toNat_of_nonneg (hr k hk).1] at this
  rcases Nat.lt_trichotomy i k with h | h | h
  · have := cntTo_two h e rfl hk; omega
  · exact h
  · have := cntTo_two h rfl e (x := o.getD k 0) hi; omega
theorem last_is {o : List Int} {n : Nat} (ho : asg o n) {i : Nat} (hi : i < n) : lastTo o (o.getD i 0) n = (i : Int) := by
  have hne : lastTo o (o.getD i 0) n ≠ -1 := fun h => lastTo_neg.1 h i hi rfl
  have hb := lastTo_bd o (o.getD i 0) n
  have hat := lastTo_at hne
  have := asg_inj ho (i := (lastTo o (o.getD i 0) n).toNat) (k := i) (by omega) hi hat
  omega
theorem last_in {o : List Int} {n k : Nat} (ho : asg o n) (hk : k < n) : 0 ≤ lastTo o k n ∧ lastTo o k n < n ∧ o.getD (lastTo o k n).toNat 0 = (k : Int) := by
  obtain ⟨i, hi, e⟩ := ((asg_iff ho.1).1 ho).2 k hk
  rw [← e, last_is ho hi]
  exact ⟨by omega, by omega, by simp [e]⟩

/-- the inverse order -/
def backV (o : List Int) (n : Nat) : List Int := (List.range n).map fun k : Nat => lastTo o k n
theorem backV_len (o : List Int) (n : Nat) : (backV o n).length = n := by simp [backV]
theorem backV_get {o : List Int} {n k : Nat} (h : k < n) : (backV o n).getD k 0 = lastTo o k n := by simp [backV, List.getD, h]
theorem back_asg {o : List Int} {n : Nat} (ho : asg o n) : asg (backV o n) n := by
  refine (asg_iff (backV_len o n)).2 ⟨fun i hi => ?_, fun j hj => ?_⟩
  · rw [backV_get hi]; have := last_in ho hi; exact ⟨this.1, this.2.1⟩
  · have hr := ((asg_iff ho.1).1 ho).1 j hj
    refine ⟨(o.getD j 0).toNat, by omega, ?_⟩
    rw [backV_get (by omega), Int.toNat_of_nonneg hr.1, last_is ho hj]
theorem last_back {o : List Int} {n i : Nat} (ho : asg o n) (hi : i < n) : lastTo (backV o n) i n = o.getD i 0 := by
  have hr := ((asg_iff ho.1).1 ho).1 i hi
  have h1 := last_is (back_asg ho) (i := (o.getD i 0).toNat) (by omega)
  rw [backV_get (by omega), Int.toNat_of_nonneg hr.1, last_is ho hi] at h1
  exact h1
theorem lastTo_minus {o : List Int} {n : Nat} (ho : asg o n) {x : Int} (hx : x < 0) : lastTo o x n = -1 :=
  lastTo_neg.2 fun i hi e => by have := ((asg_iff ho.1).1 ho).1 i hi; omega
theorem pass_back {rr : List (List Int)} {a o : List Int} (h : vld rr a = 0) (ho : asg o rr.length) : passV (passV a o) (backV o rr.length) = a := by
  have hal := al_of_vld h
  apply ext_getD 0
  · rw [passV_len, passV_len]
  · intro k hk
    rw [passV_len, passV_len] at hk
    rw [passV_get (by rw [passV_len]; exact hk), passV_get hk, backV_len, ho.1]
    have hr := hal.rng k (by rw [← hal.len]; exact hk)
    by_cases h0 : 0 ≤ a.getD k 0
    · obtain ⟨h1, h2, h3⟩ := last_in ho (k := (a.getD k 0).toNat) (by omega)
      rw [Int.toNat_of_nonneg h0] at h1 h2 h3
      have := last_back ho (i := (lastTo o (a.getD k 0) rr.length).toNat) (by omega)
      rw [Int.toNat_of_nonneg h1, h3] at this
      exact this
    · rw [lastTo_minus ho (by omega), lastTo_minus (back_asg ho) (by omega)]; omega

/-- Each agent has the value that the other one's bundle had for it. -/
theorem worth_pass {rr : List (List Int)} {a o r : List Int} (h : vld rr a = 0) (ho : asg o rr.length) {m : Nat} (hm : m < rr.length) : ∀ c : Nat, c ≤ a.length → worth (passV a o) r m c = worth a r (o.getD m 0) c
  | 0, _ => rfl
  | c + 1, hc => by
    have hal := al_of_vld h
    simp only [worth]
    rw [worth_pass h ho hm c (by omega), passV_get (by omega), ho.1]
    have hr := hal.rng c (by rw [← hal.len]; omega)
    have hom := ((asg_iff ho.1).1 ho).1 m hm
    by_cases e : a.getD c 0 = o.getD m 0
    · rw [if_pos e, e, last_is ho hm, if_pos rfl]
    · rw [if_neg e, if_neg]
      intro e2
      by_cases h0 : 0 ≤ a.getD c 0
      · have h3 := (last_in ho (k := (a.getD c 0).toNat) (by omega)).2.2
        rw [Int.toNat_of_nonneg h0, e2] at h3
        exact e (by simpa using h3.symm)
      · rw [lastTo_minus ho (by omega)] at e2; omega
theorem wth_pass {rr : List (List Int)} {a o : List Int} (h : vld rr a = 0) (ho : asg o rr.length) {m : Nat} (hm : m < rr.length) : wth rr (passV a o) m m = wth rr a m (o.getD m 0) := by
  unfold wth; rw [passV_len]; exact worth_pass h ho hm _ (Nat.le_refl _)

/-! ### giving -/
theorem set_get {a : List Int} {x : Int} {i k : Nat} (hi : i < a.length) : (a.set i x).getD k 0 = if k = i then x else a.getD k 0 := by
  simp only [List.getD, List.getElem?_set]
  by_cases e : k = i
  · subst e; simp [hi]
  · rw [if_neg (fun h => e h.symm), if_neg e]
theorem vld_give {rr : List (List Int)} {a : List Int} {good agent : Int} (h : vld rr a = 0) (hg : giveOk rr a good agent) : vld rr (a.set good.toNat agent) = 0 := by
  have hal := al_of_vld h
  obtain ⟨h1, h2, h3, h4⟩ := hg
  refine vld_of h (by simp) fun k hk => ?_
  rw [set_get (by omega)]
  split
  · exact ⟨h3, h4⟩
  · exact hal.rng k (by rw [← hal.len]; simpa using hk)
theorem give_back {a : List Int} {x : Int} {i : Nat} (hi : i < a.length) : (a.set i x).set i (a.getD i 0) = a := by
  rw [List.set_set]
  apply ext_getD 0
  · simp
  · intro k _
    rw [set_get hi]; split
    · rename_i e; rw [e]
    · rfl
end Go.Proofs.Ytclbiabiiknolaa
set_option linter.unusedVariables false
set_option linter.unusedSimpArgs false
namespace Go.Proofs.Ytclbiabiiknolaa
open Go.Eng

/-- lists made row by row -/
def gRow {β : Type} (h : Nat → Nat → List β) (i : Nat) : Nat → List β
  | 0 => []
  | c + 1 => gRow h i c ++ h i c
def gTo {β : Type} (h : Nat → Nat → List β) (n : Nat) : Nat → List β
  | 0 => []
  | c + 1 => gTo h n c ++ gRow h c n
theorem gRow_len {β : Type} {h : Nat → Nat → List β} {i : Nat} (h1 : ∀ k, (h i k).length ≤ 1) : ∀ c, (gRow h i c).length ≤ c
  | 0 => Nat.le_refl _
  | c + 1 => by have := gRow_len h1 c; have := h1 c; simp only [gRow, List.length_append]; omega
theorem gTo_len {β : Type} {h : Nat → Nat → List β} {n : Nat} (h1 : ∀ i k, (h i k).length ≤ 1) : ∀ c, (gTo h n c).length ≤ c * n
  | 0 => by simp [gTo]
  | c + 1 => by have := gTo_len (n := n) h1 c; have := gRow_len (h1 c) n; simp only [gTo, List.length_append, Nat.add_mul, Nat.one_mul]; omega
theorem gRow_congr {β : Type} {h g : Nat → Nat → List β} {i : Nat} : ∀ {c : Nat}, (∀ k, k < c → h i k = g i k) → gRow h i c = gRow g i c
  | 0, _ => rfl
  | c + 1, e => by simp only [gRow]; rw [gRow_congr (fun k hk => e k (by omega)), e c (by omega)]
theorem gTo_congr {β : Type} {h g : Nat → Nat → List β} {n : Nat} : ∀ {c : Nat}, (∀ i k, i < c → k < n → h i k = g i k) → gTo h n c = gTo g n c
  | 0, _ => rfl
  | c + 1, e => by simp only [gTo]; rw [gTo_congr (fun i k hi hk => e i k (by omega) hk), gRow_congr (fun k hk => e c k (by omega) hk)]
theorem mem_gRow {β : Type} {h : Nat → Nat → List β} {i : Nat} {x : β} : ∀ {c : Nat}, x ∈ gRow h i c ↔ ∃ k, k < c ∧ x ∈ h i k
  | 0 => by simp [gRow]
  | c + 1 => by
    simp only [gRow, List.mem_append, mem_gRow (c := c)]
    constructor
    · rintro (⟨k, hk, hx⟩ | hx)
      · exact ⟨k, by omega, hx⟩
      · exact ⟨c, by omega, hx⟩
    · rintro ⟨k, hk, hx⟩
      by_cases e : k = c
      · subst e; exact .inr hx
      · exact .inl ⟨k, by omega, hx⟩
theorem mem_gTo {β : Type} {h : Nat → Nat → List β} {n : Nat} {x : β} : ∀ {c : Nat}, x ∈ gTo h n c ↔ ∃ i k, i < c ∧ k < n ∧ x ∈ h i k
  | 0 => by simp [gTo]
  | c + 1 => by
    simp only [gTo, List.mem_append, mem_gTo (c := c), mem_gRow]
    constructor
    · rintro (⟨i, k, hi, hk, hx⟩ | ⟨k, hk, hx⟩)
      · exact ⟨i, k, by omega, hk, hx⟩
      · exact ⟨c, k, by omega, hk, hx⟩
    · rintro ⟨i, k, hi, hk, hx⟩
      by_cases e : i = c
      · subst e; exact .inr ⟨k, hk, hx⟩
      · exact .inl ⟨i, k, by omega, hk, hx⟩

/-- A list over who envies whom. -/
theorem flat_envRow {β : Type} {f : Nat → Int} {i : Nat} {g : Int → Int → List β} : ∀ c : Nat, (envRow f i c).flatMap (fun p => g p.1 p.2) = gRow (fun (i k : Nat) => if f i < f k then g i k else []) i c
  | 0 => rfl
  | c + 1 => by
    simp only [envRow, gRow, List.flatMap_append, flat_envRow c]
    congr 1
    split <;> simp
theorem flat_envTo {β : Type} {f : Nat → Nat → Int} {n : Nat} {g : Int → Int → List β} : ∀ c : Nat, (envTo f n c).flatMap (fun p => g p.1 p.2) = gTo (fun (i k : Nat) => if f i i < f i k then g i k else []) n c
  | 0 => rfl
  | c + 1 => by
    simp only [envTo, gTo, List.flatMap_append, flat_envTo c, flat_envRow]
    congr 1
    exact gRow_congr fun k _ => rfl

/-- by how much agent k's bundle is worth more for agent i -/
def moreV (rr : List (List Int)) (a : List Int) (i k : Nat) : Int := wth rr a i k - wth rr a i i
/-- the first good of agent k's bundle whose value for agent i is at least x, or is not -/
def firstG (rr : List (List Int)) (a : List Int) (i k x : Int) (b : Bool) : Int := firstFrom (fun j => decide (a.getD j 0 = k) && (decide (x ≤ val rr i.toNat j) == b)) a.length 0
theorem firstG_bd (rr : List (List Int)) (a : List Int) (i k x : Int) (b : Bool) : -1 ≤ firstG rr a i k x b ∧ firstG rr a i k x b < a.length := by
  rcases firstFrom_spec (fun j => decide (a.getD j 0 = k) && (decide (x ≤ val rr i.toNat j) == b)) a.length 0 with ⟨j, _, h2, _, h4, _⟩ | ⟨h, _⟩
  · unfold firstG; rw [h4]; omega
  · unfold firstG; rw [h]; omega

/-- all envy -/
def evs (rr : List (List Int)) (a : List Int) : List T3 := (envs rr a).map fun p => (p.1, p.2, moreV rr a p.1.toNat p.2.toNat)
noncomputable def evsR (rr : List (List Int)) (a : List Int) : List T3 := if vld rr a = 0 then evs rr a else []
def markOf (rr : List (List Int)) (a : List Int) (b : Bool) (x : T3) : List T3 := if 0 ≤ firstG rr a x.1 x.2.1 x.2.2 b then [(x.1, x.2.1, firstG rr a x.1 x.2.1 x.2.2 b)] else []
def missOf (rr : List (List Int)) (a : List Int) (x : T3) : List (Int × Int) := if 0 ≤ firstG rr a x.1 x.2.1 x.2.2 true then [] else [(x.1, x.2.1)]
noncomputable def oneM (rr : List (List Int)) (a : List Int) : List T3 := (evsR rr a).flatMap (markOf rr a true)
noncomputable def oneX (rr : List (List Int)) (a : List Int) : List (Int × Int) := (evsR rr a).flatMap (missOf rr a)
noncomputable def anyM (rr : List (List Int)) (a : List Int) : List T3 := (evsR rr a).flatMap (markOf rr a false)

theorem evs_flat {β : Type} (rr : List (List Int)) (a : List Int) (g : T3 → List β) : (evs rr a).flatMap g = gTo (fun (i k : Nat) => if wth rr a i i < wth rr a i k then g (i, k, moreV rr a i k) else []) rr.length rr.length := by
  have h := flat_envTo (f := fun i (k : Nat) => wth rr a i k) (n := rr.length) (g := fun x y => g (x, y, moreV rr a x.toNat y.toNat)) rr.length
  unfold evs envs
  rw [List.flatMap_map]
  exact h

/-- Whether agent i does not envy agent k, if a good is left out (-1: none). -/
def content (rr : List (List Int)) (a : List Int) (i k : Nat) (good : Int) : Prop := wth rr a i k - (if 0 ≤ good ∧ a.getD good.toNat 0 = k then val rr i good.toNat else 0) ≤ wth rr a i i
end Go.Proofs.Ytclbiabiiknolaa
set_option linter.unusedVariables false
set_option linter.unusedSimpArgs false
namespace Go.Proofs.Ytclbiabiiknolaa
open Go.Eng
set_option maxRecDepth 100000
set_option maxHeartbeats 4000000

theorem VS.conv {src dst : TypeId} {d : TypeDesc} {k q : IntKind} {n : Int} {w : World} {K : Value → Prop} (hs : Try.prog.underlying src = some d) (hd : Try.prog.underlying dst = some (.int k)) (hn : k.wrap n = n) (hk : K (.int k n)) : VS Try.prog (convert src dst (.int q n)) w K :=
  VS.mk (fun w1 _ => by
    simp only [convert, Sem.run_bind, run_underlying hs, run_underlying hd, Result.andThen_ok]
    show Result.ok (Value.int k (k.wrap n)) w1 = _
    rw [hn]) hk

theorem VS.gtr {T : TypeId} {x y : Operand} {k : IntKind} {a b : Int} {w : World} {K : Value → Prop} (h : Split (b < a) (K (.bool true)) (K (.bool false))) : VS Try.prog (binSem .gtr T x y (.int k a) (.int k b)) w K := by
  simp only [Split] at h
  have hg : eqGuard .gtr T x y (.int k a) (.int k b) = pure () := rfl
  have hb : binSem .gtr T x y (.int k a) (.int k b) = binOp .gtr T (.int k a) (.int k b) := by unfold binSem; rw [hg]; rfl
  by_cases hab : b < a
  · exact VS.mk (v := .bool true) (fun w1 _ => by rw [hb]; simp [binOp, Op.intCmp, hab]) (h.1 hab)
  · exact VS.mk (v := .bool false) (fun w1 _ => by rw [hb]; simp [binOp, Op.intCmp, hab]) (h.2 hab)

theorem wrap64 {n : Int} (h : 0 ≤ n ∧ n ≤ 1000) : IntKind.u64.wrap n = n := by
  simp only [IntKind.wrap, IntKind.signed, IntKind.bits]
  simp; omega
theorem wrapI {n : Int} (h : 0 ≤ n ∧ n ≤ 1000) : IntKind.i64.wrap n = n := IntWalk.i64_in _ (by omega)

theorem repl_step {c d e : Nat} (he : e = min d (c - d)) (_hd : d ≤ c) : (List.replicate d (i64v (-1)) ++ List.replicate (c - d) (i64v 0)).take d ++ (List.replicate d (i64v (-1))).take e ++ (List.replicate d (i64v (-1)) ++ List.replicate (c - d) (i64v 0)).drop (d + e) = List.replicate (d + e) (i64v (-1)) ++ List.replicate (c - (d + e)) (i64v 0) := by
  have h1 : (List.replicate d (i64v (-1)) ++ List.replicate (c - d) (i64v 0)).take d = List.replicate d (i64v (-1)) := by rw [List.take_append]; simp
  have h2 : (List.replicate d (i64v (-1))).take e = List.replicate e (i64v (-1)) := by rw [List.take_replicate]; congr 1; omega
  have h3 : (List.replicate d (i64v (-1)) ++ List.replicate (c - d) (i64v 0)).drop (d + e) = List.replicate (c - (d + e)) (i64v 0) := by
    rw [List.drop_append]; simp; omega
  rw [h1, h2, h3, List.replicate_append_replicate]

end Go.Proofs.Ytclbiabiiknolaa
set_option linter.unusedVariables false
set_option linter.unusedSimpArgs false
namespace Go.Proofs.Ytclbiabiiknolaa
open Go.Eng
set_option maxRecDepth 100000
set_option maxHeartbeats 4000000

theorem mem_getD {l : List Int} {x : Int} : x ∈ l ↔ ∃ i, i < l.length ∧ l.getD i 0 = x := by
  constructor
  · intro h
    obtain ⟨i, hi, e⟩ := List.getElem_of_mem h
    exact ⟨i, hi, by rw [List.getD, List.getElem?_eq_getElem hi]; exact e⟩
  · rintro ⟨i, hi, rfl⟩
    rw [List.getD, List.getElem?_eq_getElem hi]; exact List.getElem_mem hi

end Go.Proofs.Ytclbiabiiknolaa
set_option linter.unusedVariables false
set_option linter.unusedSimpArgs false
namespace Go.Proofs.Ytclbiabiiknolaa
open Go.Eng
set_option maxRecDepth 100000
set_option maxHeartbeats 4000000

/-- a list of m numbers of which the first c are laid -/
def resTo (f : Nat → Int) (m c : Nat) : List Int := (List.range m).map fun k => if k < c then f k else 0
theorem resTo_len (f : Nat → Int) (m c : Nat) : (resTo f m c).length = m := by simp [resTo]
theorem resTo_zero (f : Nat → Int) (m : Nat) : (resTo f m 0).map i64v = List.replicate m (.int .i64 0) := by rw [List.eq_replicate_iff]; simp [resTo, i64v]
theorem resTo_all (f : Nat → Int) (m : Nat) : resTo f m m = (List.range m).map f := by
  apply List.map_congr_left
  intro k hk
  rw [if_pos (List.mem_range.1 hk)]
theorem resTo_set (f : Nat → Int) {m c : Nat} (h : c < m) : (resTo f m c).set c (f c) = resTo f m (c + 1) := by
  apply List.ext_getElem
  · simp [resTo]
  · intro i h1 h2
    rw [List.getElem_set]
    split
    · rename_i e; subst e; simp [resTo]
    · simp only [resTo, List.getElem_map, List.getElem_range]
      by_cases hi : i < c
      · rw [if_pos hi, if_pos (by omega)]
      · rw [if_neg hi, if_neg (by omega)]

end Go.Proofs.Ytclbiabiiknolaa
set_option linter.unusedVariables false
set_option linter.unusedSimpArgs false
namespace Go.Proofs.Ytclbiabiiknolaa
open Go.Eng
set_option maxRecDepth 100000
set_option maxHeartbeats 4000000

theorem give_list {a : List Int} {good agent : Int} (h0 : 0 ≤ good) : (List.range a.length).map (fun k : Nat => if (k : Int) = good then agent else a.getD k 0) = a.set good.toNat agent := by
  apply List.ext_getElem
  · simp
  · intro i h1 h2
    rw [List.getElem_set]
    simp only [List.getElem_map, List.getElem_range]
    have hi : i < a.length := by simpa using h1
    by_cases e : (i : Int) = good
    · rw [if_pos e, if_pos (by omega)]
    · rw [if_neg e, if_neg (by omega)]; simp [List.getD, hi]

end Go.Proofs.Ytclbiabiiknolaa
set_option linter.unusedVariables false
set_option linter.unusedSimpArgs false
namespace Go.Proofs.Ytclbiabiiknolaa
open Go.Eng
set_option maxRecDepth 100000
set_option maxHeartbeats 4000000

/-- the places of the agents in the first c of an order -/
def toTo (o : List Int) (n c : Nat) : List Int := (List.range n).map fun k : Nat => lastTo o k c
theorem toTo_len (o : List Int) (n c : Nat) : (toTo o n c).length = n := by simp [toTo]
theorem toTo_zero (o : List Int) (n : Nat) : toTo o n 0 = List.replicate n (-1) := by rw [List.eq_replicate_iff]; simp [toTo, lastTo]
theorem toTo_get {o : List Int} {n c k : Nat} (h : k < n) : (toTo o n c).getD k 0 = lastTo o k c := by simp [toTo, List.getD, h]
theorem toTo_set {o : List Int} {n c : Nat} (h0 : 0 ≤ o.getD c 0) : (toTo o n c).set (o.getD c 0).toNat (c : Int) = toTo o n (c + 1) := by
  apply List.ext_getElem
  · simp [toTo]
  · intro i h1 h2
    rw [List.getElem_set]
    simp only [toTo, List.getElem_map, List.getElem_range, lastTo]
    by_cases e : o.getD c 0 = (i : Int)
    · rw [if_pos e, if_pos (by omega)]
    · rw [if_neg e, if_neg (by omega)]
theorem asg_to {o : List Int} {n : Nat} (hl : o.length = n) (hw : ∀ i, i < o.length → 0 ≤ o.getD i 0 ∧ o.getD i 0 < n) : asg o n ↔ ¬ (-1 : Int) ∈ toTo o n o.length := by
  rw [asg_iff hl, mem_getD]
  constructor
  · rintro ⟨_, h2⟩ ⟨k, hk, e⟩
    rw [toTo_len] at hk
    rw [toTo_get hk, lastTo_neg] at e
    obtain ⟨i, hi, e2⟩ := h2 k hk
    exact e i (by omega) e2
  · intro h
    refine ⟨fun i hi => hw i (by omega), fun j hj => Classical.byContradiction fun hn => h ⟨j, by rw [toTo_len]; exact hj, ?_⟩⟩
    rw [toTo_get hj, lastTo_neg]
    exact fun i hi e => hn ⟨i, by omega, e⟩

end Go.Proofs.Ytclbiabiiknolaa
set_option linter.unusedVariables false
set_option linter.unusedSimpArgs false
namespace Go.Proofs.Ytclbiabiiknolaa
open Go.Eng
set_option maxRecDepth 100000

theorem own : ownKnob Try.prog.godebug = none := by kernel_rfl
theorem laidOut : laidOutB Try.prog = true := by kernel_rfl
end Go.Proofs.Ytclbiabiiknolaa
set_option linter.unusedVariables false
set_option linter.unusedSimpArgs false
namespace Go.Proofs.Ytclbiabiiknolaa
open Go.Eng
set_option maxRecDepth 100000

def gvn : List (List Int) := [[5, 3, 1], [2, 2, 2]]

theorem gvn_chk : chk gvn = 0 := by
  refine chk_ok ?_ ?_
  · rintro (h | ⟨i, hi, h⟩)
    · exact absurd h (by decide)
    · match i, hi with
      | 0, _ => exact absurd h (by decide)
      | 1, _ => exact absurd h (by decide)
  · rintro (h | ⟨i, hi, h | ⟨j, hj, h⟩⟩)
    · exact absurd h (by decide)
    · match i, hi with
      | 0, _ => exact absurd h (by decide)
      | 1, _ => exact absurd h (by decide)
    · match i, hi, j, hj with
      | 0, _, 0, _ => exact absurd h (by decide)
      | 0, _, 1, _ => exact absurd h (by decide)
      | 0, _, 2, _ => exact absurd h (by decide)
      | 1, _, 0, _ => exact absurd h (by decide)
      | 1, _, 1, _ => exact absurd h (by decide)
      | 1, _, 2, _ => exact absurd h (by decide)
theorem gvn_vld {x y z : Int} (hx : -1 ≤ x ∧ x < 2) (hy : -1 ≤ y ∧ y < 2) (hz : -1 ≤ z ∧ z < 2) : vld gvn [x, y, z] = 0 := by
  refine vld_ok gvn_chk ?_
  rintro (h | ⟨k, hk, h⟩)
  · exact absurd rfl h
  · match k, hk with
    | 0, _ => simp [gvn] at h; omega
    | 1, _ => simp [gvn] at h; omega
    | 2, _ => simp [gvn] at h; omega

end Go.Proofs.Ytclbiabiiknolaa
set_option linter.unusedVariables false
set_option linter.unusedSimpArgs false
namespace Go.Eng
theorem Gr.ext {a b c : World} (h : Ext a b) (k : Ext b c) : Ext a c := Gr.trans h k
theorem all_succ {p : Nat → Prop} {c : Nat} (h : ∀ i, i < c → p i) (h1 : p c) : ∀ i, i < c + 1 → p i := fun i hi => by
  by_cases e : i = c
  · subst e; exact h1
  · exact h i (by omega)
theorem VS.b3 {P : Program} {w : World} {t : TypeId} {f0 f1 f2 : Field} {N b : Nat} {z0 z1 z2 : Value} {x y z : Int} {K : Value → Prop} (ht : P.underlying t = some (.struct #[f0, f1, f2])) (hz : Elem P t (.agg #[z0, z1, z2]) N b)
    (hg : P.cellsOf f0.type = 1 ∧ P.cellsOf f1.type = 1 ∧ P.cellsOf f2.type = 1) (ho : f0.offset = 0 ∧ f1.offset = 1 ∧ f2.offset = 2) (hk : K (.agg #[.int .i64 x, .int .i64 y, .int .i64 z])) :
    VS P (Instr.build t [(0, .int .i64 x), (1, .int .i64 y), (2, .int .i64 z)].toArray) w K :=
  VS.fields (l := [f0, f1, f2]) (ps := [(0, .int .i64 x), (1, .int .i64 y), (2, .int .i64 z)]) ht hz (by simp [hg.1, hg.2.1, hg.2.2]) (by simp [ho.1, ho.2.1, ho.2.2, List.range, List.range.loop]) rfl rfl rfl (by simp [Value.cells]) hk
end Go.Eng
namespace Go.Proofs.Ytclbiabiiknolaa
open Go.Eng
end Go.Proofs.Ytclbiabiiknolaa
set_option linter.unusedVariables false
set_option linter.unusedSimpArgs false
namespace Go.Proofs.Ytclbiabiiknolaa
open Go.Eng
set_option maxRecDepth 100000
set_option maxHeartbeats 4000000

/-- The own bundle's worth. -/
def ownB (rr : List (List Int)) (a : List Int) (i : Nat) : Int := wth rr a i i
def ownV (rr : List (List Int)) (a : List Int) : List Int := mk rr.length (ownB rr a)
/-- `y` is better than `x` at the first n places. -/
def abvV (n : Nat) (x y : Nat → Int) : Prop := (∀ i, i < n → x i ≤ y i) ∧ ∃ i, i < n ∧ x i < y i
def abv (rr : List (List Int)) (a b : List Int) : Prop := abvV rr.length (ownB rr a) (ownB rr b)
theorem ownV_len (rr : List (List Int)) (a : List Int) : (ownV rr a).length = rr.length := mk_len _ _
theorem ownV_get {rr : List (List Int)} {a : List Int} {i : Nat} (h : i < rr.length) : (ownV rr a).getD i 0 = ownB rr a i := mk_get 0 h

theorem tfb_old {p : Nat → Prop} {c : Nat} (h : ∃ i, i < c ∧ p i) : true = tf (∃ i, i < c + 1 ∧ p i) := by
  obtain ⟨i, h1, h2⟩ := h
  rw [tf_t ⟨i, by omega, h2⟩]
theorem tfb_new {p : Nat → Prop} {c : Nat} (h : p c) : true = tf (∃ i, i < c + 1 ∧ p i) := by rw [tf_t ⟨c, by omega, h⟩]
theorem tfb_no {p : Nat → Prop} {c : Nat} (h : ¬ ∃ i, i < c ∧ p i) (h1 : ¬ p c) : false = tf (∃ i, i < c + 1 ∧ p i) := by
  rw [tf_f]
  rintro ⟨i, hi, hp⟩
  by_cases e : i = c
  · subst e; exact h1 hp
  · exact h ⟨i, by omega, hp⟩

theorem equalI_pc {w : World} {av bv : Value} {a b : List Int} (Ha : Ints w av a) (Hb : Ints w bv b) : PC Try.prog 41 [av, bv] w (.bool (tf (a = b))) := by
  refine PC.mk tyOk Try.func41 rfl (by kernel_rfl) fun w1 E1 => ?_
  replace Ha := Ha.ext E1
  replace Hb := Hb.ext E1
  have EE := Ext.refl w1
  have hle := Ha.le
  have hle2 := Hb.le
  repeat' (conv => whnf
           first
           | (refine Dr.quiet tyOk (by kernel_rfl) ?_)
           | (refine Rng.mk (by omega) ?_)
           | (refine Split.pos (by omega) ?_)
           | (refine Split.neg (by omega) ?_)
           | (refine Split.mk (fun h => ?_) (fun h => ?_))
           | (refine Need.mk (by omega) ?_)
           | (refine Ints.ln (by assumption) ?_)
           | (refine Mat.ln (by assumption) ?_)
           | (refine Ints.ln (Mat.row (by assumption) _ (by omega)) ?_)
           | (refine Ints.ix (by assumption) (by omega) ?_)
           | (refine Mat.ix (by assumption) (by omega) ?_)
           | (refine Ints.ix (Mat.row (by assumption) _ (by omega)) (by omega) ?_)
           | (refine Ints.ix (c := 0) (by assumption) (by omega) ?_)
           | (refine Mat.ix (c := 0) (by assumption) (by omega) ?_)
           | (refine Ints.ix (c := 0) (Mat.row (by assumption) _ (by omega)) (by omega) ?_)
           | (refine Ints.ixI (by assumption) (by omega) ?_)
           | (refine Mat.ixI (by assumption) (by omega) ?_)
           | (refine Ints.ixI (Mat.row (by assumption) _ (by omega)) (by omega) ?_)
           | (refine Ints.ld (by assumption) (by omega) ?_)
           | (refine Mat.ld (by assumption) (by omega) ?_)
           | (refine Ints.ld (Mat.row (by assumption) _ (by omega)) (by omega) ?_)
           | (refine At.ld (by assumption) rfl ?_)
           | (refine At.ldN (by assumption) rfl ?_))
  · refine Lp.mk tyOk [false, false, false, false, true, true, false, false, false, false, false, false, false, true, true, true, true, true, true, true, true, true, true, true, true, true] (fun m fr wr => getK fr 13 fun j => ∃ c : Nat, c ≤ a.length ∧ m = a.length - c ∧ j = .int .i64 (c : Int) ∧ (∀ i, i < c → a.getD i 0 = b.getD i 0) ∧ wr = w1) (a.length) ?_ ?_
    · exact ⟨0, Nat.zero_le _, rfl, rfl, (by first | exact fun _ hi => absurd hi (Nat.not_lt_zero _) | exact fun _ _ hi => absurd hi (Nat.not_lt_zero _) | assumption | exact Own.nil | omega | simp), rfl⟩
    · intro m w2 u4 u5 u13 u14 u15 u16 u17 u18 u19 u20 u21 u22 u23 u24 u25 hR
      obtain ⟨c, hc, rfl, rfl, hv, rfl⟩ := hR
      repeat' (conv => whnf
               first
               | (refine Dr.quiet tyOk (by kernel_rfl) ?_)
               | (refine Rng.mk (by omega) ?_)
               | (refine Split.pos (by omega) ?_)
               | (refine Split.neg (by omega) ?_)
               | (refine Split.mk (fun h => ?_) (fun h => ?_))
               | (refine Need.mk (by omega) ?_)
               | (refine Ints.ln (by assumption) ?_)
               | (refine Mat.ln (by assumption) ?_)
               | (refine Ints.ln (Mat.row (by assumption) _ (by omega)) ?_)
               | (refine Ints.ix (by assumption) (by omega) ?_)
               | (refine Mat.ix (by assumption) (by omega) ?_)
               | (refine Ints.ix (Mat.row (by assumption) _ (by omega)) (by omega) ?_)
               | (refine Ints.ix (c := 0) (by assumption) (by omega) ?_)
               | (refine Mat.ix (c := 0) (by assumption) (by omega) ?_)
               | (refine Ints.ix (c := 0) (Mat.row (by assumption) _ (by omega)) (by omega) ?_)
               | (refine Ints.ixI (by assumption) (by omega) ?_)
               | (refine Mat.ixI (by assumption) (by omega) ?_)
               | (refine Ints.ixI (Mat.row (by assumption) _ (by omega)) (by omega) ?_)
               | (refine Ints.ld (by assumption) (by omega) ?_)
               | (refine Mat.ld (by assumption) (by omega) ?_)
               | (refine Ints.ld (Mat.row (by assumption) _ (by omega)) (by omega) ?_)
               | (refine At.ld (by assumption) rfl ?_)
               | (refine At.ldN (by assumption) rfl ?_))
      · refine ⟨_, (by omega : a.length - (c + 1) < a.length - c), rfl, c + 1, by omega, rfl, rfl, all_succ hv (by omega), rfl⟩
      · rw [tf_f (p := a = b) (by rintro rfl; omega)]; exact ⟨rfl, EE⟩
      · rw [tf_t (p := a = b) (ext_getD 0 (by omega) fun i hi => hv i (by omega))]; exact ⟨rfl, EE⟩
  · rw [tf_f (p := a = b) (by rintro rfl; omega)]; exact ⟨rfl, EE⟩

end Go.Proofs.Ytclbiabiiknolaa
set_option linter.unusedVariables false
set_option linter.unusedSimpArgs false
namespace Go.Proofs.Ytclbiabiiknolaa
open Go.Eng
set_option maxRecDepth 100000
set_option maxHeartbeats 4000000

def ownTo (rr : List (List Int)) (a : List Int) (c : Nat) : List Int := mk rr.length fun i => worth a (rr.getD i []) i c
theorem ownTo_len (rr : List (List Int)) (a : List Int) (c : Nat) : (ownTo rr a c).length = rr.length := mk_len _ _
theorem ownTo_get {rr : List (List Int)} {a : List Int} {c i : Nat} (h : i < rr.length) : (ownTo rr a c).getD i 0 = worth a (rr.getD i []) i c := mk_get 0 h
theorem ownTo_set {rr : List (List Int)} {a : List Int} {c i : Nat} (h : i < rr.length) (e : a.getD c 0 = i) : (ownTo rr a c).set i ((ownTo rr a c).getD i 0 + (rr.getD i []).getD c 0) = ownTo rr a (c + 1) := by
  refine ext_getD 0 (by rw [List.length_set, ownTo_len, ownTo_len]) fun k hk => ?_
  rw [List.length_set, ownTo_len] at hk
  rw [ownTo_get hk, ownTo_get h]
  by_cases ek : k = i
  · subst ek
    simp [List.getD, ownTo_len, h, worth] at e ⊢
    simp [e]
  · have : ((ownTo rr a c).set i (worth a (rr.getD i []) i c + (rr.getD i []).getD c 0)).getD k 0 = (ownTo rr a c).getD k 0 := by
      simp [List.getD, List.getElem?_set, Ne.symm ek]
    rw [this, ownTo_get hk]
    show _ = worth a (rr.getD k []) k c + if a.getD c 0 = k then _ else 0
    rw [if_neg (by omega), Int.add_zero]
theorem ownTo_skip {rr : List (List Int)} {a : List Int} {c : Nat} (h : a.getD c 0 < 0) : ownTo rr a (c + 1) = ownTo rr a c := by
  refine ext_getD 0 (by rw [ownTo_len, ownTo_len]) fun k hk => ?_
  rw [ownTo_len] at hk
  rw [ownTo_get hk, ownTo_get hk]
  show worth a (rr.getD k []) k c + (if a.getD c 0 = k then _ else 0) = _
  rw [if_neg (by omega), Int.add_zero]
theorem ownTo_zero (rr : List (List Int)) (a : List Int) : List.replicate rr.length 0 = ownTo rr a 0 := by
  refine ext_getD 0 (by rw [ownTo_len, List.length_replicate]) fun k hk => ?_
  rw [List.length_replicate] at hk
  rw [ownTo_get hk]
  simp [List.getD, hk, worth]
theorem ownTo_full (rr : List (List Int)) (a : List Int) : ownTo rr a a.length = ownV rr a := rfl

end Go.Proofs.Ytclbiabiiknolaa
set_option linter.unusedVariables false
set_option linter.unusedSimpArgs false
namespace Go.Proofs.Ytclbiabiiknolaa
open Go.Eng
set_option maxRecDepth 100000
set_option maxHeartbeats 4000000

def sbig (rr : List (List Int)) : Prop := 6 < rr.length ∨ ∃ i, i < rr.length ∧ 16 < (rr.getD i []).length
open Classical in noncomputable def skE (rr : List (List Int)) : Int := if sbig rr then 4 else if badP rr then 8 else 0
theorem skE_big {rr : List (List Int)} (h : sbig rr) : skE rr = 4 := by unfold skE; rw [if_pos h]
theorem skE_bad {rr : List (List Int)} (h1 : ¬ sbig rr) (h2 : badP rr) : skE rr = 8 := by unfold skE; rw [if_neg h1, if_pos h2]
theorem skE_ok {rr : List (List Int)} (h1 : ¬ sbig rr) (h2 : ¬ badP rr) : skE rr = 0 := by unfold skE; rw [if_neg h1, if_neg h2]
/-- valid values: n agents, m parcels -/
structure Sd (rr : List (List Int)) (m : Nat) : Prop where
  n1 : 1 ≤ rr.length
  n6 : rr.length ≤ 6
  m16 : m ≤ 16
  m0 : (rr.getD 0 []).length = m
  row : ∀ i, i < rr.length → (rr.getD i []).length = m
  val : ∀ i j, 0 ≤ val rr i j ∧ val rr i j ≤ 1000
theorem sd_of {rr : List (List Int)} (h : skE rr = 0) : Sd rr (rr.getD 0 []).length := by
  unfold skE at h
  split at h
  · omega
  · rename_i h1
    split at h
    · omega
    · rename_i h2
      have hn : rr.length ≠ 0 := fun e => h2 (.inl e)
      have hrow : ∀ i, i < rr.length → (rr.getD i []).length = (rr.getD 0 []).length := fun i hi => Classical.byContradiction fun e => h2 (.inr ⟨i, hi, .inl e⟩)
      refine ⟨by omega, Classical.byContradiction fun e => h1 (.inl (by omega)), Classical.byContradiction fun e => h1 (.inr ⟨0, by omega, by omega⟩), rfl, hrow, fun i j => ?_⟩
      by_cases hi : i < rr.length
      · by_cases hj : j < (rr.getD i []).length
        · exact Classical.byContradiction fun e => h2 (.inr ⟨i, hi, .inr ⟨j, hj, by omega⟩⟩)
        · have e : val rr i j = 0 := by unfold val; exact getD_out (by omega)
          omega
      · have e : val rr i j = 0 := by
          unfold val
          have : rr.getD i [] = [] := by simp [List.getD, List.getElem?_eq_none (show rr.length ≤ i by omega)]
          rw [this]; rfl
        omega

/-- agent x was left before place k -/
def lft (a : List Int) (k : Nat) (x : Int) : Prop := ∃ j, j < k ∧ j + 1 < a.length ∧ a.getD j 0 = x ∧ a.getD (j + 1) 0 ≠ x
def divn (rr : List (List Int)) (a : List Int) : Prop := a.length = (rr.getD 0 []).length ∧ ∀ k, k < a.length → (0 ≤ a.getD k 0 ∧ a.getD k 0 < rr.length) ∧ ¬ lft a k (a.getD k 0)
theorem lft_at {a : List Int} {k : Nat} (hk : k < a.length) : lft a k (a.getD k 0) ↔ ∃ i, i + 1 < k ∧ a.getD i 0 = a.getD k 0 ∧ a.getD (i + 1) 0 ≠ a.getD k 0 := by
  constructor
  · rintro ⟨j, h1, h2, h3, h4⟩
    refine ⟨j, ?_, h3, h4⟩
    refine Classical.byContradiction fun hn => ?_
    have e : j + 1 = k := by omega
    rw [e] at h4; exact h4 rfl
  · rintro ⟨i, h1, h2, h3⟩
    exact ⟨i, by omega, by omega, h2, h3⟩
theorem lft_succ {a : List Int} {k : Nat} {x : Int} : lft a (k + 1) x ↔ lft a k x ∨ (k + 1 < a.length ∧ a.getD k 0 = x ∧ a.getD (k + 1) 0 ≠ x) := by
  constructor
  · rintro ⟨j, h1, h2, h3, h4⟩
    by_cases e : j = k
    · subst e; exact .inr ⟨h2, h3, h4⟩
    · exact .inl ⟨j, by omega, h2, h3, h4⟩
  · rintro (⟨j, h1, h2, h3, h4⟩ | ⟨h2, h3, h4⟩)
    · exact ⟨j, by omega, h2, h3, h4⟩
    · exact ⟨k, by omega, h2, h3, h4⟩
theorem lft_zero {a : List Int} {x : Int} : ¬ lft a 0 x := fun ⟨_, h, _⟩ => absurd h (Nat.not_lt_zero _)
/-- the marks of who was left -/
noncomputable def lftB (a : List Int) (k : Nat) : List Bool := mk 6 fun i : Nat => tf (lft a k (i : Int))
theorem lftB_len (a : List Int) (k : Nat) : (lftB a k).length = 6 := mk_len _ _
theorem lftB_get {a : List Int} {k i : Nat} (h : i < 6) : (lftB a k).getD i false = tf (lft a k (i : Int)) := mk_get false h
theorem lftB_zero (a : List Int) : List.replicate 6 false = lftB a 0 := by
  apply List.ext_getElem?
  intro i
  by_cases hi : i < 6
  · have h1 : (List.replicate 6 false).getD i false = (lftB a 0).getD i false := by
      rw [lftB_get hi, tf_f lft_zero]; simp only [List.getD]; rw [List.getElem?_replicate]; split <;> rfl
    simp only [List.getD] at h1
    rw [List.getElem?_eq_getElem (by simp; omega), List.getElem?_eq_getElem (by rw [lftB_len]; exact hi)] at h1 ⊢
    simpa using h1
  · rw [List.getElem?_eq_none (by simp; omega), List.getElem?_eq_none (by rw [lftB_len]; omega)]
theorem ext_bools {a b : List Bool} (hl : a.length = b.length) (h : ∀ i, i < a.length → a.getD i false = b.getD i false) : a = b := by
  apply List.ext_getElem?
  intro i
  by_cases hi : i < a.length
  · have := h i hi
    simp only [List.getD] at this
    rw [List.getElem?_eq_getElem hi, List.getElem?_eq_getElem (by omega)] at this ⊢
    simpa using this
  · rw [List.getElem?_eq_none (by omega), List.getElem?_eq_none (by omega)]
theorem setB_at {l : List Bool} {i j : Nat} {x : Bool} (hi : i < l.length) : (l.set i x).getD j false = if i = j then x else l.getD j false := by
  simp only [List.getD]
  rw [List.getElem?_set]
  by_cases e : i = j
  · subst e; rw [if_pos rfl, if_pos rfl, if_pos hi]; rfl
  · rw [if_neg e, if_neg e]
theorem lftB_mark {a : List Int} {k : Nat} (h0 : 0 ≤ a.getD k 0 ∧ a.getD k 0 < 6) (h1 : k + 1 < a.length) (h2 : a.getD (k + 1) 0 ≠ a.getD k 0) : (lftB a k).set (a.getD k 0).toNat true = lftB a (k + 1) := by
  refine ext_bools (by rw [List.length_set, lftB_len, lftB_len]) fun i hi => ?_
  rw [List.length_set, lftB_len] at hi
  rw [setB_at (by rw [lftB_len]; omega), lftB_get hi, lftB_get hi]
  by_cases e : (a.getD k 0).toNat = i
  · rw [if_pos e, tf_t (lft_succ.2 (.inr ⟨h1, by omega, by intro h; apply h2; omega⟩))]
  · rw [if_neg e]
    by_cases hl : lft a k (i : Int)
    · rw [tf_t hl, tf_t (lft_succ.2 (.inl hl))]
    · rw [tf_f hl, tf_f (fun h => by
        rcases lft_succ.1 h with h | ⟨_, h, _⟩
        · exact hl h
        · omega)]
theorem lftB_same {a : List Int} {k : Nat} (h : ¬ (k + 1 < a.length ∧ a.getD (k + 1) 0 ≠ a.getD k 0)) : lftB a k = lftB a (k + 1) := by
  refine ext_bools (by rw [lftB_len, lftB_len]) fun i hi => ?_
  rw [lftB_len] at hi
  rw [lftB_get hi, lftB_get hi]
  by_cases hl : lft a k (i : Int)
  · rw [tf_t hl, tf_t (lft_succ.2 (.inl hl))]
  · rw [tf_f hl, tf_f (fun h2 => by
      rcases lft_succ.1 h2 with h2 | ⟨h3, h4, h5⟩
      · exact hl h2
      · exact h ⟨h3, by rw [h4]; exact h5⟩)]

/-! ### levels -/
/-- the least of the first c + 1 numbers -/
def mnTo (f : Nat → Int) : Nat → Int
  | 0 => f 0
  | c + 1 => min (mnTo f c) (f (c + 1))
theorem mnTo_bd {f : Nat → Int} {b : Int} : ∀ {c : Nat}, (∀ i, i ≤ c → 0 ≤ f i ∧ f i ≤ b) → 0 ≤ mnTo f c ∧ mnTo f c ≤ b
  | 0, h => h 0 (Nat.le_refl _)
  | c + 1, h => by
    have h1 := mnTo_bd (c := c) (fun i hi => h i (by omega))
    have h2 := h (c + 1) (Nat.le_refl _)
    simp only [mnTo]
    omega
def lvl (rr : List (List Int)) (a : List Int) : Int := mnTo (fun i => worth a (rr.getD i []) i a.length) (rr.length - 1)
theorem lvl_bd {rr : List (List Int)} {a : List Int} {m : Nat} (h : Sd rr m) (hl : a.length = m) : 0 ≤ lvl rr a ∧ lvl rr a ≤ 16000 := by
  have hm := h.m16
  refine mnTo_bd fun i hi => ?_
  have := worth_bd (a := a) (k := (i : Int)) (fun j => h.val i j) a.length
  have e : ∀ j, (rr.getD i []).getD j 0 = val rr i j := fun _ => rfl
  omega

/-! ### tables -/
/-- the first place from p on at which the sum is enough, or one more than all -/
def enf (l : List Int) (L : Int) : Nat → Nat → Int → Int
  | 0, _, _ => (l.length : Int) + 1
  | k + 1, p, s => if L ≤ s + l.getD p 0 then (p : Int) + 1 else enf l L k (p + 1) (s + l.getD p 0)
def enough (l : List Int) (p : Nat) (L : Int) : Int := enf l L (l.length - p) p 0
theorem enf_bd {l : List Int} {L : Int} : ∀ {k p : Nat} {s : Int}, p + k ≤ l.length → 0 ≤ enf l L k p s ∧ enf l L k p s ≤ (l.length : Int) + 1
  | 0, p, s, _ => by simp only [enf]; omega
  | k + 1, p, s, h => by
    simp only [enf]
    split
    · omega
    · exact enf_bd (by omega)
theorem enough_bd (l : List Int) (p : Nat) (L : Int) : 0 ≤ enough l p L ∧ enough l p L ≤ (l.length : Int) + 1 := by
  unfold enough
  by_cases h : p ≤ l.length
  · exact enf_bd (by omega)
  · rw [show l.length - p = 0 by omega]; simp only [enf]; omega
def bit (s i : Nat) : Bool := s / 2 ^ i % 2 == 1
/-- the entry for a set, from those for smaller ones: of the first c agents -/
def entTo (rr : List (List Int)) (L : Int) (T : List Int) (s : Nat) : Nat → Int
  | 0 => ((rr.getD 0 []).length : Int) + 1
  | c + 1 => if bit s c then min (entTo rr L T s c) (enough (rr.getD c []) (T.getD (s - 2 ^ c) 0).toNat L) else entTo rr L T s c
def ent (rr : List (List Int)) (L : Int) (T : List Int) (s : Nat) : Int := if s = 0 then 0 else entTo rr L T s rr.length
def tbl (rr : List (List Int)) (L : Int) : Nat → List Int
  | 0 => []
  | s + 1 => tbl rr L s ++ [ent rr L (tbl rr L s) s]
theorem tbl_len (rr : List (List Int)) (L : Int) : ∀ s, (tbl rr L s).length = s
  | 0 => rfl
  | s + 1 => by simp only [tbl, List.length_append, tbl_len rr L s, List.length_singleton]
theorem entTo_bd {rr : List (List Int)} {m : Nat} (h : Sd rr m) (L : Int) (T : List Int) (s : Nat) : ∀ {c : Nat}, c ≤ rr.length → 0 ≤ entTo rr L T s c ∧ entTo rr L T s c ≤ (m : Int) + 1
  | 0, _ => by simp only [entTo]; have := h.m0; omega
  | c + 1, hc => by
    have h1 := entTo_bd h L T s (c := c) (by omega)
    have h2 := enough_bd (rr.getD c []) (T.getD (s - 2 ^ c) 0).toNat L
    have h3 := h.row c (by omega)
    simp only [entTo]
    split
    · omega
    · exact h1
theorem tbl_bd {rr : List (List Int)} {m : Nat} (h : Sd rr m) (L : Int) : ∀ {s j : Nat}, 0 ≤ (tbl rr L s).getD j 0 ∧ (tbl rr L s).getD j 0 ≤ (m : Int) + 1
  | 0, j => by simp [tbl]; omega
  | s + 1, j => by
    have ih := tbl_bd h L (s := s) (j := j)
    simp only [tbl]
    by_cases hj : j < s
    · have e : (tbl rr L s ++ [ent rr L (tbl rr L s) s]).getD j 0 = (tbl rr L s).getD j 0 := by
        simp only [List.getD]; rw [List.getElem?_append_left (by rw [tbl_len]; exact hj)]
      rw [e]; exact ih
    · by_cases e : j = s
      · have e2 : (tbl rr L s ++ [ent rr L (tbl rr L s) s]).getD j 0 = ent rr L (tbl rr L s) s := by
          subst e
          simp only [List.getD]; rw [List.getElem?_append_right (by rw [tbl_len]; omega), tbl_len]; simp
        rw [e2]
        unfold ent
        split
        · omega
        · exact entTo_bd h L _ _ (Nat.le_refl _)
      · rw [getD_out (by simp [tbl_len]; omega)]; omega
def tabl (rr : List (List Int)) (L : Int) : List Int := tbl rr L (2 ^ rr.length)
theorem tabl_len (rr : List (List Int)) (L : Int) : (tabl rr L).length = 2 ^ rr.length := tbl_len _ _ _
end Go.Proofs.Ytclbiabiiknolaa
set_option linter.unusedVariables false
set_option linter.unusedSimpArgs false
namespace Go.Eng
open Go.RowKit

section
variable {P : Program} {w : World} {t : TypeId} {x y : Operand} {K : Value → Prop}

theorem bit_shl : ∀ i : Nat, i < 7 → IntKind.i64.wrap (1 * 2 ^ i) = ((2 ^ i : Nat) : Int) := by decide +kernel
theorem bit_and : ∀ q : Nat, q < 64 → bits .and .i64 (q : Int) 1 = ((q % 2 : Nat) : Int) := by decide +kernel
theorem bit_not : ∀ s : Nat, s < 64 → ∀ i : Nat, i < 6 → s / 2 ^ i % 2 = 1 → bits .andNot .i64 (s : Int) ((2 ^ i : Nat) : Int) = ((s - 2 ^ i : Nat) : Int) := by decide +kernel

theorem VS.shl1 {i : Nat} (hi : i < 7) (hk : K (.int .i64 ((2 ^ i : Nat) : Int))) : VS P (binSem .shl t x y (.int .i64 1) (.int .i64 (i : Int))) w K :=
  VS.mk (fun w1 _ => by
    have h := shift_shl_i64 (x := 1) (yk := .i64) (y := (i : Int)) (by omega) (by omega)
    simp only [binSem, Sem.run_bind]
    rw [show (eqGuard .shl t x y (.int .i64 1) (.int .i64 (i : Int))) = pure () from rfl, show binOp .shl t (.int .i64 1) (.int .i64 (i : Int)) = Op.shift .shl .i64 1 .i64 (i : Int) from rfl, h]
    simp only [Sem.run_pure, Result.andThen_ok, Int.toNat_natCast]
    rw [bit_shl i hi]) hk
theorem VS.shr {s i : Nat} (hi : i < 7) (hk : K (.int .i64 ((s / 2 ^ i : Nat) : Int))) : VS P (binSem .shr t x y (.int .i64 (s : Int)) (.int .i64 (i : Int))) w K :=
  VS.mk (fun w1 _ => by
    have h := shift_shr_i64 (x := (s : Int)) (yk := .i64) (y := (i : Int)) (by omega) (by omega)
    simp only [binSem, Sem.run_bind]
    rw [show (eqGuard .shr t x y (.int .i64 (s : Int)) (.int .i64 (i : Int))) = pure () from rfl, show binOp .shr t (.int .i64 (s : Int)) (.int .i64 (i : Int)) = Op.shift .shr .i64 (s : Int) .i64 (i : Int) from rfl, h]
    simp only [Sem.run_pure, Result.andThen_ok, Int.toNat_natCast]
    rw [show ((s : Int) / 2 ^ i) = ((s / 2 ^ i : Nat) : Int) by push_cast; rfl]) hk
theorem VS.and1 {q : Nat} (hq : q < 64) (hk : K (.int .i64 ((q % 2 : Nat) : Int))) : VS P (binSem .and t x y (.int .i64 (q : Int)) (.int .i64 1)) w K :=
  VS.mk (fun w1 _ => by
    simp only [binSem, Sem.run_bind]
    rw [show (eqGuard .and t x y (.int .i64 (q : Int)) (.int .i64 1)) = pure () from rfl, binOp_and, intBits_and, bit_and q hq]
    simp only [Sem.run_pure, Result.andThen_ok]) hk
theorem VS.andNot {s i : Nat} (hs : s < 64) (hi : i < 6) (hb : s / 2 ^ i % 2 = 1) (hk : K (.int .i64 ((s - 2 ^ i : Nat) : Int))) : VS P (binSem .andNot t x y (.int .i64 (s : Int)) (.int .i64 ((2 ^ i : Nat) : Int))) w K :=
  VS.mk (fun w1 _ => by
    simp only [binSem, Sem.run_bind]
    rw [show (eqGuard .andNot t x y (.int .i64 (s : Int)) (.int .i64 ((2 ^ i : Nat) : Int))) = pure () from rfl, binOp_andNot, intBits_andNot, bit_not s hs i hi hb]
    simp only [Sem.run_pure, Result.andThen_ok]) hk
end
end Go.Eng
set_option linter.unusedVariables false
set_option linter.unusedSimpArgs false
namespace Go.Proofs.Ytclbiabiiknolaa
open Go.Eng
set_option maxRecDepth 100000
set_option maxHeartbeats 4000000

theorem sck1_pc {w : World} {rv : Value} {l : List Int} (Hr : Ints w rv l) : PC Try.prog 33 [rv] w (.bool (decide (16 < l.length))) := by
  refine PC.mk tyOk Try.func33 rfl (by kernel_rfl) fun w1 E1 => ?_
  replace Hr := Hr.ext E1
  have EE := Ext.refl w1
  have hle := Hr.le
  by_cases h : 16 < l.length
  · rw [decide_eq_true h]
    repeat' (conv => whnf
             first
             | (refine Dr.quiet tyOk (by kernel_rfl) ?_)
             | (refine Rng.mk (by omega) ?_)
             | (refine Split.pos (by omega) ?_)
             | (refine Split.neg (by omega) ?_)
             | (refine Split.mk (fun h => ?_) (fun h => ?_))
             | (refine Need.mk (by omega) ?_)
             | (refine Ints.ln (by assumption) ?_)
             | (refine Mat.ln (by assumption) ?_)
             | (refine Ints.ln (Mat.row (by assumption) _ (by omega)) ?_)
             | (refine Ints.ix (by assumption) (by omega) ?_)
             | (refine Mat.ix (by assumption) (by omega) ?_)
             | (refine Ints.ix (Mat.row (by assumption) _ (by omega)) (by omega) ?_)
             | (refine Ints.ix (c := 0) (by assumption) (by omega) ?_)
             | (refine Mat.ix (c := 0) (by assumption) (by omega) ?_)
             | (refine Ints.ix (c := 0) (Mat.row (by assumption) _ (by omega)) (by omega) ?_)
             | (refine Ints.ixI (by assumption) (by omega) ?_)
             | (refine Mat.ixI (by assumption) (by omega) ?_)
             | (refine Ints.ixI (Mat.row (by assumption) _ (by omega)) (by omega) ?_)
             | (refine Ints.ld (by assumption) (by omega) ?_)
             | (refine Mat.ld (by assumption) (by omega) ?_)
             | (refine Ints.ld (Mat.row (by assumption) _ (by omega)) (by omega) ?_)
             | (refine At.ld (by assumption) rfl ?_)
             | (refine At.ldN (by assumption) rfl ?_)
             | (refine Prs.ln (by assumption) ?_)
             | (refine Trs.ln (by assumption) ?_)
             | (refine Prs.ix (by assumption) (by omega) ?_)
             | (refine Trs.ix (by assumption) (by omega) ?_)
             | (refine Prs.ldN (by assumption) (by omega) ?_)
             | (refine Trs.ldN (by assumption) (by omega) ?_)
             | (refine At.ldN (Blk.at (by assumption)) rfl ?_)
             | (refine At.ld (Blk.at (by assumption)) rfl ?_)
             | (refine IxA.mk (by omega) ?_)
             | (refine Sl.ln (Own.sl (by assumption)) ?_)
             | (refine Ints.ix (Own.sl (by assumption)) (by omega) ?_)
             | (refine Ints.ixI (Own.sl (by assumption)) (by omega) ?_)
             | (refine Ints.ld (Own.sl (by assumption)) (by omega) ?_))
    exact ⟨rfl, EE⟩
  · rw [decide_eq_false h]
    repeat' (conv => whnf
             first
             | (refine Dr.quiet tyOk (by kernel_rfl) ?_)
             | (refine Rng.mk (by omega) ?_)
             | (refine Split.pos (by omega) ?_)
             | (refine Split.neg (by omega) ?_)
             | (refine Split.mk (fun h => ?_) (fun h => ?_))
             | (refine Need.mk (by omega) ?_)
             | (refine Ints.ln (by assumption) ?_)
             | (refine Mat.ln (by assumption) ?_)
             | (refine Ints.ln (Mat.row (by assumption) _ (by omega)) ?_)
             | (refine Ints.ix (by assumption) (by omega) ?_)
             | (refine Mat.ix (by assumption) (by omega) ?_)
             | (refine Ints.ix (Mat.row (by assumption) _ (by omega)) (by omega) ?_)
             | (refine Ints.ix (c := 0) (by assumption) (by omega) ?_)
             | (refine Mat.ix (c := 0) (by assumption) (by omega) ?_)
             | (refine Ints.ix (c := 0) (Mat.row (by assumption) _ (by omega)) (by omega) ?_)
             | (refine Ints.ixI (by assumption) (by omega) ?_)
             | (refine Mat.ixI (by assumption) (by omega) ?_)
             | (refine Ints.ixI (Mat.row (by assumption) _ (by omega)) (by omega) ?_)
             | (refine Ints.ld (by assumption) (by omega) ?_)
             | (refine Mat.ld (by assumption) (by omega) ?_)
             | (refine Ints.ld (Mat.row (by assumption) _ (by omega)) (by omega) ?_)
             | (refine At.ld (by assumption) rfl ?_)
             | (refine At.ldN (by assumption) rfl ?_)
             | (refine Prs.ln (by assumption) ?_)
             | (refine Trs.ln (by assumption) ?_)
             | (refine Prs.ix (by assumption) (by omega) ?_)
             | (refine Trs.ix (by assumption) (by omega) ?_)
             | (refine Prs.ldN (by assumption) (by omega) ?_)
             | (refine Trs.ldN (by assumption) (by omega) ?_)
             | (refine At.ldN (Blk.at (by assumption)) rfl ?_)
             | (refine At.ld (Blk.at (by assumption)) rfl ?_)
             | (refine IxA.mk (by omega) ?_)
             | (refine Sl.ln (Own.sl (by assumption)) ?_)
             | (refine Ints.ix (Own.sl (by assumption)) (by omega) ?_)
             | (refine Ints.ixI (Own.sl (by assumption)) (by omega) ?_)
             | (refine Ints.ld (Own.sl (by assumption)) (by omega) ?_))
    exact ⟨rfl, EE⟩
def odds (x : Int) : Bool := decide (x < 0) || decide (1000 < x)
theorem sck3_pc {w : World} {x : Int} : PC Try.prog 36 [.int .i64 x] w (.bool (odds x)) := by
  refine PC.mk tyOk Try.func36 rfl (by kernel_rfl) fun w1 E1 => ?_
  have EE := Ext.refl w1
  unfold odds
  repeat' (conv => whnf
           first
           | (refine Dr.quiet tyOk (by kernel_rfl) ?_)
           | (refine Rng.mk (by omega) ?_)
           | (refine Split.pos (by omega) ?_)
           | (refine Split.neg (by omega) ?_)
           | (refine Split.mk (fun h => ?_) (fun h => ?_))
           | (refine Need.mk (by omega) ?_)
           | (refine Ints.ln (by assumption) ?_)
           | (refine Mat.ln (by assumption) ?_)
           | (refine Ints.ln (Mat.row (by assumption) _ (by omega)) ?_)
           | (refine Ints.ix (by assumption) (by omega) ?_)
           | (refine Mat.ix (by assumption) (by omega) ?_)
           | (refine Ints.ix (Mat.row (by assumption) _ (by omega)) (by omega) ?_)
           | (refine Ints.ix (c := 0) (by assumption) (by omega) ?_)
           | (refine Mat.ix (c := 0) (by assumption) (by omega) ?_)
           | (refine Ints.ix (c := 0) (Mat.row (by assumption) _ (by omega)) (by omega) ?_)
           | (refine Ints.ixI (by assumption) (by omega) ?_)
           | (refine Mat.ixI (by assumption) (by omega) ?_)
           | (refine Ints.ixI (Mat.row (by assumption) _ (by omega)) (by omega) ?_)
           | (refine Ints.ld (by assumption) (by omega) ?_)
           | (refine Mat.ld (by assumption) (by omega) ?_)
           | (refine Ints.ld (Mat.row (by assumption) _ (by omega)) (by omega) ?_)
           | (refine At.ld (by assumption) rfl ?_)
           | (refine At.ldN (by assumption) rfl ?_)
           | (refine Prs.ln (by assumption) ?_)
           | (refine Trs.ln (by assumption) ?_)
           | (refine Prs.ix (by assumption) (by omega) ?_)
           | (refine Trs.ix (by assumption) (by omega) ?_)
           | (refine Prs.ldN (by assumption) (by omega) ?_)
           | (refine Trs.ldN (by assumption) (by omega) ?_)
           | (refine At.ldN (Blk.at (by assumption)) rfl ?_)
           | (refine At.ld (Blk.at (by assumption)) rfl ?_)
           | (refine IxA.mk (by omega) ?_)
           | (refine Sl.ln (Own.sl (by assumption)) ?_)
           | (refine Ints.ix (Own.sl (by assumption)) (by omega) ?_)
           | (refine Ints.ixI (Own.sl (by assumption)) (by omega) ?_)
           | (refine Ints.ld (Own.sl (by assumption)) (by omega) ?_))
  · rw [decide_eq_true (by omega)]; exact ⟨rfl, EE⟩
  · rw [decide_eq_false (by omega), decide_eq_true (by omega)]; exact ⟨rfl, EE⟩
  · rw [decide_eq_false (by omega), decide_eq_false (by omega)]; exact ⟨rfl, EE⟩
theorem ints_elem {l : List Int} {i : Nat} (h : i < l.length) : (l.map i64v).getD i undef = .int .i64 (l.getD i 0) := by simp [List.getD, h, i64v]
/-- a row that is wrong -/
def wrg (rr : List (List Int)) (i : Nat) : Prop := (rr.getD i []).length ≠ (rr.getD 0 []).length ∨ ∃ j, j < (rr.getD i []).length ∧ odds (val rr i j) = true
theorem sck2_pc {w : World} {vv : Value} {vs : List Value} {rr : List (List Int)} {i b : Nat} (Hv : Mat w vv vs rr) (hi : i < rr.length) (Hb : At w ⟨b, 0, none⟩ [vv]) :
    PC Try.prog 34 [vs.getD i undef, .pointer (some ⟨b, 0, none⟩)] w (.bool (tf (wrg rr i))) := by
  refine PC.mk tyOk Try.func34 rfl (by kernel_rfl) fun w1 E1 => ?_
  replace Hv := Hv.ext E1
  replace Hb := Hb.ext E1
  have EE := Ext.refl w1
  have hr0 := (Hv.row 0 (by omega)).le
  have hri := (Hv.row i hi).le
  have Hri := Hv.row i hi
  have hle := Hv.top.le
  have cc := containsfuncI_pc (g := 36) (cap := []) (p := fun j => odds (val rr i j)) Hri (fun j hj => by rw [ints_elem hj]; exact sck3_pc)
  by_cases hl : (rr.getD i []).length = (rr.getD 0 []).length
  · by_cases ho : ∃ j, j < (rr.getD i []).length ∧ odds (val rr i j) = true
    · rw [tf_t ho] at cc
      rw [tf_t (p := wrg rr i) (.inr ho)]
      repeat' (conv => whnf
               first
               | (refine Dr.quiet tyOk (by kernel_rfl) ?_)
               | (refine At.ld (i := 0) Hb rfl ?_)
               | (refine Ints.ln Hri ?_)
               | (refine VC.pure cc ?_)
               | (refine VCQ.pure cc ?_)
               | (refine Rng.mk (by omega) ?_)
               | (refine Split.pos (by omega) ?_)
               | (refine Split.neg (by omega) ?_)
               | (refine Split.mk (fun h => ?_) (fun h => ?_))
               | (refine Need.mk (by omega) ?_)
               | (refine Ints.ln (by assumption) ?_)
               | (refine Mat.ln (by assumption) ?_)
               | (refine Ints.ln (Mat.row (by assumption) _ (by omega)) ?_)
               | (refine Ints.ix (by assumption) (by omega) ?_)
               | (refine Mat.ix (by assumption) (by omega) ?_)
               | (refine Ints.ix (Mat.row (by assumption) _ (by omega)) (by omega) ?_)
               | (refine Ints.ix (c := 0) (by assumption) (by omega) ?_)
               | (refine Mat.ix (c := 0) (by assumption) (by omega) ?_)
               | (refine Ints.ix (c := 0) (Mat.row (by assumption) _ (by omega)) (by omega) ?_)
               | (refine Ints.ixI (by assumption) (by omega) ?_)
               | (refine Mat.ixI (by assumption) (by omega) ?_)
               | (refine Ints.ixI (Mat.row (by assumption) _ (by omega)) (by omega) ?_)
               | (refine Ints.ld (by assumption) (by omega) ?_)
               | (refine Mat.ld (by assumption) (by omega) ?_)
               | (refine Ints.ld (Mat.row (by assumption) _ (by omega)) (by omega) ?_)
               | (refine At.ld (by assumption) rfl ?_)
               | (refine At.ldN (by assumption) rfl ?_)
               | (refine Prs.ln (by assumption) ?_)
               | (refine Trs.ln (by assumption) ?_)
               | (refine Prs.ix (by assumption) (by omega) ?_)
               | (refine Trs.ix (by assumption) (by omega) ?_)
               | (refine Prs.ldN (by assumption) (by omega) ?_)
               | (refine Trs.ldN (by assumption) (by omega) ?_)
               | (refine At.ldN (Blk.at (by assumption)) rfl ?_)
               | (refine At.ld (Blk.at (by assumption)) rfl ?_)
               | (refine IxA.mk (by omega) ?_)
               | (refine Sl.ln (Own.sl (by assumption)) ?_)
               | (refine Ints.ix (Own.sl (by assumption)) (by omega) ?_)
               | (refine Ints.ixI (Own.sl (by assumption)) (by omega) ?_)
               | (refine Ints.ld (Own.sl (by assumption)) (by omega) ?_))
      exact ⟨rfl, EE⟩
    · rw [tf_f ho] at cc
      rw [tf_f (p := wrg rr i) (by rintro (h | h); exact h hl; exact ho h)]
      repeat' (conv => whnf
               first
               | (refine Dr.quiet tyOk (by kernel_rfl) ?_)
               | (refine At.ld (i := 0) Hb rfl ?_)
               | (refine Ints.ln Hri ?_)
               | (refine VC.pure cc ?_)
               | (refine VCQ.pure cc ?_)
               | (refine Rng.mk (by omega) ?_)
               | (refine Split.pos (by omega) ?_)
               | (refine Split.neg (by omega) ?_)
               | (refine Split.mk (fun h => ?_) (fun h => ?_))
               | (refine Need.mk (by omega) ?_)
               | (refine Ints.ln (by assumption) ?_)
               | (refine Mat.ln (by assumption) ?_)
               | (refine Ints.ln (Mat.row (by assumption) _ (by omega)) ?_)
               | (refine Ints.ix (by assumption) (by omega) ?_)
               | (refine Mat.ix (by assumption) (by omega) ?_)
               | (refine Ints.ix (Mat.row (by assumption) _ (by omega)) (by omega) ?_)
               | (refine Ints.ix (c := 0) (by assumption) (by omega) ?_)
               | (refine Mat.ix (c := 0) (by assumption) (by omega) ?_)
               | (refine Ints.ix (c := 0) (Mat.row (by assumption) _ (by omega)) (by omega) ?_)
               | (refine Ints.ixI (by assumption) (by omega) ?_)
               | (refine Mat.ixI (by assumption) (by omega) ?_)
               | (refine Ints.ixI (Mat.row (by assumption) _ (by omega)) (by omega) ?_)
               | (refine Ints.ld (by assumption) (by omega) ?_)
               | (refine Mat.ld (by assumption) (by omega) ?_)
               | (refine Ints.ld (Mat.row (by assumption) _ (by omega)) (by omega) ?_)
               | (refine At.ld (by assumption) rfl ?_)
               | (refine At.ldN (by assumption) rfl ?_)
               | (refine Prs.ln (by assumption) ?_)
               | (refine Trs.ln (by assumption) ?_)
               | (refine Prs.ix (by assumption) (by omega) ?_)
               | (refine Trs.ix (by assumption) (by omega) ?_)
               | (refine Prs.ldN (by assumption) (by omega) ?_)
               | (refine Trs.ldN (by assumption) (by omega) ?_)
               | (refine At.ldN (Blk.at (by assumption)) rfl ?_)
               | (refine At.ld (Blk.at (by assumption)) rfl ?_)
               | (refine IxA.mk (by omega) ?_)
               | (refine Sl.ln (Own.sl (by assumption)) ?_)
               | (refine Ints.ix (Own.sl (by assumption)) (by omega) ?_)
               | (refine Ints.ixI (Own.sl (by assumption)) (by omega) ?_)
               | (refine Ints.ld (Own.sl (by assumption)) (by omega) ?_))
      exact ⟨rfl, EE⟩
  · rw [tf_t (p := wrg rr i) (.inl hl)]
    repeat' (conv => whnf
             first
             | (refine Dr.quiet tyOk (by kernel_rfl) ?_)
             | (refine At.ld (i := 0) Hb rfl ?_)
             | (refine Ints.ln Hri ?_)
             | (refine Rng.mk (by omega) ?_)
             | (refine Split.pos (by omega) ?_)
             | (refine Split.neg (by omega) ?_)
             | (refine Split.mk (fun h => ?_) (fun h => ?_))
             | (refine Need.mk (by omega) ?_)
             | (refine Ints.ln (by assumption) ?_)
             | (refine Mat.ln (by assumption) ?_)
             | (refine Ints.ln (Mat.row (by assumption) _ (by omega)) ?_)
             | (refine Ints.ix (by assumption) (by omega) ?_)
             | (refine Mat.ix (by assumption) (by omega) ?_)
             | (refine Ints.ix (Mat.row (by assumption) _ (by omega)) (by omega) ?_)
             | (refine Ints.ix (c := 0) (by assumption) (by omega) ?_)
             | (refine Mat.ix (c := 0) (by assumption) (by omega) ?_)
             | (refine Ints.ix (c := 0) (Mat.row (by assumption) _ (by omega)) (by omega) ?_)
             | (refine Ints.ixI (by assumption) (by omega) ?_)
             | (refine Mat.ixI (by assumption) (by omega) ?_)
             | (refine Ints.ixI (Mat.row (by assumption) _ (by omega)) (by omega) ?_)
             | (refine Ints.ld (by assumption) (by omega) ?_)
             | (refine Mat.ld (by assumption) (by omega) ?_)
             | (refine Ints.ld (Mat.row (by assumption) _ (by omega)) (by omega) ?_)
             | (refine At.ld (by assumption) rfl ?_)
             | (refine At.ldN (by assumption) rfl ?_)
             | (refine Prs.ln (by assumption) ?_)
             | (refine Trs.ln (by assumption) ?_)
             | (refine Prs.ix (by assumption) (by omega) ?_)
             | (refine Trs.ix (by assumption) (by omega) ?_)
             | (refine Prs.ldN (by assumption) (by omega) ?_)
             | (refine Trs.ldN (by assumption) (by omega) ?_)
             | (refine At.ldN (Blk.at (by assumption)) rfl ?_)
             | (refine At.ld (Blk.at (by assumption)) rfl ?_)
             | (refine IxA.mk (by omega) ?_)
             | (refine Sl.ln (Own.sl (by assumption)) ?_)
             | (refine Ints.ix (Own.sl (by assumption)) (by omega) ?_)
             | (refine Ints.ixI (Own.sl (by assumption)) (by omega) ?_)
             | (refine Ints.ld (Own.sl (by assumption)) (by omega) ?_))
    exact ⟨rfl, EE⟩
theorem odds_iff {x : Int} : odds x = true ↔ x < 0 ∨ 1000 < x := by simp [odds]
theorem wrg_iff {rr : List (List Int)} {i : Nat} : wrg rr i ↔ ((rr.getD i []).length ≠ (rr.getD 0 []).length ∨ ∃ j, j < (rr.getD i []).length ∧ (val rr i j < 0 ∨ 1000 < val rr i j)) := by
  unfold wrg
  simp only [odds_iff]

theorem gsk_pc {w : World} {vv : Value} {vs : List Value} {rr : List (List Int)} (Hv : Mat w vv vs rr) : PC Try.prog 13 [vv] w (.int .i64 (skE rr)) := by
  refine PC.mk tyOk Try.func13 rfl (by kernel_rfl) fun w1 E1 => ?_
  replace Hv := Hv.ext E1
  have EE := Ext.refl w1
  have hcv := (Sl.cells Hv.top).1
  have hle := Hv.top.le
  refine Bx.one hcv fun b2 w2 E2 hb2 Hb _ => ?_
  replace Hv := Hv.ext E2
  replace EE := EE.ext E2
  have cb := containsfuncR_pc (g := 33) (cap := []) (p := fun i => decide (16 < (rr.getD i []).length)) Hv.top (fun i hi => sck1_pc (Hv.row i hi))
  have cw := containsfuncR_pc (g := 34) (cap := [.pointer (some ⟨b2, 0, none⟩)]) (p := fun i => tf (wrg rr i)) Hv.top (fun i hi => sck2_pc Hv hi Hb)
  by_cases h6 : 6 < rr.length
  · rw [skE_big (.inl h6)]
    repeat' (conv => whnf
             first
             | (refine Dr.quiet tyOk (by kernel_rfl) ?_)
             | (refine At.ld (i := 0) Hb rfl ?_)
             | (refine Rng.mk (by omega) ?_)
             | (refine Split.pos (by omega) ?_)
             | (refine Split.neg (by omega) ?_)
             | (refine Split.mk (fun h => ?_) (fun h => ?_))
             | (refine Need.mk (by omega) ?_)
             | (refine Ints.ln (by assumption) ?_)
             | (refine Mat.ln (by assumption) ?_)
             | (refine Ints.ln (Mat.row (by assumption) _ (by omega)) ?_)
             | (refine Ints.ix (by assumption) (by omega) ?_)
             | (refine Mat.ix (by assumption) (by omega) ?_)
             | (refine Ints.ix (Mat.row (by assumption) _ (by omega)) (by omega) ?_)
             | (refine Ints.ix (c := 0) (by assumption) (by omega) ?_)
             | (refine Mat.ix (c := 0) (by assumption) (by omega) ?_)
             | (refine Ints.ix (c := 0) (Mat.row (by assumption) _ (by omega)) (by omega) ?_)
             | (refine Ints.ixI (by assumption) (by omega) ?_)
             | (refine Mat.ixI (by assumption) (by omega) ?_)
             | (refine Ints.ixI (Mat.row (by assumption) _ (by omega)) (by omega) ?_)
             | (refine Ints.ld (by assumption) (by omega) ?_)
             | (refine Mat.ld (by assumption) (by omega) ?_)
             | (refine Ints.ld (Mat.row (by assumption) _ (by omega)) (by omega) ?_)
             | (refine At.ld (by assumption) rfl ?_)
             | (refine At.ldN (by assumption) rfl ?_)
             | (refine Prs.ln (by assumption) ?_)
             | (refine Trs.ln (by assumption) ?_)
             | (refine Prs.ix (by assumption) (by omega) ?_)
             | (refine Trs.ix (by assumption) (by omega) ?_)
             | (refine Prs.ldN (by assumption) (by omega) ?_)
             | (refine Trs.ldN (by assumption) (by omega) ?_)
             | (refine At.ldN (Blk.at (by assumption)) rfl ?_)
             | (refine At.ld (Blk.at (by assumption)) rfl ?_)
             | (refine IxA.mk (by omega) ?_)
             | (refine Sl.ln (Own.sl (by assumption)) ?_)
             | (refine Ints.ix (Own.sl (by assumption)) (by omega) ?_)
             | (refine Ints.ixI (Own.sl (by assumption)) (by omega) ?_)
             | (refine Ints.ld (Own.sl (by assumption)) (by omega) ?_))
    exact ⟨rfl, EE⟩
  · by_cases h10 : ∃ i, i < rr.length ∧ decide (16 < (rr.getD i []).length) = true
    · rw [tf_t h10] at cb
      obtain ⟨i, hi, hh⟩ := h10
      rw [skE_big (.inr ⟨i, hi, by simpa using hh⟩)]
      repeat' (conv => whnf
               first
               | (refine Dr.quiet tyOk (by kernel_rfl) ?_)
               | (refine At.ld (i := 0) Hb rfl ?_)
               | (refine VC.pure cb ?_)
               | (refine VCQ.pure cb ?_)
               | (refine Rng.mk (by omega) ?_)
               | (refine Split.pos (by omega) ?_)
               | (refine Split.neg (by omega) ?_)
               | (refine Split.mk (fun h => ?_) (fun h => ?_))
               | (refine Need.mk (by omega) ?_)
               | (refine Ints.ln (by assumption) ?_)
               | (refine Mat.ln (by assumption) ?_)
               | (refine Ints.ln (Mat.row (by assumption) _ (by omega)) ?_)
               | (refine Ints.ix (by assumption) (by omega) ?_)
               | (refine Mat.ix (by assumption) (by omega) ?_)
               | (refine Ints.ix (Mat.row (by assumption) _ (by omega)) (by omega) ?_)
               | (refine Ints.ix (c := 0) (by assumption) (by omega) ?_)
               | (refine Mat.ix (c := 0) (by assumption) (by omega) ?_)
               | (refine Ints.ix (c := 0) (Mat.row (by assumption) _ (by omega)) (by omega) ?_)
               | (refine Ints.ixI (by assumption) (by omega) ?_)
               | (refine Mat.ixI (by assumption) (by omega) ?_)
               | (refine Ints.ixI (Mat.row (by assumption) _ (by omega)) (by omega) ?_)
               | (refine Ints.ld (by assumption) (by omega) ?_)
               | (refine Mat.ld (by assumption) (by omega) ?_)
               | (refine Ints.ld (Mat.row (by assumption) _ (by omega)) (by omega) ?_)
               | (refine At.ld (by assumption) rfl ?_)
               | (refine At.ldN (by assumption) rfl ?_)
               | (refine Prs.ln (by assumption) ?_)
               | (refine Trs.ln (by assumption) ?_)
               | (refine Prs.ix (by assumption) (by omega) ?_)
               | (refine Trs.ix (by assumption) (by omega) ?_)
               | (refine Prs.ldN (by assumption) (by omega) ?_)
               | (refine Trs.ldN (by assumption) (by omega) ?_)
               | (refine At.ldN (Blk.at (by assumption)) rfl ?_)
               | (refine At.ld (Blk.at (by assumption)) rfl ?_)
               | (refine IxA.mk (by omega) ?_)
               | (refine Sl.ln (Own.sl (by assumption)) ?_)
               | (refine Ints.ix (Own.sl (by assumption)) (by omega) ?_)
               | (refine Ints.ixI (Own.sl (by assumption)) (by omega) ?_)
               | (refine Ints.ld (Own.sl (by assumption)) (by omega) ?_))
      exact ⟨rfl, EE⟩
    · rw [tf_f h10] at cb
      have hnb : ¬ sbig rr := by
        rintro (h1 | ⟨i, hi, h1⟩)
        · omega
        · exact h10 ⟨i, hi, by simpa using h1⟩
      by_cases h0 : rr.length = 0
      · rw [skE_bad hnb (.inl h0)]
        repeat' (conv => whnf
                 first
                 | (refine Dr.quiet tyOk (by kernel_rfl) ?_)
                 | (refine At.ld (i := 0) Hb rfl ?_)
                 | (refine VC.pure cb ?_)
                 | (refine VCQ.pure cb ?_)
                 | (refine Rng.mk (by omega) ?_)
                 | (refine Split.pos (by omega) ?_)
                 | (refine Split.neg (by omega) ?_)
                 | (refine Split.mk (fun h => ?_) (fun h => ?_))
                 | (refine Need.mk (by omega) ?_)
                 | (refine Ints.ln (by assumption) ?_)
                 | (refine Mat.ln (by assumption) ?_)
                 | (refine Ints.ln (Mat.row (by assumption) _ (by omega)) ?_)
                 | (refine Ints.ix (by assumption) (by omega) ?_)
                 | (refine Mat.ix (by assumption) (by omega) ?_)
                 | (refine Ints.ix (Mat.row (by assumption) _ (by omega)) (by omega) ?_)
                 | (refine Ints.ix (c := 0) (by assumption) (by omega) ?_)
                 | (refine Mat.ix (c := 0) (by assumption) (by omega) ?_)
                 | (refine Ints.ix (c := 0) (Mat.row (by assumption) _ (by omega)) (by omega) ?_)
                 | (refine Ints.ixI (by assumption) (by omega) ?_)
                 | (refine Mat.ixI (by assumption) (by omega) ?_)
                 | (refine Ints.ixI (Mat.row (by assumption) _ (by omega)) (by omega) ?_)
                 | (refine Ints.ld (by assumption) (by omega) ?_)
                 | (refine Mat.ld (by assumption) (by omega) ?_)
                 | (refine Ints.ld (Mat.row (by assumption) _ (by omega)) (by omega) ?_)
                 | (refine At.ld (by assumption) rfl ?_)
                 | (refine At.ldN (by assumption) rfl ?_)
                 | (refine Prs.ln (by assumption) ?_)
                 | (refine Trs.ln (by assumption) ?_)
                 | (refine Prs.ix (by assumption) (by omega) ?_)
                 | (refine Trs.ix (by assumption) (by omega) ?_)
                 | (refine Prs.ldN (by assumption) (by omega) ?_)
                 | (refine Trs.ldN (by assumption) (by omega) ?_)
                 | (refine At.ldN (Blk.at (by assumption)) rfl ?_)
                 | (refine At.ld (Blk.at (by assumption)) rfl ?_)
                 | (refine IxA.mk (by omega) ?_)
                 | (refine Sl.ln (Own.sl (by assumption)) ?_)
                 | (refine Ints.ix (Own.sl (by assumption)) (by omega) ?_)
                 | (refine Ints.ixI (Own.sl (by assumption)) (by omega) ?_)
                 | (refine Ints.ld (Own.sl (by assumption)) (by omega) ?_))
        exact ⟨rfl, EE⟩
      · by_cases hw : ∃ i, i < rr.length ∧ tf (wrg rr i) = true
        · rw [tf_t hw] at cw
          obtain ⟨i, hi, hh⟩ := hw
          have hwi : wrg rr i := Classical.byContradiction fun hn => by rw [tf_f hn] at hh; cases hh
          rw [skE_bad hnb (.inr ⟨i, hi, wrg_iff.1 hwi⟩)]
          repeat' (conv => whnf
                   first
                   | (refine Dr.quiet tyOk (by kernel_rfl) ?_)
                   | (refine At.ld (i := 0) Hb rfl ?_)
                   | (refine VC.pure cb ?_)
                   | (refine VCQ.pure cb ?_)
                   | (refine VC.pure cw ?_)
                   | (refine VCQ.pure cw ?_)
                   | (refine Rng.mk (by omega) ?_)
                   | (refine Split.pos (by omega) ?_)
                   | (refine Split.neg (by omega) ?_)
                   | (refine Split.mk (fun h => ?_) (fun h => ?_))
                   | (refine Need.mk (by omega) ?_)
                   | (refine Ints.ln (by assumption) ?_)
                   | (refine Mat.ln (by assumption) ?_)
                   | (refine Ints.ln (Mat.row (by assumption) _ (by omega)) ?_)
                   | (refine Ints.ix (by assumption) (by omega) ?_)
                   | (refine Mat.ix (by assumption) (by omega) ?_)
                   | (refine Ints.ix (Mat.row (by assumption) _ (by omega)) (by omega) ?_)
                   | (refine Ints.ix (c := 0) (by assumption) (by omega) ?_)
                   | (refine Mat.ix (c := 0) (by assumption) (by omega) ?_)
                   | (refine Ints.ix (c := 0) (Mat.row (by assumption) _ (by omega)) (by omega) ?_)
                   | (refine Ints.ixI (by assumption) (by omega) ?_)
                   | (refine Mat.ixI (by assumption) (by omega) ?_)
                   | (refine Ints.ixI (Mat.row (by assumption) _ (by omega)) (by omega) ?_)
                   | (refine Ints.ld (by assumption) (by omega) ?_)
                   | (refine Mat.ld (by assumption) (by omega) ?_)
                   | (refine Ints.ld (Mat.row (by assumption) _ (by omega)) (by omega) ?_)
                   | (refine At.ld (by assumption) rfl ?_)
                   | (refine At.ldN (by assumption) rfl ?_)
                   | (refine Prs.ln (by assumption) ?_)
                   | (refine Trs.ln (by assumption) ?_)
                   | (refine Prs.ix (by assumption) (by omega) ?_)
                   | (refine Trs.ix (by assumption) (by omega) ?_)
                   | (refine Prs.ldN (by assumption) (by omega) ?_)
                   | (refine Trs.ldN (by assumption) (by omega) ?_)
                   | (refine At.ldN (Blk.at (by assumption)) rfl ?_)
                   | (refine At.ld (Blk.at (by assumption)) rfl ?_)
                   | (refine IxA.mk (by omega) ?_)
                   | (refine Sl.ln (Own.sl (by assumption)) ?_)
                   | (refine Ints.ix (Own.sl (by assumption)) (by omega) ?_)
                   | (refine Ints.ixI (Own.sl (by assumption)) (by omega) ?_)
                   | (refine Ints.ld (Own.sl (by assumption)) (by omega) ?_))
          exact ⟨rfl, EE⟩
        · rw [tf_f hw] at cw
          rw [skE_ok hnb (by
            rintro (h | ⟨i, hi, h⟩)
            · exact h0 h
            · exact hw ⟨i, hi, tf_t (wrg_iff.2 h)⟩)]
          repeat' (conv => whnf
                   first
                   | (refine Dr.quiet tyOk (by kernel_rfl) ?_)
                   | (refine At.ld (i := 0) Hb rfl ?_)
                   | (refine VC.pure cb ?_)
                   | (refine VCQ.pure cb ?_)
                   | (refine VC.pure cw ?_)
                   | (refine VCQ.pure cw ?_)
                   | (refine Rng.mk (by omega) ?_)
                   | (refine Split.pos (by omega) ?_)
                   | (refine Split.neg (by omega) ?_)
                   | (refine Split.mk (fun h => ?_) (fun h => ?_))
                   | (refine Need.mk (by omega) ?_)
                   | (refine Ints.ln (by assumption) ?_)
                   | (refine Mat.ln (by assumption) ?_)
                   | (refine Ints.ln (Mat.row (by assumption) _ (by omega)) ?_)
                   | (refine Ints.ix (by assumption) (by omega) ?_)
                   | (refine Mat.ix (by assumption) (by omega) ?_)
                   | (refine Ints.ix (Mat.row (by assumption) _ (by omega)) (by omega) ?_)
                   | (refine Ints.ix (c := 0) (by assumption) (by omega) ?_)
                   | (refine Mat.ix (c := 0) (by assumption) (by omega) ?_)
                   | (refine Ints.ix (c := 0) (Mat.row (by assumption) _ (by omega)) (by omega) ?_)
                   | (refine Ints.ixI (by assumption) (by omega) ?_)
                   | (refine Mat.ixI (by assumption) (by omega) ?_)
                   | (refine Ints.ixI (Mat.row (by assumption) _ (by omega)) (by omega) ?_)
                   | (refine Ints.ld (by assumption) (by omega) ?_)
                   | (refine Mat.ld (by assumption) (by omega) ?_)
                   | (refine Ints.ld (Mat.row (by assumption) _ (by omega)) (by omega) ?_)
                   | (refine At.ld (by assumption) rfl ?_)
                   | (refine At.ldN (by assumption) rfl ?_)
                   | (refine Prs.ln (by assumption) ?_)
                   | (refine Trs.ln (by assumption) ?_)
                   | (refine Prs.ix (by assumption) (by omega) ?_)
                   | (refine Trs.ix (by assumption) (by omega) ?_)
                   | (refine Prs.ldN (by assumption) (by omega) ?_)
                   | (refine Trs.ldN (by assumption) (by omega) ?_)
                   | (refine At.ldN (Blk.at (by assumption)) rfl ?_)
                   | (refine At.ld (Blk.at (by assumption)) rfl ?_)
                   | (refine IxA.mk (by omega) ?_)
                   | (refine Sl.ln (Own.sl (by assumption)) ?_)
                   | (refine Ints.ix (Own.sl (by assumption)) (by omega) ?_)
                   | (refine Ints.ixI (Own.sl (by assumption)) (by omega) ?_)
                   | (refine Ints.ld (Own.sl (by assumption)) (by omega) ?_))
          exact ⟨rfl, EE⟩

theorem rsk_pc {w : World} {vv : Value} {vs : List Value} {rr : List (List Int)} (Hv : Mat w vv vs rr) : PC Try.prog 14 [vv] w (.int .i64 (skE rr)) := by
  refine PC.mk tyOk Try.func14 rfl (by kernel_rfl) fun w1 E1 => ?_
  replace Hv := Hv.ext E1
  have EE := Ext.refl w1
  have hle := Hv.top.le
  by_cases h6 : 6 < rr.length
  · rw [skE_big (.inl h6)]
    repeat' (conv => whnf
             first
             | (refine Dr.quiet tyOk (by kernel_rfl) ?_)
             | (refine Rng.mk (by omega) ?_)
             | (refine Split.pos (by omega) ?_)
             | (refine Split.neg (by omega) ?_)
             | (refine Split.mk (fun h => ?_) (fun h => ?_))
             | (refine Need.mk (by omega) ?_)
             | (refine Ints.ln (by assumption) ?_)
             | (refine Mat.ln (by assumption) ?_)
             | (refine Ints.ln (Mat.row (by assumption) _ (by omega)) ?_)
             | (refine Ints.ix (by assumption) (by omega) ?_)
             | (refine Mat.ix (by assumption) (by omega) ?_)
             | (refine Ints.ix (Mat.row (by assumption) _ (by omega)) (by omega) ?_)
             | (refine Ints.ix (c := 0) (by assumption) (by omega) ?_)
             | (refine Mat.ix (c := 0) (by assumption) (by omega) ?_)
             | (refine Ints.ix (c := 0) (Mat.row (by assumption) _ (by omega)) (by omega) ?_)
             | (refine Ints.ixI (by assumption) (by omega) ?_)
             | (refine Mat.ixI (by assumption) (by omega) ?_)
             | (refine Ints.ixI (Mat.row (by assumption) _ (by omega)) (by omega) ?_)
             | (refine Ints.ld (by assumption) (by omega) ?_)
             | (refine Mat.ld (by assumption) (by omega) ?_)
             | (refine Ints.ld (Mat.row (by assumption) _ (by omega)) (by omega) ?_)
             | (refine At.ld (by assumption) rfl ?_)
             | (refine At.ldN (by assumption) rfl ?_)
             | (refine Prs.ln (by assumption) ?_)
             | (refine Trs.ln (by assumption) ?_)
             | (refine Prs.ix (by assumption) (by omega) ?_)
             | (refine Trs.ix (by assumption) (by omega) ?_)
             | (refine Prs.ldN (by assumption) (by omega) ?_)
             | (refine Trs.ldN (by assumption) (by omega) ?_)
             | (refine At.ldN (Blk.at (by assumption)) rfl ?_)
             | (refine At.ld (Blk.at (by assumption)) rfl ?_)
             | (refine IxA.mk (by omega) ?_)
             | (refine Sl.ln (Own.sl (by assumption)) ?_)
             | (refine Ints.ix (Own.sl (by assumption)) (by omega) ?_)
             | (refine Ints.ixI (Own.sl (by assumption)) (by omega) ?_)
             | (refine Ints.ld (Own.sl (by assumption)) (by omega) ?_))
    exact ⟨rfl, EE⟩
  · repeat' (conv => whnf
             first
             | (refine Dr.quiet tyOk (by kernel_rfl) ?_)
             | (refine Rng.mk (by omega) ?_)
             | (refine Split.pos (by omega) ?_)
             | (refine Split.neg (by omega) ?_)
             | (refine Split.mk (fun h => ?_) (fun h => ?_))
             | (refine Need.mk (by omega) ?_)
             | (refine Ints.ln (by assumption) ?_)
             | (refine Mat.ln (by assumption) ?_)
             | (refine Ints.ln (Mat.row (by assumption) _ (by omega)) ?_)
             | (refine Ints.ix (by assumption) (by omega) ?_)
             | (refine Mat.ix (by assumption) (by omega) ?_)
             | (refine Ints.ix (Mat.row (by assumption) _ (by omega)) (by omega) ?_)
             | (refine Ints.ix (c := 0) (by assumption) (by omega) ?_)
             | (refine Mat.ix (c := 0) (by assumption) (by omega) ?_)
             | (refine Ints.ix (c := 0) (Mat.row (by assumption) _ (by omega)) (by omega) ?_)
             | (refine Ints.ixI (by assumption) (by omega) ?_)
             | (refine Mat.ixI (by assumption) (by omega) ?_)
             | (refine Ints.ixI (Mat.row (by assumption) _ (by omega)) (by omega) ?_)
             | (refine Ints.ld (by assumption) (by omega) ?_)
             | (refine Mat.ld (by assumption) (by omega) ?_)
             | (refine Ints.ld (Mat.row (by assumption) _ (by omega)) (by omega) ?_)
             | (refine At.ld (by assumption) rfl ?_)
             | (refine At.ldN (by assumption) rfl ?_)
             | (refine Prs.ln (by assumption) ?_)
             | (refine Trs.ln (by assumption) ?_)
             | (refine Prs.ix (by assumption) (by omega) ?_)
             | (refine Trs.ix (by assumption) (by omega) ?_)
             | (refine Prs.ldN (by assumption) (by omega) ?_)
             | (refine Trs.ldN (by assumption) (by omega) ?_)
             | (refine At.ldN (Blk.at (by assumption)) rfl ?_)
             | (refine At.ld (Blk.at (by assumption)) rfl ?_)
             | (refine IxA.mk (by omega) ?_)
             | (refine Sl.ln (Own.sl (by assumption)) ?_)
             | (refine Ints.ix (Own.sl (by assumption)) (by omega) ?_)
             | (refine Ints.ixI (Own.sl (by assumption)) (by omega) ?_)
             | (refine Ints.ld (Own.sl (by assumption)) (by omega) ?_))
    refine Lp.mk tyOk [false, false, true, true, false, false, false, false, false, true, true, true, true, true, true, true, true, true, true, true, true] (fun m fr wr => getK fr 3 fun i => ∃ c : Nat, c ≤ rr.length ∧ m = rr.length - c ∧ i = .int .i64 (c : Int) ∧ (∀ i, i < c → (rr.getD i []).length ≤ 16) ∧ wr = w1) (rr.length) ?_ ?_
    · exact ⟨0, Nat.zero_le _, rfl, rfl, (by first | exact fun _ hi => absurd hi (Nat.not_lt_zero _) | exact fun _ _ hi => absurd hi (Nat.not_lt_zero _) | assumption | exact Own.nil | omega | simp), rfl⟩
    · intro m w2 u2 u3 u9 u10 u11 u12 u13 u14 u15 u16 u17 u18 u19 u20 hR
      obtain ⟨c, hc, rfl, rfl, hv, rfl⟩ := hR
      by_cases hcl : c < rr.length
      · have hrc := (Hv.row c hcl).le
        by_cases hb : 16 < (rr.getD c []).length
        · rw [skE_big (.inr ⟨c, hcl, hb⟩)]
          repeat' (conv => whnf
                   first
                   | (refine Dr.quiet tyOk (by kernel_rfl) ?_)
                   | (refine Rng.mk (by omega) ?_)
                   | (refine Split.pos (by omega) ?_)
                   | (refine Split.neg (by omega) ?_)
                   | (refine Split.mk (fun h => ?_) (fun h => ?_))
                   | (refine Need.mk (by omega) ?_)
                   | (refine Ints.ln (by assumption) ?_)
                   | (refine Mat.ln (by assumption) ?_)
                   | (refine Ints.ln (Mat.row (by assumption) _ (by omega)) ?_)
                   | (refine Ints.ix (by assumption) (by omega) ?_)
                   | (refine Mat.ix (by assumption) (by omega) ?_)
                   | (refine Ints.ix (Mat.row (by assumption) _ (by omega)) (by omega) ?_)
                   | (refine Ints.ix (c := 0) (by assumption) (by omega) ?_)
                   | (refine Mat.ix (c := 0) (by assumption) (by omega) ?_)
                   | (refine Ints.ix (c := 0) (Mat.row (by assumption) _ (by omega)) (by omega) ?_)
                   | (refine Ints.ixI (by assumption) (by omega) ?_)
                   | (refine Mat.ixI (by assumption) (by omega) ?_)
                   | (refine Ints.ixI (Mat.row (by assumption) _ (by omega)) (by omega) ?_)
                   | (refine Ints.ld (by assumption) (by omega) ?_)
                   | (refine Mat.ld (by assumption) (by omega) ?_)
                   | (refine Ints.ld (Mat.row (by assumption) _ (by omega)) (by omega) ?_)
                   | (refine At.ld (by assumption) rfl ?_)
                   | (refine At.ldN (by assumption) rfl ?_)
                   | (refine Prs.ln (by assumption) ?_)
                   | (refine Trs.ln (by assumption) ?_)
                   | (refine Prs.ix (by assumption) (by omega) ?_)
                   | (refine Trs.ix (by assumption) (by omega) ?_)
                   | (refine Prs.ldN (by assumption) (by omega) ?_)
                   | (refine Trs.ldN (by assumption) (by omega) ?_)
                   | (refine At.ldN (Blk.at (by assumption)) rfl ?_)
                   | (refine At.ld (Blk.at (by assumption)) rfl ?_)
                   | (refine IxA.mk (by omega) ?_)
                   | (refine Sl.ln (Own.sl (by assumption)) ?_)
                   | (refine Ints.ix (Own.sl (by assumption)) (by omega) ?_)
                   | (refine Ints.ixI (Own.sl (by assumption)) (by omega) ?_)
                   | (refine Ints.ld (Own.sl (by assumption)) (by omega) ?_))
          exact ⟨rfl, EE⟩
        · repeat' (conv => whnf
                   first
                   | (refine Dr.quiet tyOk (by kernel_rfl) ?_)
                   | (refine Rng.mk (by omega) ?_)
                   | (refine Split.pos (by omega) ?_)
                   | (refine Split.neg (by omega) ?_)
                   | (refine Split.mk (fun h => ?_) (fun h => ?_))
                   | (refine Need.mk (by omega) ?_)
                   | (refine Ints.ln (by assumption) ?_)
                   | (refine Mat.ln (by assumption) ?_)
                   | (refine Ints.ln (Mat.row (by assumption) _ (by omega)) ?_)
                   | (refine Ints.ix (by assumption) (by omega) ?_)
                   | (refine Mat.ix (by assumption) (by omega) ?_)
                   | (refine Ints.ix (Mat.row (by assumption) _ (by omega)) (by omega) ?_)
                   | (refine Ints.ix (c := 0) (by assumption) (by omega) ?_)
                   | (refine Mat.ix (c := 0) (by assumption) (by omega) ?_)
                   | (refine Ints.ix (c := 0) (Mat.row (by assumption) _ (by omega)) (by omega) ?_)
                   | (refine Ints.ixI (by assumption) (by omega) ?_)
                   | (refine Mat.ixI (by assumption) (by omega) ?_)
                   | (refine Ints.ixI (Mat.row (by assumption) _ (by omega)) (by omega) ?_)
                   | (refine Ints.ld (by assumption) (by omega) ?_)
                   | (refine Mat.ld (by assumption) (by omega) ?_)
                   | (refine Ints.ld (Mat.row (by assumption) _ (by omega)) (by omega) ?_)
                   | (refine At.ld (by assumption) rfl ?_)
                   | (refine At.ldN (by assumption) rfl ?_)
                   | (refine Prs.ln (by assumption) ?_)
                   | (refine Trs.ln (by assumption) ?_)
                   | (refine Prs.ix (by assumption) (by omega) ?_)
                   | (refine Trs.ix (by assumption) (by omega) ?_)
                   | (refine Prs.ldN (by assumption) (by omega) ?_)
                   | (refine Trs.ldN (by assumption) (by omega) ?_)
                   | (refine At.ldN (Blk.at (by assumption)) rfl ?_)
                   | (refine At.ld (Blk.at (by assumption)) rfl ?_)
                   | (refine IxA.mk (by omega) ?_)
                   | (refine Sl.ln (Own.sl (by assumption)) ?_)
                   | (refine Ints.ix (Own.sl (by assumption)) (by omega) ?_)
                   | (refine Ints.ixI (Own.sl (by assumption)) (by omega) ?_)
                   | (refine Ints.ld (Own.sl (by assumption)) (by omega) ?_))
          refine ⟨_, (by omega : rr.length - (c + 1) < rr.length - c), rfl, c + 1, by omega, rfl, rfl, all_succ hv (by omega), rfl⟩
      · have hnb : ¬ sbig rr := by
          rintro (h1 | ⟨i, hi, h1⟩)
          · omega
          · have := hv i (by omega); omega
        by_cases h0 : rr.length = 0
        · rw [skE_bad hnb (.inl h0)]
          repeat' (conv => whnf
                   first
                   | (refine Dr.quiet tyOk (by kernel_rfl) ?_)
                   | (refine Rng.mk (by omega) ?_)
                   | (refine Split.pos (by omega) ?_)
                   | (refine Split.neg (by omega) ?_)
                   | (refine Split.mk (fun h => ?_) (fun h => ?_))
                   | (refine Need.mk (by omega) ?_)
                   | (refine Ints.ln (by assumption) ?_)
                   | (refine Mat.ln (by assumption) ?_)
                   | (refine Ints.ln (Mat.row (by assumption) _ (by omega)) ?_)
                   | (refine Ints.ix (by assumption) (by omega) ?_)
                   | (refine Mat.ix (by assumption) (by omega) ?_)
                   | (refine Ints.ix (Mat.row (by assumption) _ (by omega)) (by omega) ?_)
                   | (refine Ints.ix (c := 0) (by assumption) (by omega) ?_)
                   | (refine Mat.ix (c := 0) (by assumption) (by omega) ?_)
                   | (refine Ints.ix (c := 0) (Mat.row (by assumption) _ (by omega)) (by omega) ?_)
                   | (refine Ints.ixI (by assumption) (by omega) ?_)
                   | (refine Mat.ixI (by assumption) (by omega) ?_)
                   | (refine Ints.ixI (Mat.row (by assumption) _ (by omega)) (by omega) ?_)
                   | (refine Ints.ld (by assumption) (by omega) ?_)
                   | (refine Mat.ld (by assumption) (by omega) ?_)
                   | (refine Ints.ld (Mat.row (by assumption) _ (by omega)) (by omega) ?_)
                   | (refine At.ld (by assumption) rfl ?_)
                   | (refine At.ldN (by assumption) rfl ?_)
                   | (refine Prs.ln (by assumption) ?_)
                   | (refine Trs.ln (by assumption) ?_)
                   | (refine Prs.ix (by assumption) (by omega) ?_)
                   | (refine Trs.ix (by assumption) (by omega) ?_)
                   | (refine Prs.ldN (by assumption) (by omega) ?_)
                   | (refine Trs.ldN (by assumption) (by omega) ?_)
                   | (refine At.ldN (Blk.at (by assumption)) rfl ?_)
                   | (refine At.ld (Blk.at (by assumption)) rfl ?_)
                   | (refine IxA.mk (by omega) ?_)
                   | (refine Sl.ln (Own.sl (by assumption)) ?_)
                   | (refine Ints.ix (Own.sl (by assumption)) (by omega) ?_)
                   | (refine Ints.ixI (Own.sl (by assumption)) (by omega) ?_)
                   | (refine Ints.ld (Own.sl (by assumption)) (by omega) ?_))
          exact ⟨rfl, EE⟩
        · repeat' (conv => whnf
                   first
                   | (refine Dr.quiet tyOk (by kernel_rfl) ?_)
                   | (refine Rng.mk (by omega) ?_)
                   | (refine Split.pos (by omega) ?_)
                   | (refine Split.neg (by omega) ?_)
                   | (refine Split.mk (fun h => ?_) (fun h => ?_))
                   | (refine Need.mk (by omega) ?_)
                   | (refine Ints.ln (by assumption) ?_)
                   | (refine Mat.ln (by assumption) ?_)
                   | (refine Ints.ln (Mat.row (by assumption) _ (by omega)) ?_)
                   | (refine Ints.ix (by assumption) (by omega) ?_)
                   | (refine Mat.ix (by assumption) (by omega) ?_)
                   | (refine Ints.ix (Mat.row (by assumption) _ (by omega)) (by omega) ?_)
                   | (refine Ints.ix (c := 0) (by assumption) (by omega) ?_)
                   | (refine Mat.ix (c := 0) (by assumption) (by omega) ?_)
                   | (refine Ints.ix (c := 0) (Mat.row (by assumption) _ (by omega)) (by omega) ?_)
                   | (refine Ints.ixI (by assumption) (by omega) ?_)
                   | (refine Mat.ixI (by assumption) (by omega) ?_)
                   | (refine Ints.ixI (Mat.row (by assumption) _ (by omega)) (by omega) ?_)
                   | (refine Ints.ld (by assumption) (by omega) ?_)
                   | (refine Mat.ld (by assumption) (by omega) ?_)
                   | (refine Ints.ld (Mat.row (by assumption) _ (by omega)) (by omega) ?_)
                   | (refine At.ld (by assumption) rfl ?_)
                   | (refine At.ldN (by assumption) rfl ?_)
                   | (refine Prs.ln (by assumption) ?_)
                   | (refine Trs.ln (by assumption) ?_)
                   | (refine Prs.ix (by assumption) (by omega) ?_)
                   | (refine Trs.ix (by assumption) (by omega) ?_)
                   | (refine Prs.ldN (by assumption) (by omega) ?_)
                   | (refine Trs.ldN (by assumption) (by omega) ?_)
                   | (refine At.ldN (Blk.at (by assumption)) rfl ?_)
                   | (refine At.ld (Blk.at (by assumption)) rfl ?_)
                   | (refine IxA.mk (by omega) ?_)
                   | (refine Sl.ln (Own.sl (by assumption)) ?_)
                   | (refine Ints.ix (Own.sl (by assumption)) (by omega) ?_)
                   | (refine Ints.ixI (Own.sl (by assumption)) (by omega) ?_)
                   | (refine Ints.ld (Own.sl (by assumption)) (by omega) ?_))
          refine Lp.mk tyOk [false, false, true, false, true, true, false, false, false, false, false, false, false, false, false, false, false, false, false, false, false, false, false, false, true, true, true, true, true, true, true, true, true, true, true, true, true, true, true, true, true, true, true, true, true, true, true, true, true, true, true, true, true, true, true, true, true, true, true, true, true, true, true, true, true, true, true] (fun m fr wr => getK fr 4 fun i => ∃ d : Nat, d ≤ rr.length ∧ m = rr.length - d ∧ i = .int .i64 (d : Int) ∧ (∀ i, i < d → (rr.getD i []).length = (rr.getD 0 []).length ∧ ∀ j, j < (rr.getD i []).length → 0 ≤ val rr i j ∧ val rr i j ≤ 1000) ∧ wr = w2) (rr.length) ?_ ?_
          · exact ⟨0, Nat.zero_le _, rfl, rfl, (by first | exact fun _ hi => absurd hi (Nat.not_lt_zero _) | exact fun _ _ hi => absurd hi (Nat.not_lt_zero _) | assumption | exact Own.nil | omega | simp), rfl⟩
          · intro m w3 u2 u4 u5 u24 u25 u26 u27 u28 u29 u30 u31 u32 u33 u34 u35 u36 u37 u38 u39 u40 u41 u42 u43 u44 u45 u46 u47 u48 u49 u50 u51 u52 u53 u54 u55 u56 u57 u58 u59 u60 u61 u62 u63 u64 u65 u66 hR
            obtain ⟨d, hd, rfl, rfl, hok, rfl⟩ := hR
            by_cases hdl : d < rr.length
            · have hrd := (Hv.row d hdl).le
              by_cases hl : (rr.getD d []).length = (rr.getD 0 []).length
              · repeat' (conv => whnf
                         first
                         | (refine Dr.quiet tyOk (by kernel_rfl) ?_)
                         | (refine Rng.mk (by omega) ?_)
                         | (refine Split.pos (by omega) ?_)
                         | (refine Split.neg (by omega) ?_)
                         | (refine Split.mk (fun h => ?_) (fun h => ?_))
                         | (refine Need.mk (by omega) ?_)
                         | (refine Ints.ln (by assumption) ?_)
                         | (refine Mat.ln (by assumption) ?_)
                         | (refine Ints.ln (Mat.row (by assumption) _ (by omega)) ?_)
                         | (refine Ints.ix (by assumption) (by omega) ?_)
                         | (refine Mat.ix (by assumption) (by omega) ?_)
                         | (refine Ints.ix (Mat.row (by assumption) _ (by omega)) (by omega) ?_)
                         | (refine Ints.ix (c := 0) (by assumption) (by omega) ?_)
                         | (refine Mat.ix (c := 0) (by assumption) (by omega) ?_)
                         | (refine Ints.ix (c := 0) (Mat.row (by assumption) _ (by omega)) (by omega) ?_)
                         | (refine Ints.ixI (by assumption) (by omega) ?_)
                         | (refine Mat.ixI (by assumption) (by omega) ?_)
                         | (refine Ints.ixI (Mat.row (by assumption) _ (by omega)) (by omega) ?_)
                         | (refine Ints.ld (by assumption) (by omega) ?_)
                         | (refine Mat.ld (by assumption) (by omega) ?_)
                         | (refine Ints.ld (Mat.row (by assumption) _ (by omega)) (by omega) ?_)
                         | (refine At.ld (by assumption) rfl ?_)
                         | (refine At.ldN (by assumption) rfl ?_)
                         | (refine Prs.ln (by assumption) ?_)
                         | (refine Trs.ln (by assumption) ?_)
                         | (refine Prs.ix (by assumption) (by omega) ?_)
                         | (refine Trs.ix (by assumption) (by omega) ?_)
                         | (refine Prs.ldN (by assumption) (by omega) ?_)
                         | (refine Trs.ldN (by assumption) (by omega) ?_)
                         | (refine At.ldN (Blk.at (by assumption)) rfl ?_)
                         | (refine At.ld (Blk.at (by assumption)) rfl ?_)
                         | (refine IxA.mk (by omega) ?_)
                         | (refine Sl.ln (Own.sl (by assumption)) ?_)
                         | (refine Ints.ix (Own.sl (by assumption)) (by omega) ?_)
                         | (refine Ints.ixI (Own.sl (by assumption)) (by omega) ?_)
                         | (refine Ints.ld (Own.sl (by assumption)) (by omega) ?_))
                refine Lp.mk tyOk [false, false, true, false, false, true, false, false, false, false, false, false, false, false, false, false, false, false, false, false, false, false, false, false, false, false, false, false, false, false, false, false, false, false, false, false, false, false, false, false, true, true, true, true, true, true, true, true, true, true, true, true, true, true, true, true, true, true, true, true, true, true, true, true, true, true, true] (fun m fr wr => getK fr 5 fun k => ∃ e : Nat, e ≤ (rr.getD d []).length ∧ m = (rr.getD d []).length - e ∧ k = .int .i64 (e : Int) ∧ (∀ j, j < e → 0 ≤ val rr d j ∧ val rr d j ≤ 1000) ∧ wr = w3) ((rr.getD d []).length) ?_ ?_
                · exact ⟨0, Nat.zero_le _, rfl, rfl, (by first | exact fun _ hi => absurd hi (Nat.not_lt_zero _) | exact fun _ _ hi => absurd hi (Nat.not_lt_zero _) | assumption | exact Own.nil | omega | simp), rfl⟩
                · intro m w4 u2 u5 u40 u41 u42 u43 u44 u45 u46 u47 u48 u49 u50 u51 u52 u53 u54 u55 u56 u57 u58 u59 u60 u61 u62 u63 u64 u65 u66 hR
                  obtain ⟨e, he, rfl, rfl, hk, rfl⟩ := hR
                  have hve : (rr.getD d []).getD e 0 = val rr d e := rfl
                  by_cases hel : e < (rr.getD d []).length
                  · by_cases hb : 0 ≤ val rr d e ∧ val rr d e ≤ 1000
                    · repeat' (conv => whnf
                               first
                               | (refine Dr.quiet tyOk (by kernel_rfl) ?_)
                               | (refine Rng.mk (by omega) ?_)
                               | (refine Split.pos (by omega) ?_)
                               | (refine Split.neg (by omega) ?_)
                               | (refine Split.mk (fun h => ?_) (fun h => ?_))
                               | (refine Need.mk (by omega) ?_)
                               | (refine Ints.ln (by assumption) ?_)
                               | (refine Mat.ln (by assumption) ?_)
                               | (refine Ints.ln (Mat.row (by assumption) _ (by omega)) ?_)
                               | (refine Ints.ix (by assumption) (by omega) ?_)
                               | (refine Mat.ix (by assumption) (by omega) ?_)
                               | (refine Ints.ix (Mat.row (by assumption) _ (by omega)) (by omega) ?_)
                               | (refine Ints.ix (c := 0) (by assumption) (by omega) ?_)
                               | (refine Mat.ix (c := 0) (by assumption) (by omega) ?_)
                               | (refine Ints.ix (c := 0) (Mat.row (by assumption) _ (by omega)) (by omega) ?_)
                               | (refine Ints.ixI (by assumption) (by omega) ?_)
                               | (refine Mat.ixI (by assumption) (by omega) ?_)
                               | (refine Ints.ixI (Mat.row (by assumption) _ (by omega)) (by omega) ?_)
                               | (refine Ints.ld (by assumption) (by omega) ?_)
                               | (refine Mat.ld (by assumption) (by omega) ?_)
                               | (refine Ints.ld (Mat.row (by assumption) _ (by omega)) (by omega) ?_)
                               | (refine At.ld (by assumption) rfl ?_)
                               | (refine At.ldN (by assumption) rfl ?_)
                               | (refine Prs.ln (by assumption) ?_)
                               | (refine Trs.ln (by assumption) ?_)
                               | (refine Prs.ix (by assumption) (by omega) ?_)
                               | (refine Trs.ix (by assumption) (by omega) ?_)
                               | (refine Prs.ldN (by assumption) (by omega) ?_)
                               | (refine Trs.ldN (by assumption) (by omega) ?_)
                               | (refine At.ldN (Blk.at (by assumption)) rfl ?_)
                               | (refine At.ld (Blk.at (by assumption)) rfl ?_)
                               | (refine IxA.mk (by omega) ?_)
                               | (refine Sl.ln (Own.sl (by assumption)) ?_)
                               | (refine Ints.ix (Own.sl (by assumption)) (by omega) ?_)
                               | (refine Ints.ixI (Own.sl (by assumption)) (by omega) ?_)
                               | (refine Ints.ld (Own.sl (by assumption)) (by omega) ?_))
                      refine ⟨_, (by omega : (rr.getD d []).length - (e + 1) < (rr.getD d []).length - e), rfl, e + 1, by omega, rfl, rfl, all_succ hk hb, rfl⟩
                    · rw [skE_bad hnb (.inr ⟨d, hdl, .inr ⟨e, hel, by omega⟩⟩)]
                      repeat' (conv => whnf
                               first
                               | (refine Dr.quiet tyOk (by kernel_rfl) ?_)
                               | (refine Rng.mk (by omega) ?_)
                               | (refine Split.pos (by omega) ?_)
                               | (refine Split.neg (by omega) ?_)
                               | (refine Split.mk (fun h => ?_) (fun h => ?_))
                               | (refine Need.mk (by omega) ?_)
                               | (refine Ints.ln (by assumption) ?_)
                               | (refine Mat.ln (by assumption) ?_)
                               | (refine Ints.ln (Mat.row (by assumption) _ (by omega)) ?_)
                               | (refine Ints.ix (by assumption) (by omega) ?_)
                               | (refine Mat.ix (by assumption) (by omega) ?_)
                               | (refine Ints.ix (Mat.row (by assumption) _ (by omega)) (by omega) ?_)
                               | (refine Ints.ix (c := 0) (by assumption) (by omega) ?_)
                               | (refine Mat.ix (c := 0) (by assumption) (by omega) ?_)
                               | (refine Ints.ix (c := 0) (Mat.row (by assumption) _ (by omega)) (by omega) ?_)
                               | (refine Ints.ixI (by assumption) (by omega) ?_)
                               | (refine Mat.ixI (by assumption) (by omega) ?_)
                               | (refine Ints.ixI (Mat.row (by assumption) _ (by omega)) (by omega) ?_)
                               | (refine Ints.ld (by assumption) (by omega) ?_)
                               | (refine Mat.ld (by assumption) (by omega) ?_)
                               | (refine Ints.ld (Mat.row (by assumption) _ (by omega)) (by omega) ?_)
                               | (refine At.ld (by assumption) rfl ?_)
                               | (refine At.ldN (by assumption) rfl ?_)
                               | (refine Prs.ln (by assumption) ?_)
                               | (refine Trs.ln (by assumption) ?_)
                               | (refine Prs.ix (by assumption) (by omega) ?_)
                               | (refine Trs.ix (by assumption) (by omega) ?_)
                               | (refine Prs.ldN (by assumption) (by omega) ?_)
                               | (refine Trs.ldN (by assumption) (by omega) ?_)
                               | (refine At.ldN (Blk.at (by assumption)) rfl ?_)
                               | (refine At.ld (Blk.at (by assumption)) rfl ?_)
                               | (refine IxA.mk (by omega) ?_)
                               | (refine Sl.ln (Own.sl (by assumption)) ?_)
                               | (refine Ints.ix (Own.sl (by assumption)) (by omega) ?_)
                               | (refine Ints.ixI (Own.sl (by assumption)) (by omega) ?_)
                               | (refine Ints.ld (Own.sl (by assumption)) (by omega) ?_))
                      all_goals exact ⟨rfl, EE⟩
                  · repeat' (conv => whnf
                             first
                             | (refine Dr.quiet tyOk (by kernel_rfl) ?_)
                             | (refine Rng.mk (by omega) ?_)
                             | (refine Split.pos (by omega) ?_)
                             | (refine Split.neg (by omega) ?_)
                             | (refine Split.mk (fun h => ?_) (fun h => ?_))
                             | (refine Need.mk (by omega) ?_)
                             | (refine Ints.ln (by assumption) ?_)
                             | (refine Mat.ln (by assumption) ?_)
                             | (refine Ints.ln (Mat.row (by assumption) _ (by omega)) ?_)
                             | (refine Ints.ix (by assumption) (by omega) ?_)
                             | (refine Mat.ix (by assumption) (by omega) ?_)
                             | (refine Ints.ix (Mat.row (by assumption) _ (by omega)) (by omega) ?_)
                             | (refine Ints.ix (c := 0) (by assumption) (by omega) ?_)
                             | (refine Mat.ix (c := 0) (by assumption) (by omega) ?_)
                             | (refine Ints.ix (c := 0) (Mat.row (by assumption) _ (by omega)) (by omega) ?_)
                             | (refine Ints.ixI (by assumption) (by omega) ?_)
                             | (refine Mat.ixI (by assumption) (by omega) ?_)
                             | (refine Ints.ixI (Mat.row (by assumption) _ (by omega)) (by omega) ?_)
                             | (refine Ints.ld (by assumption) (by omega) ?_)
                             | (refine Mat.ld (by assumption) (by omega) ?_)
                             | (refine Ints.ld (Mat.row (by assumption) _ (by omega)) (by omega) ?_)
                             | (refine At.ld (by assumption) rfl ?_)
                             | (refine At.ldN (by assumption) rfl ?_)
                             | (refine Prs.ln (by assumption) ?_)
                             | (refine Trs.ln (by assumption) ?_)
                             | (refine Prs.ix (by assumption) (by omega) ?_)
                             | (refine Trs.ix (by assumption) (by omega) ?_)
                             | (refine Prs.ldN (by assumption) (by omega) ?_)
                             | (refine Trs.ldN (by assumption) (by omega) ?_)
                             | (refine At.ldN (Blk.at (by assumption)) rfl ?_)
                             | (refine At.ld (Blk.at (by assumption)) rfl ?_)
                             | (refine IxA.mk (by omega) ?_)
                             | (refine Sl.ln (Own.sl (by assumption)) ?_)
                             | (refine Ints.ix (Own.sl (by assumption)) (by omega) ?_)
                             | (refine Ints.ixI (Own.sl (by assumption)) (by omega) ?_)
                             | (refine Ints.ld (Own.sl (by assumption)) (by omega) ?_))
                    refine ⟨_, (by omega : rr.length - (d + 1) < rr.length - d), rfl, d + 1, by omega, rfl, rfl, all_succ hok ⟨hl, fun j hj => hk j (by omega)⟩, rfl⟩
              · rw [skE_bad hnb (.inr ⟨d, hdl, .inl hl⟩)]
                repeat' (conv => whnf
                         first
                         | (refine Dr.quiet tyOk (by kernel_rfl) ?_)
                         | (refine Rng.mk (by omega) ?_)
                         | (refine Split.pos (by omega) ?_)
                         | (refine Split.neg (by omega) ?_)
                         | (refine Split.mk (fun h => ?_) (fun h => ?_))
                         | (refine Need.mk (by omega) ?_)
                         | (refine Ints.ln (by assumption) ?_)
                         | (refine Mat.ln (by assumption) ?_)
                         | (refine Ints.ln (Mat.row (by assumption) _ (by omega)) ?_)
                         | (refine Ints.ix (by assumption) (by omega) ?_)
                         | (refine Mat.ix (by assumption) (by omega) ?_)
                         | (refine Ints.ix (Mat.row (by assumption) _ (by omega)) (by omega) ?_)
                         | (refine Ints.ix (c := 0) (by assumption) (by omega) ?_)
                         | (refine Mat.ix (c := 0) (by assumption) (by omega) ?_)
                         | (refine Ints.ix (c := 0) (Mat.row (by assumption) _ (by omega)) (by omega) ?_)
                         | (refine Ints.ixI (by assumption) (by omega) ?_)
                         | (refine Mat.ixI (by assumption) (by omega) ?_)
                         | (refine Ints.ixI (Mat.row (by assumption) _ (by omega)) (by omega) ?_)
                         | (refine Ints.ld (by assumption) (by omega) ?_)
                         | (refine Mat.ld (by assumption) (by omega) ?_)
                         | (refine Ints.ld (Mat.row (by assumption) _ (by omega)) (by omega) ?_)
                         | (refine At.ld (by assumption) rfl ?_)
                         | (refine At.ldN (by assumption) rfl ?_)
                         | (refine Prs.ln (by assumption) ?_)
                         | (refine Trs.ln (by assumption) ?_)
                         | (refine Prs.ix (by assumption) (by omega) ?_)
                         | (refine Trs.ix (by assumption) (by omega) ?_)
                         | (refine Prs.ldN (by assumption) (by omega) ?_)
                         | (refine Trs.ldN (by assumption) (by omega) ?_)
                         | (refine At.ldN (Blk.at (by assumption)) rfl ?_)
                         | (refine At.ld (Blk.at (by assumption)) rfl ?_)
                         | (refine IxA.mk (by omega) ?_)
                         | (refine Sl.ln (Own.sl (by assumption)) ?_)
                         | (refine Ints.ix (Own.sl (by assumption)) (by omega) ?_)
                         | (refine Ints.ixI (Own.sl (by assumption)) (by omega) ?_)
                         | (refine Ints.ld (Own.sl (by assumption)) (by omega) ?_))
                exact ⟨rfl, EE⟩
            · rw [skE_ok hnb (by
                rintro (h | ⟨i, hi, h | ⟨j, hj, h⟩⟩)
                · exact h0 h
                · exact h (hok i (by omega)).1
                · have := (hok i (by omega)).2 j hj; omega)]
              repeat' (conv => whnf
                       first
                       | (refine Dr.quiet tyOk (by kernel_rfl) ?_)
                       | (refine Rng.mk (by omega) ?_)
                       | (refine Split.pos (by omega) ?_)
                       | (refine Split.neg (by omega) ?_)
                       | (refine Split.mk (fun h => ?_) (fun h => ?_))
                       | (refine Need.mk (by omega) ?_)
                       | (refine Ints.ln (by assumption) ?_)
                       | (refine Mat.ln (by assumption) ?_)
                       | (refine Ints.ln (Mat.row (by assumption) _ (by omega)) ?_)
                       | (refine Ints.ix (by assumption) (by omega) ?_)
                       | (refine Mat.ix (by assumption) (by omega) ?_)
                       | (refine Ints.ix (Mat.row (by assumption) _ (by omega)) (by omega) ?_)
                       | (refine Ints.ix (c := 0) (by assumption) (by omega) ?_)
                       | (refine Mat.ix (c := 0) (by assumption) (by omega) ?_)
                       | (refine Ints.ix (c := 0) (Mat.row (by assumption) _ (by omega)) (by omega) ?_)
                       | (refine Ints.ixI (by assumption) (by omega) ?_)
                       | (refine Mat.ixI (by assumption) (by omega) ?_)
                       | (refine Ints.ixI (Mat.row (by assumption) _ (by omega)) (by omega) ?_)
                       | (refine Ints.ld (by assumption) (by omega) ?_)
                       | (refine Mat.ld (by assumption) (by omega) ?_)
                       | (refine Ints.ld (Mat.row (by assumption) _ (by omega)) (by omega) ?_)
                       | (refine At.ld (by assumption) rfl ?_)
                       | (refine At.ldN (by assumption) rfl ?_)
                       | (refine Prs.ln (by assumption) ?_)
                       | (refine Trs.ln (by assumption) ?_)
                       | (refine Prs.ix (by assumption) (by omega) ?_)
                       | (refine Trs.ix (by assumption) (by omega) ?_)
                       | (refine Prs.ldN (by assumption) (by omega) ?_)
                       | (refine Trs.ldN (by assumption) (by omega) ?_)
                       | (refine At.ldN (Blk.at (by assumption)) rfl ?_)
                       | (refine At.ld (Blk.at (by assumption)) rfl ?_)
                       | (refine IxA.mk (by omega) ?_)
                       | (refine Sl.ln (Own.sl (by assumption)) ?_)
                       | (refine Ints.ix (Own.sl (by assumption)) (by omega) ?_)
                       | (refine Ints.ixI (Own.sl (by assumption)) (by omega) ?_)
                       | (refine Ints.ld (Own.sl (by assumption)) (by omega) ?_))
              exact ⟨rfl, EE⟩

theorem sints_pc {w : World} {av bv : Value} {a b : List Int} (Ha : Ints w av a) (Hb : Ints w bv b) : PC Try.prog 15 [av, bv] w (.bool (tf (a = b))) := by
  refine PC.mk tyOk Try.func15 rfl (by kernel_rfl) fun w1 E1 => ?_
  replace Ha := Ha.ext E1
  replace Hb := Hb.ext E1
  have EE := Ext.refl w1
  have hle := Ha.le
  have hle2 := Hb.le
  by_cases hl : a.length = b.length
  · repeat' (conv => whnf
             first
             | (refine Dr.quiet tyOk (by kernel_rfl) ?_)
             | (refine Rng.mk (by omega) ?_)
             | (refine Split.pos (by omega) ?_)
             | (refine Split.neg (by omega) ?_)
             | (refine Split.mk (fun h => ?_) (fun h => ?_))
             | (refine Need.mk (by omega) ?_)
             | (refine Ints.ln (by assumption) ?_)
             | (refine Mat.ln (by assumption) ?_)
             | (refine Ints.ln (Mat.row (by assumption) _ (by omega)) ?_)
             | (refine Ints.ix (by assumption) (by omega) ?_)
             | (refine Mat.ix (by assumption) (by omega) ?_)
             | (refine Ints.ix (Mat.row (by assumption) _ (by omega)) (by omega) ?_)
             | (refine Ints.ix (c := 0) (by assumption) (by omega) ?_)
             | (refine Mat.ix (c := 0) (by assumption) (by omega) ?_)
             | (refine Ints.ix (c := 0) (Mat.row (by assumption) _ (by omega)) (by omega) ?_)
             | (refine Ints.ixI (by assumption) (by omega) ?_)
             | (refine Mat.ixI (by assumption) (by omega) ?_)
             | (refine Ints.ixI (Mat.row (by assumption) _ (by omega)) (by omega) ?_)
             | (refine Ints.ld (by assumption) (by omega) ?_)
             | (refine Mat.ld (by assumption) (by omega) ?_)
             | (refine Ints.ld (Mat.row (by assumption) _ (by omega)) (by omega) ?_)
             | (refine At.ld (by assumption) rfl ?_)
             | (refine At.ldN (by assumption) rfl ?_)
             | (refine Prs.ln (by assumption) ?_)
             | (refine Trs.ln (by assumption) ?_)
             | (refine Prs.ix (by assumption) (by omega) ?_)
             | (refine Trs.ix (by assumption) (by omega) ?_)
             | (refine Prs.ldN (by assumption) (by omega) ?_)
             | (refine Trs.ldN (by assumption) (by omega) ?_)
             | (refine At.ldN (Blk.at (by assumption)) rfl ?_)
             | (refine At.ld (Blk.at (by assumption)) rfl ?_)
             | (refine IxA.mk (by omega) ?_)
             | (refine Sl.ln (Own.sl (by assumption)) ?_)
             | (refine Ints.ix (Own.sl (by assumption)) (by omega) ?_)
             | (refine Ints.ixI (Own.sl (by assumption)) (by omega) ?_)
             | (refine Ints.ld (Own.sl (by assumption)) (by omega) ?_))
    refine Lp.mk tyOk [false, false, false, false, true, true, false, false, false, false, false, true, true, true, true, true, true, true, true, true, true, true, true, true, true, true] (fun m fr wr => getK fr 5 fun j => ∃ c : Nat, c ≤ a.length ∧ m = a.length - c ∧ j = .int .i64 (c : Int) ∧ (∀ i, i < c → a.getD i 0 = b.getD i 0) ∧ wr = w1) (a.length) ?_ ?_
    · exact ⟨0, Nat.zero_le _, rfl, rfl, (by first | exact fun _ hi => absurd hi (Nat.not_lt_zero _) | exact fun _ _ hi => absurd hi (Nat.not_lt_zero _) | assumption | exact Own.nil | omega | simp), rfl⟩
    · intro m w2 u4 u5 u11 u12 u13 u14 u15 u16 u17 u18 u19 u20 u21 u22 u23 u24 u25 hR
      obtain ⟨c, hc, rfl, rfl, hv, rfl⟩ := hR
      by_cases hcl : c < a.length
      · by_cases he : a.getD c 0 = b.getD c 0
        · repeat' (conv => whnf
                   first
                   | (refine Dr.quiet tyOk (by kernel_rfl) ?_)
                   | (refine Rng.mk (by omega) ?_)
                   | (refine Split.pos (by omega) ?_)
                   | (refine Split.neg (by omega) ?_)
                   | (refine Split.mk (fun h => ?_) (fun h => ?_))
                   | (refine Need.mk (by omega) ?_)
                   | (refine Ints.ln (by assumption) ?_)
                   | (refine Mat.ln (by assumption) ?_)
                   | (refine Ints.ln (Mat.row (by assumption) _ (by omega)) ?_)
                   | (refine Ints.ix (by assumption) (by omega) ?_)
                   | (refine Mat.ix (by assumption) (by omega) ?_)
                   | (refine Ints.ix (Mat.row (by assumption) _ (by omega)) (by omega) ?_)
                   | (refine Ints.ix (c := 0) (by assumption) (by omega) ?_)
                   | (refine Mat.ix (c := 0) (by assumption) (by omega) ?_)
                   | (refine Ints.ix (c := 0) (Mat.row (by assumption) _ (by omega)) (by omega) ?_)
                   | (refine Ints.ixI (by assumption) (by omega) ?_)
                   | (refine Mat.ixI (by assumption) (by omega) ?_)
                   | (refine Ints.ixI (Mat.row (by assumption) _ (by omega)) (by omega) ?_)
                   | (refine Ints.ld (by assumption) (by omega) ?_)
                   | (refine Mat.ld (by assumption) (by omega) ?_)
                   | (refine Ints.ld (Mat.row (by assumption) _ (by omega)) (by omega) ?_)
                   | (refine At.ld (by assumption) rfl ?_)
                   | (refine At.ldN (by assumption) rfl ?_)
                   | (refine Prs.ln (by assumption) ?_)
                   | (refine Trs.ln (by assumption) ?_)
                   | (refine Prs.ix (by assumption) (by omega) ?_)
                   | (refine Trs.ix (by assumption) (by omega) ?_)
                   | (refine Prs.ldN (by assumption) (by omega) ?_)
                   | (refine Trs.ldN (by assumption) (by omega) ?_)
                   | (refine At.ldN (Blk.at (by assumption)) rfl ?_)
                   | (refine At.ld (Blk.at (by assumption)) rfl ?_)
                   | (refine IxA.mk (by omega) ?_)
                   | (refine Sl.ln (Own.sl (by assumption)) ?_)
                   | (refine Ints.ix (Own.sl (by assumption)) (by omega) ?_)
                   | (refine Ints.ixI (Own.sl (by assumption)) (by omega) ?_)
                   | (refine Ints.ld (Own.sl (by assumption)) (by omega) ?_))
          refine ⟨_, (by omega : a.length - (c + 1) < a.length - c), rfl, c + 1, by omega, rfl, rfl, all_succ hv he, rfl⟩
        · rw [tf_f (p := a = b) (by rintro rfl; exact he rfl)]
          repeat' (conv => whnf
                   first
                   | (refine Dr.quiet tyOk (by kernel_rfl) ?_)
                   | (refine Rng.mk (by omega) ?_)
                   | (refine Split.pos (by omega) ?_)
                   | (refine Split.neg (by omega) ?_)
                   | (refine Split.mk (fun h => ?_) (fun h => ?_))
                   | (refine Need.mk (by omega) ?_)
                   | (refine Ints.ln (by assumption) ?_)
                   | (refine Mat.ln (by assumption) ?_)
                   | (refine Ints.ln (Mat.row (by assumption) _ (by omega)) ?_)
                   | (refine Ints.ix (by assumption) (by omega) ?_)
                   | (refine Mat.ix (by assumption) (by omega) ?_)
                   | (refine Ints.ix (Mat.row (by assumption) _ (by omega)) (by omega) ?_)
                   | (refine Ints.ix (c := 0) (by assumption) (by omega) ?_)
                   | (refine Mat.ix (c := 0) (by assumption) (by omega) ?_)
                   | (refine Ints.ix (c := 0) (Mat.row (by assumption) _ (by omega)) (by omega) ?_)
                   | (refine Ints.ixI (by assumption) (by omega) ?_)
                   | (refine Mat.ixI (by assumption) (by omega) ?_)
                   | (refine Ints.ixI (Mat.row (by assumption) _ (by omega)) (by omega) ?_)
                   | (refine Ints.ld (by assumption) (by omega) ?_)
                   | (refine Mat.ld (by assumption) (by omega) ?_)
                   | (refine Ints.ld (Mat.row (by assumption) _ (by omega)) (by omega) ?_)
                   | (refine At.ld (by assumption) rfl ?_)
                   | (refine At.ldN (by assumption) rfl ?_)
                   | (refine Prs.ln (by assumption) ?_)
                   | (refine Trs.ln (by assumption) ?_)
                   | (refine Prs.ix (by assumption) (by omega) ?_)
                   | (refine Trs.ix (by assumption) (by omega) ?_)
                   | (refine Prs.ldN (by assumption) (by omega) ?_)
                   | (refine Trs.ldN (by assumption) (by omega) ?_)
                   | (refine At.ldN (Blk.at (by assumption)) rfl ?_)
                   | (refine At.ld (Blk.at (by assumption)) rfl ?_)
                   | (refine IxA.mk (by omega) ?_)
                   | (refine Sl.ln (Own.sl (by assumption)) ?_)
                   | (refine Ints.ix (Own.sl (by assumption)) (by omega) ?_)
                   | (refine Ints.ixI (Own.sl (by assumption)) (by omega) ?_)
                   | (refine Ints.ld (Own.sl (by assumption)) (by omega) ?_))
          exact ⟨rfl, EE⟩
      · repeat' (conv => whnf
                 first
                 | (refine Dr.quiet tyOk (by kernel_rfl) ?_)
                 | (refine Rng.mk (by omega) ?_)
                 | (refine Split.pos (by omega) ?_)
                 | (refine Split.neg (by omega) ?_)
                 | (refine Split.mk (fun h => ?_) (fun h => ?_))
                 | (refine Need.mk (by omega) ?_)
                 | (refine Ints.ln (by assumption) ?_)
                 | (refine Mat.ln (by assumption) ?_)
                 | (refine Ints.ln (Mat.row (by assumption) _ (by omega)) ?_)
                 | (refine Ints.ix (by assumption) (by omega) ?_)
                 | (refine Mat.ix (by assumption) (by omega) ?_)
                 | (refine Ints.ix (Mat.row (by assumption) _ (by omega)) (by omega) ?_)
                 | (refine Ints.ix (c := 0) (by assumption) (by omega) ?_)
                 | (refine Mat.ix (c := 0) (by assumption) (by omega) ?_)
                 | (refine Ints.ix (c := 0) (Mat.row (by assumption) _ (by omega)) (by omega) ?_)
                 | (refine Ints.ixI (by assumption) (by omega) ?_)
                 | (refine Mat.ixI (by assumption) (by omega) ?_)
                 | (refine Ints.ixI (Mat.row (by assumption) _ (by omega)) (by omega) ?_)
                 | (refine Ints.ld (by assumption) (by omega) ?_)
                 | (refine Mat.ld (by assumption) (by omega) ?_)
                 | (refine Ints.ld (Mat.row (by assumption) _ (by omega)) (by omega) ?_)
                 | (refine At.ld (by assumption) rfl ?_)
                 | (refine At.ldN (by assumption) rfl ?_)
                 | (refine Prs.ln (by assumption) ?_)
                 | (refine Trs.ln (by assumption) ?_)
                 | (refine Prs.ix (by assumption) (by omega) ?_)
                 | (refine Trs.ix (by assumption) (by omega) ?_)
                 | (refine Prs.ldN (by assumption) (by omega) ?_)
                 | (refine Trs.ldN (by assumption) (by omega) ?_)
                 | (refine At.ldN (Blk.at (by assumption)) rfl ?_)
                 | (refine At.ld (Blk.at (by assumption)) rfl ?_)
                 | (refine IxA.mk (by omega) ?_)
                 | (refine Sl.ln (Own.sl (by assumption)) ?_)
                 | (refine Ints.ix (Own.sl (by assumption)) (by omega) ?_)
                 | (refine Ints.ixI (Own.sl (by assumption)) (by omega) ?_)
                 | (refine Ints.ld (Own.sl (by assumption)) (by omega) ?_))
        rw [tf_t (p := a = b) (ext_getD 0 (by omega) fun i hi => hv i (by omega))]; exact ⟨rfl, EE⟩
  · rw [tf_f (p := a = b) (fun h => hl (by rw [h]))]
    repeat' (conv => whnf
             first
             | (refine Dr.quiet tyOk (by kernel_rfl) ?_)
             | (refine Rng.mk (by omega) ?_)
             | (refine Split.pos (by omega) ?_)
             | (refine Split.neg (by omega) ?_)
             | (refine Split.mk (fun h => ?_) (fun h => ?_))
             | (refine Need.mk (by omega) ?_)
             | (refine Ints.ln (by assumption) ?_)
             | (refine Mat.ln (by assumption) ?_)
             | (refine Ints.ln (Mat.row (by assumption) _ (by omega)) ?_)
             | (refine Ints.ix (by assumption) (by omega) ?_)
             | (refine Mat.ix (by assumption) (by omega) ?_)
             | (refine Ints.ix (Mat.row (by assumption) _ (by omega)) (by omega) ?_)
             | (refine Ints.ix (c := 0) (by assumption) (by omega) ?_)
             | (refine Mat.ix (c := 0) (by assumption) (by omega) ?_)
             | (refine Ints.ix (c := 0) (Mat.row (by assumption) _ (by omega)) (by omega) ?_)
             | (refine Ints.ixI (by assumption) (by omega) ?_)
             | (refine Mat.ixI (by assumption) (by omega) ?_)
             | (refine Ints.ixI (Mat.row (by assumption) _ (by omega)) (by omega) ?_)
             | (refine Ints.ld (by assumption) (by omega) ?_)
             | (refine Mat.ld (by assumption) (by omega) ?_)
             | (refine Ints.ld (Mat.row (by assumption) _ (by omega)) (by omega) ?_)
             | (refine At.ld (by assumption) rfl ?_)
             | (refine At.ldN (by assumption) rfl ?_)
             | (refine Prs.ln (by assumption) ?_)
             | (refine Trs.ln (by assumption) ?_)
             | (refine Prs.ix (by assumption) (by omega) ?_)
             | (refine Trs.ix (by assumption) (by omega) ?_)
             | (refine Prs.ldN (by assumption) (by omega) ?_)
             | (refine Trs.ldN (by assumption) (by omega) ?_)
             | (refine At.ldN (Blk.at (by assumption)) rfl ?_)
             | (refine At.ld (Blk.at (by assumption)) rfl ?_)
             | (refine IxA.mk (by omega) ?_)
             | (refine Sl.ln (Own.sl (by assumption)) ?_)
             | (refine Ints.ix (Own.sl (by assumption)) (by omega) ?_)
             | (refine Ints.ixI (Own.sl (by assumption)) (by omega) ?_)
             | (refine Ints.ld (Own.sl (by assumption)) (by omega) ?_))
    exact ⟨rfl, EE⟩
end Go.Proofs.Ytclbiabiiknolaa
set_option linter.unusedVariables false
set_option linter.unusedSimpArgs false
namespace Go.Proofs.Ytclbiabiiknolaa
open Go.Eng
set_option maxRecDepth 100000
set_option maxHeartbeats 4000000

theorem eLeft : Elem Try.prog 71 (.agg #[.bool false, .bool false, .bool false, .bool false, .bool false, .bool false]) 6 6 := by unfold Elem; kernel_rfl
def bvs (l : List Bool) : List Value := l.map Value.bool
theorem bvs_at {l : List Bool} {k : Nat} {b : Bool} (h : l.getD k false = b) (hk : k < l.length) : (bvs l)[k]? = some (.bool b) := by
  unfold bvs
  rw [List.getElem?_map, List.getElem?_eq_getElem hk]
  simp only [List.getD] at h
  rw [List.getElem?_eq_getElem hk] at h
  simp at h
  simp [h]

theorem bvs_set {l : List Bool} {k : Nat} {b : Bool} : (bvs l).set k (.bool b) = bvs (l.set k b) := by unfold bvs; rw [List.map_set]

theorem gdiv_pc {w : World} {vv av : Value} {vs : List Value} {rr : List (List Int)} {a : List Int} {m : Nat} (Hv : Mat w vv vs rr) (Ha : Ints w av a) (hk : Sd rr m) : PC Try.prog 37 [vv, av] w (.bool (tf (divn rr a))) := by
  refine PC.mk tyOk Try.func37 rfl (by kernel_rfl) fun w1 E1 => ?_
  replace Hv := Hv.ext E1
  replace Ha := Ha.ext E1
  have EE := Ext.refl w1
  have hla := Ha.le
  have hn1 := hk.n1
  have hn6 := hk.n6
  have h0l := hk.m0
  have hr0 := (Hv.row 0 (by omega)).le
  have hm16 := hk.m16
  repeat' (conv => whnf
           first
           | (refine Dr.quiet tyOk (by kernel_rfl) ?_)
           | (refine Rng.mk (by omega) ?_)
           | (refine Split.pos (by omega) ?_)
           | (refine Split.neg (by omega) ?_)
           | (refine Split.mk (fun h => ?_) (fun h => ?_))
           | (refine Need.mk (by omega) ?_)
           | (refine Ints.ln (by assumption) ?_)
           | (refine Mat.ln (by assumption) ?_)
           | (refine Ints.ln (Mat.row (by assumption) _ (by omega)) ?_)
           | (refine Ints.ix (by assumption) (by omega) ?_)
           | (refine Mat.ix (by assumption) (by omega) ?_)
           | (refine Ints.ix (Mat.row (by assumption) _ (by omega)) (by omega) ?_)
           | (refine Ints.ix (c := 0) (by assumption) (by omega) ?_)
           | (refine Mat.ix (c := 0) (by assumption) (by omega) ?_)
           | (refine Ints.ix (c := 0) (Mat.row (by assumption) _ (by omega)) (by omega) ?_)
           | (refine Ints.ixI (by assumption) (by omega) ?_)
           | (refine Mat.ixI (by assumption) (by omega) ?_)
           | (refine Ints.ixI (Mat.row (by assumption) _ (by omega)) (by omega) ?_)
           | (refine Ints.ld (by assumption) (by omega) ?_)
           | (refine Mat.ld (by assumption) (by omega) ?_)
           | (refine Ints.ld (Mat.row (by assumption) _ (by omega)) (by omega) ?_)
           | (refine At.ld (by assumption) rfl ?_)
           | (refine At.ldN (by assumption) rfl ?_)
           | (refine Prs.ln (by assumption) ?_)
           | (refine Trs.ln (by assumption) ?_)
           | (refine Prs.ix (by assumption) (by omega) ?_)
           | (refine Trs.ix (by assumption) (by omega) ?_)
           | (refine Prs.ldN (by assumption) (by omega) ?_)
           | (refine Trs.ldN (by assumption) (by omega) ?_)
           | (refine At.ldN (Blk.at (by assumption)) rfl ?_)
           | (refine At.ld (Blk.at (by assumption)) rfl ?_)
           | (refine IxA.mk (by omega) ?_)
           | (refine Sl.ln (Own.sl (by assumption)) ?_)
           | (refine Ints.ix (Own.sl (by assumption)) (by omega) ?_)
           | (refine Ints.ixI (Own.sl (by assumption)) (by omega) ?_)
           | (refine Ints.ld (Own.sl (by assumption)) (by omega) ?_))
  have Hv__1 := Hv
  have Ha__1 := Ha
  have EE__1 := EE
  conv => whnf
  refine VE.alloc eLeft fun lb w2 E2 hb_lb Hk => ?_
  replace Hv := Hv.ext E2
  replace Ha := Ha.ext E2
  replace EE := EE.ext E2
  have EL1 := E2
  by_cases hl : a.length = (rr.getD 0 []).length
  · repeat' (conv => whnf
             first
             | (refine Dr.quiet tyOk (by kernel_rfl) ?_)
             | (refine Rng.mk (by omega) ?_)
             | (refine Split.pos (by omega) ?_)
             | (refine Split.neg (by omega) ?_)
             | (refine Split.mk (fun h => ?_) (fun h => ?_))
             | (refine Need.mk (by omega) ?_)
             | (refine Ints.ln (by assumption) ?_)
             | (refine Mat.ln (by assumption) ?_)
             | (refine Ints.ln (Mat.row (by assumption) _ (by omega)) ?_)
             | (refine Ints.ix (by assumption) (by omega) ?_)
             | (refine Mat.ix (by assumption) (by omega) ?_)
             | (refine Ints.ix (Mat.row (by assumption) _ (by omega)) (by omega) ?_)
             | (refine Ints.ix (c := 0) (by assumption) (by omega) ?_)
             | (refine Mat.ix (c := 0) (by assumption) (by omega) ?_)
             | (refine Ints.ix (c := 0) (Mat.row (by assumption) _ (by omega)) (by omega) ?_)
             | (refine Ints.ixI (by assumption) (by omega) ?_)
             | (refine Mat.ixI (by assumption) (by omega) ?_)
             | (refine Ints.ixI (Mat.row (by assumption) _ (by omega)) (by omega) ?_)
             | (refine Ints.ld (by assumption) (by omega) ?_)
             | (refine Mat.ld (by assumption) (by omega) ?_)
             | (refine Ints.ld (Mat.row (by assumption) _ (by omega)) (by omega) ?_)
             | (refine At.ld (by assumption) rfl ?_)
             | (refine At.ldN (by assumption) rfl ?_)
             | (refine Prs.ln (by assumption) ?_)
             | (refine Trs.ln (by assumption) ?_)
             | (refine Prs.ix (by assumption) (by omega) ?_)
             | (refine Trs.ix (by assumption) (by omega) ?_)
             | (refine Prs.ldN (by assumption) (by omega) ?_)
             | (refine Trs.ldN (by assumption) (by omega) ?_)
             | (refine At.ldN (Blk.at (by assumption)) rfl ?_)
             | (refine At.ld (Blk.at (by assumption)) rfl ?_)
             | (refine IxA.mk (by omega) ?_)
             | (refine Sl.ln (Own.sl (by assumption)) ?_)
             | (refine Ints.ix (Own.sl (by assumption)) (by omega) ?_)
             | (refine Ints.ixI (Own.sl (by assumption)) (by omega) ?_)
             | (refine Ints.ld (Own.sl (by assumption)) (by omega) ?_))
    have Hk0 : Blk w2 lb 71 (bvs (lftB a 0)) := by rw [← lftB_zero]; exact Hk
    refine Lp.mk tyOk [false, false, false, false, true, false, true, true, false, false, false, false, false, false, false, false, false, true, true, true, true, true, true, true, true, true, true, true, true, true, true, true, true, true, true, true, true, true, true, true, true, true, true, true, true, true, true, true, true, true, true, true] (fun m fr wr => getK fr 17 fun j => ∃ c : Nat, c ≤ a.length ∧ m = a.length - c ∧ j = .int .i64 (c : Int) ∧ (Blk wr lb 71 (bvs (lftB a c))) ∧ (∀ i, i < c → (0 ≤ a.getD i 0 ∧ a.getD i 0 < rr.length) ∧ ¬ lft a i (a.getD i 0)) ∧ Ext w1 wr) (a.length) ?_ ?_
    · exact ⟨0, Nat.zero_le _, rfl, rfl, Hk0, (by first | exact fun _ hi => absurd hi (Nat.not_lt_zero _) | exact fun _ _ hi => absurd hi (Nat.not_lt_zero _) | assumption | exact Own.nil | omega | simp), EL1⟩
    · intro m w3 u4 u6 u7 u17 u18 u19 u20 u21 u22 u23 u24 u25 u26 u27 u28 u29 u30 u31 u32 u33 u34 u35 u36 u37 u38 u39 u40 u41 u42 u43 u44 u45 u46 u47 u48 u49 u50 u51 hR
      obtain ⟨c, hc, rfl, rfl, HB, hv, EL1⟩ := hR
      replace Hv := Hv__1.ext EL1
      replace Ha := Ha__1.ext EL1
      replace EE := EE__1.ext EL1
      have hbl := lftB_len a c
      by_cases hcl : c < a.length
      · have hi1 : a.getD ((c : Int) + 1).toNat 0 = a.getD (c + 1) 0 := by rw [show ((c : Int) + 1).toNat = c + 1 by omega]
        by_cases hrg : 0 ≤ a.getD c 0 ∧ a.getD c 0 < rr.length
        · have hac : (((a.getD c 0).toNat : Nat) : Int) = a.getD c 0 := by omega
          by_cases hL : lft a c (a.getD c 0)
          · have hg : (lftB a c).getD (a.getD c 0).toNat false = true := by rw [lftB_get (by omega), hac, tf_t hL]
            have hx : (bvs (lftB a c))[(a.getD c 0).toNat * 1]? = some (.bool true) := by rw [Nat.mul_one]; exact bvs_at hg (by omega)
            rw [tf_f (p := divn rr a) (fun h => (h.2 c hcl).2 hL)]
            repeat' (conv => whnf
                     first
                     | (refine Dr.quiet tyOk (by kernel_rfl) ?_)
                     | (refine Blk.ldA HB hx ?_)
                     | (refine Rng.mk (by omega) ?_)
                     | (refine Split.pos (by omega) ?_)
                     | (refine Split.neg (by omega) ?_)
                     | (refine Split.mk (fun h => ?_) (fun h => ?_))
                     | (refine Need.mk (by omega) ?_)
                     | (refine Ints.ln (by assumption) ?_)
                     | (refine Mat.ln (by assumption) ?_)
                     | (refine Ints.ln (Mat.row (by assumption) _ (by omega)) ?_)
                     | (refine Ints.ix (by assumption) (by omega) ?_)
                     | (refine Mat.ix (by assumption) (by omega) ?_)
                     | (refine Ints.ix (Mat.row (by assumption) _ (by omega)) (by omega) ?_)
                     | (refine Ints.ix (c := 0) (by assumption) (by omega) ?_)
                     | (refine Mat.ix (c := 0) (by assumption) (by omega) ?_)
                     | (refine Ints.ix (c := 0) (Mat.row (by assumption) _ (by omega)) (by omega) ?_)
                     | (refine Ints.ixI (by assumption) (by omega) ?_)
                     | (refine Mat.ixI (by assumption) (by omega) ?_)
                     | (refine Ints.ixI (Mat.row (by assumption) _ (by omega)) (by omega) ?_)
                     | (refine Ints.ld (by assumption) (by omega) ?_)
                     | (refine Mat.ld (by assumption) (by omega) ?_)
                     | (refine Ints.ld (Mat.row (by assumption) _ (by omega)) (by omega) ?_)
                     | (refine At.ld (by assumption) rfl ?_)
                     | (refine At.ldN (by assumption) rfl ?_)
                     | (refine Prs.ln (by assumption) ?_)
                     | (refine Trs.ln (by assumption) ?_)
                     | (refine Prs.ix (by assumption) (by omega) ?_)
                     | (refine Trs.ix (by assumption) (by omega) ?_)
                     | (refine Prs.ldN (by assumption) (by omega) ?_)
                     | (refine Trs.ldN (by assumption) (by omega) ?_)
                     | (refine At.ldN (Blk.at (by assumption)) rfl ?_)
                     | (refine At.ld (Blk.at (by assumption)) rfl ?_)
                     | (refine IxA.mk (by omega) ?_)
                     | (refine Sl.ln (Own.sl (by assumption)) ?_)
                     | (refine Ints.ix (Own.sl (by assumption)) (by omega) ?_)
                     | (refine Ints.ixI (Own.sl (by assumption)) (by omega) ?_)
                     | (refine Ints.ld (Own.sl (by assumption)) (by omega) ?_))
            exact ⟨rfl, EE⟩
          · have hg : (lftB a c).getD (a.getD c 0).toNat false = false := by rw [lftB_get (by omega), hac, tf_f hL]
            have hx : (bvs (lftB a c))[(a.getD c 0).toNat * 1]? = some (.bool false) := by rw [Nat.mul_one]; exact bvs_at hg (by omega)
            by_cases hnx : c + 1 < a.length ∧ a.getD (c + 1) 0 ≠ a.getD c 0
            · repeat' (conv => whnf
                       first
                       | (refine Dr.quiet tyOk (by kernel_rfl) ?_)
                       | (refine Blk.ldA HB hx ?_)
                       | (refine Rng.mk (by omega) ?_)
                       | (refine Split.pos (by omega) ?_)
                       | (refine Split.neg (by omega) ?_)
                       | (refine Split.mk (fun h => ?_) (fun h => ?_))
                       | (refine Need.mk (by omega) ?_)
                       | (refine Ints.ln (by assumption) ?_)
                       | (refine Mat.ln (by assumption) ?_)
                       | (refine Ints.ln (Mat.row (by assumption) _ (by omega)) ?_)
                       | (refine Ints.ix (by assumption) (by omega) ?_)
                       | (refine Mat.ix (by assumption) (by omega) ?_)
                       | (refine Ints.ix (Mat.row (by assumption) _ (by omega)) (by omega) ?_)
                       | (refine Ints.ix (c := 0) (by assumption) (by omega) ?_)
                       | (refine Mat.ix (c := 0) (by assumption) (by omega) ?_)
                       | (refine Ints.ix (c := 0) (Mat.row (by assumption) _ (by omega)) (by omega) ?_)
                       | (refine Ints.ixI (by assumption) (by omega) ?_)
                       | (refine Mat.ixI (by assumption) (by omega) ?_)
                       | (refine Ints.ixI (Mat.row (by assumption) _ (by omega)) (by omega) ?_)
                       | (refine Ints.ld (by assumption) (by omega) ?_)
                       | (refine Mat.ld (by assumption) (by omega) ?_)
                       | (refine Ints.ld (Mat.row (by assumption) _ (by omega)) (by omega) ?_)
                       | (refine At.ld (by assumption) rfl ?_)
                       | (refine At.ldN (by assumption) rfl ?_)
                       | (refine Prs.ln (by assumption) ?_)
                       | (refine Trs.ln (by assumption) ?_)
                       | (refine Prs.ix (by assumption) (by omega) ?_)
                       | (refine Trs.ix (by assumption) (by omega) ?_)
                       | (refine Prs.ldN (by assumption) (by omega) ?_)
                       | (refine Trs.ldN (by assumption) (by omega) ?_)
                       | (refine At.ldN (Blk.at (by assumption)) rfl ?_)
                       | (refine At.ld (Blk.at (by assumption)) rfl ?_)
                       | (refine IxA.mk (by omega) ?_)
                       | (refine Sl.ln (Own.sl (by assumption)) ?_)
                       | (refine Ints.ix (Own.sl (by assumption)) (by omega) ?_)
                       | (refine Ints.ixI (Own.sl (by assumption)) (by omega) ?_)
                       | (refine Ints.ld (Own.sl (by assumption)) (by omega) ?_))
              refine Blk.setA HB (by unfold bvs; rw [List.length_map]; omega) rfl fun w4 G4 HB' => ?_
              have E4 : Ext w1 w4 := EL1.new G4 fun i hi hk => by omega
              replace HB := HB'
              replace Hv := Hv__1.ext E4
              replace Ha := Ha__1.ext E4
              replace EE := EE__1.ext E4
              replace EL1 := E4
              rw [Nat.mul_one, bvs_set, lftB_mark (by omega) hnx.1 hnx.2] at HB
              repeat' (conv => whnf
                       first
                       | (refine Dr.quiet tyOk (by kernel_rfl) ?_)
                       | (refine Rng.mk (by omega) ?_)
                       | (refine Split.pos (by omega) ?_)
                       | (refine Split.neg (by omega) ?_)
                       | (refine Split.mk (fun h => ?_) (fun h => ?_))
                       | (refine Need.mk (by omega) ?_)
                       | (refine Ints.ln (by assumption) ?_)
                       | (refine Mat.ln (by assumption) ?_)
                       | (refine Ints.ln (Mat.row (by assumption) _ (by omega)) ?_)
                       | (refine Ints.ix (by assumption) (by omega) ?_)
                       | (refine Mat.ix (by assumption) (by omega) ?_)
                       | (refine Ints.ix (Mat.row (by assumption) _ (by omega)) (by omega) ?_)
                       | (refine Ints.ix (c := 0) (by assumption) (by omega) ?_)
                       | (refine Mat.ix (c := 0) (by assumption) (by omega) ?_)
                       | (refine Ints.ix (c := 0) (Mat.row (by assumption) _ (by omega)) (by omega) ?_)
                       | (refine Ints.ixI (by assumption) (by omega) ?_)
                       | (refine Mat.ixI (by assumption) (by omega) ?_)
                       | (refine Ints.ixI (Mat.row (by assumption) _ (by omega)) (by omega) ?_)
                       | (refine Ints.ld (by assumption) (by omega) ?_)
                       | (refine Mat.ld (by assumption) (by omega) ?_)
                       | (refine Ints.ld (Mat.row (by assumption) _ (by omega)) (by omega) ?_)
                       | (refine At.ld (by assumption) rfl ?_)
                       | (refine At.ldN (by assumption) rfl ?_)
                       | (refine Prs.ln (by assumption) ?_)
                       | (refine Trs.ln (by assumption) ?_)
                       | (refine Prs.ix (by assumption) (by omega) ?_)
                       | (refine Trs.ix (by assumption) (by omega) ?_)
                       | (refine Prs.ldN (by assumption) (by omega) ?_)
                       | (refine Trs.ldN (by assumption) (by omega) ?_)
                       | (refine At.ldN (Blk.at (by assumption)) rfl ?_)
                       | (refine At.ld (Blk.at (by assumption)) rfl ?_)
                       | (refine IxA.mk (by omega) ?_)
                       | (refine Sl.ln (Own.sl (by assumption)) ?_)
                       | (refine Ints.ix (Own.sl (by assumption)) (by omega) ?_)
                       | (refine Ints.ixI (Own.sl (by assumption)) (by omega) ?_)
                       | (refine Ints.ld (Own.sl (by assumption)) (by omega) ?_))
              refine ⟨_, (by omega : a.length - (c + 1) < a.length - c), rfl, c + 1, by omega, rfl, rfl, HB, all_succ hv ⟨hrg, hL⟩, EL1⟩
            · repeat' (conv => whnf
                       first
                       | (refine Dr.quiet tyOk (by kernel_rfl) ?_)
                       | (refine Blk.ldA HB hx ?_)
                       | (refine Rng.mk (by omega) ?_)
                       | (refine Split.pos (by omega) ?_)
                       | (refine Split.neg (by omega) ?_)
                       | (refine Split.mk (fun h => ?_) (fun h => ?_))
                       | (refine Need.mk (by omega) ?_)
                       | (refine Ints.ln (by assumption) ?_)
                       | (refine Mat.ln (by assumption) ?_)
                       | (refine Ints.ln (Mat.row (by assumption) _ (by omega)) ?_)
                       | (refine Ints.ix (by assumption) (by omega) ?_)
                       | (refine Mat.ix (by assumption) (by omega) ?_)
                       | (refine Ints.ix (Mat.row (by assumption) _ (by omega)) (by omega) ?_)
                       | (refine Ints.ix (c := 0) (by assumption) (by omega) ?_)
                       | (refine Mat.ix (c := 0) (by assumption) (by omega) ?_)
                       | (refine Ints.ix (c := 0) (Mat.row (by assumption) _ (by omega)) (by omega) ?_)
                       | (refine Ints.ixI (by assumption) (by omega) ?_)
                       | (refine Mat.ixI (by assumption) (by omega) ?_)
                       | (refine Ints.ixI (Mat.row (by assumption) _ (by omega)) (by omega) ?_)
                       | (refine Ints.ld (by assumption) (by omega) ?_)
                       | (refine Mat.ld (by assumption) (by omega) ?_)
                       | (refine Ints.ld (Mat.row (by assumption) _ (by omega)) (by omega) ?_)
                       | (refine At.ld (by assumption) rfl ?_)
                       | (refine At.ldN (by assumption) rfl ?_)
                       | (refine Prs.ln (by assumption) ?_)
                       | (refine Trs.ln (by assumption) ?_)
                       | (refine Prs.ix (by assumption) (by omega) ?_)
                       | (refine Trs.ix (by assumption) (by omega) ?_)
                       | (refine Prs.ldN (by assumption) (by omega) ?_)
                       | (refine Trs.ldN (by assumption) (by omega) ?_)
                       | (refine At.ldN (Blk.at (by assumption)) rfl ?_)
                       | (refine At.ld (Blk.at (by assumption)) rfl ?_)
                       | (refine IxA.mk (by omega) ?_)
                       | (refine Sl.ln (Own.sl (by assumption)) ?_)
                       | (refine Ints.ix (Own.sl (by assumption)) (by omega) ?_)
                       | (refine Ints.ixI (Own.sl (by assumption)) (by omega) ?_)
                       | (refine Ints.ld (Own.sl (by assumption)) (by omega) ?_))
              all_goals (refine ⟨_, (by omega : a.length - (c + 1) < a.length - c), rfl, c + 1, by omega, rfl, rfl, (by rw [← lftB_same hnx]; exact HB), all_succ hv ⟨hrg, hL⟩, EL1⟩)
        · rw [tf_f (p := divn rr a) (fun h => hrg (h.2 c hcl).1)]
          repeat' (conv => whnf
                   first
                   | (refine Dr.quiet tyOk (by kernel_rfl) ?_)
                   | (refine Rng.mk (by omega) ?_)
                   | (refine Split.pos (by omega) ?_)
                   | (refine Split.neg (by omega) ?_)
                   | (refine Split.mk (fun h => ?_) (fun h => ?_))
                   | (refine Need.mk (by omega) ?_)
                   | (refine Ints.ln (by assumption) ?_)
                   | (refine Mat.ln (by assumption) ?_)
                   | (refine Ints.ln (Mat.row (by assumption) _ (by omega)) ?_)
                   | (refine Ints.ix (by assumption) (by omega) ?_)
                   | (refine Mat.ix (by assumption) (by omega) ?_)
                   | (refine Ints.ix (Mat.row (by assumption) _ (by omega)) (by omega) ?_)
                   | (refine Ints.ix (c := 0) (by assumption) (by omega) ?_)
                   | (refine Mat.ix (c := 0) (by assumption) (by omega) ?_)
                   | (refine Ints.ix (c := 0) (Mat.row (by assumption) _ (by omega)) (by omega) ?_)
                   | (refine Ints.ixI (by assumption) (by omega) ?_)
                   | (refine Mat.ixI (by assumption) (by omega) ?_)
                   | (refine Ints.ixI (Mat.row (by assumption) _ (by omega)) (by omega) ?_)
                   | (refine Ints.ld (by assumption) (by omega) ?_)
                   | (refine Mat.ld (by assumption) (by omega) ?_)
                   | (refine Ints.ld (Mat.row (by assumption) _ (by omega)) (by omega) ?_)
                   | (refine At.ld (by assumption) rfl ?_)
                   | (refine At.ldN (by assumption) rfl ?_)
                   | (refine Prs.ln (by assumption) ?_)
                   | (refine Trs.ln (by assumption) ?_)
                   | (refine Prs.ix (by assumption) (by omega) ?_)
                   | (refine Trs.ix (by assumption) (by omega) ?_)
                   | (refine Prs.ldN (by assumption) (by omega) ?_)
                   | (refine Trs.ldN (by assumption) (by omega) ?_)
                   | (refine At.ldN (Blk.at (by assumption)) rfl ?_)
                   | (refine At.ld (Blk.at (by assumption)) rfl ?_)
                   | (refine IxA.mk (by omega) ?_)
                   | (refine Sl.ln (Own.sl (by assumption)) ?_)
                   | (refine Ints.ix (Own.sl (by assumption)) (by omega) ?_)
                   | (refine Ints.ixI (Own.sl (by assumption)) (by omega) ?_)
                   | (refine Ints.ld (Own.sl (by assumption)) (by omega) ?_))
          all_goals exact ⟨rfl, EE⟩
      · rw [tf_t (p := divn rr a) ⟨hl, fun k hk2 => hv k (by omega)⟩]
        repeat' (conv => whnf
                 first
                 | (refine Dr.quiet tyOk (by kernel_rfl) ?_)
                 | (refine Rng.mk (by omega) ?_)
                 | (refine Split.pos (by omega) ?_)
                 | (refine Split.neg (by omega) ?_)
                 | (refine Split.mk (fun h => ?_) (fun h => ?_))
                 | (refine Need.mk (by omega) ?_)
                 | (refine Ints.ln (by assumption) ?_)
                 | (refine Mat.ln (by assumption) ?_)
                 | (refine Ints.ln (Mat.row (by assumption) _ (by omega)) ?_)
                 | (refine Ints.ix (by assumption) (by omega) ?_)
                 | (refine Mat.ix (by assumption) (by omega) ?_)
                 | (refine Ints.ix (Mat.row (by assumption) _ (by omega)) (by omega) ?_)
                 | (refine Ints.ix (c := 0) (by assumption) (by omega) ?_)
                 | (refine Mat.ix (c := 0) (by assumption) (by omega) ?_)
                 | (refine Ints.ix (c := 0) (Mat.row (by assumption) _ (by omega)) (by omega) ?_)
                 | (refine Ints.ixI (by assumption) (by omega) ?_)
                 | (refine Mat.ixI (by assumption) (by omega) ?_)
                 | (refine Ints.ixI (Mat.row (by assumption) _ (by omega)) (by omega) ?_)
                 | (refine Ints.ld (by assumption) (by omega) ?_)
                 | (refine Mat.ld (by assumption) (by omega) ?_)
                 | (refine Ints.ld (Mat.row (by assumption) _ (by omega)) (by omega) ?_)
                 | (refine At.ld (by assumption) rfl ?_)
                 | (refine At.ldN (by assumption) rfl ?_)
                 | (refine Prs.ln (by assumption) ?_)
                 | (refine Trs.ln (by assumption) ?_)
                 | (refine Prs.ix (by assumption) (by omega) ?_)
                 | (refine Trs.ix (by assumption) (by omega) ?_)
                 | (refine Prs.ldN (by assumption) (by omega) ?_)
                 | (refine Trs.ldN (by assumption) (by omega) ?_)
                 | (refine At.ldN (Blk.at (by assumption)) rfl ?_)
                 | (refine At.ld (Blk.at (by assumption)) rfl ?_)
                 | (refine IxA.mk (by omega) ?_)
                 | (refine Sl.ln (Own.sl (by assumption)) ?_)
                 | (refine Ints.ix (Own.sl (by assumption)) (by omega) ?_)
                 | (refine Ints.ixI (Own.sl (by assumption)) (by omega) ?_)
                 | (refine Ints.ld (Own.sl (by assumption)) (by omega) ?_))
        exact ⟨rfl, EE⟩
  · rw [tf_f (p := divn rr a) (fun h => hl h.1)]
    repeat' (conv => whnf
             first
             | (refine Dr.quiet tyOk (by kernel_rfl) ?_)
             | (refine Rng.mk (by omega) ?_)
             | (refine Split.pos (by omega) ?_)
             | (refine Split.neg (by omega) ?_)
             | (refine Split.mk (fun h => ?_) (fun h => ?_))
             | (refine Need.mk (by omega) ?_)
             | (refine Ints.ln (by assumption) ?_)
             | (refine Mat.ln (by assumption) ?_)
             | (refine Ints.ln (Mat.row (by assumption) _ (by omega)) ?_)
             | (refine Ints.ix (by assumption) (by omega) ?_)
             | (refine Mat.ix (by assumption) (by omega) ?_)
             | (refine Ints.ix (Mat.row (by assumption) _ (by omega)) (by omega) ?_)
             | (refine Ints.ix (c := 0) (by assumption) (by omega) ?_)
             | (refine Mat.ix (c := 0) (by assumption) (by omega) ?_)
             | (refine Ints.ix (c := 0) (Mat.row (by assumption) _ (by omega)) (by omega) ?_)
             | (refine Ints.ixI (by assumption) (by omega) ?_)
             | (refine Mat.ixI (by assumption) (by omega) ?_)
             | (refine Ints.ixI (Mat.row (by assumption) _ (by omega)) (by omega) ?_)
             | (refine Ints.ld (by assumption) (by omega) ?_)
             | (refine Mat.ld (by assumption) (by omega) ?_)
             | (refine Ints.ld (Mat.row (by assumption) _ (by omega)) (by omega) ?_)
             | (refine At.ld (by assumption) rfl ?_)
             | (refine At.ldN (by assumption) rfl ?_)
             | (refine Prs.ln (by assumption) ?_)
             | (refine Trs.ln (by assumption) ?_)
             | (refine Prs.ix (by assumption) (by omega) ?_)
             | (refine Trs.ix (by assumption) (by omega) ?_)
             | (refine Prs.ldN (by assumption) (by omega) ?_)
             | (refine Trs.ldN (by assumption) (by omega) ?_)
             | (refine At.ldN (Blk.at (by assumption)) rfl ?_)
             | (refine At.ld (Blk.at (by assumption)) rfl ?_)
             | (refine IxA.mk (by omega) ?_)
             | (refine Sl.ln (Own.sl (by assumption)) ?_)
             | (refine Ints.ix (Own.sl (by assumption)) (by omega) ?_)
             | (refine Ints.ixI (Own.sl (by assumption)) (by omega) ?_)
             | (refine Ints.ld (Own.sl (by assumption)) (by omega) ?_))
    exact ⟨rfl, EE⟩

theorem rdiv_pc {w : World} {vv av : Value} {vs : List Value} {rr : List (List Int)} {a : List Int} {m : Nat} (Hv : Mat w vv vs rr) (Ha : Ints w av a) (hk : Sd rr m) : PC Try.prog 25 [vv, av] w (.bool (tf (divn rr a))) := by
  refine PC.mk tyOk Try.func25 rfl (by kernel_rfl) fun w1 E1 => ?_
  replace Hv := Hv.ext E1
  replace Ha := Ha.ext E1
  have EE := Ext.refl w1
  have hla := Ha.le
  have hn1 := hk.n1
  have hn6 := hk.n6
  have h0l := hk.m0
  have hr0 := (Hv.row 0 (by omega)).le
  have hm16 := hk.m16
  by_cases hl : a.length = (rr.getD 0 []).length
  · repeat' (conv => whnf
             first
             | (refine Dr.quiet tyOk (by kernel_rfl) ?_)
             | (refine Rng.mk (by omega) ?_)
             | (refine Split.pos (by omega) ?_)
             | (refine Split.neg (by omega) ?_)
             | (refine Split.mk (fun h => ?_) (fun h => ?_))
             | (refine Need.mk (by omega) ?_)
             | (refine Ints.ln (by assumption) ?_)
             | (refine Mat.ln (by assumption) ?_)
             | (refine Ints.ln (Mat.row (by assumption) _ (by omega)) ?_)
             | (refine Ints.ix (by assumption) (by omega) ?_)
             | (refine Mat.ix (by assumption) (by omega) ?_)
             | (refine Ints.ix (Mat.row (by assumption) _ (by omega)) (by omega) ?_)
             | (refine Ints.ix (c := 0) (by assumption) (by omega) ?_)
             | (refine Mat.ix (c := 0) (by assumption) (by omega) ?_)
             | (refine Ints.ix (c := 0) (Mat.row (by assumption) _ (by omega)) (by omega) ?_)
             | (refine Ints.ixI (by assumption) (by omega) ?_)
             | (refine Mat.ixI (by assumption) (by omega) ?_)
             | (refine Ints.ixI (Mat.row (by assumption) _ (by omega)) (by omega) ?_)
             | (refine Ints.ld (by assumption) (by omega) ?_)
             | (refine Mat.ld (by assumption) (by omega) ?_)
             | (refine Ints.ld (Mat.row (by assumption) _ (by omega)) (by omega) ?_)
             | (refine At.ld (by assumption) rfl ?_)
             | (refine At.ldN (by assumption) rfl ?_)
             | (refine Prs.ln (by assumption) ?_)
             | (refine Trs.ln (by assumption) ?_)
             | (refine Prs.ix (by assumption) (by omega) ?_)
             | (refine Trs.ix (by assumption) (by omega) ?_)
             | (refine Prs.ldN (by assumption) (by omega) ?_)
             | (refine Trs.ldN (by assumption) (by omega) ?_)
             | (refine At.ldN (Blk.at (by assumption)) rfl ?_)
             | (refine At.ld (Blk.at (by assumption)) rfl ?_)
             | (refine IxA.mk (by omega) ?_)
             | (refine Sl.ln (Own.sl (by assumption)) ?_)
             | (refine Ints.ix (Own.sl (by assumption)) (by omega) ?_)
             | (refine Ints.ixI (Own.sl (by assumption)) (by omega) ?_)
             | (refine Ints.ld (Own.sl (by assumption)) (by omega) ?_))
    refine Lp.mk tyOk [false, false, false, false, true, true, true, false, false, false, false, false, false, false, true, true, true, true, true, true, true, true, true, true, true, true, true, true, true, true, true, true, true, true, true, true, true, true, true, true, true, true, true, true, true, true, true, true, true, true, true, true, true, true, true, true, true, true, true, true, true] (fun m fr wr => getK fr 5 fun k => ∃ c : Nat, c ≤ a.length ∧ m = a.length - c ∧ k = .int .i64 (c : Int) ∧ (∀ i, i < c → (0 ≤ a.getD i 0 ∧ a.getD i 0 < rr.length) ∧ ¬ lft a i (a.getD i 0)) ∧ wr = w1) (a.length) ?_ ?_
    · exact ⟨0, Nat.zero_le _, rfl, rfl, (by first | exact fun _ hi => absurd hi (Nat.not_lt_zero _) | exact fun _ _ hi => absurd hi (Nat.not_lt_zero _) | assumption | exact Own.nil | omega | simp), rfl⟩
    · intro m w2 u4 u5 u6 u14 u15 u16 u17 u18 u19 u20 u21 u22 u23 u24 u25 u26 u27 u28 u29 u30 u31 u32 u33 u34 u35 u36 u37 u38 u39 u40 u41 u42 u43 u44 u45 u46 u47 u48 u49 u50 u51 u52 u53 u54 u55 u56 u57 u58 u59 u60 hR
      obtain ⟨c, hc, rfl, rfl, hv, rfl⟩ := hR
      by_cases hcl : c < a.length
      · by_cases hrg : 0 ≤ a.getD c 0 ∧ a.getD c 0 < rr.length
        · repeat' (conv => whnf
                   first
                   | (refine Dr.quiet tyOk (by kernel_rfl) ?_)
                   | (refine Rng.mk (by omega) ?_)
                   | (refine Split.pos (by omega) ?_)
                   | (refine Split.neg (by omega) ?_)
                   | (refine Split.mk (fun h => ?_) (fun h => ?_))
                   | (refine Need.mk (by omega) ?_)
                   | (refine Ints.ln (by assumption) ?_)
                   | (refine Mat.ln (by assumption) ?_)
                   | (refine Ints.ln (Mat.row (by assumption) _ (by omega)) ?_)
                   | (refine Ints.ix (by assumption) (by omega) ?_)
                   | (refine Mat.ix (by assumption) (by omega) ?_)
                   | (refine Ints.ix (Mat.row (by assumption) _ (by omega)) (by omega) ?_)
                   | (refine Ints.ix (c := 0) (by assumption) (by omega) ?_)
                   | (refine Mat.ix (c := 0) (by assumption) (by omega) ?_)
                   | (refine Ints.ix (c := 0) (Mat.row (by assumption) _ (by omega)) (by omega) ?_)
                   | (refine Ints.ixI (by assumption) (by omega) ?_)
                   | (refine Mat.ixI (by assumption) (by omega) ?_)
                   | (refine Ints.ixI (Mat.row (by assumption) _ (by omega)) (by omega) ?_)
                   | (refine Ints.ld (by assumption) (by omega) ?_)
                   | (refine Mat.ld (by assumption) (by omega) ?_)
                   | (refine Ints.ld (Mat.row (by assumption) _ (by omega)) (by omega) ?_)
                   | (refine At.ld (by assumption) rfl ?_)
                   | (refine At.ldN (by assumption) rfl ?_)
                   | (refine Prs.ln (by assumption) ?_)
                   | (refine Trs.ln (by assumption) ?_)
                   | (refine Prs.ix (by assumption) (by omega) ?_)
                   | (refine Trs.ix (by assumption) (by omega) ?_)
                   | (refine Prs.ldN (by assumption) (by omega) ?_)
                   | (refine Trs.ldN (by assumption) (by omega) ?_)
                   | (refine At.ldN (Blk.at (by assumption)) rfl ?_)
                   | (refine At.ld (Blk.at (by assumption)) rfl ?_)
                   | (refine IxA.mk (by omega) ?_)
                   | (refine Sl.ln (Own.sl (by assumption)) ?_)
                   | (refine Ints.ix (Own.sl (by assumption)) (by omega) ?_)
                   | (refine Ints.ixI (Own.sl (by assumption)) (by omega) ?_)
                   | (refine Ints.ld (Own.sl (by assumption)) (by omega) ?_))
          refine Lp.mk tyOk [false, false, false, false, true, false, true, false, false, false, false, false, false, false, false, false, false, false, false, false, false, false, false, false, false, false, false, false, false, false, false, false, false, false, true, true, true, true, true, true, true, true, true, true, true, true, true, true, true, true, true, true, true, true, true, true, true, true, true, true, true] (fun m fr wr => getK fr 6 fun i => ∃ d : Nat, d ≤ c ∧ m = c - d ∧ i = .int .i64 (d : Int) ∧ (∀ i, i < d → i + 1 < c → ¬ (a.getD i 0 = a.getD c 0 ∧ a.getD (i + 1) 0 ≠ a.getD c 0)) ∧ wr = w2) (c) ?_ ?_
          · exact ⟨0, Nat.zero_le _, rfl, rfl, (by first | exact fun _ hi => absurd hi (Nat.not_lt_zero _) | exact fun _ _ hi => absurd hi (Nat.not_lt_zero _) | assumption | exact Own.nil | omega | simp), rfl⟩
          · intro m w3 u4 u6 u34 u35 u36 u37 u38 u39 u40 u41 u42 u43 u44 u45 u46 u47 u48 u49 u50 u51 u52 u53 u54 u55 u56 u57 u58 u59 u60 hR
            obtain ⟨d, hd, rfl, rfl, hi, rfl⟩ := hR
            have hi1 : a.getD ((d : Int) + 1).toNat 0 = a.getD (d + 1) 0 := by rw [show ((d : Int) + 1).toNat = d + 1 by omega]
            by_cases hd : d + 1 < c
            · by_cases hbad : a.getD d 0 = a.getD c 0 ∧ a.getD (d + 1) 0 ≠ a.getD c 0
              · rw [tf_f (p := divn rr a) (fun h => (h.2 c hcl).2 ((lft_at hcl).2 ⟨d, hd, hbad⟩))]
                repeat' (conv => whnf
                         first
                         | (refine Dr.quiet tyOk (by kernel_rfl) ?_)
                         | (refine Rng.mk (by omega) ?_)
                         | (refine Split.pos (by omega) ?_)
                         | (refine Split.neg (by omega) ?_)
                         | (refine Split.mk (fun h => ?_) (fun h => ?_))
                         | (refine Need.mk (by omega) ?_)
                         | (refine Ints.ln (by assumption) ?_)
                         | (refine Mat.ln (by assumption) ?_)
                         | (refine Ints.ln (Mat.row (by assumption) _ (by omega)) ?_)
                         | (refine Ints.ix (by assumption) (by omega) ?_)
                         | (refine Mat.ix (by assumption) (by omega) ?_)
                         | (refine Ints.ix (Mat.row (by assumption) _ (by omega)) (by omega) ?_)
                         | (refine Ints.ix (c := 0) (by assumption) (by omega) ?_)
                         | (refine Mat.ix (c := 0) (by assumption) (by omega) ?_)
                         | (refine Ints.ix (c := 0) (Mat.row (by assumption) _ (by omega)) (by omega) ?_)
                         | (refine Ints.ixI (by assumption) (by omega) ?_)
                         | (refine Mat.ixI (by assumption) (by omega) ?_)
                         | (refine Ints.ixI (Mat.row (by assumption) _ (by omega)) (by omega) ?_)
                         | (refine Ints.ld (by assumption) (by omega) ?_)
                         | (refine Mat.ld (by assumption) (by omega) ?_)
                         | (refine Ints.ld (Mat.row (by assumption) _ (by omega)) (by omega) ?_)
                         | (refine At.ld (by assumption) rfl ?_)
                         | (refine At.ldN (by assumption) rfl ?_)
                         | (refine Prs.ln (by assumption) ?_)
                         | (refine Trs.ln (by assumption) ?_)
                         | (refine Prs.ix (by assumption) (by omega) ?_)
                         | (refine Trs.ix (by assumption) (by omega) ?_)
                         | (refine Prs.ldN (by assumption) (by omega) ?_)
                         | (refine Trs.ldN (by assumption) (by omega) ?_)
                         | (refine At.ldN (Blk.at (by assumption)) rfl ?_)
                         | (refine At.ld (Blk.at (by assumption)) rfl ?_)
                         | (refine IxA.mk (by omega) ?_)
                         | (refine Sl.ln (Own.sl (by assumption)) ?_)
                         | (refine Ints.ix (Own.sl (by assumption)) (by omega) ?_)
                         | (refine Ints.ixI (Own.sl (by assumption)) (by omega) ?_)
                         | (refine Ints.ld (Own.sl (by assumption)) (by omega) ?_))
                exact ⟨rfl, EE⟩
              · repeat' (conv => whnf
                         first
                         | (refine Dr.quiet tyOk (by kernel_rfl) ?_)
                         | (refine Rng.mk (by omega) ?_)
                         | (refine Split.pos (by omega) ?_)
                         | (refine Split.neg (by omega) ?_)
                         | (refine Split.mk (fun h => ?_) (fun h => ?_))
                         | (refine Need.mk (by omega) ?_)
                         | (refine Ints.ln (by assumption) ?_)
                         | (refine Mat.ln (by assumption) ?_)
                         | (refine Ints.ln (Mat.row (by assumption) _ (by omega)) ?_)
                         | (refine Ints.ix (by assumption) (by omega) ?_)
                         | (refine Mat.ix (by assumption) (by omega) ?_)
                         | (refine Ints.ix (Mat.row (by assumption) _ (by omega)) (by omega) ?_)
                         | (refine Ints.ix (c := 0) (by assumption) (by omega) ?_)
                         | (refine Mat.ix (c := 0) (by assumption) (by omega) ?_)
                         | (refine Ints.ix (c := 0) (Mat.row (by assumption) _ (by omega)) (by omega) ?_)
                         | (refine Ints.ixI (by assumption) (by omega) ?_)
                         | (refine Mat.ixI (by assumption) (by omega) ?_)
                         | (refine Ints.ixI (Mat.row (by assumption) _ (by omega)) (by omega) ?_)
                         | (refine Ints.ld (by assumption) (by omega) ?_)
                         | (refine Mat.ld (by assumption) (by omega) ?_)
                         | (refine Ints.ld (Mat.row (by assumption) _ (by omega)) (by omega) ?_)
                         | (refine At.ld (by assumption) rfl ?_)
                         | (refine At.ldN (by assumption) rfl ?_)
                         | (refine Prs.ln (by assumption) ?_)
                         | (refine Trs.ln (by assumption) ?_)
                         | (refine Prs.ix (by assumption) (by omega) ?_)
                         | (refine Trs.ix (by assumption) (by omega) ?_)
                         | (refine Prs.ldN (by assumption) (by omega) ?_)
                         | (refine Trs.ldN (by assumption) (by omega) ?_)
                         | (refine At.ldN (Blk.at (by assumption)) rfl ?_)
                         | (refine At.ld (Blk.at (by assumption)) rfl ?_)
                         | (refine IxA.mk (by omega) ?_)
                         | (refine Sl.ln (Own.sl (by assumption)) ?_)
                         | (refine Ints.ix (Own.sl (by assumption)) (by omega) ?_)
                         | (refine Ints.ixI (Own.sl (by assumption)) (by omega) ?_)
                         | (refine Ints.ld (Own.sl (by assumption)) (by omega) ?_))
                all_goals (refine ⟨_, (by omega : c - (d + 1) < c - d), rfl, d + 1, by omega, rfl, rfl, (fun i h1 h2 => by by_cases e : i = d; (subst e; exact hbad); exact hi i (by omega) h2), rfl⟩)
            · have hnl : ¬ lft a c (a.getD c 0) := fun h => by
                obtain ⟨i, h1, h2⟩ := (lft_at hcl).1 h
                exact hi i (by omega) h1 h2
              repeat' (conv => whnf
                       first
                       | (refine Dr.quiet tyOk (by kernel_rfl) ?_)
                       | (refine Rng.mk (by omega) ?_)
                       | (refine Split.pos (by omega) ?_)
                       | (refine Split.neg (by omega) ?_)
                       | (refine Split.mk (fun h => ?_) (fun h => ?_))
                       | (refine Need.mk (by omega) ?_)
                       | (refine Ints.ln (by assumption) ?_)
                       | (refine Mat.ln (by assumption) ?_)
                       | (refine Ints.ln (Mat.row (by assumption) _ (by omega)) ?_)
                       | (refine Ints.ix (by assumption) (by omega) ?_)
                       | (refine Mat.ix (by assumption) (by omega) ?_)
                       | (refine Ints.ix (Mat.row (by assumption) _ (by omega)) (by omega) ?_)
                       | (refine Ints.ix (c := 0) (by assumption) (by omega) ?_)
                       | (refine Mat.ix (c := 0) (by assumption) (by omega) ?_)
                       | (refine Ints.ix (c := 0) (Mat.row (by assumption) _ (by omega)) (by omega) ?_)
                       | (refine Ints.ixI (by assumption) (by omega) ?_)
                       | (refine Mat.ixI (by assumption) (by omega) ?_)
                       | (refine Ints.ixI (Mat.row (by assumption) _ (by omega)) (by omega) ?_)
                       | (refine Ints.ld (by assumption) (by omega) ?_)
                       | (refine Mat.ld (by assumption) (by omega) ?_)
                       | (refine Ints.ld (Mat.row (by assumption) _ (by omega)) (by omega) ?_)
                       | (refine At.ld (by assumption) rfl ?_)
                       | (refine At.ldN (by assumption) rfl ?_)
                       | (refine Prs.ln (by assumption) ?_)
                       | (refine Trs.ln (by assumption) ?_)
                       | (refine Prs.ix (by assumption) (by omega) ?_)
                       | (refine Trs.ix (by assumption) (by omega) ?_)
                       | (refine Prs.ldN (by assumption) (by omega) ?_)
                       | (refine Trs.ldN (by assumption) (by omega) ?_)
                       | (refine At.ldN (Blk.at (by assumption)) rfl ?_)
                       | (refine At.ld (Blk.at (by assumption)) rfl ?_)
                       | (refine IxA.mk (by omega) ?_)
                       | (refine Sl.ln (Own.sl (by assumption)) ?_)
                       | (refine Ints.ix (Own.sl (by assumption)) (by omega) ?_)
                       | (refine Ints.ixI (Own.sl (by assumption)) (by omega) ?_)
                       | (refine Ints.ld (Own.sl (by assumption)) (by omega) ?_))
              refine ⟨_, (by omega : a.length - (c + 1) < a.length - c), rfl, c + 1, by omega, rfl, rfl, all_succ hv ⟨hrg, hnl⟩, rfl⟩
        · rw [tf_f (p := divn rr a) (fun h => hrg (h.2 c hcl).1)]
          repeat' (conv => whnf
                   first
                   | (refine Dr.quiet tyOk (by kernel_rfl) ?_)
                   | (refine Rng.mk (by omega) ?_)
                   | (refine Split.pos (by omega) ?_)
                   | (refine Split.neg (by omega) ?_)
                   | (refine Split.mk (fun h => ?_) (fun h => ?_))
                   | (refine Need.mk (by omega) ?_)
                   | (refine Ints.ln (by assumption) ?_)
                   | (refine Mat.ln (by assumption) ?_)
                   | (refine Ints.ln (Mat.row (by assumption) _ (by omega)) ?_)
                   | (refine Ints.ix (by assumption) (by omega) ?_)
                   | (refine Mat.ix (by assumption) (by omega) ?_)
                   | (refine Ints.ix (Mat.row (by assumption) _ (by omega)) (by omega) ?_)
                   | (refine Ints.ix (c := 0) (by assumption) (by omega) ?_)
                   | (refine Mat.ix (c := 0) (by assumption) (by omega) ?_)
                   | (refine Ints.ix (c := 0) (Mat.row (by assumption) _ (by omega)) (by omega) ?_)
                   | (refine Ints.ixI (by assumption) (by omega) ?_)
                   | (refine Mat.ixI (by assumption) (by omega) ?_)
                   | (refine Ints.ixI (Mat.row (by assumption) _ (by omega)) (by omega) ?_)
                   | (refine Ints.ld (by assumption) (by omega) ?_)
                   | (refine Mat.ld (by assumption) (by omega) ?_)
                   | (refine Ints.ld (Mat.row (by assumption) _ (by omega)) (by omega) ?_)
                   | (refine At.ld (by assumption) rfl ?_)
                   | (refine At.ldN (by assumption) rfl ?_)
                   | (refine Prs.ln (by assumption) ?_)
                   | (refine Trs.ln (by assumption) ?_)
                   | (refine Prs.ix (by assumption) (by omega) ?_)
                   | (refine Trs.ix (by assumption) (by omega) ?_)
                   | (refine Prs.ldN (by assumption) (by omega) ?_)
                   | (refine Trs.ldN (by assumption) (by omega) ?_)
                   | (refine At.ldN (Blk.at (by assumption)) rfl ?_)
                   | (refine At.ld (Blk.at (by assumption)) rfl ?_)
                   | (refine IxA.mk (by omega) ?_)
                   | (refine Sl.ln (Own.sl (by assumption)) ?_)
                   | (refine Ints.ix (Own.sl (by assumption)) (by omega) ?_)
                   | (refine Ints.ixI (Own.sl (by assumption)) (by omega) ?_)
                   | (refine Ints.ld (Own.sl (by assumption)) (by omega) ?_))
          all_goals exact ⟨rfl, EE⟩
      · rw [tf_t (p := divn rr a) ⟨hl, fun k hk2 => hv k (by omega)⟩]
        repeat' (conv => whnf
                 first
                 | (refine Dr.quiet tyOk (by kernel_rfl) ?_)
                 | (refine Rng.mk (by omega) ?_)
                 | (refine Split.pos (by omega) ?_)
                 | (refine Split.neg (by omega) ?_)
                 | (refine Split.mk (fun h => ?_) (fun h => ?_))
                 | (refine Need.mk (by omega) ?_)
                 | (refine Ints.ln (by assumption) ?_)
                 | (refine Mat.ln (by assumption) ?_)
                 | (refine Ints.ln (Mat.row (by assumption) _ (by omega)) ?_)
                 | (refine Ints.ix (by assumption) (by omega) ?_)
                 | (refine Mat.ix (by assumption) (by omega) ?_)
                 | (refine Ints.ix (Mat.row (by assumption) _ (by omega)) (by omega) ?_)
                 | (refine Ints.ix (c := 0) (by assumption) (by omega) ?_)
                 | (refine Mat.ix (c := 0) (by assumption) (by omega) ?_)
                 | (refine Ints.ix (c := 0) (Mat.row (by assumption) _ (by omega)) (by omega) ?_)
                 | (refine Ints.ixI (by assumption) (by omega) ?_)
                 | (refine Mat.ixI (by assumption) (by omega) ?_)
                 | (refine Ints.ixI (Mat.row (by assumption) _ (by omega)) (by omega) ?_)
                 | (refine Ints.ld (by assumption) (by omega) ?_)
                 | (refine Mat.ld (by assumption) (by omega) ?_)
                 | (refine Ints.ld (Mat.row (by assumption) _ (by omega)) (by omega) ?_)
                 | (refine At.ld (by assumption) rfl ?_)
                 | (refine At.ldN (by assumption) rfl ?_)
                 | (refine Prs.ln (by assumption) ?_)
                 | (refine Trs.ln (by assumption) ?_)
                 | (refine Prs.ix (by assumption) (by omega) ?_)
                 | (refine Trs.ix (by assumption) (by omega) ?_)
                 | (refine Prs.ldN (by assumption) (by omega) ?_)
                 | (refine Trs.ldN (by assumption) (by omega) ?_)
                 | (refine At.ldN (Blk.at (by assumption)) rfl ?_)
                 | (refine At.ld (Blk.at (by assumption)) rfl ?_)
                 | (refine IxA.mk (by omega) ?_)
                 | (refine Sl.ln (Own.sl (by assumption)) ?_)
                 | (refine Ints.ix (Own.sl (by assumption)) (by omega) ?_)
                 | (refine Ints.ixI (Own.sl (by assumption)) (by omega) ?_)
                 | (refine Ints.ld (Own.sl (by assumption)) (by omega) ?_))
        exact ⟨rfl, EE⟩
  · rw [tf_f (p := divn rr a) (fun h => hl h.1)]
    repeat' (conv => whnf
             first
             | (refine Dr.quiet tyOk (by kernel_rfl) ?_)
             | (refine Rng.mk (by omega) ?_)
             | (refine Split.pos (by omega) ?_)
             | (refine Split.neg (by omega) ?_)
             | (refine Split.mk (fun h => ?_) (fun h => ?_))
             | (refine Need.mk (by omega) ?_)
             | (refine Ints.ln (by assumption) ?_)
             | (refine Mat.ln (by assumption) ?_)
             | (refine Ints.ln (Mat.row (by assumption) _ (by omega)) ?_)
             | (refine Ints.ix (by assumption) (by omega) ?_)
             | (refine Mat.ix (by assumption) (by omega) ?_)
             | (refine Ints.ix (Mat.row (by assumption) _ (by omega)) (by omega) ?_)
             | (refine Ints.ix (c := 0) (by assumption) (by omega) ?_)
             | (refine Mat.ix (c := 0) (by assumption) (by omega) ?_)
             | (refine Ints.ix (c := 0) (Mat.row (by assumption) _ (by omega)) (by omega) ?_)
             | (refine Ints.ixI (by assumption) (by omega) ?_)
             | (refine Mat.ixI (by assumption) (by omega) ?_)
             | (refine Ints.ixI (Mat.row (by assumption) _ (by omega)) (by omega) ?_)
             | (refine Ints.ld (by assumption) (by omega) ?_)
             | (refine Mat.ld (by assumption) (by omega) ?_)
             | (refine Ints.ld (Mat.row (by assumption) _ (by omega)) (by omega) ?_)
             | (refine At.ld (by assumption) rfl ?_)
             | (refine At.ldN (by assumption) rfl ?_)
             | (refine Prs.ln (by assumption) ?_)
             | (refine Trs.ln (by assumption) ?_)
             | (refine Prs.ix (by assumption) (by omega) ?_)
             | (refine Trs.ix (by assumption) (by omega) ?_)
             | (refine Prs.ldN (by assumption) (by omega) ?_)
             | (refine Trs.ldN (by assumption) (by omega) ?_)
             | (refine At.ldN (Blk.at (by assumption)) rfl ?_)
             | (refine At.ld (Blk.at (by assumption)) rfl ?_)
             | (refine IxA.mk (by omega) ?_)
             | (refine Sl.ln (Own.sl (by assumption)) ?_)
             | (refine Ints.ix (Own.sl (by assumption)) (by omega) ?_)
             | (refine Ints.ixI (Own.sl (by assumption)) (by omega) ?_)
             | (refine Ints.ld (Own.sl (by assumption)) (by omega) ?_))
    exact ⟨rfl, EE⟩
end Go.Proofs.Ytclbiabiiknolaa
