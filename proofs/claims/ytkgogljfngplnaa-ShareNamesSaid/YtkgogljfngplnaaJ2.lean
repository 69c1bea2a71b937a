/- Joined texts: Goods1 Goods2 L16a L16b NKit Near5 PlainN NashPlain EngR EngS Kit2 EngU NashF NashH L17a LEval NashB EngAA. -/
import Derived.Test.YtkgogljfngplnaaJ1
import Derived.Deep.Strs
import Derived.WalkSpells
set_option linter.unusedVariables false
set_option linter.unusedSimpArgs false
namespace Go.Proofs.Ytkgogljfngplnaa
open Go.Eng
set_option maxRecDepth 100000

theorem indexfuncR_pc {w : World} {sv : Value} {n : Nat} {xs : List Value} {g : FuncId} {cap : List Value} {p : Nat → Bool} (Hs : Sl 1 w sv n xs) (hf : ∀ i, i < n → PC Try.prog g (xs.getD i undef :: cap) w (.bool (p i))) :
    PC Try.prog 83 [sv, .func (.func g) #[] cap.toArray] w (.int .i64 (firstFrom p n 0)) := by
  refine PC.mk tyOk Try.func83 rfl (by kernel_rfl) fun w1 E1 => ?_
  replace Hs := Hs.ext E1
  replace hf := fun i hi => (hf i hi).ext E1
  have hle := Hs.le
  repeat' ((conv => whnf); first | (refine Dr.quiet tyOk (by kernel_rfl) ?_) | (refine Sl.ln (by assumption) ?_) | (refine Rng.mk (by omega) ?_) | (refine Split.pos (by omega) ?_) | (refine Split.neg (by omega) ?_) | (refine Split.mk (fun h => ?_) (fun h => ?_)) | (refine Need.mk (by omega) ?_) | (refine Ints.ln (by assumption) ?_) | (refine Mat.ln (by assumption) ?_) | (refine Ints.ln (Mat.row (by assumption) _ (by omega)) ?_) | (refine Ints.ix (by assumption) (by omega) ?_) | (refine Mat.ix (by assumption) (by omega) ?_) | (refine Ints.ix (Mat.row (by assumption) _ (by omega)) (by omega) ?_) | (refine Ints.ix (c := 0) (by assumption) (by omega) ?_) | (refine Mat.ix (c := 0) (by assumption) (by omega) ?_) | (refine Ints.ix (c := 0) (Mat.row (by assumption) _ (by omega)) (by omega) ?_) | (refine Ints.ixI (by assumption) (by omega) ?_) | (refine Mat.ixI (by assumption) (by omega) ?_) | (refine Ints.ixI (Mat.row (by assumption) _ (by omega)) (by omega) ?_) | (refine Ints.ld (by assumption) (by omega) ?_) | (refine Mat.ld (by assumption) (by omega) ?_) | (refine Ints.ld (Mat.row (by assumption) _ (by omega)) (by omega) ?_) | (refine At.ld (by assumption) rfl ?_) | (refine At.ldN (by assumption) rfl ?_))
  refine Lp.mk tyOk [false, false, false, false, true, true, false, false, true, true, true, true, true, true, true, true, true, true, true] (fun m fr wr => getK fr 8 fun j => ∃ c : Nat, c ≤ n ∧ m = n - c ∧ j = .int .i64 (c : Int) ∧ firstFrom p n 0 = firstFrom p (n - c) c ∧ wr = w1) n ?_ ?_
  · exact ⟨0, Nat.zero_le _, rfl, rfl, rfl, rfl⟩
  · intro m w3 u4 u5 u8 u9 u10 u11 u12 u13 u14 u15 u16 u17 u18 hR
    obtain ⟨c, hc, rfl, rfl, he, rfl⟩ := hR
    by_cases hlt : c < n
    · have hs : firstFrom p (n - c) c = if p c = true then (c : Int) else firstFrom p (n - (c + 1)) (c + 1) := by rw [show n - c = (n - (c + 1)) + 1 by omega]; rfl
      have hfc := hf c hlt
      cases hp : p c with
      | true =>
        rw [hp] at hfc hs
        repeat' ((conv => whnf); first | (refine Dr.quiet tyOk (by kernel_rfl) ?_) | (refine Sl.ix (by assumption) (by omega) ?_) | (refine Sl.ld1 (by assumption) (by omega) ?_) | (refine VC.pure hfc ?_) | (refine Rng.mk (by omega) ?_) | (refine Split.pos (by omega) ?_) | (refine Split.neg (by omega) ?_) | (refine Split.mk (fun h => ?_) (fun h => ?_)) | (refine Need.mk (by omega) ?_) | (refine Ints.ln (by assumption) ?_) | (refine Mat.ln (by assumption) ?_) | (refine Ints.ln (Mat.row (by assumption) _ (by omega)) ?_) | (refine Ints.ix (by assumption) (by omega) ?_) | (refine Mat.ix (by assumption) (by omega) ?_) | (refine Ints.ix (Mat.row (by assumption) _ (by omega)) (by omega) ?_) | (refine Ints.ix (c := 0) (by assumption) (by omega) ?_) | (refine Mat.ix (c := 0) (by assumption) (by omega) ?_) | (refine Ints.ix (c := 0) (Mat.row (by assumption) _ (by omega)) (by omega) ?_) | (refine Ints.ixI (by assumption) (by omega) ?_) | (refine Mat.ixI (by assumption) (by omega) ?_) | (refine Ints.ixI (Mat.row (by assumption) _ (by omega)) (by omega) ?_) | (refine Ints.ld (by assumption) (by omega) ?_) | (refine Mat.ld (by assumption) (by omega) ?_) | (refine Ints.ld (Mat.row (by assumption) _ (by omega)) (by omega) ?_) | (refine At.ld (by assumption) rfl ?_) | (refine At.ldN (by assumption) rfl ?_))
        rw [he, hs]; exact ⟨rfl, Ext.refl _⟩
      | false =>
        rw [hp] at hfc hs
        repeat' ((conv => whnf); first | (refine Dr.quiet tyOk (by kernel_rfl) ?_) | (refine Sl.ix (by assumption) (by omega) ?_) | (refine Sl.ld1 (by assumption) (by omega) ?_) | (refine VC.pure hfc ?_) | (refine Rng.mk (by omega) ?_) | (refine Split.pos (by omega) ?_) | (refine Split.neg (by omega) ?_) | (refine Split.mk (fun h => ?_) (fun h => ?_)) | (refine Need.mk (by omega) ?_) | (refine Ints.ln (by assumption) ?_) | (refine Mat.ln (by assumption) ?_) | (refine Ints.ln (Mat.row (by assumption) _ (by omega)) ?_) | (refine Ints.ix (by assumption) (by omega) ?_) | (refine Mat.ix (by assumption) (by omega) ?_) | (refine Ints.ix (Mat.row (by assumption) _ (by omega)) (by omega) ?_) | (refine Ints.ix (c := 0) (by assumption) (by omega) ?_) | (refine Mat.ix (c := 0) (by assumption) (by omega) ?_) | (refine Ints.ix (c := 0) (Mat.row (by assumption) _ (by omega)) (by omega) ?_) | (refine Ints.ixI (by assumption) (by omega) ?_) | (refine Mat.ixI (by assumption) (by omega) ?_) | (refine Ints.ixI (Mat.row (by assumption) _ (by omega)) (by omega) ?_) | (refine Ints.ld (by assumption) (by omega) ?_) | (refine Mat.ld (by assumption) (by omega) ?_) | (refine Ints.ld (Mat.row (by assumption) _ (by omega)) (by omega) ?_) | (refine At.ld (by assumption) rfl ?_) | (refine At.ldN (by assumption) rfl ?_))
        exact ⟨_, (by omega : n - (c + 1) < n - c), rfl, c + 1, by omega, rfl, rfl, by rw [he, hs]; rfl, rfl⟩
    · obtain rfl : c = n := by omega
      repeat' ((conv => whnf); first | (refine Dr.quiet tyOk (by kernel_rfl) ?_) | (refine Rng.mk (by omega) ?_) | (refine Split.pos (by omega) ?_) | (refine Split.neg (by omega) ?_) | (refine Split.mk (fun h => ?_) (fun h => ?_)) | (refine Need.mk (by omega) ?_) | (refine Ints.ln (by assumption) ?_) | (refine Mat.ln (by assumption) ?_) | (refine Ints.ln (Mat.row (by assumption) _ (by omega)) ?_) | (refine Ints.ix (by assumption) (by omega) ?_) | (refine Mat.ix (by assumption) (by omega) ?_) | (refine Ints.ix (Mat.row (by assumption) _ (by omega)) (by omega) ?_) | (refine Ints.ix (c := 0) (by assumption) (by omega) ?_) | (refine Mat.ix (c := 0) (by assumption) (by omega) ?_) | (refine Ints.ix (c := 0) (Mat.row (by assumption) _ (by omega)) (by omega) ?_) | (refine Ints.ixI (by assumption) (by omega) ?_) | (refine Mat.ixI (by assumption) (by omega) ?_) | (refine Ints.ixI (Mat.row (by assumption) _ (by omega)) (by omega) ?_) | (refine Ints.ld (by assumption) (by omega) ?_) | (refine Mat.ld (by assumption) (by omega) ?_) | (refine Ints.ld (Mat.row (by assumption) _ (by omega)) (by omega) ?_) | (refine At.ld (by assumption) rfl ?_) | (refine At.ldN (by assumption) rfl ?_))
      rw [he, Nat.sub_self]; exact ⟨rfl, Ext.refl _⟩

theorem containsfuncR_pc {w : World} {sv : Value} {n : Nat} {xs : List Value} {g : FuncId} {cap : List Value} {p : Nat → Bool} (Hs : Sl 1 w sv n xs) (hf : ∀ i, i < n → PC Try.prog g (xs.getD i undef :: cap) w (.bool (p i))) :
    PC Try.prog 71 [sv, .func (.func g) #[] cap.toArray] w (.bool (tf (∃ i, i < n ∧ p i = true))) := by
  refine PC.mk tyOk Try.func71 rfl (by kernel_rfl) fun w1 E1 => ?_
  replace Hs := Hs.ext E1
  replace hf := fun i hi => (hf i hi).ext E1
  have hs := firstFrom_spec p n 0
  repeat' ((conv => whnf); first | (refine Dr.quiet tyOk (by kernel_rfl) ?_) | (refine VC.pure (indexfuncR_pc Hs hf) ?_) | (refine Rng.mk (by omega) ?_) | (refine Split.pos (by omega) ?_) | (refine Split.neg (by omega) ?_) | (refine Split.mk (fun h => ?_) (fun h => ?_)) | (refine Need.mk (by omega) ?_) | (refine Ints.ln (by assumption) ?_) | (refine Mat.ln (by assumption) ?_) | (refine Ints.ln (Mat.row (by assumption) _ (by omega)) ?_) | (refine Ints.ix (by assumption) (by omega) ?_) | (refine Mat.ix (by assumption) (by omega) ?_) | (refine Ints.ix (Mat.row (by assumption) _ (by omega)) (by omega) ?_) | (refine Ints.ix (c := 0) (by assumption) (by omega) ?_) | (refine Mat.ix (c := 0) (by assumption) (by omega) ?_) | (refine Ints.ix (c := 0) (Mat.row (by assumption) _ (by omega)) (by omega) ?_) | (refine Ints.ixI (by assumption) (by omega) ?_) | (refine Mat.ixI (by assumption) (by omega) ?_) | (refine Ints.ixI (Mat.row (by assumption) _ (by omega)) (by omega) ?_) | (refine Ints.ld (by assumption) (by omega) ?_) | (refine Mat.ld (by assumption) (by omega) ?_) | (refine Ints.ld (Mat.row (by assumption) _ (by omega)) (by omega) ?_) | (refine At.ld (by assumption) rfl ?_) | (refine At.ldN (by assumption) rfl ?_))
  · rw [tf_t (p := ∃ i, i < n ∧ p i = true) (by
      rcases hs with ⟨j, h1, h2, h3, _⟩ | ⟨h1, _⟩
      · exact ⟨j, by omega, h3⟩
      · omega)]; exact ⟨rfl, Ext.refl _⟩
  · rw [tf_f (p := ∃ i, i < n ∧ p i = true) (by
      rintro ⟨i, hi, hp⟩
      rcases hs with ⟨j, h1, h2, h3, h4, _⟩ | ⟨_, h2⟩
      · omega
      · have := h2 i (by omega) (by omega); rw [hp] at this; cases this)]; exact ⟨rfl, Ext.refl _⟩
theorem indexfuncI_pc {w : World} {sv : Value} {n : Nat} {xs : List Value} {g : FuncId} {cap : List Value} {p : Nat → Bool} (Hs : Sl 1 w sv n xs) (hf : ∀ i, i < n → PC Try.prog g (xs.getD i undef :: cap) w (.bool (p i))) :
    PC Try.prog 84 [sv, .func (.func g) #[] cap.toArray] w (.int .i64 (firstFrom p n 0)) := by
  refine PC.mk tyOk Try.func84 rfl (by kernel_rfl) fun w1 E1 => ?_
  replace Hs := Hs.ext E1
  replace hf := fun i hi => (hf i hi).ext E1
  have hle := Hs.le
  repeat' ((conv => whnf); first | (refine Dr.quiet tyOk (by kernel_rfl) ?_) | (refine Sl.ln (by assumption) ?_) | (refine Rng.mk (by omega) ?_) | (refine Split.pos (by omega) ?_) | (refine Split.neg (by omega) ?_) | (refine Split.mk (fun h => ?_) (fun h => ?_)) | (refine Need.mk (by omega) ?_) | (refine Ints.ln (by assumption) ?_) | (refine Mat.ln (by assumption) ?_) | (refine Ints.ln (Mat.row (by assumption) _ (by omega)) ?_) | (refine Ints.ix (by assumption) (by omega) ?_) | (refine Mat.ix (by assumption) (by omega) ?_) | (refine Ints.ix (Mat.row (by assumption) _ (by omega)) (by omega) ?_) | (refine Ints.ix (c := 0) (by assumption) (by omega) ?_) | (refine Mat.ix (c := 0) (by assumption) (by omega) ?_) | (refine Ints.ix (c := 0) (Mat.row (by assumption) _ (by omega)) (by omega) ?_) | (refine Ints.ixI (by assumption) (by omega) ?_) | (refine Mat.ixI (by assumption) (by omega) ?_) | (refine Ints.ixI (Mat.row (by assumption) _ (by omega)) (by omega) ?_) | (refine Ints.ld (by assumption) (by omega) ?_) | (refine Mat.ld (by assumption) (by omega) ?_) | (refine Ints.ld (Mat.row (by assumption) _ (by omega)) (by omega) ?_) | (refine At.ld (by assumption) rfl ?_) | (refine At.ldN (by assumption) rfl ?_))
  refine Lp.mk tyOk [false, false, false, false, true, true, false, false, true, true, true, true, true, true, true, true, true, true, true] (fun m fr wr => getK fr 8 fun j => ∃ c : Nat, c ≤ n ∧ m = n - c ∧ j = .int .i64 (c : Int) ∧ firstFrom p n 0 = firstFrom p (n - c) c ∧ wr = w1) n ?_ ?_
  · exact ⟨0, Nat.zero_le _, rfl, rfl, rfl, rfl⟩
  · intro m w3 u4 u5 u8 u9 u10 u11 u12 u13 u14 u15 u16 u17 u18 hR
    obtain ⟨c, hc, rfl, rfl, he, rfl⟩ := hR
    by_cases hlt : c < n
    · have hs : firstFrom p (n - c) c = if p c = true then (c : Int) else firstFrom p (n - (c + 1)) (c + 1) := by rw [show n - c = (n - (c + 1)) + 1 by omega]; rfl
      have hfc := hf c hlt
      cases hp : p c with
      | true =>
        rw [hp] at hfc hs
        repeat' ((conv => whnf); first | (refine Dr.quiet tyOk (by kernel_rfl) ?_) | (refine Sl.ix (by assumption) (by omega) ?_) | (refine Sl.ld1 (by assumption) (by omega) ?_) | (refine VC.pure hfc ?_) | (refine Rng.mk (by omega) ?_) | (refine Split.pos (by omega) ?_) | (refine Split.neg (by omega) ?_) | (refine Split.mk (fun h => ?_) (fun h => ?_)) | (refine Need.mk (by omega) ?_) | (refine Ints.ln (by assumption) ?_) | (refine Mat.ln (by assumption) ?_) | (refine Ints.ln (Mat.row (by assumption) _ (by omega)) ?_) | (refine Ints.ix (by assumption) (by omega) ?_) | (refine Mat.ix (by assumption) (by omega) ?_) | (refine Ints.ix (Mat.row (by assumption) _ (by omega)) (by omega) ?_) | (refine Ints.ix (c := 0) (by assumption) (by omega) ?_) | (refine Mat.ix (c := 0) (by assumption) (by omega) ?_) | (refine Ints.ix (c := 0) (Mat.row (by assumption) _ (by omega)) (by omega) ?_) | (refine Ints.ixI (by assumption) (by omega) ?_) | (refine Mat.ixI (by assumption) (by omega) ?_) | (refine Ints.ixI (Mat.row (by assumption) _ (by omega)) (by omega) ?_) | (refine Ints.ld (by assumption) (by omega) ?_) | (refine Mat.ld (by assumption) (by omega) ?_) | (refine Ints.ld (Mat.row (by assumption) _ (by omega)) (by omega) ?_) | (refine At.ld (by assumption) rfl ?_) | (refine At.ldN (by assumption) rfl ?_))
        rw [he, hs]; exact ⟨rfl, Ext.refl _⟩
      | false =>
        rw [hp] at hfc hs
        repeat' ((conv => whnf); first | (refine Dr.quiet tyOk (by kernel_rfl) ?_) | (refine Sl.ix (by assumption) (by omega) ?_) | (refine Sl.ld1 (by assumption) (by omega) ?_) | (refine VC.pure hfc ?_) | (refine Rng.mk (by omega) ?_) | (refine Split.pos (by omega) ?_) | (refine Split.neg (by omega) ?_) | (refine Split.mk (fun h => ?_) (fun h => ?_)) | (refine Need.mk (by omega) ?_) | (refine Ints.ln (by assumption) ?_) | (refine Mat.ln (by assumption) ?_) | (refine Ints.ln (Mat.row (by assumption) _ (by omega)) ?_) | (refine Ints.ix (by assumption) (by omega) ?_) | (refine Mat.ix (by assumption) (by omega) ?_) | (refine Ints.ix (Mat.row (by assumption) _ (by omega)) (by omega) ?_) | (refine Ints.ix (c := 0) (by assumption) (by omega) ?_) | (refine Mat.ix (c := 0) (by assumption) (by omega) ?_) | (refine Ints.ix (c := 0) (Mat.row (by assumption) _ (by omega)) (by omega) ?_) | (refine Ints.ixI (by assumption) (by omega) ?_) | (refine Mat.ixI (by assumption) (by omega) ?_) | (refine Ints.ixI (Mat.row (by assumption) _ (by omega)) (by omega) ?_) | (refine Ints.ld (by assumption) (by omega) ?_) | (refine Mat.ld (by assumption) (by omega) ?_) | (refine Ints.ld (Mat.row (by assumption) _ (by omega)) (by omega) ?_) | (refine At.ld (by assumption) rfl ?_) | (refine At.ldN (by assumption) rfl ?_))
        exact ⟨_, (by omega : n - (c + 1) < n - c), rfl, c + 1, by omega, rfl, rfl, by rw [he, hs]; rfl, rfl⟩
    · obtain rfl : c = n := by omega
      repeat' ((conv => whnf); first | (refine Dr.quiet tyOk (by kernel_rfl) ?_) | (refine Rng.mk (by omega) ?_) | (refine Split.pos (by omega) ?_) | (refine Split.neg (by omega) ?_) | (refine Split.mk (fun h => ?_) (fun h => ?_)) | (refine Need.mk (by omega) ?_) | (refine Ints.ln (by assumption) ?_) | (refine Mat.ln (by assumption) ?_) | (refine Ints.ln (Mat.row (by assumption) _ (by omega)) ?_) | (refine Ints.ix (by assumption) (by omega) ?_) | (refine Mat.ix (by assumption) (by omega) ?_) | (refine Ints.ix (Mat.row (by assumption) _ (by omega)) (by omega) ?_) | (refine Ints.ix (c := 0) (by assumption) (by omega) ?_) | (refine Mat.ix (c := 0) (by assumption) (by omega) ?_) | (refine Ints.ix (c := 0) (Mat.row (by assumption) _ (by omega)) (by omega) ?_) | (refine Ints.ixI (by assumption) (by omega) ?_) | (refine Mat.ixI (by assumption) (by omega) ?_) | (refine Ints.ixI (Mat.row (by assumption) _ (by omega)) (by omega) ?_) | (refine Ints.ld (by assumption) (by omega) ?_) | (refine Mat.ld (by assumption) (by omega) ?_) | (refine Ints.ld (Mat.row (by assumption) _ (by omega)) (by omega) ?_) | (refine At.ld (by assumption) rfl ?_) | (refine At.ldN (by assumption) rfl ?_))
      rw [he, Nat.sub_self]; exact ⟨rfl, Ext.refl _⟩

theorem containsfuncI_pc {w : World} {sv : Value} {n : Nat} {xs : List Value} {g : FuncId} {cap : List Value} {p : Nat → Bool} (Hs : Sl 1 w sv n xs) (hf : ∀ i, i < n → PC Try.prog g (xs.getD i undef :: cap) w (.bool (p i))) :
    PC Try.prog 74 [sv, .func (.func g) #[] cap.toArray] w (.bool (tf (∃ i, i < n ∧ p i = true))) := by
  refine PC.mk tyOk Try.func74 rfl (by kernel_rfl) fun w1 E1 => ?_
  replace Hs := Hs.ext E1
  replace hf := fun i hi => (hf i hi).ext E1
  have hs := firstFrom_spec p n 0
  repeat' ((conv => whnf); first | (refine Dr.quiet tyOk (by kernel_rfl) ?_) | (refine VC.pure (indexfuncI_pc Hs hf) ?_) | (refine Rng.mk (by omega) ?_) | (refine Split.pos (by omega) ?_) | (refine Split.neg (by omega) ?_) | (refine Split.mk (fun h => ?_) (fun h => ?_)) | (refine Need.mk (by omega) ?_) | (refine Ints.ln (by assumption) ?_) | (refine Mat.ln (by assumption) ?_) | (refine Ints.ln (Mat.row (by assumption) _ (by omega)) ?_) | (refine Ints.ix (by assumption) (by omega) ?_) | (refine Mat.ix (by assumption) (by omega) ?_) | (refine Ints.ix (Mat.row (by assumption) _ (by omega)) (by omega) ?_) | (refine Ints.ix (c := 0) (by assumption) (by omega) ?_) | (refine Mat.ix (c := 0) (by assumption) (by omega) ?_) | (refine Ints.ix (c := 0) (Mat.row (by assumption) _ (by omega)) (by omega) ?_) | (refine Ints.ixI (by assumption) (by omega) ?_) | (refine Mat.ixI (by assumption) (by omega) ?_) | (refine Ints.ixI (Mat.row (by assumption) _ (by omega)) (by omega) ?_) | (refine Ints.ld (by assumption) (by omega) ?_) | (refine Mat.ld (by assumption) (by omega) ?_) | (refine Ints.ld (Mat.row (by assumption) _ (by omega)) (by omega) ?_) | (refine At.ld (by assumption) rfl ?_) | (refine At.ldN (by assumption) rfl ?_))
  · rw [tf_t (p := ∃ i, i < n ∧ p i = true) (by
      rcases hs with ⟨j, h1, h2, h3, _⟩ | ⟨h1, _⟩
      · exact ⟨j, by omega, h3⟩
      · omega)]; exact ⟨rfl, Ext.refl _⟩
  · rw [tf_f (p := ∃ i, i < n ∧ p i = true) (by
      rintro ⟨i, hi, hp⟩
      rcases hs with ⟨j, h1, h2, h3, h4, _⟩ | ⟨_, h2⟩
      · omega
      · have := h2 i (by omega) (by omega); rw [hp] at this; cases this)]; exact ⟨rfl, Ext.refl _⟩

theorem check1_pc {w : World} {rv : Value} {l : List Int} (Hr : Ints w rv l) : PC Try.prog 72 [rv] w (.bool (decide (10 < l.length))) := by
  refine PC.mk tyOk Try.func72 rfl (by kernel_rfl) fun w1 E1 => ?_
  replace Hr := Hr.ext E1
  repeat' ((conv => whnf); first | (refine Dr.quiet tyOk (by kernel_rfl) ?_) | (refine Rng.mk (by omega) ?_) | (refine Split.pos (by omega) ?_) | (refine Split.neg (by omega) ?_) | (refine Split.mk (fun h => ?_) (fun h => ?_)) | (refine Need.mk (by omega) ?_) | (refine Ints.ln (by assumption) ?_) | (refine Mat.ln (by assumption) ?_) | (refine Ints.ln (Mat.row (by assumption) _ (by omega)) ?_) | (refine Ints.ix (by assumption) (by omega) ?_) | (refine Mat.ix (by assumption) (by omega) ?_) | (refine Ints.ix (Mat.row (by assumption) _ (by omega)) (by omega) ?_) | (refine Ints.ix (c := 0) (by assumption) (by omega) ?_) | (refine Mat.ix (c := 0) (by assumption) (by omega) ?_) | (refine Ints.ix (c := 0) (Mat.row (by assumption) _ (by omega)) (by omega) ?_) | (refine Ints.ixI (by assumption) (by omega) ?_) | (refine Mat.ixI (by assumption) (by omega) ?_) | (refine Ints.ixI (Mat.row (by assumption) _ (by omega)) (by omega) ?_) | (refine Ints.ld (by assumption) (by omega) ?_) | (refine Mat.ld (by assumption) (by omega) ?_) | (refine Ints.ld (Mat.row (by assumption) _ (by omega)) (by omega) ?_) | (refine At.ld (by assumption) rfl ?_) | (refine At.ldN (by assumption) rfl ?_))
  · rw [decide_eq_true (by omega)]; exact ⟨rfl, Ext.refl _⟩
  · rw [decide_eq_false (by omega)]; exact ⟨rfl, Ext.refl _⟩

def odd (x : Int) : Bool := decide (x < 0) || decide (1000 < x)
theorem check2_pc {w : World} {x : Int} : PC Try.prog 73 [.int .i64 x] w (.bool (odd x)) := by
  refine PC.mk tyOk Try.func73 rfl (by kernel_rfl) fun w1 E1 => ?_
  unfold odd
  repeat' ((conv => whnf); first | (refine Dr.quiet tyOk (by kernel_rfl) ?_) | (refine Rng.mk (by omega) ?_) | (refine Split.pos (by omega) ?_) | (refine Split.neg (by omega) ?_) | (refine Split.mk (fun h => ?_) (fun h => ?_)) | (refine Need.mk (by omega) ?_) | (refine Ints.ln (by assumption) ?_) | (refine Mat.ln (by assumption) ?_) | (refine Ints.ln (Mat.row (by assumption) _ (by omega)) ?_) | (refine Ints.ix (by assumption) (by omega) ?_) | (refine Mat.ix (by assumption) (by omega) ?_) | (refine Ints.ix (Mat.row (by assumption) _ (by omega)) (by omega) ?_) | (refine Ints.ix (c := 0) (by assumption) (by omega) ?_) | (refine Mat.ix (c := 0) (by assumption) (by omega) ?_) | (refine Ints.ix (c := 0) (Mat.row (by assumption) _ (by omega)) (by omega) ?_) | (refine Ints.ixI (by assumption) (by omega) ?_) | (refine Mat.ixI (by assumption) (by omega) ?_) | (refine Ints.ixI (Mat.row (by assumption) _ (by omega)) (by omega) ?_) | (refine Ints.ld (by assumption) (by omega) ?_) | (refine Mat.ld (by assumption) (by omega) ?_) | (refine Ints.ld (Mat.row (by assumption) _ (by omega)) (by omega) ?_) | (refine At.ld (by assumption) rfl ?_) | (refine At.ldN (by assumption) rfl ?_))
  · rw [decide_eq_true (by omega)]; exact ⟨rfl, Ext.refl _⟩
  · rw [decide_eq_false (by omega), decide_eq_true (by omega)]; exact ⟨rfl, Ext.refl _⟩
  · rw [decide_eq_false (by omega), decide_eq_false (by omega)]; exact ⟨rfl, Ext.refl _⟩

theorem Ints.elem {w : World} {v : Value} {l : List Int} {i : Nat} (h : i < l.length) : (l.map i64v).getD i undef = .int .i64 (l.getD i 0) := by simp [List.getD, h, i64v]

theorem gcheck_pc {w : World} {gv : Value} {vs : List Value} {rr : List (List Int)} (Hg : Mat w gv vs rr) :
    PC Try.prog 55 [.agg #[gv]] w (.int .i64 (chk rr)) := by
  refine PC.mk tyOk Try.func55 rfl (by kernel_rfl) fun w1 E1 => ?_
  replace Hg := Hg.ext E1
  have hle := Hg.top.le
  refine Bx.agg fun b w2 E2 _ Hb _ => ?_
  replace Hg := Hg.ext E2
  have hbig := containsfuncR_pc (g := 72) (cap := []) (p := fun i => decide (10 < (rr.getD i []).length)) Hg.top (fun i hi => check1_pc (Hg.row i hi))
  by_cases h6 : 6 < rr.length
  · repeat' ((conv => whnf); first | (refine Dr.quiet tyOk (by kernel_rfl) ?_) | (refine Rng.mk (by omega) ?_) | (refine Split.pos (by omega) ?_) | (refine Split.neg (by omega) ?_) | (refine Split.mk (fun h => ?_) (fun h => ?_)) | (refine Need.mk (by omega) ?_) | (refine Ints.ln (by assumption) ?_) | (refine Mat.ln (by assumption) ?_) | (refine Ints.ln (Mat.row (by assumption) _ (by omega)) ?_) | (refine Ints.ix (by assumption) (by omega) ?_) | (refine Mat.ix (by assumption) (by omega) ?_) | (refine Ints.ix (Mat.row (by assumption) _ (by omega)) (by omega) ?_) | (refine Ints.ix (c := 0) (by assumption) (by omega) ?_) | (refine Mat.ix (c := 0) (by assumption) (by omega) ?_) | (refine Ints.ix (c := 0) (Mat.row (by assumption) _ (by omega)) (by omega) ?_) | (refine Ints.ixI (by assumption) (by omega) ?_) | (refine Mat.ixI (by assumption) (by omega) ?_) | (refine Ints.ixI (Mat.row (by assumption) _ (by omega)) (by omega) ?_) | (refine Ints.ld (by assumption) (by omega) ?_) | (refine Mat.ld (by assumption) (by omega) ?_) | (refine Ints.ld (Mat.row (by assumption) _ (by omega)) (by omega) ?_) | (refine At.ld (by assumption) rfl ?_) | (refine At.ldN (by assumption) rfl ?_))
    rw [chk_big (.inl h6)]; exact ⟨rfl, E2⟩
  · by_cases h10 : ∃ i, i < rr.length ∧ decide (10 < (rr.getD i []).length) = true
    · rw [tf_t h10] at hbig
      repeat' ((conv => whnf); first | (refine Dr.quiet tyOk (by kernel_rfl) ?_) | (refine VC.pure hbig ?_) | (refine Rng.mk (by omega) ?_) | (refine Split.pos (by omega) ?_) | (refine Split.neg (by omega) ?_) | (refine Split.mk (fun h => ?_) (fun h => ?_)) | (refine Need.mk (by omega) ?_) | (refine Ints.ln (by assumption) ?_) | (refine Mat.ln (by assumption) ?_) | (refine Ints.ln (Mat.row (by assumption) _ (by omega)) ?_) | (refine Ints.ix (by assumption) (by omega) ?_) | (refine Mat.ix (by assumption) (by omega) ?_) | (refine Ints.ix (Mat.row (by assumption) _ (by omega)) (by omega) ?_) | (refine Ints.ix (c := 0) (by assumption) (by omega) ?_) | (refine Mat.ix (c := 0) (by assumption) (by omega) ?_) | (refine Ints.ix (c := 0) (Mat.row (by assumption) _ (by omega)) (by omega) ?_) | (refine Ints.ixI (by assumption) (by omega) ?_) | (refine Mat.ixI (by assumption) (by omega) ?_) | (refine Ints.ixI (Mat.row (by assumption) _ (by omega)) (by omega) ?_) | (refine Ints.ld (by assumption) (by omega) ?_) | (refine Mat.ld (by assumption) (by omega) ?_) | (refine Ints.ld (Mat.row (by assumption) _ (by omega)) (by omega) ?_) | (refine At.ld (by assumption) rfl ?_) | (refine At.ldN (by assumption) rfl ?_))
      obtain ⟨i, hi, hh⟩ := h10
      rw [chk_big (.inr ⟨i, hi, by simpa using hh⟩)]; exact ⟨rfl, E2⟩
    · rw [tf_f h10] at hbig
      have hnb : ¬ bigP rr := by
        rintro (h1 | ⟨i, hi, h1⟩)
        · omega
        · exact h10 ⟨i, hi, by simpa using h1⟩
      repeat' ((conv => whnf); first | (refine Dr.quiet tyOk (by kernel_rfl) ?_) | (refine VC.pure hbig ?_) | (refine Rng.mk (by omega) ?_) | (refine Split.pos (by omega) ?_) | (refine Split.neg (by omega) ?_) | (refine Split.mk (fun h => ?_) (fun h => ?_)) | (refine Need.mk (by omega) ?_) | (refine Ints.ln (by assumption) ?_) | (refine Mat.ln (by assumption) ?_) | (refine Ints.ln (Mat.row (by assumption) _ (by omega)) ?_) | (refine Ints.ix (by assumption) (by omega) ?_) | (refine Mat.ix (by assumption) (by omega) ?_) | (refine Ints.ix (Mat.row (by assumption) _ (by omega)) (by omega) ?_) | (refine Ints.ix (c := 0) (by assumption) (by omega) ?_) | (refine Mat.ix (c := 0) (by assumption) (by omega) ?_) | (refine Ints.ix (c := 0) (Mat.row (by assumption) _ (by omega)) (by omega) ?_) | (refine Ints.ixI (by assumption) (by omega) ?_) | (refine Mat.ixI (by assumption) (by omega) ?_) | (refine Ints.ixI (Mat.row (by assumption) _ (by omega)) (by omega) ?_) | (refine Ints.ld (by assumption) (by omega) ?_) | (refine Mat.ld (by assumption) (by omega) ?_) | (refine Ints.ld (Mat.row (by assumption) _ (by omega)) (by omega) ?_) | (refine At.ld (by assumption) rfl ?_) | (refine At.ldN (by assumption) rfl ?_))
      · rw [chk_bad hnb (.inl (by omega))]; exact ⟨rfl, E2⟩
      · refine Lp.mk tyOk [false, false, true, false, false, true, false, false, false, false, false, false, false, false, false, false, false, false, false, false, false, false, true, true, true, true, true, true, true, true, true, true, true, true, true, true, true, true, true, true] (fun m fr wr => getK fr 22 fun j => ∃ c : Nat, c ≤ rr.length ∧ m = rr.length - c ∧ j = .int .i64 (c : Int) ∧ (∀ i, i < c → (rr.getD i []).length = (rr.getD 0 []).length ∧ ∀ j, j < (rr.getD i []).length → 0 ≤ val rr i j ∧ val rr i j ≤ 1000) ∧ wr = w2) rr.length ?_ ?_
        · exact ⟨0, Nat.zero_le _, rfl, rfl, fun i hi => absurd hi (Nat.not_lt_zero _), rfl⟩
        · intro m w3 u2 u5 u22 u23 u24 u25 u26 u27 u28 u29 u30 u31 u32 u33 u34 u35 u36 u37 u38 u39 hR
          obtain ⟨c, hc, rfl, rfl, hok, rfl⟩ := hR
          by_cases hlt : c < rr.length
          · have hodd := containsfuncI_pc (g := 73) (cap := []) (p := fun j => odd (val rr c j)) (Hg.row c hlt) (fun j hj => by rw [Ints.elem (w := w3) (v := gv) hj]; exact check2_pc)
            by_cases ho : ∃ j, j < (rr.getD c []).length ∧ odd (val rr c j) = true
            · rw [tf_t ho] at hodd
              repeat' ((conv => whnf); first | (refine Dr.quiet tyOk (by kernel_rfl) ?_) | (refine VC.pure hodd ?_) | (refine Rng.mk (by omega) ?_) | (refine Split.pos (by omega) ?_) | (refine Split.neg (by omega) ?_) | (refine Split.mk (fun h => ?_) (fun h => ?_)) | (refine Need.mk (by omega) ?_) | (refine Ints.ln (by assumption) ?_) | (refine Mat.ln (by assumption) ?_) | (refine Ints.ln (Mat.row (by assumption) _ (by omega)) ?_) | (refine Ints.ix (by assumption) (by omega) ?_) | (refine Mat.ix (by assumption) (by omega) ?_) | (refine Ints.ix (Mat.row (by assumption) _ (by omega)) (by omega) ?_) | (refine Ints.ix (c := 0) (by assumption) (by omega) ?_) | (refine Mat.ix (c := 0) (by assumption) (by omega) ?_) | (refine Ints.ix (c := 0) (Mat.row (by assumption) _ (by omega)) (by omega) ?_) | (refine Ints.ixI (by assumption) (by omega) ?_) | (refine Mat.ixI (by assumption) (by omega) ?_) | (refine Ints.ixI (Mat.row (by assumption) _ (by omega)) (by omega) ?_) | (refine Ints.ld (by assumption) (by omega) ?_) | (refine Mat.ld (by assumption) (by omega) ?_) | (refine Ints.ld (Mat.row (by assumption) _ (by omega)) (by omega) ?_) | (refine At.ld (by assumption) rfl ?_) | (refine At.ldN (by assumption) rfl ?_))
              · obtain ⟨j, hj, hh⟩ := ho
                simp only [odd, Bool.or_eq_true, decide_eq_true_eq] at hh
                rw [chk_bad hnb (.inr ⟨c, hlt, .inr ⟨j, hj, hh⟩⟩)]; exact ⟨rfl, E2⟩
              · rw [chk_bad hnb (.inr ⟨c, hlt, .inl (by omega)⟩)]; exact ⟨rfl, E2⟩
            · rw [tf_f ho] at hodd
              repeat' ((conv => whnf); first | (refine Dr.quiet tyOk (by kernel_rfl) ?_) | (refine VC.pure hodd ?_) | (refine Rng.mk (by omega) ?_) | (refine Split.pos (by omega) ?_) | (refine Split.neg (by omega) ?_) | (refine Split.mk (fun h => ?_) (fun h => ?_)) | (refine Need.mk (by omega) ?_) | (refine Ints.ln (by assumption) ?_) | (refine Mat.ln (by assumption) ?_) | (refine Ints.ln (Mat.row (by assumption) _ (by omega)) ?_) | (refine Ints.ix (by assumption) (by omega) ?_) | (refine Mat.ix (by assumption) (by omega) ?_) | (refine Ints.ix (Mat.row (by assumption) _ (by omega)) (by omega) ?_) | (refine Ints.ix (c := 0) (by assumption) (by omega) ?_) | (refine Mat.ix (c := 0) (by assumption) (by omega) ?_) | (refine Ints.ix (c := 0) (Mat.row (by assumption) _ (by omega)) (by omega) ?_) | (refine Ints.ixI (by assumption) (by omega) ?_) | (refine Mat.ixI (by assumption) (by omega) ?_) | (refine Ints.ixI (Mat.row (by assumption) _ (by omega)) (by omega) ?_) | (refine Ints.ld (by assumption) (by omega) ?_) | (refine Mat.ld (by assumption) (by omega) ?_) | (refine Ints.ld (Mat.row (by assumption) _ (by omega)) (by omega) ?_) | (refine At.ld (by assumption) rfl ?_) | (refine At.ldN (by assumption) rfl ?_))
              · refine ⟨_, (by omega : rr.length - (c + 1) < rr.length - c), rfl, c + 1, by omega, rfl, rfl, fun i hi => ?_, rfl⟩
                by_cases e : i = c
                · subst e
                  refine ⟨by omega, fun j hj => ?_⟩
                  have hh : ¬ odd (val rr i j) = true := fun hh => ho ⟨j, hj, hh⟩
                  simp only [odd, Bool.or_eq_true, decide_eq_true_eq] at hh
                  omega
                · exact hok i (by omega)
              · rw [chk_bad hnb (.inr ⟨c, hlt, .inl (by omega)⟩)]; exact ⟨rfl, E2⟩
          · repeat' ((conv => whnf); first | (refine Dr.quiet tyOk (by kernel_rfl) ?_) | (refine Rng.mk (by omega) ?_) | (refine Split.pos (by omega) ?_) | (refine Split.neg (by omega) ?_) | (refine Split.mk (fun h => ?_) (fun h => ?_)) | (refine Need.mk (by omega) ?_) | (refine Ints.ln (by assumption) ?_) | (refine Mat.ln (by assumption) ?_) | (refine Ints.ln (Mat.row (by assumption) _ (by omega)) ?_) | (refine Ints.ix (by assumption) (by omega) ?_) | (refine Mat.ix (by assumption) (by omega) ?_) | (refine Ints.ix (Mat.row (by assumption) _ (by omega)) (by omega) ?_) | (refine Ints.ix (c := 0) (by assumption) (by omega) ?_) | (refine Mat.ix (c := 0) (by assumption) (by omega) ?_) | (refine Ints.ix (c := 0) (Mat.row (by assumption) _ (by omega)) (by omega) ?_) | (refine Ints.ixI (by assumption) (by omega) ?_) | (refine Mat.ixI (by assumption) (by omega) ?_) | (refine Ints.ixI (Mat.row (by assumption) _ (by omega)) (by omega) ?_) | (refine Ints.ld (by assumption) (by omega) ?_) | (refine Mat.ld (by assumption) (by omega) ?_) | (refine Ints.ld (Mat.row (by assumption) _ (by omega)) (by omega) ?_) | (refine At.ld (by assumption) rfl ?_) | (refine At.ldN (by assumption) rfl ?_))
            have hnb2 : ¬ badP rr := by
              rintro (h1 | ⟨i, hi, h1 | ⟨j, hj, h1⟩⟩)
              · omega
              · exact h1 (hok i (by omega)).1
              · have := (hok i (by omega)).2 j hj; omega
            rw [chk_ok hnb hnb2]; exact ⟨rfl, E2⟩

theorem within1_pc {w : World} {b1 b2 : Nat} {lo hi x : Int} (H1 : At w ⟨b1, 0, none⟩ [.int .i64 lo]) (H2 : At w ⟨b2, 0, none⟩ [.int .i64 hi]) :
    PC Try.prog 89 [.int .i64 x, .pointer (some ⟨b1, 0, none⟩), .pointer (some ⟨b2, 0, none⟩)] w (.bool (decide (x < lo) || decide (hi ≤ x))) := by
  refine PC.mk tyOk Try.func89 rfl (by kernel_rfl) fun w1 E1 => ?_
  replace H1 := H1.ext E1
  replace H2 := H2.ext E1
  repeat' ((conv => whnf); first | (refine Dr.quiet tyOk (by kernel_rfl) ?_) | (refine At.ld (i := 0) H1 rfl ?_) | (refine At.ld (i := 0) H2 rfl ?_) | (refine Rng.mk (by omega) ?_) | (refine Split.pos (by omega) ?_) | (refine Split.neg (by omega) ?_) | (refine Split.mk (fun h => ?_) (fun h => ?_)) | (refine Need.mk (by omega) ?_) | (refine Ints.ln (by assumption) ?_) | (refine Mat.ln (by assumption) ?_) | (refine Ints.ln (Mat.row (by assumption) _ (by omega)) ?_) | (refine Ints.ix (by assumption) (by omega) ?_) | (refine Mat.ix (by assumption) (by omega) ?_) | (refine Ints.ix (Mat.row (by assumption) _ (by omega)) (by omega) ?_) | (refine Ints.ix (c := 0) (by assumption) (by omega) ?_) | (refine Mat.ix (c := 0) (by assumption) (by omega) ?_) | (refine Ints.ix (c := 0) (Mat.row (by assumption) _ (by omega)) (by omega) ?_) | (refine Ints.ixI (by assumption) (by omega) ?_) | (refine Mat.ixI (by assumption) (by omega) ?_) | (refine Ints.ixI (Mat.row (by assumption) _ (by omega)) (by omega) ?_) | (refine Ints.ld (by assumption) (by omega) ?_) | (refine Mat.ld (by assumption) (by omega) ?_) | (refine Ints.ld (Mat.row (by assumption) _ (by omega)) (by omega) ?_) | (refine At.ld (by assumption) rfl ?_) | (refine At.ldN (by assumption) rfl ?_))
  · rw [decide_eq_true (by omega)]; exact ⟨rfl, Ext.refl _⟩
  · rw [decide_eq_false (by omega), decide_eq_true (by omega)]; exact ⟨rfl, Ext.refl _⟩
  · rw [decide_eq_false (by omega), decide_eq_false (by omega)]; exact ⟨rfl, Ext.refl _⟩

theorem within_pc {w : World} {sv : Value} {l : List Int} {lo hi : Int} (Hs : Ints w sv l) :
    PC Try.prog 88 [.int .i64 lo, .int .i64 hi, sv] w (.bool (tf (∀ i, i < l.length → lo ≤ l.getD i 0 ∧ l.getD i 0 < hi))) := by
  refine PC.mk tyOk Try.func88 rfl (by kernel_rfl) fun w1 E1 => ?_
  replace Hs := Hs.ext E1
  refine Bx.one rfl fun b1 w2 E2 _ H1 _ => ?_
  replace Hs := Hs.ext E2
  refine Bx.one rfl fun b2 w3 E3 _ H2 _ => ?_
  replace Hs := Hs.ext E3
  replace H1 := H1.ext E3
  have hc := containsfuncI_pc (g := 89) (cap := [.pointer (some ⟨b1, 0, none⟩), .pointer (some ⟨b2, 0, none⟩)]) (p := fun j => decide (l.getD j 0 < lo) || decide (hi ≤ l.getD j 0)) Hs (fun j hj => by rw [Ints.elem (w := w3) (v := sv) hj]; exact within1_pc H1 H2)
  by_cases ho : ∃ j, j < l.length ∧ (decide (l.getD j 0 < lo) || decide (hi ≤ l.getD j 0)) = true
  · rw [tf_t ho] at hc
    repeat' ((conv => whnf); first | (refine Dr.quiet tyOk (by kernel_rfl) ?_) | (refine VC.pure hc ?_) | (refine Rng.mk (by omega) ?_) | (refine Split.pos (by omega) ?_) | (refine Split.neg (by omega) ?_) | (refine Split.mk (fun h => ?_) (fun h => ?_)) | (refine Need.mk (by omega) ?_) | (refine Ints.ln (by assumption) ?_) | (refine Mat.ln (by assumption) ?_) | (refine Ints.ln (Mat.row (by assumption) _ (by omega)) ?_) | (refine Ints.ix (by assumption) (by omega) ?_) | (refine Mat.ix (by assumption) (by omega) ?_) | (refine Ints.ix (Mat.row (by assumption) _ (by omega)) (by omega) ?_) | (refine Ints.ix (c := 0) (by assumption) (by omega) ?_) | (refine Mat.ix (c := 0) (by assumption) (by omega) ?_) | (refine Ints.ix (c := 0) (Mat.row (by assumption) _ (by omega)) (by omega) ?_) | (refine Ints.ixI (by assumption) (by omega) ?_) | (refine Mat.ixI (by assumption) (by omega) ?_) | (refine Ints.ixI (Mat.row (by assumption) _ (by omega)) (by omega) ?_) | (refine Ints.ld (by assumption) (by omega) ?_) | (refine Mat.ld (by assumption) (by omega) ?_) | (refine Ints.ld (Mat.row (by assumption) _ (by omega)) (by omega) ?_) | (refine At.ld (by assumption) rfl ?_) | (refine At.ldN (by assumption) rfl ?_))
    rw [tf_f (p := ∀ i, i < l.length → lo ≤ l.getD i 0 ∧ l.getD i 0 < hi) (fun h => by
      obtain ⟨j, hj, hh⟩ := ho
      have := h j hj
      simp only [Bool.or_eq_true, decide_eq_true_eq] at hh
      omega)]
    exact ⟨rfl, E2.trans E3⟩
  · rw [tf_f ho] at hc
    repeat' ((conv => whnf); first | (refine Dr.quiet tyOk (by kernel_rfl) ?_) | (refine VC.pure hc ?_) | (refine Rng.mk (by omega) ?_) | (refine Split.pos (by omega) ?_) | (refine Split.neg (by omega) ?_) | (refine Split.mk (fun h => ?_) (fun h => ?_)) | (refine Need.mk (by omega) ?_) | (refine Ints.ln (by assumption) ?_) | (refine Mat.ln (by assumption) ?_) | (refine Ints.ln (Mat.row (by assumption) _ (by omega)) ?_) | (refine Ints.ix (by assumption) (by omega) ?_) | (refine Mat.ix (by assumption) (by omega) ?_) | (refine Ints.ix (Mat.row (by assumption) _ (by omega)) (by omega) ?_) | (refine Ints.ix (c := 0) (by assumption) (by omega) ?_) | (refine Mat.ix (c := 0) (by assumption) (by omega) ?_) | (refine Ints.ix (c := 0) (Mat.row (by assumption) _ (by omega)) (by omega) ?_) | (refine Ints.ixI (by assumption) (by omega) ?_) | (refine Mat.ixI (by assumption) (by omega) ?_) | (refine Ints.ixI (Mat.row (by assumption) _ (by omega)) (by omega) ?_) | (refine Ints.ld (by assumption) (by omega) ?_) | (refine Mat.ld (by assumption) (by omega) ?_) | (refine Ints.ld (Mat.row (by assumption) _ (by omega)) (by omega) ?_) | (refine At.ld (by assumption) rfl ?_) | (refine At.ldN (by assumption) rfl ?_))
    rw [tf_t (p := ∀ i, i < l.length → lo ≤ l.getD i 0 ∧ l.getD i 0 < hi) (fun i hi' => by
      have hh : ¬ (decide (l.getD i 0 < lo) || decide (hi ≤ l.getD i 0)) = true := fun hh => ho ⟨i, hi', hh⟩
      simp only [Bool.or_eq_true, decide_eq_true_eq] at hh
      omega)]
    exact ⟨rfl, E2.trans E3⟩

theorem gvalid_pc {w : World} {gv av : Value} {vs : List Value} {rr : List (List Int)} {a : List Int} (Hg : Mat w gv vs rr) (Ha : Ints w av a) :
    PC Try.prog 77 [.agg #[gv], av] w (.int .i64 (vld rr a)) := by
  refine PC.mk tyOk Try.func77 rfl (by kernel_rfl) fun w1 E1 => ?_
  replace Hg := Hg.ext E1
  replace Ha := Ha.ext E1
  have hle := Hg.top.le
  refine Bx.agg fun b w2 E2 _ Hb _ => ?_
  replace Hg := Hg.ext E2
  replace Ha := Ha.ext E2
  have hw := within_pc (lo := -1) (hi := (rr.length : Int)) Ha
  by_cases hck : chk rr = 0
  · have hgd := gd_of_chk hck
    have hn1 := hgd.n1
    by_cases hin : ∀ i, i < a.length → -1 ≤ a.getD i 0 ∧ a.getD i 0 < rr.length
    · rw [tf_t hin] at hw
      repeat' ((conv => whnf); first | (refine Dr.quiet tyOk (by kernel_rfl) ?_) | (refine VC.pure (gcheck_pc Hg) ?_) | (refine VC.pure hw ?_) | (refine Rng.mk (by omega) ?_) | (refine Split.pos (by omega) ?_) | (refine Split.neg (by omega) ?_) | (refine Split.mk (fun h => ?_) (fun h => ?_)) | (refine Need.mk (by omega) ?_) | (refine Ints.ln (by assumption) ?_) | (refine Mat.ln (by assumption) ?_) | (refine Ints.ln (Mat.row (by assumption) _ (by omega)) ?_) | (refine Ints.ix (by assumption) (by omega) ?_) | (refine Mat.ix (by assumption) (by omega) ?_) | (refine Ints.ix (Mat.row (by assumption) _ (by omega)) (by omega) ?_) | (refine Ints.ix (c := 0) (by assumption) (by omega) ?_) | (refine Mat.ix (c := 0) (by assumption) (by omega) ?_) | (refine Ints.ix (c := 0) (Mat.row (by assumption) _ (by omega)) (by omega) ?_) | (refine Ints.ixI (by assumption) (by omega) ?_) | (refine Mat.ixI (by assumption) (by omega) ?_) | (refine Ints.ixI (Mat.row (by assumption) _ (by omega)) (by omega) ?_) | (refine Ints.ld (by assumption) (by omega) ?_) | (refine Mat.ld (by assumption) (by omega) ?_) | (refine Ints.ld (Mat.row (by assumption) _ (by omega)) (by omega) ?_) | (refine At.ld (by assumption) rfl ?_) | (refine At.ldN (by assumption) rfl ?_))
      · have hnb : ¬ badA rr a := by
          rintro (h1 | ⟨k, hk, h1⟩)
          · omega
          · have := hin k hk; omega
        rw [vld_ok hck hnb]; exact ⟨rfl, E2⟩
      · rw [vld_bad hck (.inl (by omega))]; exact ⟨rfl, E2⟩
    · rw [tf_f hin] at hw
      repeat' ((conv => whnf); first | (refine Dr.quiet tyOk (by kernel_rfl) ?_) | (refine VC.pure (gcheck_pc Hg) ?_) | (refine VC.pure hw ?_) | (refine Rng.mk (by omega) ?_) | (refine Split.pos (by omega) ?_) | (refine Split.neg (by omega) ?_) | (refine Split.mk (fun h => ?_) (fun h => ?_)) | (refine Need.mk (by omega) ?_) | (refine Ints.ln (by assumption) ?_) | (refine Mat.ln (by assumption) ?_) | (refine Ints.ln (Mat.row (by assumption) _ (by omega)) ?_) | (refine Ints.ix (by assumption) (by omega) ?_) | (refine Mat.ix (by assumption) (by omega) ?_) | (refine Ints.ix (Mat.row (by assumption) _ (by omega)) (by omega) ?_) | (refine Ints.ix (c := 0) (by assumption) (by omega) ?_) | (refine Mat.ix (c := 0) (by assumption) (by omega) ?_) | (refine Ints.ix (c := 0) (Mat.row (by assumption) _ (by omega)) (by omega) ?_) | (refine Ints.ixI (by assumption) (by omega) ?_) | (refine Mat.ixI (by assumption) (by omega) ?_) | (refine Ints.ixI (Mat.row (by assumption) _ (by omega)) (by omega) ?_) | (refine Ints.ld (by assumption) (by omega) ?_) | (refine Mat.ld (by assumption) (by omega) ?_) | (refine Ints.ld (Mat.row (by assumption) _ (by omega)) (by omega) ?_) | (refine At.ld (by assumption) rfl ?_) | (refine At.ldN (by assumption) rfl ?_))
      · have hbd : badA rr a := Classical.byContradiction fun h => hin fun i hi => ⟨Classical.byContradiction fun h1 => h (.inr ⟨i, hi, .inl (by omega)⟩), Classical.byContradiction fun h1 => h (.inr ⟨i, hi, .inr (by omega)⟩)⟩
        rw [vld_bad hck hbd]; exact ⟨rfl, E2⟩
      · rw [vld_bad hck (.inl (by omega))]; exact ⟨rfl, E2⟩
  · repeat' ((conv => whnf); first | (refine Dr.quiet tyOk (by kernel_rfl) ?_) | (refine VC.pure (gcheck_pc Hg) ?_) | (refine Rng.mk (by omega) ?_) | (refine Split.pos (by omega) ?_) | (refine Split.neg (by omega) ?_) | (refine Split.mk (fun h => ?_) (fun h => ?_)) | (refine Need.mk (by omega) ?_) | (refine Ints.ln (by assumption) ?_) | (refine Mat.ln (by assumption) ?_) | (refine Ints.ln (Mat.row (by assumption) _ (by omega)) ?_) | (refine Ints.ix (by assumption) (by omega) ?_) | (refine Mat.ix (by assumption) (by omega) ?_) | (refine Ints.ix (Mat.row (by assumption) _ (by omega)) (by omega) ?_) | (refine Ints.ix (c := 0) (by assumption) (by omega) ?_) | (refine Mat.ix (c := 0) (by assumption) (by omega) ?_) | (refine Ints.ix (c := 0) (Mat.row (by assumption) _ (by omega)) (by omega) ?_) | (refine Ints.ixI (by assumption) (by omega) ?_) | (refine Mat.ixI (by assumption) (by omega) ?_) | (refine Ints.ixI (Mat.row (by assumption) _ (by omega)) (by omega) ?_) | (refine Ints.ld (by assumption) (by omega) ?_) | (refine Mat.ld (by assumption) (by omega) ?_) | (refine Ints.ld (Mat.row (by assumption) _ (by omega)) (by omega) ?_) | (refine At.ld (by assumption) rfl ?_) | (refine At.ldN (by assumption) rfl ?_))
    rw [vld_chk hck]; exact ⟨rfl, E2⟩
end Go.Proofs.Ytkgogljfngplnaa
set_option linter.unusedVariables false
set_option linter.unusedSimpArgs false
namespace Go.Proofs.Ytkgogljfngplnaa
open Go.Eng
set_option maxRecDepth 100000

/-- the row of values when c goods are counted -/
def rowTo (a r : List Int) (n c : Nat) : List Int := (List.range n).map fun (k : Nat) => worth a r k c
theorem rowTo_len (a r : List Int) (n c : Nat) : (rowTo a r n c).length = n := by simp [rowTo]
theorem rowTo_get {a r : List Int} {n c k : Nat} (h : k < n) : (rowTo a r n c).getD k 0 = worth a r k c := by simp [rowTo, List.getD, h]
theorem rowTo_set {a r : List Int} {n c : Nat} {k : Int} (hk : a.getD c 0 = k) (h0 : 0 ≤ k) (h : k < n) : (rowTo a r n c).set k.toNat ((rowTo a r n c).getD k.toNat 0 + r.getD c 0) = rowTo a r n (c + 1) := by
  apply ext_getD 0
  · simp [rowTo]
  · intro i hi
    have hi' : i < n := by simpa [rowTo] using hi
    rw [rowTo_get hi', rowTo_get (by omega : k.toNat < n)]
    by_cases e : i = k.toNat
    · subst e
      have e2 : ((k.toNat : Nat) : Int) = k := by omega
      rw [List.getD, List.getElem?_set_self (by rw [rowTo_len]; exact hi')]
      simp only [Option.getD_some, worth, e2, if_pos hk]
    · rw [List.getD, List.getElem?_set_ne (fun h => e h.symm)]
      have : (rowTo a r n c)[i]?.getD 0 = worth a r i c := by have := rowTo_get (a := a) (r := r) (c := c) hi'; simpa [List.getD] using this
      rw [this]
      simp only [worth]
      rw [if_neg (by omega)]; omega
theorem rowTo_skip {a r : List Int} {n c : Nat} (h : a.getD c 0 < 0) : rowTo a r n (c + 1) = rowTo a r n c := by
  apply ext_getD 0
  · simp [rowTo]
  · intro i hi
    have hi' : i < n := by simpa [rowTo] using hi
    rw [rowTo_get hi', rowTo_get hi']
    simp only [worth]
    rw [if_neg (by omega)]; omega
theorem rowTo_zero (a r : List Int) (n : Nat) : (rowTo a r n 0).map i64v = List.replicate n (.int .i64 0) := by
  rw [List.eq_replicate_iff]; simp [rowTo, worth, i64v]

theorem set_map (l : List Int) (k : Nat) (x : Int) : (l.map i64v).set k (.int .i64 x) = (l.set k x).map i64v := by rw [List.map_set]; rfl

theorem gvalues_rc {w : World} {gv av : Value} {vs : List Value} {rr : List (List Int)} {a : List Int} (Hg : Mat w gv vs rr) (Ha : Ints w av a) :
    RC Try.prog 58 [.agg #[gv], av] w NoB (fun u w' => ∃ v us, u = .tuple #[v, .int .i64 (vld rr a)] ∧ OM w.heap.size w' v us (valsR rr a)) := by
  refine RC.mk tyOk Try.func58 rfl (by kernel_rfl) fun w1 E1 => ?_
  replace Hg := Hg.ext E1
  replace Ha := Ha.ext E1
  refine Bx.agg fun b w2 E2 _ Hb _ => ?_
  replace Hg := Hg.ext E2
  replace Ha := Ha.ext E2
  by_cases hv : vld rr a = 0
  · have hal := al_of_vld hv
    have hn := hal.n6
    have hm := hal.m10
    have hlen := hal.len
    repeat' ((conv => whnf); first | (refine Dr.quiet tyOk (by kernel_rfl) ?_) | (refine VC.pure (gvalid_pc Hg Ha) ?_) | (refine Rng.mk (by omega) ?_) | (refine Split.pos (by omega) ?_) | (refine Split.neg (by omega) ?_) | (refine Split.mk (fun h => ?_) (fun h => ?_)) | (refine Need.mk (by omega) ?_) | (refine Ints.ln (by assumption) ?_) | (refine Mat.ln (by assumption) ?_) | (refine Ints.ln (Mat.row (by assumption) _ (by omega)) ?_) | (refine Ints.ix (by assumption) (by omega) ?_) | (refine Mat.ix (by assumption) (by omega) ?_) | (refine Ints.ix (Mat.row (by assumption) _ (by omega)) (by omega) ?_) | (refine Ints.ix (c := 0) (by assumption) (by omega) ?_) | (refine Mat.ix (c := 0) (by assumption) (by omega) ?_) | (refine Ints.ix (c := 0) (Mat.row (by assumption) _ (by omega)) (by omega) ?_) | (refine Ints.ixI (by assumption) (by omega) ?_) | (refine Mat.ixI (by assumption) (by omega) ?_) | (refine Ints.ixI (Mat.row (by assumption) _ (by omega)) (by omega) ?_) | (refine Ints.ld (by assumption) (by omega) ?_) | (refine Mat.ld (by assumption) (by omega) ?_) | (refine Ints.ld (Mat.row (by assumption) _ (by omega)) (by omega) ?_) | (refine At.ld (by assumption) rfl ?_) | (refine At.ldN (by assumption) rfl ?_))
    refine Lp.mk tyOk [false, false, false, false, false, false, false, true, false, true, true, true, true, false, false, false, false, false, false, false, false, false, true, true, true, true, true, true, true, true, true, true, true, true, true, true, true, true, true, true, true, true, true, true, true, true, true, true, true, true, true, true, true, true, true] (fun m fr wr => getK fr 7 fun v => getK fr 22 fun j => ∃ (c : Nat) (us : List Value), c ≤ rr.length ∧ m = rr.length - c ∧ j = .int .i64 (c : Int) ∧ Ext w2 wr ∧ OM w2.heap.size wr v us ((List.range c).map fun i => (List.range rr.length).map fun (k : Nat) => wth rr a i k)) rr.length ?_ ?_
    · exact ⟨0, [], Nat.zero_le _, rfl, rfl, Ext.refl _, OM.nil⟩
    · intro m w3 u7 u9 u10 u11 u12 u22 u23 u24 u25 u26 u27 u28 u29 u30 u31 u32 u33 u34 u35 u36 u37 u38 u39 u40 u41 u42 u43 u44 u45 u46 u47 u48 u49 u50 u51 u52 u53 u54 hR
      obtain ⟨c, us, hc, rfl, rfl, EE, Ho⟩ := hR
      replace Hg := Hg.ext EE
      replace Ha := Ha.ext EE
      replace Hb := Hb.ext EE
      repeat' ((conv => whnf); first | (refine Dr.quiet tyOk (by kernel_rfl) ?_) | (refine Rng.mk (by omega) ?_) | (refine Split.pos (by omega) ?_) | (refine Split.neg (by omega) ?_) | (refine Split.mk (fun h => ?_) (fun h => ?_)) | (refine Need.mk (by omega) ?_) | (refine Ints.ln (by assumption) ?_) | (refine Mat.ln (by assumption) ?_) | (refine Ints.ln (Mat.row (by assumption) _ (by omega)) ?_) | (refine Ints.ix (by assumption) (by omega) ?_) | (refine Mat.ix (by assumption) (by omega) ?_) | (refine Ints.ix (Mat.row (by assumption) _ (by omega)) (by omega) ?_) | (refine Ints.ix (c := 0) (by assumption) (by omega) ?_) | (refine Mat.ix (c := 0) (by assumption) (by omega) ?_) | (refine Ints.ix (c := 0) (Mat.row (by assumption) _ (by omega)) (by omega) ?_) | (refine Ints.ixI (by assumption) (by omega) ?_) | (refine Mat.ixI (by assumption) (by omega) ?_) | (refine Ints.ixI (Mat.row (by assumption) _ (by omega)) (by omega) ?_) | (refine Ints.ld (by assumption) (by omega) ?_) | (refine Mat.ld (by assumption) (by omega) ?_) | (refine Ints.ld (Mat.row (by assumption) _ (by omega)) (by omega) ?_) | (refine At.ld (by assumption) rfl ?_) | (refine At.ldN (by assumption) rfl ?_))
      · have hrc := hal.row c (by omega)
        refine VE.made Try.underlying27 eInt rfl (by omega) (by omega) fun rv w4 E4 Hmk _ => ?_
        have Hr0 := Hmk _ (Nat.le_refl _)
        rw [← rowTo_zero a (rr.getD c [])] at Hr0
        have Hg3 := Hg
        have Ha3 := Ha
        have Hb3 := Hb
        have Ho3 := Ho
        repeat' ((conv => whnf); first | (refine Dr.quiet tyOk (by kernel_rfl) ?_) | (refine Rng.mk (by omega) ?_) | (refine Split.pos (by omega) ?_) | (refine Split.neg (by omega) ?_) | (refine Split.mk (fun h => ?_) (fun h => ?_)) | (refine Need.mk (by omega) ?_) | (refine Ints.ln (by assumption) ?_) | (refine Mat.ln (by assumption) ?_) | (refine Ints.ln (Mat.row (by assumption) _ (by omega)) ?_) | (refine Ints.ix (by assumption) (by omega) ?_) | (refine Mat.ix (by assumption) (by omega) ?_) | (refine Ints.ix (Mat.row (by assumption) _ (by omega)) (by omega) ?_) | (refine Ints.ix (c := 0) (by assumption) (by omega) ?_) | (refine Mat.ix (c := 0) (by assumption) (by omega) ?_) | (refine Ints.ix (c := 0) (Mat.row (by assumption) _ (by omega)) (by omega) ?_) | (refine Ints.ixI (by assumption) (by omega) ?_) | (refine Mat.ixI (by assumption) (by omega) ?_) | (refine Ints.ixI (Mat.row (by assumption) _ (by omega)) (by omega) ?_) | (refine Ints.ld (by assumption) (by omega) ?_) | (refine Mat.ld (by assumption) (by omega) ?_) | (refine Ints.ld (Mat.row (by assumption) _ (by omega)) (by omega) ?_) | (refine At.ld (by assumption) rfl ?_) | (refine At.ldN (by assumption) rfl ?_))
        refine Lp.mk tyOk [false, false, false, false, false, false, false, false, false, false, false, true, true, false, false, false, false, false, false, false, false, false, false, false, false, false, false, false, false, false, false, false, true, true, true, true, true, true, true, true, true, true, true, true, true, true, true, true, true, true] (fun m fr wr => getK fr 32 fun j => ∃ c2 : Nat, c2 ≤ a.length ∧ m = a.length - c2 ∧ j = .int .i64 (c2 : Int) ∧ Ext w3 wr ∧ Go.Eng.Own w3.heap.size 3 1 wr rv rr.length ((rowTo a (rr.getD c []) rr.length c2).map i64v)) a.length ?_ ?_
        · exact ⟨0, Nat.zero_le _, rfl, rfl, E4, Hr0⟩
        · intro m w4 u11 u12 u32 u33 u34 u35 u36 u37 u38 u39 u40 u41 u42 u43 u44 u45 u46 u47 u48 u49 hR
          obtain ⟨c2, hc2, rfl, rfl, E5, Hr⟩ := hR
          have hchk := hal.rng c2
          have hrc := hal.row c (by omega)
          have hval := hal.val c c2
          have hrl := rowTo_len a (rr.getD c []) rr.length c2
          replace Hg := Hg3.ext E5
          replace Ha := Ha3.ext E5
          replace Hb := Hb3.ext E5
          replace Ho := Ho3.ext E5
          have HrI : Ints w4 rv (rowTo a (rr.getD c []) rr.length c2) := by
            have := Own.sl Hr
            unfold Ints; rw [rowTo_len]; exact this
          have hbv : c2 < a.length → 0 ≤ a.getD c2 0 → 0 ≤ (rowTo a (rr.getD c []) rr.length c2).getD (a.getD c2 0).toNat 0 ∧ (rowTo a (rr.getD c []) rr.length c2).getD (a.getD c2 0).toNat 0 ≤ 10000 := by
            intro h1 h2
            rw [rowTo_get (by omega)]
            have := worth_bd (a := a) (k := ((a.getD c2 0).toNat : Int)) (fun j => hal.val c j) c2
            omega
          have hvd : (rr.getD c []).getD c2 0 = val rr c c2 := rfl
          repeat' ((conv => whnf); first | (refine Dr.tail 10 tyOk (by kernel_rfl) ?_) | (refine Rng.mk (by omega) ?_) | (refine Split.pos (by omega) ?_) | (refine Split.neg (by omega) ?_) | (refine Split.mk (fun h => ?_) (fun h => ?_)) | (refine Need.mk (by omega) ?_) | (refine Ints.ln (by assumption) ?_) | (refine Mat.ln (by assumption) ?_) | (refine Ints.ln (Mat.row (by assumption) _ (by omega)) ?_) | (refine Ints.ix (by assumption) (by omega) ?_) | (refine Mat.ix (by assumption) (by omega) ?_) | (refine Ints.ix (Mat.row (by assumption) _ (by omega)) (by omega) ?_) | (refine Ints.ix (c := 0) (by assumption) (by omega) ?_) | (refine Mat.ix (c := 0) (by assumption) (by omega) ?_) | (refine Ints.ix (c := 0) (Mat.row (by assumption) _ (by omega)) (by omega) ?_) | (refine Ints.ixI (by assumption) (by omega) ?_) | (refine Mat.ixI (by assumption) (by omega) ?_) | (refine Ints.ixI (Mat.row (by assumption) _ (by omega)) (by omega) ?_) | (refine Ints.ld (by assumption) (by omega) ?_) | (refine Mat.ld (by assumption) (by omega) ?_) | (refine Ints.ld (Mat.row (by assumption) _ (by omega)) (by omega) ?_) | (refine At.ld (by assumption) rfl ?_) | (refine At.ldN (by assumption) rfl ?_))
          · refine Own.set Hr (by rw [List.length_map, hrl]; omega) rfl fun w5 G5 H5 => ?_
            repeat' ((conv => whnf); first | (refine Dr.quiet tyOk (by kernel_rfl) ?_) | (refine Rng.mk (by omega) ?_) | (refine Split.pos (by omega) ?_) | (refine Split.neg (by omega) ?_) | (refine Split.mk (fun h => ?_) (fun h => ?_)) | (refine Need.mk (by omega) ?_) | (refine Ints.ln (by assumption) ?_) | (refine Mat.ln (by assumption) ?_) | (refine Ints.ln (Mat.row (by assumption) _ (by omega)) ?_) | (refine Ints.ix (by assumption) (by omega) ?_) | (refine Mat.ix (by assumption) (by omega) ?_) | (refine Ints.ix (Mat.row (by assumption) _ (by omega)) (by omega) ?_) | (refine Ints.ix (c := 0) (by assumption) (by omega) ?_) | (refine Mat.ix (c := 0) (by assumption) (by omega) ?_) | (refine Ints.ix (c := 0) (Mat.row (by assumption) _ (by omega)) (by omega) ?_) | (refine Ints.ixI (by assumption) (by omega) ?_) | (refine Mat.ixI (by assumption) (by omega) ?_) | (refine Ints.ixI (Mat.row (by assumption) _ (by omega)) (by omega) ?_) | (refine Ints.ld (by assumption) (by omega) ?_) | (refine Mat.ld (by assumption) (by omega) ?_) | (refine Ints.ld (Mat.row (by assumption) _ (by omega)) (by omega) ?_) | (refine At.ld (by assumption) rfl ?_) | (refine At.ldN (by assumption) rfl ?_))
            refine ⟨_, (by omega : a.length - (c2 + 1) < a.length - c2), rfl, c2 + 1, by omega, rfl, rfl, ?_, ?_⟩
            · exact Own.keep Hr E5 (Nat.le_refl _) G5
            · rw [set_map, rowTo_set rfl (by omega) (by omega)] at H5
              exact H5
          · refine ⟨_, (by omega : a.length - (c2 + 1) < a.length - c2), rfl, c2 + 1, by omega, rfl, rfl, E5, ?_⟩
            rw [rowTo_skip (by omega)]
            exact Hr
          · obtain rfl : c2 = a.length := by omega
            have Hr0 : OI w4 rv ((List.range rr.length).map fun (k : Nat) => wth rr a c k) := OI.of Hr
            refine VE.lit1 Try.underlying22 eRow ((Sl.cells (Own.sl Hr0)).1) fun lv w5 E6 Hl => ?_
            replace Ho := Ho.ext E6
            replace Hr0 := Hr0.ext E6
            conv => whnf
            refine VE.app Try.underlying22 eRow rfl (by omega) Ho.top (EE.trans (E5.trans E6)) rfl Hl (by intro u hu; simp only [List.mem_singleton] at hu; subst hu; exact (Sl.cells (Own.sl Hr0)).2) (by first | omega | (simp only [List.length_map, List.length_range]; omega)) (by first | omega | (simp only [List.length_map, List.length_range]; omega)) fun v6 w6 E7 G7 H7 => ?_
            repeat' ((conv => whnf); first | (refine Dr.quiet tyOk (by kernel_rfl) ?_) | (refine Rng.mk (by omega) ?_) | (refine Split.pos (by omega) ?_) | (refine Split.neg (by omega) ?_) | (refine Split.mk (fun h => ?_) (fun h => ?_)) | (refine Need.mk (by omega) ?_) | (refine Ints.ln (by assumption) ?_) | (refine Mat.ln (by assumption) ?_) | (refine Ints.ln (Mat.row (by assumption) _ (by omega)) ?_) | (refine Ints.ix (by assumption) (by omega) ?_) | (refine Mat.ix (by assumption) (by omega) ?_) | (refine Ints.ix (Mat.row (by assumption) _ (by omega)) (by omega) ?_) | (refine Ints.ix (c := 0) (by assumption) (by omega) ?_) | (refine Mat.ix (c := 0) (by assumption) (by omega) ?_) | (refine Ints.ix (c := 0) (Mat.row (by assumption) _ (by omega)) (by omega) ?_) | (refine Ints.ixI (by assumption) (by omega) ?_) | (refine Mat.ixI (by assumption) (by omega) ?_) | (refine Ints.ixI (Mat.row (by assumption) _ (by omega)) (by omega) ?_) | (refine Ints.ld (by assumption) (by omega) ?_) | (refine Mat.ld (by assumption) (by omega) ?_) | (refine Ints.ld (Mat.row (by assumption) _ (by omega)) (by omega) ?_) | (refine At.ld (by assumption) rfl ?_) | (refine At.ldN (by assumption) rfl ?_))
            refine ⟨_, (by omega : rr.length - (c + 1) < rr.length - c), rfl, c + 1, us ++ [rv], by omega, rfl, rfl, E7, ?_⟩
            rw [map_range_succ]
            exact Ho.push Hr0 G7 H7
      · obtain rfl : c = rr.length := by omega
        refine ⟨E2.trans EE, _, us, by rw [hv], ?_⟩
        rw [valsR, if_pos hv]
        exact Ho.base (Nat.le_trans E1.size E2.size)
  · repeat' ((conv => whnf); first | (refine Dr.quiet tyOk (by kernel_rfl) ?_) | (refine VC.pure (gvalid_pc Hg Ha) ?_) | (refine Rng.mk (by omega) ?_) | (refine Split.pos (by omega) ?_) | (refine Split.neg (by omega) ?_) | (refine Split.mk (fun h => ?_) (fun h => ?_)) | (refine Need.mk (by omega) ?_) | (refine Ints.ln (by assumption) ?_) | (refine Mat.ln (by assumption) ?_) | (refine Ints.ln (Mat.row (by assumption) _ (by omega)) ?_) | (refine Ints.ix (by assumption) (by omega) ?_) | (refine Mat.ix (by assumption) (by omega) ?_) | (refine Ints.ix (Mat.row (by assumption) _ (by omega)) (by omega) ?_) | (refine Ints.ix (c := 0) (by assumption) (by omega) ?_) | (refine Mat.ix (c := 0) (by assumption) (by omega) ?_) | (refine Ints.ix (c := 0) (Mat.row (by assumption) _ (by omega)) (by omega) ?_) | (refine Ints.ixI (by assumption) (by omega) ?_) | (refine Mat.ixI (by assumption) (by omega) ?_) | (refine Ints.ixI (Mat.row (by assumption) _ (by omega)) (by omega) ?_) | (refine Ints.ld (by assumption) (by omega) ?_) | (refine Mat.ld (by assumption) (by omega) ?_) | (refine Ints.ld (Mat.row (by assumption) _ (by omega)) (by omega) ?_) | (refine At.ld (by assumption) rfl ?_) | (refine At.ldN (by assumption) rfl ?_))
    refine ⟨E2, _, [], rfl, ?_⟩
    rw [valsR, if_neg hv]
    exact OM.nil

theorem vals_len (rr : List (List Int)) (a : List Int) : (vals rr a).length = rr.length := by simp [vals]
theorem vals_row {rr : List (List Int)} {a : List Int} {i : Nat} (h : i < rr.length) : (vals rr a).getD i [] = (List.range rr.length).map fun (k : Nat) => wth rr a i k := by simp [vals, List.getD, h]
theorem vals_rlen {rr : List (List Int)} {a : List Int} {i : Nat} (h : i < rr.length) : ((vals rr a).getD i []).length = rr.length := by rw [vals_row h]; simp
theorem vals_get {rr : List (List Int)} {a : List Int} {i k : Nat} (h : i < rr.length) (hk : k < rr.length) : ((vals rr a).getD i []).getD k 0 = wth rr a i k := by rw [vals_row h]; simp [List.getD, hk]

end Go.Proofs.Ytkgogljfngplnaa
set_option linter.unusedVariables false
set_option linter.unusedSimpArgs false
namespace Go.Proofs.Ytkgogljfngplnaa
open Go.Eng
set_option maxRecDepth 100000

theorem eGoods : Elem Try.prog 24 (.agg #[.slice none 0 0]) 1 24 := by unfold Elem; kernel_rfl

theorem own : ownKnob Try.prog.godebug = none := by kernel_rfl
theorem laidOut : laidOutB Try.prog = true := by kernel_rfl
end Go.Proofs.Ytkgogljfngplnaa
set_option linter.unusedVariables false
set_option linter.unusedSimpArgs false
namespace Go.Proofs.Ytkgogljfngplnaa
open Go.Eng
set_option maxRecDepth 100000

def gvn : List (List Int) := [[5, 3, 1], [2, 2, 2]]

theorem gvn_chk : chk gvn = 0 := by
  refine chk_ok ?_ ?_
  · rintro (h | ⟨i, hi, h⟩)
    · exact absurd h (by decide)
    · match i, hi with
      | 0, _ => exact absurd h (by decide)
      | 1, _ => exact absurd h (by decide)
  · rintro (h | ⟨i, hi, h | ⟨j, hj, h⟩⟩)
    · exact absurd h (by decide)
    · match i, hi with
      | 0, _ => exact absurd h (by decide)
      | 1, _ => exact absurd h (by decide)
    · match i, hi, j, hj with
      | 0, _, 0, _ => exact absurd h (by decide)
      | 0, _, 1, _ => exact absurd h (by decide)
      | 0, _, 2, _ => exact absurd h (by decide)
      | 1, _, 0, _ => exact absurd h (by decide)
      | 1, _, 1, _ => exact absurd h (by decide)
      | 1, _, 2, _ => exact absurd h (by decide)
theorem gvn_vld {x y z : Int} (hx : -1 ≤ x ∧ x < 2) (hy : -1 ≤ y ∧ y < 2) (hz : -1 ≤ z ∧ z < 2) : vld gvn [x, y, z] = 0 := by
  refine vld_ok gvn_chk ?_
  rintro (h | ⟨k, hk, h⟩)
  · exact absurd rfl h
  · match k, hk with
    | 0, _ => simp [gvn] at h; omega
    | 1, _ => simp [gvn] at h; omega
    | 2, _ => simp [gvn] at h; omega

end Go.Proofs.Ytkgogljfngplnaa
set_option linter.unusedVariables false
set_option linter.unusedSimpArgs false
namespace Go.Eng
theorem Gr.ext {a b c : World} (h : Ext a b) (k : Ext b c) : Ext a c := Gr.trans h k
end Go.Eng
namespace Go.Proofs.Ytkgogljfngplnaa
open Go.Eng
/-- A list of records that the call has made. -/
abbrev OT (B : Nat) (w : World) (v : Value) (l : List T3) : Prop := Own B 102 3 w v l.length (flat3 l)
theorem OT.of {B n : Nat} {w : World} {v : Value} {l : List T3} (h : Own B 102 3 w v n (flat3 l)) : OT B w v l := by
  have e := Own.len h
  rw [flat3_len] at e
  have : n = l.length := by omega
  subst this; exact h
abbrev OE (B : Nat) (w : World) (v : Value) (l : List T3) : Prop := Own B 99 3 w v l.length (flat3 l)
theorem OE.of {B n : Nat} {w : World} {v : Value} {l : List T3} (h : Own B 99 3 w v n (flat3 l)) : OE B w v l := by
  have e := Own.len h
  rw [flat3_len] at e
  have : n = l.length := by omega
  subst this; exact h
end Go.Proofs.Ytkgogljfngplnaa
set_option linter.unusedVariables false
set_option linter.unusedSimpArgs false
namespace Go.Proofs.Ytkgogljfngplnaa
open Go.Eng
set_option maxRecDepth 100000
set_option maxHeartbeats 4000000

def hM (rr : List (List Int)) (a : List Int) (b : Bool) (i k : Nat) : List T3 := if wth rr a i i < wth rr a i k then markOf rr a b (i, k, moreV rr a i k) else []
def hX (rr : List (List Int)) (a : List Int) (i k : Nat) : List (Int × Int) := if wth rr a i i < wth rr a i k then missOf rr a (i, k, moreV rr a i k) else []
end Go.Proofs.Ytkgogljfngplnaa
set_option linter.unusedVariables false
set_option linter.unusedSimpArgs false
namespace Go.Proofs.Ytkgogljfngplnaa
open Go.Eng
set_option maxRecDepth 100000

/-- A bundle of some worth has a good. -/
theorem worth_pos {a r : List Int} {k : Int} : ∀ {c : Nat}, 0 < worth a r k c → ∃ j, j < c ∧ a.getD j 0 = k
  | 0, h => by simp [worth] at h
  | c + 1, h => by
    simp only [worth] at h
    by_cases e : a.getD c 0 = k
    · exact ⟨c, by omega, e⟩
    · rw [if_neg e] at h
      obtain ⟨j, hj, e2⟩ := worth_pos (a := a) (r := r) (k := k) (c := c) (by omega)
      exact ⟨j, by omega, e2⟩
end Go.Proofs.Ytkgogljfngplnaa
set_option linter.unusedVariables false
set_option linter.unusedSimpArgs false
namespace Go.Proofs.Ytkgogljfngplnaa
open Go.Eng
set_option maxRecDepth 100000

def gain (rr : List (List Int)) (l : List Int) (i : Nat) : Int := wth rr l i i
def prd (rr : List (List Int)) (l : List Int) : T3 := pr (gain rr l) rr.length
def mOf (rr : List (List Int)) : Nat := (rr.getD 0 []).length
def tot (rr : List (List Int)) : Nat := rr.length ^ mOf rr
/-- two entries apart -/
def off (f : Nat → Int) (i k : Nat) (j : Nat) : Int := if j = i ∨ j = k then 0 else f j
def ix (x : Int) : Int := if 0 < x then 1 else 0
end Go.Proofs.Ytkgogljfngplnaa
set_option linter.unusedVariables false
set_option linter.unusedSimpArgs false
namespace Go.Eng
open Go.RowKit

theorem fill_one (n : Nat) : ∀ (ps : List (Nat × Value)) (zc : Array Value), (∀ p ∈ ps, p.1 < n ∧ p.2.cells = #[p.2]) → zc.size = n →
    Instr.fill ((((List.range n).map fun i => (i, 1)).toArray)[·]?) zc ps = some (ps.foldl (fun c p => c.setIfInBounds p.1 p.2) zc)
  | [], zc, _, _ => rfl
  | (i, v) :: ps, zc, h, hz => by
    obtain ⟨h1, h2⟩ := h (i, v) (by simp)
    have h1 : i < n := h1
    have h2 : v.cells = #[v] := h2
    have e2 : (((List.range n).map fun i => (i, 1)).toArray)[i]? = some (i, 1) := by simp [h1]
    have e3 : ¬ (decide (#[v].size ≠ 1) || decide (i + #[v].size > zc.size)) = true := by simp; omega
    have e4 : Array.foldl (fun (cs : Array Value) (x : Value × Nat) => cs.setIfInBounds (i + x.snd) x.fst) zc #[v].zipIdx = zc.setIfInBounds i v := by simp [Array.zipIdx]
    simp only [Instr.fill, e2, h2, List.foldl_cons]
    rw [if_neg e3, e4]
    exact fill_one n ps _ (fun p hp => h p (by simp [hp])) (by simpa using hz)

/-- 'T{F: x, ..}': the other fields are zero. -/
theorem VS.sparse {P : Program} {w : World} {t : TypeId} {zc : Array Value} {N b : Nat} {l : List Field} {ps : List (Nat × Value)} {K : Value → Prop} (ht : P.underlying t = some (.struct l.toArray)) (hz : Elem P t (.agg zc) N b)
    (hg : ∀ f ∈ l, P.cellsOf f.type = 1) (ho : l.map (·.offset) = List.range l.length) (hv : ∀ p ∈ ps, p.1 < l.length ∧ p.2.cells = #[p.2]) (hs : zc.size = l.length)
    (hk : K (.agg (ps.foldl (fun c p => c.setIfInBounds p.1 p.2) zc))) : VS P (Instr.build t ps.toArray) w K := by
  refine VS.mk (v := .agg (ps.foldl (fun c p => c.setIfInBounds p.1 p.2) zc)) (fun w1 _ => ?_) hk
  obtain ⟨i, hi, hz1, _, _⟩ := hz.info
  have hfill := fill_one l.length ps zc hv hs
  simp only [Instr.build, Sem.run_bind, zeroValue, typeInfo, run_program, Result.andThen_ok, hi, hz1, Sem.run_pure, run_underlying ht, fields_run hg ho, Value.cells, hfill]
end Go.Eng
set_option linter.unusedVariables false
set_option linter.unusedSimpArgs false
namespace Go.Eng
open Go.RowKit

section
variable {P : Program} {w w' : World} {b : Nat} {T : TypeId} {xs : List Value}

theorem Blk.row {B n s : Nat} {e : TypeId} {v : Value} {ys : List Value} (h : Blk w b T xs) (ho : Own B e s w v n ys) (he : e ≠ T) (hg : Gr (fun k => v.ownBlock = some k) w w') : Blk w' b T xs :=
  h.gr hg fun hb => by
    have hb : v.ownBlock = some b := hb
    rcases ho.2 with ⟨rfl, _⟩ | ⟨g, cap, cur, rfl, _, hgg, _⟩
    · simp [Value.ownBlock] at hb
    · simp [Value.ownBlock] at hb
      subst hb
      unfold Blk at h
      rw [h] at hgg
      simp at hgg
      exact he hgg.2.symm
theorem Blk.two {b' : Nat} {T' : TypeId} {ys : List Value} (h : Blk w b T xs) (_h' : Blk w b' T' ys) (he : b ≠ b') (hg : Gr (fun k => k = b') w w') : Blk w' b T xs := h.gr hg he
theorem Own.row {B n s B' n' s' : Nat} {e e' : TypeId} {v v' : Value} {ys ys' : List Value} (h : Own B e s w v n ys) (h' : Own B' e' s' w v' n' ys') (he : e ≠ e') (hg : Gr (fun k => v'.ownBlock = some k) w w') : Own B e s w' v n ys :=
  Own.gr h hg fun k hk hS => Own.ne h h' he k hk hS

theorem Blk.ldA {k : Nat} {x : Value} {K : Value → Prop} (h : Blk w b T xs) (hx : xs[k]? = some x) (hk : K x) : Ld w ((⟨b, 0, none⟩ : Addr).add k) K := At.ld h.at hx hk
theorem At.sub {p : Addr} (h : At w p xs) (k : Nat) : At w (p.add k) (xs.drop k) := fun i x hx => by
  rw [add_add]
  exact h (k + i) x (by rw [← hx, List.getElem?_drop])
theorem Blk.setA {i : Nat} {x : Value} {K : World → Prop} (h : Blk w b T xs) (hi : i < xs.length) (hx : x.oneCell' = true)
    (hK : ∀ w', Gr (fun j => j = b) w w' → Blk w' b T (xs.set i x) → K w') : St w ((⟨b, 0, none⟩ : Addr).add i) x K := by
  rw [add0]; exact h.set hi hx hK

end
end Go.Eng
set_option linter.unusedVariables false
set_option linter.unusedSimpArgs false
namespace Go.Proofs.Ytkgogljfngplnaa
open Go.Eng
abbrev OB (B : Nat) (w : World) (v : Value) (l : List Int) : Prop := Own B 3 1 w v l.length (l.map i64v)
theorem OB.set {B k : Nat} {x : Int} {w : World} {v : Value} {l : List Int} {K : World → Prop} (h : OB B w v l) (hk : k < l.length) (hK : ∀ w', Gr (fun j => v.ownBlock = some j) w w' → OB B w' v (l.set k x) → K w') : St w (ea v k) (.int .i64 x) K :=
  Own.set h (by rw [List.length_map]; exact hk) rfl fun w' hg h' => hK w' hg (by
    rw [set_map] at h'
    show Own B 3 1 w' v (l.set k x).length _
    rw [List.length_set]; exact h')
theorem OB.made {B n : Nat} {w : World} {v : Value} (h : Own B 3 1 w v n (List.replicate n (.int .i64 0))) : OB B w v (List.replicate n 0) := by
  show Own B 3 1 w v (List.replicate n (0 : Int)).length ((List.replicate n (0 : Int)).map i64v)
  rw [List.length_replicate, List.map_replicate]; exact h
end Go.Proofs.Ytkgogljfngplnaa
set_option linter.unusedVariables false
set_option linter.unusedSimpArgs false
namespace Go.Eng
open Go.RowKit

section
variable {P : Program} {w : World} {t e : TypeId} {x y : Operand} {v : Value} {K : Value → Prop}
end

/-- A new box, as a block. -/
theorem Bx.blk {T : TypeId} {l : List Value} {w : World} {K : Value → World → Prop} (h : ∀ (b : Nat) w', Ext w w' → w.heap.size ≤ b → Blk w' b T l → K (.pointer (some ⟨b, 0, none⟩)) w') : Bx T (.agg l.toArray) w K := by
  simp only [Bx]
  intro w1 hw1
  exact h w1.heap.size _ (hw1.alloc _) hw1.size (Blk.new w1 T l)

theorem places_run {P : Program} {w : World} : ∀ {l : List Field}, (∀ f ∈ l, P.cellsOf f.type ≠ 0) →
    ((l.toArray).mapM (m := Sem) fun f => do pure (f.offset, ← Go.sizeOf f.type)).run P w = .ok (l.map fun f => (f.offset, P.cellsOf f.type)).toArray w := by
  intro l hl
  rw [List.mapM_toArray]
  have h := mapM_run (P := P) (w := w) (fun f : Field => (do pure (f.offset, ← Go.sizeOf f.type) : Sem (Nat × Nat))) (fun f => (f.offset, P.cellsOf f.type)) l (fun f hf => by
    simp only [Sem.run_bind, sizeOf_run rfl (hl f hf), Result.andThen_ok, Sem.run_pure])
  simp only [Sem.run_bind, Sem.run_map, h, Result.andThen_ok, Sem.run_pure]
  try rfl
theorem fill_at (pl : Array (Nat × Nat)) (n : Nat) : ∀ (ps : List (Nat × Value)) (zc : Array Value), (∀ p ∈ ps, pl[p.1]? = some (p.1, 1) ∧ p.1 < n ∧ p.2.cells = #[p.2]) → zc.size = n →
    Instr.fill (pl[·]?) zc ps = some (ps.foldl (fun c p => c.setIfInBounds p.1 p.2) zc)
  | [], zc, _, _ => rfl
  | (i, v) :: ps, zc, h, hz => by
    obtain ⟨e2, h1, h2⟩ := h (i, v) (by simp)
    have h1 : i < n := h1
    have h2 : v.cells = #[v] := h2
    have e2 : pl[i]? = some (i, 1) := e2
    have e3 : ¬ (decide (#[v].size ≠ 1) || decide (i + #[v].size > zc.size)) = true := by simp; omega
    have e4 : Array.foldl (fun (cs : Array Value) (x : Value × Nat) => cs.setIfInBounds (i + x.snd) x.fst) zc #[v].zipIdx = zc.setIfInBounds i v := by simp [Array.zipIdx]
    simp only [Instr.fill, e2, h2, List.foldl_cons]
    rw [if_neg e3, e4]
    exact fill_at pl n ps _ (fun p hp => h p (by simp [hp])) (by simpa using hz)
/-- 'T{F: x, ..}', fields of several cells among the others. -/
theorem VS.sparse2 {P : Program} {w : World} {t : TypeId} {zc : Array Value} {N b : Nat} {l : List Field} {ps : List (Nat × Value)} {K : Value → Prop} (ht : P.underlying t = some (.struct l.toArray)) (hz : Elem P t (.agg zc) N b)
    (hg : ∀ f ∈ l, P.cellsOf f.type ≠ 0) (hv : ∀ p ∈ ps, (l.map fun f => (f.offset, P.cellsOf f.type)).toArray[p.1]? = some (p.1, 1) ∧ p.1 < zc.size ∧ p.2.cells = #[p.2])
    (hk : K (.agg (ps.foldl (fun c p => c.setIfInBounds p.1 p.2) zc))) : VS P (Instr.build t ps.toArray) w K := by
  refine VS.mk (v := .agg (ps.foldl (fun c p => c.setIfInBounds p.1 p.2) zc)) (fun w1 _ => ?_) hk
  obtain ⟨i, hi, hz1, _, _⟩ := hz.info
  have hfill := fill_at _ zc.size ps zc hv rfl
  simp only [Instr.build, Sem.run_bind, zeroValue, typeInfo, run_program, Result.andThen_ok, hi, hz1, Sem.run_pure, run_underlying ht, places_run hg, Value.cells, hfill]
theorem VS.sparseR {P : Program} {w : World} {t : TypeId} {zc : Array Value} {N b : Nat} {l : List Field} {ps : List (Nat × Value)} {K : Value → Prop} (r : Array Value) (ht : P.underlying t = some (.struct l.toArray)) (hz : Elem P t (.agg zc) N b)
    (hg : ∀ f ∈ l, P.cellsOf f.type ≠ 0) (hv : ∀ p ∈ ps, (l.map fun f => (f.offset, P.cellsOf f.type)).toArray[p.1]? = some (p.1, 1) ∧ p.1 < zc.size ∧ p.2.cells = #[p.2]) (hr : ps.foldl (fun c p => c.setIfInBounds p.1 p.2) zc = r)
    (hk : K (.agg r)) : VS P (Instr.build t ps.toArray) w K := VS.sparse2 ht hz hg hv (by rw [hr]; exact hk)
end Go.Eng
set_option linter.unusedVariables false
set_option linter.unusedSimpArgs false
namespace Go.Proofs.Ytkgogljfngplnaa
open Go.Eng
set_option maxRecDepth 100000
set_option maxHeartbeats 4000000

def Dis (x y : Value) : Prop := ∀ k, x.ownBlock = some k → y.ownBlock ≠ some k
theorem Own.dis {B s n : Nat} {e : TypeId} {w w' : World} {v x : Value} {xs : List Value} (h : Own B e s w v n xs) (hd : Dis x v) (hg : Gr (fun k => x.ownBlock = some k) w w') : Own B e s w' v n xs :=
  Own.gr h hg fun k hk hS => hd k hS hk

/-- the search's record: b; its gains G, its list A, the best list o so far -/
structure NS (w0 w : World) (b : Nat) (vv gv av bv : Value) (rr : List (List Int)) (G A : List Int) (o : Option (List Int)) (mo : T3) : Prop where
  ex : Ext w0 w
  bB : w0.heap.size ≤ b
  blk : Blk w b 86 [vv, gv, av, bv, .int .i64 mo.1, .int .i64 mo.2.1, .int .i64 mo.2.2]
  hg : OB w0.heap.size w gv G
  ha : OB w0.heap.size w av A
  ga : Dis gv av
  ag : Dis av gv
  hn : o = none → bv = .slice none 0 0
  hb : ∀ l, o = some l → OB w0.heap.size w bv l ∧ Dis gv bv ∧ Dis av bv ∧ l.length = A.length ∧ mo = prd rr l

section
variable {w0 w : World} {b : Nat} {vv gv av bv : Value} {rr : List (List Int)} {G A : List Int} {o : Option (List Int)} {mo : T3}
theorem NS.ext (h : NS w0 w b vv gv av bv rr G A o mo) {w' : World} (hx : Ext w w') : NS w0 w' b vv gv av bv rr G A o mo :=
  ⟨h.ex.ext hx, h.bB, h.blk.ext hx, Own.ext h.hg hx, Own.ext h.ha hx, h.ga, h.ag, h.hn, fun l e => by obtain ⟨h1, h2, h3, h4, h5⟩ := h.hb l e; exact ⟨Own.ext h1 hx, h2, h3, h4, h5⟩⟩
theorem Gr.up {B : Nat} {v : Value} {n s : Nat} {e : TypeId} {xs : List Value} {w w' : World} (h : Own B e s w v n xs) (hg : Gr (fun k => v.ownBlock = some k) w w') : Gr (fun k => B ≤ k) w w' :=
  hg.mono fun k _ hk => (Own.lt h k hk).1
theorem NS.stA (h : NS w0 w b vv gv av bv rr G A o mo) {k : Nat} {x : Int} {K : World → Prop} (hk : k < A.length)
    (hK : ∀ w', Gr (fun k => w0.heap.size ≤ k) w w' → NS w0 w' b vv gv av bv rr G (A.set k x) o mo → K w') : St w (ea av k) (.int .i64 x) K :=
  OB.set h.ha hk fun w' hg h' => hK w' (Gr.up h.ha hg)
    ⟨Own.keep h.ha h.ex (Nat.le_refl _) hg, h.bB, h.blk.row h.ha (by decide) hg, Own.dis h.hg h.ag hg, h', h.ga, h.ag, h.hn, fun l e => by obtain ⟨h1, h2, h3, h4, h5⟩ := h.hb l e; exact ⟨Own.dis h1 h3 hg, h2, h3, by rw [List.length_set]; exact h4, h5⟩⟩
theorem NS.stG (h : NS w0 w b vv gv av bv rr G A o mo) {k : Nat} {x : Int} {K : World → Prop} (hk : k < G.length)
    (hK : ∀ w', Gr (fun k => w0.heap.size ≤ k) w w' → NS w0 w' b vv gv av bv rr (G.set k x) A o mo → K w') : St w (ea gv k) (.int .i64 x) K :=
  OB.set h.hg hk fun w' hg h' => hK w' (Gr.up h.hg hg)
    ⟨Own.keep h.hg h.ex (Nat.le_refl _) hg, h.bB, h.blk.row h.hg (by decide) hg, h', Own.dis h.ha h.ga hg, h.ga, h.ag, h.hn, fun l e => by obtain ⟨h1, h2, h3, h4, h5⟩ := h.hb l e; exact ⟨Own.dis h1 h2 hg, h2, h3, h4, h5⟩⟩
theorem Dis.fresh {B1 n1 s1 n2 s2 : Nat} {e1 e2 : TypeId} {w' : World} {x y : Value} {xs ys : List Value} (h1 : Own B1 e1 s1 w x n1 xs) (h2 : Go.Eng.Own w.heap.size e2 s2 w' y n2 ys) : Dis x y := fun k hk hk2 => by
  have := (Own.lt h1 k hk).2
  have := (Own.lt h2 k hk2).1
  omega
theorem NS.put {w' : World} {bv' : Value} {l : List Int} {mo' : T3} (h : NS w0 w b vv gv av bv rr G A o mo) (hg : Gr (fun j => j = b) w w') (hk : Blk w' b 86 [vv, gv, av, bv', .int .i64 mo'.1, .int .i64 mo'.2.1, .int .i64 mo'.2.2])
    (hr : OB w0.heap.size w bv' l) (d1 : Dis gv bv') (d2 : Dis av bv') (hl : l.length = A.length) (hm : mo' = prd rr l) : NS w0 w' b vv gv av bv' rr G A (some l) mo' :=
  ⟨h.ex.new hg (fun i hi hb => by have := h.bB; omega), h.bB, hk, Own.blk h.hg h.blk (by decide) hg, Own.blk h.ha h.blk (by decide) hg, h.ga, h.ag, (fun e => by cases e), fun l' e => by
    cases e
    exact ⟨Own.blk hr h.blk (by decide) hg, d1, d2, hl, hm⟩⟩
end

theorem worth_take {A B r : List Int} {k : Int} : ∀ {c : Nat}, (∀ j, j < c → A.getD j 0 = B.getD j 0) → worth A r k c = worth B r k c
  | 0, _ => rfl
  | c + 1, h => by simp only [worth]; rw [worth_take (fun j hj => h j (by omega)), h c (by omega)]
theorem set_undo {G : List Int} {k : Nat} {v : Int} (hk : k < G.length) : (G.set k (G.getD k 0 + v)).set k ((G.set k (G.getD k 0 + v)).getD k 0 - v) = G := by
  rw [set_get hk, if_pos rfl, List.set_set]
  have : G.getD k 0 + v - v = G.getD k 0 := by omega
  rw [this]
  apply List.ext_getElem
  · simp
  · intro i h1 h2
    rw [List.getElem_set]
    split
    · rename_i e; subst e; simp [List.getD, h2]
    · rfl
end Go.Proofs.Ytkgogljfngplnaa
set_option linter.unusedVariables false
set_option linter.unusedSimpArgs false
namespace Go.Proofs.Ytkgogljfngplnaa
open Go.Eng
set_option maxRecDepth 100000
set_option maxHeartbeats 4000000

theorem set_take {A : List Int} {c : Nat} {x : Int} (hc : c < A.length) : (A.set c x).take (c + 1) = A.take c ++ [x] := by
  rw [take_snoc 0 _ c (by rw [List.length_set]; exact hc), set_get hc, if_pos rfl]
  congr 1
  apply List.ext_getElem
  · simp
  · intro i h1 h2
    rw [List.length_take] at h2
    rw [List.getElem_take, List.getElem_take, List.getElem_set, if_neg (by omega)]

end Go.Proofs.Ytkgogljfngplnaa
set_option linter.unusedVariables false
set_option linter.unusedSimpArgs false
namespace Go.Proofs.Ytkgogljfngplnaa
open Go.Eng
set_option maxRecDepth 100000
set_option maxHeartbeats 4000000

theorem OM.blk {B : Nat} {T : TypeId} {b : Nat} {w w' : World} {v : Value} {vs ys : List Value} {rr : List (List Int)} (h : OM B w v vs rr) (hk : Blk w b T ys) (h1 : 27 ≠ T) (h2 : 3 ≠ T) (hg : Gr (fun j => j = b) w w') : OM B w' v vs rr :=
  ⟨Own.blk h.top hk h1 hg, fun i hi => Own.blk (h.row i hi) hk h2 hg⟩

end Go.Proofs.Ytkgogljfngplnaa
set_option linter.unusedVariables false
set_option linter.unusedSimpArgs false
namespace Go.Proofs.Ytkgogljfngplnaa
open Go.Eng
set_option maxRecDepth 100000

def chkB (rr : List (List Int)) : Int :=
  if decide (6 < rr.length) || (List.range rr.length).any (fun i => decide (10 < (rr.getD i []).length)) then 4
  else if decide (rr.length = 0) || (List.range rr.length).any (fun i => !decide ((rr.getD i []).length = (rr.getD 0 []).length) || (List.range (rr.getD i []).length).any fun j => decide (val rr i j < 0) || decide (1000 < val rr i j)) then 8 else 0
theorem chk_eq (rr : List (List Int)) : chk rr = chkB rr := by
  have h1 : bigP rr ↔ (decide (6 < rr.length) || (List.range rr.length).any (fun i => decide (10 < (rr.getD i []).length))) = true := by
    unfold bigP; simp only [Bool.or_eq_true, decide_eq_true_eq, List.any_eq_true, List.mem_range]
  have h2 : badP rr ↔ (decide (rr.length = 0) || (List.range rr.length).any (fun i => !decide ((rr.getD i []).length = (rr.getD 0 []).length) || (List.range (rr.getD i []).length).any fun j => decide (val rr i j < 0) || decide (1000 < val rr i j))) = true := by
    unfold badP; simp only [Bool.or_eq_true, decide_eq_true_eq, List.any_eq_true, List.mem_range, Bool.not_eq_true', decide_eq_false_iff_not, ne_eq]
  unfold chkB
  by_cases p : bigP rr
  · rw [if_pos (h1.1 p)]; exact chk_big p
  · rw [if_neg (fun h => p (h1.2 h))]
    by_cases q : badP rr
    · rw [if_pos (h2.1 q)]; exact chk_bad p q
    · rw [if_neg (fun h => q (h2.2 h))]; exact chk_ok p q
def vldB (rr : List (List Int)) (a : List Int) : Int :=
  if chkB rr ≠ 0 then chkB rr else if !decide (a.length = (rr.getD 0 []).length) || (List.range a.length).any (fun k => decide (a.getD k 0 < -1) || decide ((rr.length : Int) ≤ a.getD k 0)) then 8 else 0
theorem vld_eq (rr : List (List Int)) (a : List Int) : vld rr a = vldB rr a := by
  have h1 : badA rr a ↔ (!decide (a.length = (rr.getD 0 []).length) || (List.range a.length).any (fun k => decide (a.getD k 0 < -1) || decide ((rr.length : Int) ≤ a.getD k 0))) = true := by
    unfold badA; simp only [Bool.or_eq_true, decide_eq_true_eq, List.any_eq_true, List.mem_range, Bool.not_eq_true', decide_eq_false_iff_not, ne_eq]
  unfold vldB
  by_cases c : chk rr = 0
  · rw [if_neg (by rw [← chk_eq]; omega)]
    by_cases q : badA rr a
    · rw [if_pos (h1.1 q)]; exact vld_bad c q
    · rw [if_neg (fun h => q (h1.2 h))]; exact vld_ok c q
  · rw [if_pos (by rw [← chk_eq]; exact c), ← chk_eq]; exact vld_chk c

theorem OM.made {B n : Nat} {w : World} {v : Value} (h : Go.Eng.Own B 27 1 w v n (List.replicate n (.slice none 0 0))) : OM B w v (List.replicate n (.slice none 0 0)) (List.replicate n []) := by
  refine ⟨by rw [List.length_replicate]; exact h, fun i hi => ?_⟩
  rw [List.length_replicate] at hi
  have e1 : (List.replicate n (Value.slice none 0 0)).getD i undef = .slice none 0 0 := by simp [List.getD, hi]
  have e2 : (List.replicate n ([] : List Int)).getD i [] = [] := by simp [List.getD, hi]
  rw [e1, e2]
  exact Own.nil
theorem OI.made {n : Nat} {w : World} {v : Value} (h : Go.Eng.Own 0 3 1 w v n (List.replicate n (.int .i64 0))) : OI w v (List.replicate n 0) := by
  have e : (List.replicate n (0 : Int)).map i64v = List.replicate n (.int .i64 0) := by simp [i64v]
  rw [← e] at h; exact OI.of h
end Go.Proofs.Ytkgogljfngplnaa
set_option linter.unusedVariables false
set_option linter.unusedSimpArgs false
namespace Go.Proofs.Ytkgogljfngplnaa
open Go.Eng
set_option maxRecDepth 100000
set_option maxHeartbeats 4000000

theorem pow_le_tot {rr : List (List Int)} {c : Nat} (hn : 1 ≤ rr.length) (hc : c ≤ mOf rr) : rr.length ^ c ≤ tot rr := Nat.pow_le_pow_right hn hc

end Go.Proofs.Ytkgogljfngplnaa
set_option linter.unusedVariables false
set_option linter.unusedSimpArgs false
namespace Go.Eng
open Go.RowKit

/-- block g holds cap one-cell elements of type e, of which the first n are xs -/
def Buf (e : TypeId) (w : World) (g cap n : Nat) (xs : List Value) : Prop :=
  xs.length = n ∧ ∃ cur, w.heap[g]? = some (.cells cur e (0, 0)) ∧ n ≤ cap ∧ cap ≤ maxLen ∧ cur.size = cap ∧ cur.toList.take n = xs
def bufV (g cap n : Nat) : Value := .slice (some ⟨g, 0, none⟩) n cap

section
variable {P : Program} {e : TypeId} {w w' : World} {g cap n : Nat} {xs : List Value}
theorem Buf.own {B : Nat} (h : Buf e w g cap n xs) (hB : B ≤ g) : Own B e 1 w (bufV g cap n) n xs := by
  obtain ⟨h1, cur, h2, h3, h4, h5, h6⟩ := h
  exact ⟨by omega, .inr ⟨g, cap, cur, rfl, hB, h2, h3, h4, by omega, by rw [Nat.mul_one]; exact h6⟩⟩
theorem Buf.gr {S : Nat → Prop} (h : Buf e w g cap n xs) (hg : Gr S w w') (hs : ¬ S g) : Buf e w' g cap n xs := by
  obtain ⟨h1, cur, h2, h3⟩ := h
  exact ⟨h1, cur, by rw [hg.block g (Array.getElem?_eq_some_iff.1 h2).1 hs]; exact h2, h3⟩
theorem Buf.ext (h : Buf e w g cap n xs) (hg : Ext w w') : Buf e w' g cap n xs := h.gr hg fun hf => hf
theorem Buf.lt (h : Buf e w g cap n xs) : g < w.heap.size := by obtain ⟨_, cur, h2, _⟩ := h; exact (Array.getElem?_eq_some_iff.1 h2).1
theorem Buf.cut {m : Nat} (h : Buf e w g cap n xs) (hm : m ≤ n) : Buf e w g cap m (xs.take m) := by
  obtain ⟨h1, cur, h2, h3, h4, h5, h6⟩ := h
  exact ⟨by rw [List.length_take]; omega, cur, h2, by omega, h4, h5, by rw [← h6, List.take_take, Nat.min_eq_left hm]⟩
/-- an append of one element in place -/
theorem VE.appIn {t T : TypeId} {z x y : Value} {b : Nat} {K : Value → World → Prop} (ht : P.underlying t = some (.slice e)) (he : Elem P e z 1 b)
    (H : Buf e w g cap n xs) (hn : n < cap) (Hx : Sl 1 w x 1 [y]) (h1 : y.oneCell' = true)
    (hk : ∀ w', Gr (fun k => k = g) w w' → Buf e w' g cap (n + 1) (xs ++ [y]) → K (bufV g cap (n + 1)) w') : VE P (Builtin.append_ #[t, t] T #[bufV g cap n, x]) w K := by
  refine VE.mk fun w1 hw1 => ?_
  obtain ⟨i, hi, hz, hsz, hby⟩ := he.info
  obtain ⟨hl, cur, h2, h3, h4, h5, h6⟩ := H.ext hw1
  obtain ⟨a, c, rfl, hc1, hc2, hc3, hat⟩ := Hx.ext hw1
  rcases hat with h0 | ⟨p, rfl, hat⟩
  · omega
  · have hr := run_append_room (P := P) w1 t T e i ht hi g n cap cur h2 p 1 c [y] (by rw [hsz]; rfl) (fun j u hu => hat j u hu) (by intro u hu; simp at hu; subst hu; exact h1) (by omega) (by rw [hsz]; simp; omega)
    refine ⟨_, _, hr, hk _ ((Gr.ofExt hw1).trans ⟨rfl, rfl, rfl, by simp, fun k _ hk => setRow_other w1 g k _ hk⟩) ?_⟩
    rw [hsz, Nat.mul_one, h6]
    refine ⟨by simp [hl], _, setRow_heap w1 g cur _ e _ h2, by omega, h4, ?_, ?_⟩
    · have : cur.toList.length = cap := by simpa using h5
      simp only [List.size_toArray, List.length_append, List.length_drop, List.length_singleton, this, hl]; omega
    · rw [List.take_append_of_le_length (by simp [hl]), List.take_of_length_le (by simp [hl])]
/-- 'make([]T, 0, cap)' -/
theorem VX.madeB {t : TypeId} {z : Value} {b cp : Nat} {K : Value → World → Prop} (ht : P.underlying t = some (.slice e)) (he : Elem P e z 1 b) (hz1 : z.cells = #[z]) (hn : cp ≤ 9223372036854775807) (hb : b * cp ≤ 281474976710656)
    (hk : ∀ g w', Ext w w' → w.heap.size ≤ g → Buf e w' g cp 0 [] → K (bufV g cp 0) w') : VX P (Instr.makeSlice t (.int .i64 0) (.int .i64 (cp : Int))) w K := by
  refine VX.mk fun w1 hw1 => ?_
  obtain ⟨i, hi, hz, hsz, hby⟩ := he.info
  refine ⟨_, _, ?_, (Ext.refl w1).alloc _, hk w1.heap.size (w1.alloc (.cells (List.replicate cp z).toArray e)) (hw1.alloc _) hw1.size ⟨rfl, _, heap_alloc_new w1 _, Nat.zero_le _, by unfold maxLen; omega, by simp, by simp⟩⟩
  have hw : IntKind.i64.wrap (cp : Int) = cp := IntWalk.i64_in _ (by omega)
  have hw0 : IntKind.i64.wrap (0 : Int) = 0 := by decide
  have h1 : ¬ ((cp : Int) < 0) := by omega
  have h2 : ¬ ((b : Int) * (cp : Int) > 2 ^ 48) := by
    have : (b : Int) * (cp : Int) = ((b * cp : Nat) : Int) := by simp
    rw [this]; omega
  have harr : (Array.map (fun j => (if cp = 0 then (#[] : Array Value) else #[z])[j % (if cp = 0 then (#[] : Array Value) else #[z]).size]!) (Array.range cp)) = (List.replicate cp z).toArray := by
    apply Array.ext
    · simp
    · intro j hj1 hj2
      have hn0 : cp ≠ 0 := by
        simp at hj2; omega
      simp [hn0, Nat.mod_one]
  simp only [Instr.makeSlice, Sem.run_bind, run_underlying ht, Result.andThen_ok, asInt, asIntOf, Sem.run_pure, typeInfo, run_program, hi, hby, hw, hw0, Go.sizeOf]
  simp only [h1, h2, decide_false, Bool.or_false, Int.lt_irrefl, Bool.false_eq_true, if_false, gt_iff_lt, Int.toNat_natCast, Sem.run_bind, run_askRoom, Result.andThen_ok, zeroValue, typeInfo, run_program, hi, Sem.run_pure, hsz, Nat.mul_one, Int.mul_zero]
  by_cases h0 : cp = 0
  · rw [if_pos h0] at harr ⊢
    simp only [Sem.run_pure, Result.andThen_ok, newRow, Sem.run_bind, run_newObj, harr]
    rfl
  · rw [if_neg h0] at harr ⊢
    simp only [Sem.run_bind, run_program, hi, hz, Sem.run_pure, Result.andThen_ok, newRow, run_newObj, hz1, harr]
    rfl
end
end Go.Eng
