/- Joined texts: Flow1 EngX Flow4 Flow5 Enum FlowMf FlowWy EngU. -/
import Derived.Test.YtpdldifklgpikaaJ1
import Derived.Lib.SliceRun
import Derived.WalkSpells
set_option linter.unusedVariables false
set_option linter.unusedSimpArgs false
namespace Go.Proofs.Ytpdldifklgpikaa
open Go.Eng
set_option maxRecDepth 100000
set_option maxHeartbeats 4000000

theorem eArc : Elem Try.prog 56 (.agg #[.int .i64 0, .int .i64 0, .int .i64 0]) 3 24 := by unfold Elem; kernel_rfl
theorem eBool : Elem Try.prog 4 (.bool false) 1 1 := by unfold Elem; kernel_rfl

theorem arcbad_pc {w : World} {n : Int} {x : T3} {b : Nat} {sv : Value} (Hb : At w ⟨b, 0, none⟩ [.int .i64 n, sv]) : PC Try.prog 37 [.agg #[.int .i64 x.1, .int .i64 x.2.1, .int .i64 x.2.2], .pointer (some ⟨b, 0, none⟩)] w (.bool (tf (badX n x))) := by
  refine PC.mk tyOk Try.func37 rfl (by kernel_rfl) fun w1 E1 => ?_
  replace Hb := Hb.ext E1
  have EE := Ext.refl w1
  refine Bx.agg fun b2 w2 E2 hb2 Hx _ => ?_
  replace Hb := Hb.ext E2
  replace EE := EE.ext E2
  repeat' ((conv => whnf); first | (refine Dr.quiet tyOk (by kernel_rfl) ?_) | (refine Rng.mk (by omega) ?_) | (refine Split.pos (by omega) ?_) | (refine Split.neg (by omega) ?_) | (refine Split.mk (fun h => ?_) (fun h => ?_)) | (refine Need.mk (by omega) ?_) | (refine Ints.ln (by assumption) ?_) | (refine Mat.ln (by assumption) ?_) | (refine Ints.ln (Mat.row (by assumption) _ (by omega)) ?_) | (refine Ints.ix (by assumption) (by omega) ?_) | (refine Mat.ix (by assumption) (by omega) ?_) | (refine Ints.ix (Mat.row (by assumption) _ (by omega)) (by omega) ?_) | (refine Ints.ix (c := 0) (by assumption) (by omega) ?_) | (refine Mat.ix (c := 0) (by assumption) (by omega) ?_) | (refine Ints.ix (c := 0) (Mat.row (by assumption) _ (by omega)) (by omega) ?_) | (refine Ints.ixI (by assumption) (by omega) ?_) | (refine Mat.ixI (by assumption) (by omega) ?_) | (refine Ints.ixI (Mat.row (by assumption) _ (by omega)) (by omega) ?_) | (refine Ints.ld (by assumption) (by omega) ?_) | (refine Mat.ld (by assumption) (by omega) ?_) | (refine Ints.ld (Mat.row (by assumption) _ (by omega)) (by omega) ?_) | (refine At.ld (by assumption) rfl ?_) | (refine At.ldN (by assumption) rfl ?_) | (refine Prs.ln (by assumption) ?_) | (refine Trs.ln (by assumption) ?_) | (refine Prs.ix (by assumption) (by omega) ?_) | (refine Trs.ix (by assumption) (by omega) ?_) | (refine Prs.ldN (by assumption) (by omega) ?_) | (refine Trs.ldN (by assumption) (by omega) ?_) | (refine At.ldN (Blk.at (by assumption)) rfl ?_) | (refine At.ld (Blk.at (by assumption)) rfl ?_) | (refine IxA.mk (by omega) ?_) | (refine Sl.ln (Own.sl (by assumption)) ?_) | (refine Ints.ix (Own.sl (by assumption)) (by omega) ?_) | (refine Ints.ixI (Own.sl (by assumption)) (by omega) ?_) | (refine Ints.ld (Own.sl (by assumption)) (by omega) ?_))
  all_goals first
    | (rw [tf_t (p := badX n x) (by unfold badX; omega)]; exact ⟨rfl, EE⟩)
    | (rw [tf_f (p := badX n x) (by unfold badX; omega)]; exact ⟨rfl, EE⟩)

theorem indexfuncA_pc {w : World} {sv : Value} {A : List T3} {g : FuncId} {cap : List Value} {p : Nat → Bool} (Hs : Trs w sv A) (hf : ∀ i, i < A.length → PC Try.prog g (.agg #[.int .i64 (A.getD i (0, 0, 0)).1, .int .i64 (A.getD i (0, 0, 0)).2.1, .int .i64 (A.getD i (0, 0, 0)).2.2] :: cap) w (.bool (p i))) :
    PC Try.prog 45 [sv, .func (.func g) #[] cap.toArray] w (.int .i64 (firstFrom p A.length 0)) := by
  refine PC.mk tyOk Try.func45 rfl (by kernel_rfl) fun w1 E1 => ?_
  replace Hs := Hs.ext E1
  replace hf := fun i hi => (hf i hi).ext E1
  have hle := Hs.le
  repeat' ((conv => whnf); first | (refine Dr.quiet tyOk (by kernel_rfl) ?_) | (refine Trs.ln (by assumption) ?_) | (refine Rng.mk (by omega) ?_) | (refine Split.pos (by omega) ?_) | (refine Split.neg (by omega) ?_) | (refine Split.mk (fun h => ?_) (fun h => ?_)) | (refine Need.mk (by omega) ?_) | (refine Ints.ln (by assumption) ?_) | (refine Mat.ln (by assumption) ?_) | (refine Ints.ln (Mat.row (by assumption) _ (by omega)) ?_) | (refine Ints.ix (by assumption) (by omega) ?_) | (refine Mat.ix (by assumption) (by omega) ?_) | (refine Ints.ix (Mat.row (by assumption) _ (by omega)) (by omega) ?_) | (refine Ints.ix (c := 0) (by assumption) (by omega) ?_) | (refine Mat.ix (c := 0) (by assumption) (by omega) ?_) | (refine Ints.ix (c := 0) (Mat.row (by assumption) _ (by omega)) (by omega) ?_) | (refine Ints.ixI (by assumption) (by omega) ?_) | (refine Mat.ixI (by assumption) (by omega) ?_) | (refine Ints.ixI (Mat.row (by assumption) _ (by omega)) (by omega) ?_) | (refine Ints.ld (by assumption) (by omega) ?_) | (refine Mat.ld (by assumption) (by omega) ?_) | (refine Ints.ld (Mat.row (by assumption) _ (by omega)) (by omega) ?_) | (refine At.ld (by assumption) rfl ?_) | (refine At.ldN (by assumption) rfl ?_))
  refine Lp.mk tyOk [false, false, false, false, true, true, false, false, true, true, true, true, true, true, true, true, true, true, true] (fun m fr wr => getK fr 8 fun j => ∃ c : Nat, c ≤ A.length ∧ m = A.length - c ∧ j = .int .i64 (c : Int) ∧ firstFrom p A.length 0 = firstFrom p (A.length - c) c ∧ wr = w1) A.length ?_ ?_
  · exact ⟨0, Nat.zero_le _, rfl, rfl, rfl, rfl⟩
  · intro m w3 u4 u5 u8 u9 u10 u11 u12 u13 u14 u15 u16 u17 u18 hR
    obtain ⟨c, hc, rfl, rfl, he, rfl⟩ := hR
    by_cases hlt : c < A.length
    · have hs : firstFrom p (A.length - c) c = if p c = true then (c : Int) else firstFrom p (A.length - (c + 1)) (c + 1) := by rw [show A.length - c = (A.length - (c + 1)) + 1 by omega]; rfl
      have hfc := hf c hlt
      cases hp : p c with
      | true =>
        rw [hp] at hfc hs
        repeat' ((conv => whnf); first | (refine Dr.quiet tyOk (by kernel_rfl) ?_) | (refine Trs.ix (by assumption) (by omega) ?_) | (refine Trs.ldN (by assumption) (by omega) ?_) | (refine VC.pure hfc ?_) | (refine Rng.mk (by omega) ?_) | (refine Split.pos (by omega) ?_) | (refine Split.neg (by omega) ?_) | (refine Split.mk (fun h => ?_) (fun h => ?_)) | (refine Need.mk (by omega) ?_) | (refine Ints.ln (by assumption) ?_) | (refine Mat.ln (by assumption) ?_) | (refine Ints.ln (Mat.row (by assumption) _ (by omega)) ?_) | (refine Ints.ix (by assumption) (by omega) ?_) | (refine Mat.ix (by assumption) (by omega) ?_) | (refine Ints.ix (Mat.row (by assumption) _ (by omega)) (by omega) ?_) | (refine Ints.ix (c := 0) (by assumption) (by omega) ?_) | (refine Mat.ix (c := 0) (by assumption) (by omega) ?_) | (refine Ints.ix (c := 0) (Mat.row (by assumption) _ (by omega)) (by omega) ?_) | (refine Ints.ixI (by assumption) (by omega) ?_) | (refine Mat.ixI (by assumption) (by omega) ?_) | (refine Ints.ixI (Mat.row (by assumption) _ (by omega)) (by omega) ?_) | (refine Ints.ld (by assumption) (by omega) ?_) | (refine Mat.ld (by assumption) (by omega) ?_) | (refine Ints.ld (Mat.row (by assumption) _ (by omega)) (by omega) ?_) | (refine At.ld (by assumption) rfl ?_) | (refine At.ldN (by assumption) rfl ?_))
        rw [he, hs]; exact ⟨rfl, Ext.refl _⟩
      | false =>
        rw [hp] at hfc hs
        repeat' ((conv => whnf); first | (refine Dr.quiet tyOk (by kernel_rfl) ?_) | (refine Trs.ix (by assumption) (by omega) ?_) | (refine Trs.ldN (by assumption) (by omega) ?_) | (refine VC.pure hfc ?_) | (refine Rng.mk (by omega) ?_) | (refine Split.pos (by omega) ?_) | (refine Split.neg (by omega) ?_) | (refine Split.mk (fun h => ?_) (fun h => ?_)) | (refine Need.mk (by omega) ?_) | (refine Ints.ln (by assumption) ?_) | (refine Mat.ln (by assumption) ?_) | (refine Ints.ln (Mat.row (by assumption) _ (by omega)) ?_) | (refine Ints.ix (by assumption) (by omega) ?_) | (refine Mat.ix (by assumption) (by omega) ?_) | (refine Ints.ix (Mat.row (by assumption) _ (by omega)) (by omega) ?_) | (refine Ints.ix (c := 0) (by assumption) (by omega) ?_) | (refine Mat.ix (c := 0) (by assumption) (by omega) ?_) | (refine Ints.ix (c := 0) (Mat.row (by assumption) _ (by omega)) (by omega) ?_) | (refine Ints.ixI (by assumption) (by omega) ?_) | (refine Mat.ixI (by assumption) (by omega) ?_) | (refine Ints.ixI (Mat.row (by assumption) _ (by omega)) (by omega) ?_) | (refine Ints.ld (by assumption) (by omega) ?_) | (refine Mat.ld (by assumption) (by omega) ?_) | (refine Ints.ld (Mat.row (by assumption) _ (by omega)) (by omega) ?_) | (refine At.ld (by assumption) rfl ?_) | (refine At.ldN (by assumption) rfl ?_))
        exact ⟨_, (by omega : A.length - (c + 1) < A.length - c), rfl, c + 1, by omega, rfl, rfl, by rw [he, hs]; rfl, rfl⟩
    · obtain rfl : c = A.length := by omega
      repeat' ((conv => whnf); first | (refine Dr.quiet tyOk (by kernel_rfl) ?_) | (refine Rng.mk (by omega) ?_) | (refine Split.pos (by omega) ?_) | (refine Split.neg (by omega) ?_) | (refine Split.mk (fun h => ?_) (fun h => ?_)) | (refine Need.mk (by omega) ?_) | (refine Ints.ln (by assumption) ?_) | (refine Mat.ln (by assumption) ?_) | (refine Ints.ln (Mat.row (by assumption) _ (by omega)) ?_) | (refine Ints.ix (by assumption) (by omega) ?_) | (refine Mat.ix (by assumption) (by omega) ?_) | (refine Ints.ix (Mat.row (by assumption) _ (by omega)) (by omega) ?_) | (refine Ints.ix (c := 0) (by assumption) (by omega) ?_) | (refine Mat.ix (c := 0) (by assumption) (by omega) ?_) | (refine Ints.ix (c := 0) (Mat.row (by assumption) _ (by omega)) (by omega) ?_) | (refine Ints.ixI (by assumption) (by omega) ?_) | (refine Mat.ixI (by assumption) (by omega) ?_) | (refine Ints.ixI (Mat.row (by assumption) _ (by omega)) (by omega) ?_) | (refine Ints.ld (by assumption) (by omega) ?_) | (refine Mat.ld (by assumption) (by omega) ?_) | (refine Ints.ld (Mat.row (by assumption) _ (by omega)) (by omega) ?_) | (refine At.ld (by assumption) rfl ?_) | (refine At.ldN (by assumption) rfl ?_))
      rw [he, Nat.sub_self]; exact ⟨rfl, Ext.refl _⟩

theorem containsfuncA_pc {w : World} {sv : Value} {A : List T3} {g : FuncId} {cap : List Value} {p : Nat → Bool} (Hs : Trs w sv A) (hf : ∀ i, i < A.length → PC Try.prog g (.agg #[.int .i64 (A.getD i (0, 0, 0)).1, .int .i64 (A.getD i (0, 0, 0)).2.1, .int .i64 (A.getD i (0, 0, 0)).2.2] :: cap) w (.bool (p i))) :
    PC Try.prog 36 [sv, .func (.func g) #[] cap.toArray] w (.bool (tf (∃ i, i < A.length ∧ p i = true))) := by
  refine PC.mk tyOk Try.func36 rfl (by kernel_rfl) fun w1 E1 => ?_
  replace Hs := Hs.ext E1
  replace hf := fun i hi => (hf i hi).ext E1
  have hs := firstFrom_spec p A.length 0
  repeat' ((conv => whnf); first | (refine Dr.quiet tyOk (by kernel_rfl) ?_) | (refine VC.pure (indexfuncA_pc Hs hf) ?_) | (refine Rng.mk (by omega) ?_) | (refine Split.pos (by omega) ?_) | (refine Split.neg (by omega) ?_) | (refine Split.mk (fun h => ?_) (fun h => ?_)) | (refine Need.mk (by omega) ?_) | (refine Ints.ln (by assumption) ?_) | (refine Mat.ln (by assumption) ?_) | (refine Ints.ln (Mat.row (by assumption) _ (by omega)) ?_) | (refine Ints.ix (by assumption) (by omega) ?_) | (refine Mat.ix (by assumption) (by omega) ?_) | (refine Ints.ix (Mat.row (by assumption) _ (by omega)) (by omega) ?_) | (refine Ints.ix (c := 0) (by assumption) (by omega) ?_) | (refine Mat.ix (c := 0) (by assumption) (by omega) ?_) | (refine Ints.ix (c := 0) (Mat.row (by assumption) _ (by omega)) (by omega) ?_) | (refine Ints.ixI (by assumption) (by omega) ?_) | (refine Mat.ixI (by assumption) (by omega) ?_) | (refine Ints.ixI (Mat.row (by assumption) _ (by omega)) (by omega) ?_) | (refine Ints.ld (by assumption) (by omega) ?_) | (refine Mat.ld (by assumption) (by omega) ?_) | (refine Ints.ld (Mat.row (by assumption) _ (by omega)) (by omega) ?_) | (refine At.ld (by assumption) rfl ?_) | (refine At.ldN (by assumption) rfl ?_))
  · rw [tf_t (p := ∃ i, i < A.length ∧ p i = true) (by
      rcases hs with ⟨j, h1, h2, h3, _⟩ | ⟨h1, _⟩
      · exact ⟨j, by omega, h3⟩
      · omega)]; exact ⟨rfl, Ext.refl _⟩
  · rw [tf_f (p := ∃ i, i < A.length ∧ p i = true) (by
      rintro ⟨i, hi, hp⟩
      rcases hs with ⟨j, h1, h2, h3, h4, _⟩ | ⟨_, h2⟩
      · omega
      · have := h2 i (by omega) (by omega); rw [hp] at this; cases this)]; exact ⟨rfl, Ext.refl _⟩

theorem gnet_pc {w : World} {n : Int} {sv : Value} {A : List T3} (HA : Trs w sv A) : PC Try.prog 15 [.agg #[.int .i64 n, sv]] w (.int .i64 (netE n A)) := by
  refine PC.mk tyOk Try.func15 rfl (by kernel_rfl) fun w1 E1 => ?_
  replace HA := HA.ext E1
  have EE := Ext.refl w1
  refine Bx.agg fun b2 w2 E2 hb2 Hb _ => ?_
  replace HA := HA.ext E2
  replace EE := EE.ext E2
  have hle := HA.le
  have cc := containsfuncA_pc (g := 37) (cap := [.pointer (some ⟨b2, 0, none⟩)]) (p := fun i => tf (badX n (A.getD i (0, 0, 0)))) HA (fun i hi => arcbad_pc Hb)
  have hex : (∃ i, i < A.length ∧ tf (badX n (A.getD i (0, 0, 0))) = true) ↔ ∃ i, i < A.length ∧ badX n (A.getD i (0, 0, 0)) := by
    constructor
    · rintro ⟨i, hi, h⟩
      refine ⟨i, hi, Classical.byContradiction fun hn => ?_⟩
      rw [tf_f hn] at h; cases h
    · rintro ⟨i, hi, h⟩; exact ⟨i, hi, tf_t h⟩
  by_cases hm : 40 < n ∨ 200 < A.length
  · rw [netE_many hm]
    repeat' ((conv => whnf); first | (refine Dr.quiet tyOk (by kernel_rfl) ?_) | (refine Rng.mk (by omega) ?_) | (refine Split.pos (by omega) ?_) | (refine Split.neg (by omega) ?_) | (refine Split.mk (fun h => ?_) (fun h => ?_)) | (refine Need.mk (by omega) ?_) | (refine Ints.ln (by assumption) ?_) | (refine Mat.ln (by assumption) ?_) | (refine Ints.ln (Mat.row (by assumption) _ (by omega)) ?_) | (refine Ints.ix (by assumption) (by omega) ?_) | (refine Mat.ix (by assumption) (by omega) ?_) | (refine Ints.ix (Mat.row (by assumption) _ (by omega)) (by omega) ?_) | (refine Ints.ix (c := 0) (by assumption) (by omega) ?_) | (refine Mat.ix (c := 0) (by assumption) (by omega) ?_) | (refine Ints.ix (c := 0) (Mat.row (by assumption) _ (by omega)) (by omega) ?_) | (refine Ints.ixI (by assumption) (by omega) ?_) | (refine Mat.ixI (by assumption) (by omega) ?_) | (refine Ints.ixI (Mat.row (by assumption) _ (by omega)) (by omega) ?_) | (refine Ints.ld (by assumption) (by omega) ?_) | (refine Mat.ld (by assumption) (by omega) ?_) | (refine Ints.ld (Mat.row (by assumption) _ (by omega)) (by omega) ?_) | (refine At.ld (by assumption) rfl ?_) | (refine At.ldN (by assumption) rfl ?_) | (refine Prs.ln (by assumption) ?_) | (refine Trs.ln (by assumption) ?_) | (refine Prs.ix (by assumption) (by omega) ?_) | (refine Trs.ix (by assumption) (by omega) ?_) | (refine Prs.ldN (by assumption) (by omega) ?_) | (refine Trs.ldN (by assumption) (by omega) ?_) | (refine At.ldN (Blk.at (by assumption)) rfl ?_) | (refine At.ld (Blk.at (by assumption)) rfl ?_) | (refine IxA.mk (by omega) ?_) | (refine Sl.ln (Own.sl (by assumption)) ?_) | (refine Ints.ix (Own.sl (by assumption)) (by omega) ?_) | (refine Ints.ixI (Own.sl (by assumption)) (by omega) ?_) | (refine Ints.ld (Own.sl (by assumption)) (by omega) ?_))
    all_goals exact ⟨rfl, EE⟩
  · by_cases hb : ∃ i, i < A.length ∧ badX n (A.getD i (0, 0, 0))
    · rw [tf_t (hex.2 hb)] at cc
      rw [netE_bad hm (.inr hb)]
      repeat' ((conv => whnf); first | (refine Dr.quiet tyOk (by kernel_rfl) ?_) | (refine VC.pure cc ?_) | (refine Rng.mk (by omega) ?_) | (refine Split.pos (by omega) ?_) | (refine Split.neg (by omega) ?_) | (refine Split.mk (fun h => ?_) (fun h => ?_)) | (refine Need.mk (by omega) ?_) | (refine Ints.ln (by assumption) ?_) | (refine Mat.ln (by assumption) ?_) | (refine Ints.ln (Mat.row (by assumption) _ (by omega)) ?_) | (refine Ints.ix (by assumption) (by omega) ?_) | (refine Mat.ix (by assumption) (by omega) ?_) | (refine Ints.ix (Mat.row (by assumption) _ (by omega)) (by omega) ?_) | (refine Ints.ix (c := 0) (by assumption) (by omega) ?_) | (refine Mat.ix (c := 0) (by assumption) (by omega) ?_) | (refine Ints.ix (c := 0) (Mat.row (by assumption) _ (by omega)) (by omega) ?_) | (refine Ints.ixI (by assumption) (by omega) ?_) | (refine Mat.ixI (by assumption) (by omega) ?_) | (refine Ints.ixI (Mat.row (by assumption) _ (by omega)) (by omega) ?_) | (refine Ints.ld (by assumption) (by omega) ?_) | (refine Mat.ld (by assumption) (by omega) ?_) | (refine Ints.ld (Mat.row (by assumption) _ (by omega)) (by omega) ?_) | (refine At.ld (by assumption) rfl ?_) | (refine At.ldN (by assumption) rfl ?_) | (refine Prs.ln (by assumption) ?_) | (refine Trs.ln (by assumption) ?_) | (refine Prs.ix (by assumption) (by omega) ?_) | (refine Trs.ix (by assumption) (by omega) ?_) | (refine Prs.ldN (by assumption) (by omega) ?_) | (refine Trs.ldN (by assumption) (by omega) ?_) | (refine At.ldN (Blk.at (by assumption)) rfl ?_) | (refine At.ld (Blk.at (by assumption)) rfl ?_) | (refine IxA.mk (by omega) ?_) | (refine Sl.ln (Own.sl (by assumption)) ?_) | (refine Ints.ix (Own.sl (by assumption)) (by omega) ?_) | (refine Ints.ixI (Own.sl (by assumption)) (by omega) ?_) | (refine Ints.ld (Own.sl (by assumption)) (by omega) ?_))
      all_goals exact ⟨rfl, EE⟩
    · rw [tf_f (fun h => hb (hex.1 h))] at cc
      by_cases h2 : n < 2
      · rw [netE_bad hm (.inl h2)]
        repeat' ((conv => whnf); first | (refine Dr.quiet tyOk (by kernel_rfl) ?_) | (refine VC.pure cc ?_) | (refine Rng.mk (by omega) ?_) | (refine Split.pos (by omega) ?_) | (refine Split.neg (by omega) ?_) | (refine Split.mk (fun h => ?_) (fun h => ?_)) | (refine Need.mk (by omega) ?_) | (refine Ints.ln (by assumption) ?_) | (refine Mat.ln (by assumption) ?_) | (refine Ints.ln (Mat.row (by assumption) _ (by omega)) ?_) | (refine Ints.ix (by assumption) (by omega) ?_) | (refine Mat.ix (by assumption) (by omega) ?_) | (refine Ints.ix (Mat.row (by assumption) _ (by omega)) (by omega) ?_) | (refine Ints.ix (c := 0) (by assumption) (by omega) ?_) | (refine Mat.ix (c := 0) (by assumption) (by omega) ?_) | (refine Ints.ix (c := 0) (Mat.row (by assumption) _ (by omega)) (by omega) ?_) | (refine Ints.ixI (by assumption) (by omega) ?_) | (refine Mat.ixI (by assumption) (by omega) ?_) | (refine Ints.ixI (Mat.row (by assumption) _ (by omega)) (by omega) ?_) | (refine Ints.ld (by assumption) (by omega) ?_) | (refine Mat.ld (by assumption) (by omega) ?_) | (refine Ints.ld (Mat.row (by assumption) _ (by omega)) (by omega) ?_) | (refine At.ld (by assumption) rfl ?_) | (refine At.ldN (by assumption) rfl ?_) | (refine Prs.ln (by assumption) ?_) | (refine Trs.ln (by assumption) ?_) | (refine Prs.ix (by assumption) (by omega) ?_) | (refine Trs.ix (by assumption) (by omega) ?_) | (refine Prs.ldN (by assumption) (by omega) ?_) | (refine Trs.ldN (by assumption) (by omega) ?_) | (refine At.ldN (Blk.at (by assumption)) rfl ?_) | (refine At.ld (Blk.at (by assumption)) rfl ?_) | (refine IxA.mk (by omega) ?_) | (refine Sl.ln (Own.sl (by assumption)) ?_) | (refine Ints.ix (Own.sl (by assumption)) (by omega) ?_) | (refine Ints.ixI (Own.sl (by assumption)) (by omega) ?_) | (refine Ints.ld (Own.sl (by assumption)) (by omega) ?_))
        all_goals exact ⟨rfl, EE⟩
      · rw [netE_ok hm (by rintro (h | h); exact h2 h; exact hb h)]
        repeat' ((conv => whnf); first | (refine Dr.quiet tyOk (by kernel_rfl) ?_) | (refine VC.pure cc ?_) | (refine Rng.mk (by omega) ?_) | (refine Split.pos (by omega) ?_) | (refine Split.neg (by omega) ?_) | (refine Split.mk (fun h => ?_) (fun h => ?_)) | (refine Need.mk (by omega) ?_) | (refine Ints.ln (by assumption) ?_) | (refine Mat.ln (by assumption) ?_) | (refine Ints.ln (Mat.row (by assumption) _ (by omega)) ?_) | (refine Ints.ix (by assumption) (by omega) ?_) | (refine Mat.ix (by assumption) (by omega) ?_) | (refine Ints.ix (Mat.row (by assumption) _ (by omega)) (by omega) ?_) | (refine Ints.ix (c := 0) (by assumption) (by omega) ?_) | (refine Mat.ix (c := 0) (by assumption) (by omega) ?_) | (refine Ints.ix (c := 0) (Mat.row (by assumption) _ (by omega)) (by omega) ?_) | (refine Ints.ixI (by assumption) (by omega) ?_) | (refine Mat.ixI (by assumption) (by omega) ?_) | (refine Ints.ixI (Mat.row (by assumption) _ (by omega)) (by omega) ?_) | (refine Ints.ld (by assumption) (by omega) ?_) | (refine Mat.ld (by assumption) (by omega) ?_) | (refine Ints.ld (Mat.row (by assumption) _ (by omega)) (by omega) ?_) | (refine At.ld (by assumption) rfl ?_) | (refine At.ldN (by assumption) rfl ?_) | (refine Prs.ln (by assumption) ?_) | (refine Trs.ln (by assumption) ?_) | (refine Prs.ix (by assumption) (by omega) ?_) | (refine Trs.ix (by assumption) (by omega) ?_) | (refine Prs.ldN (by assumption) (by omega) ?_) | (refine Trs.ldN (by assumption) (by omega) ?_) | (refine At.ldN (Blk.at (by assumption)) rfl ?_) | (refine At.ld (Blk.at (by assumption)) rfl ?_) | (refine IxA.mk (by omega) ?_) | (refine Sl.ln (Own.sl (by assumption)) ?_) | (refine Ints.ix (Own.sl (by assumption)) (by omega) ?_) | (refine Ints.ixI (Own.sl (by assumption)) (by omega) ?_) | (refine Ints.ld (Own.sl (by assumption)) (by omega) ?_))
        all_goals exact ⟨rfl, EE⟩

theorem rnet_pc {w : World} {n : Int} {sv : Value} {A : List T3} (HA : Trs w sv A) : PC Try.prog 16 [.agg #[.int .i64 n, sv]] w (.int .i64 (netE n A)) := by
  refine PC.mk tyOk Try.func16 rfl (by kernel_rfl) fun w1 E1 => ?_
  replace HA := HA.ext E1
  have EE := Ext.refl w1
  refine Bx.agg fun b2 w2 E2 hb2 Hb _ => ?_
  replace HA := HA.ext E2
  replace EE := EE.ext E2
  have hle := HA.le
  by_cases hm : 40 < n ∨ 200 < A.length
  · rw [netE_many hm]
    repeat' ((conv => whnf); first | (refine Dr.quiet tyOk (by kernel_rfl) ?_) | (refine Rng.mk (by omega) ?_) | (refine Split.pos (by omega) ?_) | (refine Split.neg (by omega) ?_) | (refine Split.mk (fun h => ?_) (fun h => ?_)) | (refine Need.mk (by omega) ?_) | (refine Ints.ln (by assumption) ?_) | (refine Mat.ln (by assumption) ?_) | (refine Ints.ln (Mat.row (by assumption) _ (by omega)) ?_) | (refine Ints.ix (by assumption) (by omega) ?_) | (refine Mat.ix (by assumption) (by omega) ?_) | (refine Ints.ix (Mat.row (by assumption) _ (by omega)) (by omega) ?_) | (refine Ints.ix (c := 0) (by assumption) (by omega) ?_) | (refine Mat.ix (c := 0) (by assumption) (by omega) ?_) | (refine Ints.ix (c := 0) (Mat.row (by assumption) _ (by omega)) (by omega) ?_) | (refine Ints.ixI (by assumption) (by omega) ?_) | (refine Mat.ixI (by assumption) (by omega) ?_) | (refine Ints.ixI (Mat.row (by assumption) _ (by omega)) (by omega) ?_) | (refine Ints.ld (by assumption) (by omega) ?_) | (refine Mat.ld (by assumption) (by omega) ?_) | (refine Ints.ld (Mat.row (by assumption) _ (by omega)) (by omega) ?_) | (refine At.ld (by assumption) rfl ?_) | (refine At.ldN (by assumption) rfl ?_) | (refine Prs.ln (by assumption) ?_) | (refine Trs.ln (by assumption) ?_) | (refine Prs.ix (by assumption) (by omega) ?_) | (refine Trs.ix (by assumption) (by omega) ?_) | (refine Prs.ldN (by assumption) (by omega) ?_) | (refine Trs.ldN (by assumption) (by omega) ?_) | (refine At.ldN (Blk.at (by assumption)) rfl ?_) | (refine At.ld (Blk.at (by assumption)) rfl ?_) | (refine IxA.mk (by omega) ?_) | (refine Sl.ln (Own.sl (by assumption)) ?_) | (refine Ints.ix (Own.sl (by assumption)) (by omega) ?_) | (refine Ints.ixI (Own.sl (by assumption)) (by omega) ?_) | (refine Ints.ld (Own.sl (by assumption)) (by omega) ?_))
    all_goals exact ⟨rfl, EE⟩
  · by_cases h2 : n < 2
    · rw [netE_bad hm (.inl h2)]
      repeat' ((conv => whnf); first | (refine Dr.quiet tyOk (by kernel_rfl) ?_) | (refine Rng.mk (by omega) ?_) | (refine Split.pos (by omega) ?_) | (refine Split.neg (by omega) ?_) | (refine Split.mk (fun h => ?_) (fun h => ?_)) | (refine Need.mk (by omega) ?_) | (refine Ints.ln (by assumption) ?_) | (refine Mat.ln (by assumption) ?_) | (refine Ints.ln (Mat.row (by assumption) _ (by omega)) ?_) | (refine Ints.ix (by assumption) (by omega) ?_) | (refine Mat.ix (by assumption) (by omega) ?_) | (refine Ints.ix (Mat.row (by assumption) _ (by omega)) (by omega) ?_) | (refine Ints.ix (c := 0) (by assumption) (by omega) ?_) | (refine Mat.ix (c := 0) (by assumption) (by omega) ?_) | (refine Ints.ix (c := 0) (Mat.row (by assumption) _ (by omega)) (by omega) ?_) | (refine Ints.ixI (by assumption) (by omega) ?_) | (refine Mat.ixI (by assumption) (by omega) ?_) | (refine Ints.ixI (Mat.row (by assumption) _ (by omega)) (by omega) ?_) | (refine Ints.ld (by assumption) (by omega) ?_) | (refine Mat.ld (by assumption) (by omega) ?_) | (refine Ints.ld (Mat.row (by assumption) _ (by omega)) (by omega) ?_) | (refine At.ld (by assumption) rfl ?_) | (refine At.ldN (by assumption) rfl ?_) | (refine Prs.ln (by assumption) ?_) | (refine Trs.ln (by assumption) ?_) | (refine Prs.ix (by assumption) (by omega) ?_) | (refine Trs.ix (by assumption) (by omega) ?_) | (refine Prs.ldN (by assumption) (by omega) ?_) | (refine Trs.ldN (by assumption) (by omega) ?_) | (refine At.ldN (Blk.at (by assumption)) rfl ?_) | (refine At.ld (Blk.at (by assumption)) rfl ?_) | (refine IxA.mk (by omega) ?_) | (refine Sl.ln (Own.sl (by assumption)) ?_) | (refine Ints.ix (Own.sl (by assumption)) (by omega) ?_) | (refine Ints.ixI (Own.sl (by assumption)) (by omega) ?_) | (refine Ints.ld (Own.sl (by assumption)) (by omega) ?_))
      all_goals exact ⟨rfl, EE⟩
    · repeat' ((conv => whnf); first | (refine Dr.quiet tyOk (by kernel_rfl) ?_) | (refine Rng.mk (by omega) ?_) | (refine Split.pos (by omega) ?_) | (refine Split.neg (by omega) ?_) | (refine Split.mk (fun h => ?_) (fun h => ?_)) | (refine Need.mk (by omega) ?_) | (refine Ints.ln (by assumption) ?_) | (refine Mat.ln (by assumption) ?_) | (refine Ints.ln (Mat.row (by assumption) _ (by omega)) ?_) | (refine Ints.ix (by assumption) (by omega) ?_) | (refine Mat.ix (by assumption) (by omega) ?_) | (refine Ints.ix (Mat.row (by assumption) _ (by omega)) (by omega) ?_) | (refine Ints.ix (c := 0) (by assumption) (by omega) ?_) | (refine Mat.ix (c := 0) (by assumption) (by omega) ?_) | (refine Ints.ix (c := 0) (Mat.row (by assumption) _ (by omega)) (by omega) ?_) | (refine Ints.ixI (by assumption) (by omega) ?_) | (refine Mat.ixI (by assumption) (by omega) ?_) | (refine Ints.ixI (Mat.row (by assumption) _ (by omega)) (by omega) ?_) | (refine Ints.ld (by assumption) (by omega) ?_) | (refine Mat.ld (by assumption) (by omega) ?_) | (refine Ints.ld (Mat.row (by assumption) _ (by omega)) (by omega) ?_) | (refine At.ld (by assumption) rfl ?_) | (refine At.ldN (by assumption) rfl ?_) | (refine Prs.ln (by assumption) ?_) | (refine Trs.ln (by assumption) ?_) | (refine Prs.ix (by assumption) (by omega) ?_) | (refine Trs.ix (by assumption) (by omega) ?_) | (refine Prs.ldN (by assumption) (by omega) ?_) | (refine Trs.ldN (by assumption) (by omega) ?_) | (refine At.ldN (Blk.at (by assumption)) rfl ?_) | (refine At.ld (Blk.at (by assumption)) rfl ?_) | (refine IxA.mk (by omega) ?_) | (refine Sl.ln (Own.sl (by assumption)) ?_) | (refine Ints.ix (Own.sl (by assumption)) (by omega) ?_) | (refine Ints.ixI (Own.sl (by assumption)) (by omega) ?_) | (refine Ints.ld (Own.sl (by assumption)) (by omega) ?_))
      have HA__1 := HA
      have EE__1 := EE
      have Hb__1 := Hb
      have hz1 := Nat.le_trans E1.size EE.size
      refine Lp.mk tyOk [false, false, true, true, true, false, false, false, false, false, false, false, false, false, false, false, false, true, true, true, true, true, true, true, true, true, true, true, true, true, true, true, true, true, true, true, true, true, true, true, true, true, true, true, true, true, true, true, true, true, true, true, true, true, true, true, true, true, true, true, true, true, true, true, true, true, true, true] (fun m fr wr => getK fr 3 fun j => ∃ c : Nat, c ≤ A.length ∧ m = A.length - c ∧ j = .int .i64 (c : Int) ∧ (∀ i, i < c → ¬ badX n (A.getD i (0, 0, 0))) ∧ Ext w2 wr) (A.length) ?_ ?_
      · exact ⟨0, Nat.zero_le _, rfl, rfl, (by first | exact fun _ hi => absurd hi (Nat.not_lt_zero _) | exact fun _ _ hi => absurd hi (Nat.not_lt_zero _) | assumption | exact Own.nil | omega | simp), Ext.refl _⟩
      · intro m w3 u2 u3 u4 u17 u18 u19 u20 u21 u22 u23 u24 u25 u26 u27 u28 u29 u30 u31 u32 u33 u34 u35 u36 u37 u38 u39 u40 u41 u42 u43 u44 u45 u46 u47 u48 u49 u50 u51 u52 u53 u54 u55 u56 u57 u58 u59 u60 u61 u62 u63 u64 u65 u66 u67 hR
        obtain ⟨c, hc, rfl, rfl, hv, EL1⟩ := hR
        replace HA := HA__1.ext EL1
        replace EE := EE__1.ext EL1
        replace Hb := Hb__1.ext EL1
        by_cases hcl : c < A.length
        · repeat' ((conv => whnf); first | (refine Dr.quiet tyOk (by kernel_rfl) ?_) | (refine Rng.mk (by omega) ?_) | (refine Split.pos (by omega) ?_) | (refine Split.neg (by omega) ?_) | (refine Split.mk (fun h => ?_) (fun h => ?_)) | (refine Need.mk (by omega) ?_) | (refine Ints.ln (by assumption) ?_) | (refine Mat.ln (by assumption) ?_) | (refine Ints.ln (Mat.row (by assumption) _ (by omega)) ?_) | (refine Ints.ix (by assumption) (by omega) ?_) | (refine Mat.ix (by assumption) (by omega) ?_) | (refine Ints.ix (Mat.row (by assumption) _ (by omega)) (by omega) ?_) | (refine Ints.ix (c := 0) (by assumption) (by omega) ?_) | (refine Mat.ix (c := 0) (by assumption) (by omega) ?_) | (refine Ints.ix (c := 0) (Mat.row (by assumption) _ (by omega)) (by omega) ?_) | (refine Ints.ixI (by assumption) (by omega) ?_) | (refine Mat.ixI (by assumption) (by omega) ?_) | (refine Ints.ixI (Mat.row (by assumption) _ (by omega)) (by omega) ?_) | (refine Ints.ld (by assumption) (by omega) ?_) | (refine Mat.ld (by assumption) (by omega) ?_) | (refine Ints.ld (Mat.row (by assumption) _ (by omega)) (by omega) ?_) | (refine At.ld (by assumption) rfl ?_) | (refine At.ldN (by assumption) rfl ?_) | (refine Prs.ln (by assumption) ?_) | (refine Trs.ln (by assumption) ?_) | (refine Prs.ix (by assumption) (by omega) ?_) | (refine Trs.ix (by assumption) (by omega) ?_) | (refine Prs.ldN (by assumption) (by omega) ?_) | (refine Trs.ldN (by assumption) (by omega) ?_) | (refine At.ldN (Blk.at (by assumption)) rfl ?_) | (refine At.ld (Blk.at (by assumption)) rfl ?_) | (refine IxA.mk (by omega) ?_) | (refine Sl.ln (Own.sl (by assumption)) ?_) | (refine Ints.ix (Own.sl (by assumption)) (by omega) ?_) | (refine Ints.ixI (Own.sl (by assumption)) (by omega) ?_) | (refine Ints.ld (Own.sl (by assumption)) (by omega) ?_))
          have HA__2 := HA
          have EE__2 := EE
          have Hb__2 := Hb
          have EL1__2 := EL1
          conv => whnf
          refine VE.alloc eArc fun xb w4 E4 hb_xb Hk => ?_
          replace HA := HA.ext E4
          replace EE := EE.ext E4
          replace Hb := Hb.ext E4
          replace EL1 := EL1.ext E4
          have EL2 := E4
          conv => whnf
          refine Blk.all Hk (by kernel_rfl) (by first | decide | simp) rfl rfl (by intro v hv; simp at hv; rcases hv with rfl | rfl | rfl | rfl | rfl <;> rfl) fun w5 G5 Hk' => ?_
          have E5 : Ext w3 w5 := EL2.new G5 fun i hi hk => by omega
          replace Hk := Hk'
          replace HA := HA__2.ext E5
          replace EE := EE__2.ext E5
          replace Hb := Hb__2.ext E5
          replace EL1 := EL1__2.ext E5
          replace EL2 := E5
          by_cases hbd : badX n (A.getD c (0, 0, 0))
          · have hb0 := hbd
            unfold badX at hbd
            rw [netE_bad hm (.inr ⟨c, hcl, hb0⟩)]
            repeat' ((conv => whnf); first | (refine Dr.quiet tyOk (by kernel_rfl) ?_) | (refine Rng.mk (by omega) ?_) | (refine Split.pos (by omega) ?_) | (refine Split.neg (by omega) ?_) | (refine Split.mk (fun h => ?_) (fun h => ?_)) | (refine Need.mk (by omega) ?_) | (refine Ints.ln (by assumption) ?_) | (refine Mat.ln (by assumption) ?_) | (refine Ints.ln (Mat.row (by assumption) _ (by omega)) ?_) | (refine Ints.ix (by assumption) (by omega) ?_) | (refine Mat.ix (by assumption) (by omega) ?_) | (refine Ints.ix (Mat.row (by assumption) _ (by omega)) (by omega) ?_) | (refine Ints.ix (c := 0) (by assumption) (by omega) ?_) | (refine Mat.ix (c := 0) (by assumption) (by omega) ?_) | (refine Ints.ix (c := 0) (Mat.row (by assumption) _ (by omega)) (by omega) ?_) | (refine Ints.ixI (by assumption) (by omega) ?_) | (refine Mat.ixI (by assumption) (by omega) ?_) | (refine Ints.ixI (Mat.row (by assumption) _ (by omega)) (by omega) ?_) | (refine Ints.ld (by assumption) (by omega) ?_) | (refine Mat.ld (by assumption) (by omega) ?_) | (refine Ints.ld (Mat.row (by assumption) _ (by omega)) (by omega) ?_) | (refine At.ld (by assumption) rfl ?_) | (refine At.ldN (by assumption) rfl ?_) | (refine Prs.ln (by assumption) ?_) | (refine Trs.ln (by assumption) ?_) | (refine Prs.ix (by assumption) (by omega) ?_) | (refine Trs.ix (by assumption) (by omega) ?_) | (refine Prs.ldN (by assumption) (by omega) ?_) | (refine Trs.ldN (by assumption) (by omega) ?_) | (refine At.ldN (Blk.at (by assumption)) rfl ?_) | (refine At.ld (Blk.at (by assumption)) rfl ?_) | (refine IxA.mk (by omega) ?_) | (refine Sl.ln (Own.sl (by assumption)) ?_) | (refine Ints.ix (Own.sl (by assumption)) (by omega) ?_) | (refine Ints.ixI (Own.sl (by assumption)) (by omega) ?_) | (refine Ints.ld (Own.sl (by assumption)) (by omega) ?_))
            all_goals exact ⟨rfl, EE⟩
          · have hb0 := hbd
            unfold badX at hbd
            repeat' ((conv => whnf); first | (refine Dr.quiet tyOk (by kernel_rfl) ?_) | (refine Rng.mk (by omega) ?_) | (refine Split.pos (by omega) ?_) | (refine Split.neg (by omega) ?_) | (refine Split.mk (fun h => ?_) (fun h => ?_)) | (refine Need.mk (by omega) ?_) | (refine Ints.ln (by assumption) ?_) | (refine Mat.ln (by assumption) ?_) | (refine Ints.ln (Mat.row (by assumption) _ (by omega)) ?_) | (refine Ints.ix (by assumption) (by omega) ?_) | (refine Mat.ix (by assumption) (by omega) ?_) | (refine Ints.ix (Mat.row (by assumption) _ (by omega)) (by omega) ?_) | (refine Ints.ix (c := 0) (by assumption) (by omega) ?_) | (refine Mat.ix (c := 0) (by assumption) (by omega) ?_) | (refine Ints.ix (c := 0) (Mat.row (by assumption) _ (by omega)) (by omega) ?_) | (refine Ints.ixI (by assumption) (by omega) ?_) | (refine Mat.ixI (by assumption) (by omega) ?_) | (refine Ints.ixI (Mat.row (by assumption) _ (by omega)) (by omega) ?_) | (refine Ints.ld (by assumption) (by omega) ?_) | (refine Mat.ld (by assumption) (by omega) ?_) | (refine Ints.ld (Mat.row (by assumption) _ (by omega)) (by omega) ?_) | (refine At.ld (by assumption) rfl ?_) | (refine At.ldN (by assumption) rfl ?_) | (refine Prs.ln (by assumption) ?_) | (refine Trs.ln (by assumption) ?_) | (refine Prs.ix (by assumption) (by omega) ?_) | (refine Trs.ix (by assumption) (by omega) ?_) | (refine Prs.ldN (by assumption) (by omega) ?_) | (refine Trs.ldN (by assumption) (by omega) ?_) | (refine At.ldN (Blk.at (by assumption)) rfl ?_) | (refine At.ld (Blk.at (by assumption)) rfl ?_) | (refine IxA.mk (by omega) ?_) | (refine Sl.ln (Own.sl (by assumption)) ?_) | (refine Ints.ix (Own.sl (by assumption)) (by omega) ?_) | (refine Ints.ixI (Own.sl (by assumption)) (by omega) ?_) | (refine Ints.ld (Own.sl (by assumption)) (by omega) ?_))
            refine ⟨_, (by omega : A.length - (c + 1) < A.length - c), rfl, c + 1, by omega, rfl, rfl, all_succ hv hb0, EL1⟩
        · repeat' ((conv => whnf); first | (refine Dr.quiet tyOk (by kernel_rfl) ?_) | (refine Rng.mk (by omega) ?_) | (refine Split.pos (by omega) ?_) | (refine Split.neg (by omega) ?_) | (refine Split.mk (fun h => ?_) (fun h => ?_)) | (refine Need.mk (by omega) ?_) | (refine Ints.ln (by assumption) ?_) | (refine Mat.ln (by assumption) ?_) | (refine Ints.ln (Mat.row (by assumption) _ (by omega)) ?_) | (refine Ints.ix (by assumption) (by omega) ?_) | (refine Mat.ix (by assumption) (by omega) ?_) | (refine Ints.ix (Mat.row (by assumption) _ (by omega)) (by omega) ?_) | (refine Ints.ix (c := 0) (by assumption) (by omega) ?_) | (refine Mat.ix (c := 0) (by assumption) (by omega) ?_) | (refine Ints.ix (c := 0) (Mat.row (by assumption) _ (by omega)) (by omega) ?_) | (refine Ints.ixI (by assumption) (by omega) ?_) | (refine Mat.ixI (by assumption) (by omega) ?_) | (refine Ints.ixI (Mat.row (by assumption) _ (by omega)) (by omega) ?_) | (refine Ints.ld (by assumption) (by omega) ?_) | (refine Mat.ld (by assumption) (by omega) ?_) | (refine Ints.ld (Mat.row (by assumption) _ (by omega)) (by omega) ?_) | (refine At.ld (by assumption) rfl ?_) | (refine At.ldN (by assumption) rfl ?_) | (refine Prs.ln (by assumption) ?_) | (refine Trs.ln (by assumption) ?_) | (refine Prs.ix (by assumption) (by omega) ?_) | (refine Trs.ix (by assumption) (by omega) ?_) | (refine Prs.ldN (by assumption) (by omega) ?_) | (refine Trs.ldN (by assumption) (by omega) ?_) | (refine At.ldN (Blk.at (by assumption)) rfl ?_) | (refine At.ld (Blk.at (by assumption)) rfl ?_) | (refine IxA.mk (by omega) ?_) | (refine Sl.ln (Own.sl (by assumption)) ?_) | (refine Ints.ix (Own.sl (by assumption)) (by omega) ?_) | (refine Ints.ixI (Own.sl (by assumption)) (by omega) ?_) | (refine Ints.ld (Own.sl (by assumption)) (by omega) ?_))
          rw [netE_ok hm (by rintro (h | ⟨i, hi, h⟩); exact h2 h; exact hv i (by omega) h)]
          exact ⟨rfl, EE⟩

def greatN (n : Int) (A : List T3) : Prop := (12 < n ∧ n ≤ 40) ∨ (30 < A.length ∧ A.length ≤ 200) ∨ 300 < A.length
theorem greatN_pc {w : World} {n : Int} {sv : Value} {A : List T3} (HA : Trs w sv A) : PC Try.prog 10 [.agg #[.int .i64 n, sv]] w (.bool (tf (greatN n A))) := by
  refine PC.mk tyOk Try.func10 rfl (by kernel_rfl) fun w1 E1 => ?_
  replace HA := HA.ext E1
  have EE := Ext.refl w1
  refine Bx.agg fun b2 w2 E2 hb2 Hb _ => ?_
  replace HA := HA.ext E2
  replace EE := EE.ext E2
  have hle := HA.le
  repeat' ((conv => whnf); first | (refine Dr.quiet tyOk (by kernel_rfl) ?_) | (refine Rng.mk (by omega) ?_) | (refine Split.pos (by omega) ?_) | (refine Split.neg (by omega) ?_) | (refine Split.mk (fun h => ?_) (fun h => ?_)) | (refine Need.mk (by omega) ?_) | (refine Ints.ln (by assumption) ?_) | (refine Mat.ln (by assumption) ?_) | (refine Ints.ln (Mat.row (by assumption) _ (by omega)) ?_) | (refine Ints.ix (by assumption) (by omega) ?_) | (refine Mat.ix (by assumption) (by omega) ?_) | (refine Ints.ix (Mat.row (by assumption) _ (by omega)) (by omega) ?_) | (refine Ints.ix (c := 0) (by assumption) (by omega) ?_) | (refine Mat.ix (c := 0) (by assumption) (by omega) ?_) | (refine Ints.ix (c := 0) (Mat.row (by assumption) _ (by omega)) (by omega) ?_) | (refine Ints.ixI (by assumption) (by omega) ?_) | (refine Mat.ixI (by assumption) (by omega) ?_) | (refine Ints.ixI (Mat.row (by assumption) _ (by omega)) (by omega) ?_) | (refine Ints.ld (by assumption) (by omega) ?_) | (refine Mat.ld (by assumption) (by omega) ?_) | (refine Ints.ld (Mat.row (by assumption) _ (by omega)) (by omega) ?_) | (refine At.ld (by assumption) rfl ?_) | (refine At.ldN (by assumption) rfl ?_) | (refine Prs.ln (by assumption) ?_) | (refine Trs.ln (by assumption) ?_) | (refine Prs.ix (by assumption) (by omega) ?_) | (refine Trs.ix (by assumption) (by omega) ?_) | (refine Prs.ldN (by assumption) (by omega) ?_) | (refine Trs.ldN (by assumption) (by omega) ?_) | (refine At.ldN (Blk.at (by assumption)) rfl ?_) | (refine At.ld (Blk.at (by assumption)) rfl ?_) | (refine IxA.mk (by omega) ?_) | (refine Sl.ln (Own.sl (by assumption)) ?_) | (refine Ints.ix (Own.sl (by assumption)) (by omega) ?_) | (refine Ints.ixI (Own.sl (by assumption)) (by omega) ?_) | (refine Ints.ld (Own.sl (by assumption)) (by omega) ?_))
  all_goals first
    | (rw [tf_t (p := greatN n A) (by unfold greatN; omega)]; exact ⟨rfl, EE⟩)
    | (rw [tf_f (p := greatN n A) (by unfold greatN; omega)]; exact ⟨rfl, EE⟩)

theorem sameints_pc {w : World} {av bv : Value} {a b : List Int} (Ha : Ints w av a) (Hb : Ints w bv b) : PC Try.prog 17 [av, bv] w (.bool (tf (a = b))) := by
  refine PC.mk tyOk Try.func17 rfl (by kernel_rfl) fun w1 E1 => ?_
  replace Ha := Ha.ext E1
  replace Hb := Hb.ext E1
  have EE := Ext.refl w1
  have hle := Ha.le
  have hle2 := Hb.le
  by_cases hl : a.length = b.length
  · repeat' ((conv => whnf); first | (refine Dr.quiet tyOk (by kernel_rfl) ?_) | (refine Rng.mk (by omega) ?_) | (refine Split.pos (by omega) ?_) | (refine Split.neg (by omega) ?_) | (refine Split.mk (fun h => ?_) (fun h => ?_)) | (refine Need.mk (by omega) ?_) | (refine Ints.ln (by assumption) ?_) | (refine Mat.ln (by assumption) ?_) | (refine Ints.ln (Mat.row (by assumption) _ (by omega)) ?_) | (refine Ints.ix (by assumption) (by omega) ?_) | (refine Mat.ix (by assumption) (by omega) ?_) | (refine Ints.ix (Mat.row (by assumption) _ (by omega)) (by omega) ?_) | (refine Ints.ix (c := 0) (by assumption) (by omega) ?_) | (refine Mat.ix (c := 0) (by assumption) (by omega) ?_) | (refine Ints.ix (c := 0) (Mat.row (by assumption) _ (by omega)) (by omega) ?_) | (refine Ints.ixI (by assumption) (by omega) ?_) | (refine Mat.ixI (by assumption) (by omega) ?_) | (refine Ints.ixI (Mat.row (by assumption) _ (by omega)) (by omega) ?_) | (refine Ints.ld (by assumption) (by omega) ?_) | (refine Mat.ld (by assumption) (by omega) ?_) | (refine Ints.ld (Mat.row (by assumption) _ (by omega)) (by omega) ?_) | (refine At.ld (by assumption) rfl ?_) | (refine At.ldN (by assumption) rfl ?_) | (refine Prs.ln (by assumption) ?_) | (refine Trs.ln (by assumption) ?_) | (refine Prs.ix (by assumption) (by omega) ?_) | (refine Trs.ix (by assumption) (by omega) ?_) | (refine Prs.ldN (by assumption) (by omega) ?_) | (refine Trs.ldN (by assumption) (by omega) ?_) | (refine At.ldN (Blk.at (by assumption)) rfl ?_) | (refine At.ld (Blk.at (by assumption)) rfl ?_) | (refine IxA.mk (by omega) ?_) | (refine Sl.ln (Own.sl (by assumption)) ?_) | (refine Ints.ix (Own.sl (by assumption)) (by omega) ?_) | (refine Ints.ixI (Own.sl (by assumption)) (by omega) ?_) | (refine Ints.ld (Own.sl (by assumption)) (by omega) ?_))
    refine Lp.mk tyOk [false, false, false, false, true, true, false, false, false, false, false, true, true, true, true, true, true, true, true, true, true, true, true, true, true, true] (fun m fr wr => getK fr 5 fun j => ∃ c : Nat, c ≤ a.length ∧ m = a.length - c ∧ j = .int .i64 (c : Int) ∧ (∀ i, i < c → a.getD i 0 = b.getD i 0) ∧ wr = w1) (a.length) ?_ ?_
    · exact ⟨0, Nat.zero_le _, rfl, rfl, (by first | exact fun _ hi => absurd hi (Nat.not_lt_zero _) | exact fun _ _ hi => absurd hi (Nat.not_lt_zero _) | assumption | exact Own.nil | omega | simp), rfl⟩
    · intro m w2 u4 u5 u11 u12 u13 u14 u15 u16 u17 u18 u19 u20 u21 u22 u23 u24 u25 hR
      obtain ⟨c, hc, rfl, rfl, hv, rfl⟩ := hR
      by_cases hcl : c < a.length
      · by_cases he : a.getD c 0 = b.getD c 0
        · repeat' ((conv => whnf); first | (refine Dr.quiet tyOk (by kernel_rfl) ?_) | (refine Rng.mk (by omega) ?_) | (refine Split.pos (by omega) ?_) | (refine Split.neg (by omega) ?_) | (refine Split.mk (fun h => ?_) (fun h => ?_)) | (refine Need.mk (by omega) ?_) | (refine Ints.ln (by assumption) ?_) | (refine Mat.ln (by assumption) ?_) | (refine Ints.ln (Mat.row (by assumption) _ (by omega)) ?_) | (refine Ints.ix (by assumption) (by omega) ?_) | (refine Mat.ix (by assumption) (by omega) ?_) | (refine Ints.ix (Mat.row (by assumption) _ (by omega)) (by omega) ?_) | (refine Ints.ix (c := 0) (by assumption) (by omega) ?_) | (refine Mat.ix (c := 0) (by assumption) (by omega) ?_) | (refine Ints.ix (c := 0) (Mat.row (by assumption) _ (by omega)) (by omega) ?_) | (refine Ints.ixI (by assumption) (by omega) ?_) | (refine Mat.ixI (by assumption) (by omega) ?_) | (refine Ints.ixI (Mat.row (by assumption) _ (by omega)) (by omega) ?_) | (refine Ints.ld (by assumption) (by omega) ?_) | (refine Mat.ld (by assumption) (by omega) ?_) | (refine Ints.ld (Mat.row (by assumption) _ (by omega)) (by omega) ?_) | (refine At.ld (by assumption) rfl ?_) | (refine At.ldN (by assumption) rfl ?_) | (refine Prs.ln (by assumption) ?_) | (refine Trs.ln (by assumption) ?_) | (refine Prs.ix (by assumption) (by omega) ?_) | (refine Trs.ix (by assumption) (by omega) ?_) | (refine Prs.ldN (by assumption) (by omega) ?_) | (refine Trs.ldN (by assumption) (by omega) ?_) | (refine At.ldN (Blk.at (by assumption)) rfl ?_) | (refine At.ld (Blk.at (by assumption)) rfl ?_) | (refine IxA.mk (by omega) ?_) | (refine Sl.ln (Own.sl (by assumption)) ?_) | (refine Ints.ix (Own.sl (by assumption)) (by omega) ?_) | (refine Ints.ixI (Own.sl (by assumption)) (by omega) ?_) | (refine Ints.ld (Own.sl (by assumption)) (by omega) ?_))
          refine ⟨_, (by omega : a.length - (c + 1) < a.length - c), rfl, c + 1, by omega, rfl, rfl, all_succ hv he, rfl⟩
        · rw [tf_f (p := a = b) (by rintro rfl; exact he rfl)]
          repeat' ((conv => whnf); first | (refine Dr.quiet tyOk (by kernel_rfl) ?_) | (refine Rng.mk (by omega) ?_) | (refine Split.pos (by omega) ?_) | (refine Split.neg (by omega) ?_) | (refine Split.mk (fun h => ?_) (fun h => ?_)) | (refine Need.mk (by omega) ?_) | (refine Ints.ln (by assumption) ?_) | (refine Mat.ln (by assumption) ?_) | (refine Ints.ln (Mat.row (by assumption) _ (by omega)) ?_) | (refine Ints.ix (by assumption) (by omega) ?_) | (refine Mat.ix (by assumption) (by omega) ?_) | (refine Ints.ix (Mat.row (by assumption) _ (by omega)) (by omega) ?_) | (refine Ints.ix (c := 0) (by assumption) (by omega) ?_) | (refine Mat.ix (c := 0) (by assumption) (by omega) ?_) | (refine Ints.ix (c := 0) (Mat.row (by assumption) _ (by omega)) (by omega) ?_) | (refine Ints.ixI (by assumption) (by omega) ?_) | (refine Mat.ixI (by assumption) (by omega) ?_) | (refine Ints.ixI (Mat.row (by assumption) _ (by omega)) (by omega) ?_) | (refine Ints.ld (by assumption) (by omega) ?_) | (refine Mat.ld (by assumption) (by omega) ?_) | (refine Ints.ld (Mat.row (by assumption) _ (by omega)) (by omega) ?_) | (refine At.ld (by assumption) rfl ?_) | (refine At.ldN (by assumption) rfl ?_) | (refine Prs.ln (by assumption) ?_) | (refine Trs.ln (by assumption) ?_) | (refine Prs.ix (by assumption) (by omega) ?_) | (refine Trs.ix (by assumption) (by omega) ?_) | (refine Prs.ldN (by assumption) (by omega) ?_) | (refine Trs.ldN (by assumption) (by omega) ?_) | (refine At.ldN (Blk.at (by assumption)) rfl ?_) | (refine At.ld (Blk.at (by assumption)) rfl ?_) | (refine IxA.mk (by omega) ?_) | (refine Sl.ln (Own.sl (by assumption)) ?_) | (refine Ints.ix (Own.sl (by assumption)) (by omega) ?_) | (refine Ints.ixI (Own.sl (by assumption)) (by omega) ?_) | (refine Ints.ld (Own.sl (by assumption)) (by omega) ?_))
          exact ⟨rfl, EE⟩
      · repeat' ((conv => whnf); first | (refine Dr.quiet tyOk (by kernel_rfl) ?_) | (refine Rng.mk (by omega) ?_) | (refine Split.pos (by omega) ?_) | (refine Split.neg (by omega) ?_) | (refine Split.mk (fun h => ?_) (fun h => ?_)) | (refine Need.mk (by omega) ?_) | (refine Ints.ln (by assumption) ?_) | (refine Mat.ln (by assumption) ?_) | (refine Ints.ln (Mat.row (by assumption) _ (by omega)) ?_) | (refine Ints.ix (by assumption) (by omega) ?_) | (refine Mat.ix (by assumption) (by omega) ?_) | (refine Ints.ix (Mat.row (by assumption) _ (by omega)) (by omega) ?_) | (refine Ints.ix (c := 0) (by assumption) (by omega) ?_) | (refine Mat.ix (c := 0) (by assumption) (by omega) ?_) | (refine Ints.ix (c := 0) (Mat.row (by assumption) _ (by omega)) (by omega) ?_) | (refine Ints.ixI (by assumption) (by omega) ?_) | (refine Mat.ixI (by assumption) (by omega) ?_) | (refine Ints.ixI (Mat.row (by assumption) _ (by omega)) (by omega) ?_) | (refine Ints.ld (by assumption) (by omega) ?_) | (refine Mat.ld (by assumption) (by omega) ?_) | (refine Ints.ld (Mat.row (by assumption) _ (by omega)) (by omega) ?_) | (refine At.ld (by assumption) rfl ?_) | (refine At.ldN (by assumption) rfl ?_) | (refine Prs.ln (by assumption) ?_) | (refine Trs.ln (by assumption) ?_) | (refine Prs.ix (by assumption) (by omega) ?_) | (refine Trs.ix (by assumption) (by omega) ?_) | (refine Prs.ldN (by assumption) (by omega) ?_) | (refine Trs.ldN (by assumption) (by omega) ?_) | (refine At.ldN (Blk.at (by assumption)) rfl ?_) | (refine At.ld (Blk.at (by assumption)) rfl ?_) | (refine IxA.mk (by omega) ?_) | (refine Sl.ln (Own.sl (by assumption)) ?_) | (refine Ints.ix (Own.sl (by assumption)) (by omega) ?_) | (refine Ints.ixI (Own.sl (by assumption)) (by omega) ?_) | (refine Ints.ld (Own.sl (by assumption)) (by omega) ?_))
        rw [tf_t (p := a = b) (ext_getD 0 (by omega) fun i hi => hv i (by omega))]; exact ⟨rfl, EE⟩
  · rw [tf_f (p := a = b) (fun h => hl (by rw [h]))]
    repeat' ((conv => whnf); first | (refine Dr.quiet tyOk (by kernel_rfl) ?_) | (refine Rng.mk (by omega) ?_) | (refine Split.pos (by omega) ?_) | (refine Split.neg (by omega) ?_) | (refine Split.mk (fun h => ?_) (fun h => ?_)) | (refine Need.mk (by omega) ?_) | (refine Ints.ln (by assumption) ?_) | (refine Mat.ln (by assumption) ?_) | (refine Ints.ln (Mat.row (by assumption) _ (by omega)) ?_) | (refine Ints.ix (by assumption) (by omega) ?_) | (refine Mat.ix (by assumption) (by omega) ?_) | (refine Ints.ix (Mat.row (by assumption) _ (by omega)) (by omega) ?_) | (refine Ints.ix (c := 0) (by assumption) (by omega) ?_) | (refine Mat.ix (c := 0) (by assumption) (by omega) ?_) | (refine Ints.ix (c := 0) (Mat.row (by assumption) _ (by omega)) (by omega) ?_) | (refine Ints.ixI (by assumption) (by omega) ?_) | (refine Mat.ixI (by assumption) (by omega) ?_) | (refine Ints.ixI (Mat.row (by assumption) _ (by omega)) (by omega) ?_) | (refine Ints.ld (by assumption) (by omega) ?_) | (refine Mat.ld (by assumption) (by omega) ?_) | (refine Ints.ld (Mat.row (by assumption) _ (by omega)) (by omega) ?_) | (refine At.ld (by assumption) rfl ?_) | (refine At.ldN (by assumption) rfl ?_) | (refine Prs.ln (by assumption) ?_) | (refine Trs.ln (by assumption) ?_) | (refine Prs.ix (by assumption) (by omega) ?_) | (refine Trs.ix (by assumption) (by omega) ?_) | (refine Prs.ldN (by assumption) (by omega) ?_) | (refine Trs.ldN (by assumption) (by omega) ?_) | (refine At.ldN (Blk.at (by assumption)) rfl ?_) | (refine At.ld (Blk.at (by assumption)) rfl ?_) | (refine IxA.mk (by omega) ?_) | (refine Sl.ln (Own.sl (by assumption)) ?_) | (refine Ints.ix (Own.sl (by assumption)) (by omega) ?_) | (refine Ints.ixI (Own.sl (by assumption)) (by omega) ?_) | (refine Ints.ld (Own.sl (by assumption)) (by omega) ?_))
    exact ⟨rfl, EE⟩

theorem samebools_pc {w : World} {av bv : Value} {a b : List Bool} (Ha : Bls w av a) (Hb : Bls w bv b) (h : a = b) : PC Try.prog 18 [av, bv] w (.bool true) := by
  subst h
  refine PC.mk tyOk Try.func18 rfl (by kernel_rfl) fun w1 E1 => ?_
  replace Ha := Ha.ext E1
  replace Hb := Hb.ext E1
  have EE := Ext.refl w1
  have hle := Ha.le
  repeat' ((conv => whnf); first | (refine Dr.quiet tyOk (by kernel_rfl) ?_) | (refine Bls.ln (by assumption) ?_) | (refine Rng.mk (by omega) ?_) | (refine Split.pos (by omega) ?_) | (refine Split.neg (by omega) ?_) | (refine Split.mk (fun h => ?_) (fun h => ?_)) | (refine Need.mk (by omega) ?_) | (refine Ints.ln (by assumption) ?_) | (refine Mat.ln (by assumption) ?_) | (refine Ints.ln (Mat.row (by assumption) _ (by omega)) ?_) | (refine Ints.ix (by assumption) (by omega) ?_) | (refine Mat.ix (by assumption) (by omega) ?_) | (refine Ints.ix (Mat.row (by assumption) _ (by omega)) (by omega) ?_) | (refine Ints.ix (c := 0) (by assumption) (by omega) ?_) | (refine Mat.ix (c := 0) (by assumption) (by omega) ?_) | (refine Ints.ix (c := 0) (Mat.row (by assumption) _ (by omega)) (by omega) ?_) | (refine Ints.ixI (by assumption) (by omega) ?_) | (refine Mat.ixI (by assumption) (by omega) ?_) | (refine Ints.ixI (Mat.row (by assumption) _ (by omega)) (by omega) ?_) | (refine Ints.ld (by assumption) (by omega) ?_) | (refine Mat.ld (by assumption) (by omega) ?_) | (refine Ints.ld (Mat.row (by assumption) _ (by omega)) (by omega) ?_) | (refine At.ld (by assumption) rfl ?_) | (refine At.ldN (by assumption) rfl ?_) | (refine Prs.ln (by assumption) ?_) | (refine Trs.ln (by assumption) ?_) | (refine Prs.ix (by assumption) (by omega) ?_) | (refine Trs.ix (by assumption) (by omega) ?_) | (refine Prs.ldN (by assumption) (by omega) ?_) | (refine Trs.ldN (by assumption) (by omega) ?_) | (refine At.ldN (Blk.at (by assumption)) rfl ?_) | (refine At.ld (Blk.at (by assumption)) rfl ?_) | (refine IxA.mk (by omega) ?_) | (refine Sl.ln (Own.sl (by assumption)) ?_) | (refine Ints.ix (Own.sl (by assumption)) (by omega) ?_) | (refine Ints.ixI (Own.sl (by assumption)) (by omega) ?_) | (refine Ints.ld (Own.sl (by assumption)) (by omega) ?_))
  refine Lp.mk tyOk [false, false, false, false, true, true, false, false, false, false, false, true, true, true, true, true, true, true, true, true, true, true, true, true, true, true] (fun m fr wr => getK fr 5 fun j => ∃ c : Nat, c ≤ a.length ∧ m = a.length - c ∧ j = .int .i64 (c : Int) ∧ wr = w1) (a.length) ?_ ?_
  · exact ⟨0, Nat.zero_le _, rfl, rfl, rfl⟩
  · intro m w2 u4 u5 u11 u12 u13 u14 u15 u16 u17 u18 u19 u20 u21 u22 u23 u24 u25 hR
    obtain ⟨c, hc, rfl, rfl, rfl⟩ := hR
    by_cases hc2 : c < a.length
    · cases hv : a.getD c false with
      | true =>
        repeat' ((conv => whnf); first | (refine Dr.quiet tyOk (by kernel_rfl) ?_) | (refine Bls.ln (by assumption) ?_) | (refine Bls.ix Ha (by omega) ?_) | (refine Bls.ix Hb (by omega) ?_) | (refine Bls.ldv Ha hv (by omega) ?_) | (refine Bls.ldv Hb hv (by omega) ?_) | (refine Rng.mk (by omega) ?_) | (refine Split.pos (by omega) ?_) | (refine Split.neg (by omega) ?_) | (refine Split.mk (fun h => ?_) (fun h => ?_)) | (refine Need.mk (by omega) ?_) | (refine Ints.ln (by assumption) ?_) | (refine Mat.ln (by assumption) ?_) | (refine Ints.ln (Mat.row (by assumption) _ (by omega)) ?_) | (refine Ints.ix (by assumption) (by omega) ?_) | (refine Mat.ix (by assumption) (by omega) ?_) | (refine Ints.ix (Mat.row (by assumption) _ (by omega)) (by omega) ?_) | (refine Ints.ix (c := 0) (by assumption) (by omega) ?_) | (refine Mat.ix (c := 0) (by assumption) (by omega) ?_) | (refine Ints.ix (c := 0) (Mat.row (by assumption) _ (by omega)) (by omega) ?_) | (refine Ints.ixI (by assumption) (by omega) ?_) | (refine Mat.ixI (by assumption) (by omega) ?_) | (refine Ints.ixI (Mat.row (by assumption) _ (by omega)) (by omega) ?_) | (refine Ints.ld (by assumption) (by omega) ?_) | (refine Mat.ld (by assumption) (by omega) ?_) | (refine Ints.ld (Mat.row (by assumption) _ (by omega)) (by omega) ?_) | (refine At.ld (by assumption) rfl ?_) | (refine At.ldN (by assumption) rfl ?_) | (refine Prs.ln (by assumption) ?_) | (refine Trs.ln (by assumption) ?_) | (refine Prs.ix (by assumption) (by omega) ?_) | (refine Trs.ix (by assumption) (by omega) ?_) | (refine Prs.ldN (by assumption) (by omega) ?_) | (refine Trs.ldN (by assumption) (by omega) ?_) | (refine At.ldN (Blk.at (by assumption)) rfl ?_) | (refine At.ld (Blk.at (by assumption)) rfl ?_) | (refine IxA.mk (by omega) ?_) | (refine Sl.ln (Own.sl (by assumption)) ?_) | (refine Ints.ix (Own.sl (by assumption)) (by omega) ?_) | (refine Ints.ixI (Own.sl (by assumption)) (by omega) ?_) | (refine Ints.ld (Own.sl (by assumption)) (by omega) ?_))
        refine ⟨_, (by omega : a.length - (c + 1) < a.length - c), rfl, c + 1, by omega, rfl, rfl, rfl⟩
      | false =>
        repeat' ((conv => whnf); first | (refine Dr.quiet tyOk (by kernel_rfl) ?_) | (refine Bls.ln (by assumption) ?_) | (refine Bls.ix Ha (by omega) ?_) | (refine Bls.ix Hb (by omega) ?_) | (refine Bls.ldv Ha hv (by omega) ?_) | (refine Bls.ldv Hb hv (by omega) ?_) | (refine Rng.mk (by omega) ?_) | (refine Split.pos (by omega) ?_) | (refine Split.neg (by omega) ?_) | (refine Split.mk (fun h => ?_) (fun h => ?_)) | (refine Need.mk (by omega) ?_) | (refine Ints.ln (by assumption) ?_) | (refine Mat.ln (by assumption) ?_) | (refine Ints.ln (Mat.row (by assumption) _ (by omega)) ?_) | (refine Ints.ix (by assumption) (by omega) ?_) | (refine Mat.ix (by assumption) (by omega) ?_) | (refine Ints.ix (Mat.row (by assumption) _ (by omega)) (by omega) ?_) | (refine Ints.ix (c := 0) (by assumption) (by omega) ?_) | (refine Mat.ix (c := 0) (by assumption) (by omega) ?_) | (refine Ints.ix (c := 0) (Mat.row (by assumption) _ (by omega)) (by omega) ?_) | (refine Ints.ixI (by assumption) (by omega) ?_) | (refine Mat.ixI (by assumption) (by omega) ?_) | (refine Ints.ixI (Mat.row (by assumption) _ (by omega)) (by omega) ?_) | (refine Ints.ld (by assumption) (by omega) ?_) | (refine Mat.ld (by assumption) (by omega) ?_) | (refine Ints.ld (Mat.row (by assumption) _ (by omega)) (by omega) ?_) | (refine At.ld (by assumption) rfl ?_) | (refine At.ldN (by assumption) rfl ?_) | (refine Prs.ln (by assumption) ?_) | (refine Trs.ln (by assumption) ?_) | (refine Prs.ix (by assumption) (by omega) ?_) | (refine Trs.ix (by assumption) (by omega) ?_) | (refine Prs.ldN (by assumption) (by omega) ?_) | (refine Trs.ldN (by assumption) (by omega) ?_) | (refine At.ldN (Blk.at (by assumption)) rfl ?_) | (refine At.ld (Blk.at (by assumption)) rfl ?_) | (refine IxA.mk (by omega) ?_) | (refine Sl.ln (Own.sl (by assumption)) ?_) | (refine Ints.ix (Own.sl (by assumption)) (by omega) ?_) | (refine Ints.ixI (Own.sl (by assumption)) (by omega) ?_) | (refine Ints.ld (Own.sl (by assumption)) (by omega) ?_))
        refine ⟨_, (by omega : a.length - (c + 1) < a.length - c), rfl, c + 1, by omega, rfl, rfl, rfl⟩
    · repeat' ((conv => whnf); first | (refine Dr.quiet tyOk (by kernel_rfl) ?_) | (refine Bls.ln (by assumption) ?_) | (refine Rng.mk (by omega) ?_) | (refine Split.pos (by omega) ?_) | (refine Split.neg (by omega) ?_) | (refine Split.mk (fun h => ?_) (fun h => ?_)) | (refine Need.mk (by omega) ?_) | (refine Ints.ln (by assumption) ?_) | (refine Mat.ln (by assumption) ?_) | (refine Ints.ln (Mat.row (by assumption) _ (by omega)) ?_) | (refine Ints.ix (by assumption) (by omega) ?_) | (refine Mat.ix (by assumption) (by omega) ?_) | (refine Ints.ix (Mat.row (by assumption) _ (by omega)) (by omega) ?_) | (refine Ints.ix (c := 0) (by assumption) (by omega) ?_) | (refine Mat.ix (c := 0) (by assumption) (by omega) ?_) | (refine Ints.ix (c := 0) (Mat.row (by assumption) _ (by omega)) (by omega) ?_) | (refine Ints.ixI (by assumption) (by omega) ?_) | (refine Mat.ixI (by assumption) (by omega) ?_) | (refine Ints.ixI (Mat.row (by assumption) _ (by omega)) (by omega) ?_) | (refine Ints.ld (by assumption) (by omega) ?_) | (refine Mat.ld (by assumption) (by omega) ?_) | (refine Ints.ld (Mat.row (by assumption) _ (by omega)) (by omega) ?_) | (refine At.ld (by assumption) rfl ?_) | (refine At.ldN (by assumption) rfl ?_) | (refine Prs.ln (by assumption) ?_) | (refine Trs.ln (by assumption) ?_) | (refine Prs.ix (by assumption) (by omega) ?_) | (refine Trs.ix (by assumption) (by omega) ?_) | (refine Prs.ldN (by assumption) (by omega) ?_) | (refine Trs.ldN (by assumption) (by omega) ?_) | (refine At.ldN (Blk.at (by assumption)) rfl ?_) | (refine At.ld (Blk.at (by assumption)) rfl ?_) | (refine IxA.mk (by omega) ?_) | (refine Sl.ln (Own.sl (by assumption)) ?_) | (refine Ints.ix (Own.sl (by assumption)) (by omega) ?_) | (refine Ints.ixI (Own.sl (by assumption)) (by omega) ?_) | (refine Ints.ld (Own.sl (by assumption)) (by omega) ?_))
      exact ⟨rfl, EE⟩
end Go.Proofs.Ytpdldifklgpikaa
set_option linter.unusedVariables false
set_option linter.unusedSimpArgs false
namespace Go.Eng
open Go.RowKit

section
variable {P : Program} {w w' : World} {v : Value} {B s n : Nat} {xs : List Value} {t e : TypeId}

theorem Own.cut {h : Nat} (H : Eng.Own B e s w v n xs) (hh : h ≤ n) : Eng.Own B e s w (view v s 0 h) h (xs.take (h * s)) := by
  have hm : h * s ≤ n * s := Nat.mul_le_mul_right s hh
  refine ⟨by rw [List.length_take, H.1]; omega, ?_⟩
  rcases H.2 with ⟨rfl, rfl⟩ | ⟨g, cap, cur, rfl, h1, h2, h3, h4, h5, h6⟩
  · obtain rfl : h = 0 := by omega
    exact .inl ⟨rfl, rfl⟩
  · refine .inr ⟨g, cap, cur, ?_, h1, h2, by omega, h4, h5, ?_⟩
    · show sliced (some ⟨g, 0, none⟩) 0 h cap s = _
      unfold sliced
      have e0 : (⟨g, 0, none⟩ : Addr).add (0 * s) = ⟨g, 0, none⟩ := by rw [Nat.zero_mul]; rfl
      simp only [Option.map_some, e0, Nat.sub_zero, ite_self]
    · rw [← h6, List.take_take, Nat.min_eq_left hm]

theorem Own.put {k : Nat} {x : Value} (h : Eng.Own B e s w v n xs) (hk : k < xs.length) (hx : x.oneCell' = true) : (∃ u, w.cell? (ea v k) = some u) ∧ w.frozen? (ea v k) = false ∧ Gr (fun j => v.ownBlock = some j) w (w.setCell (ea v k) x) ∧ Eng.Own B e s (w.setCell (ea v k) x) v n (xs.set k x) := by
  have := Own.set (K := fun w' => Gr (fun j => v.ownBlock = some j) w w' ∧ Eng.Own B e s w' v n (xs.set k x)) h hk hx (fun w' hg h' => ⟨hg, h'⟩)
  simp only [St] at this
  exact ⟨this.2.1, this.2.2.1, (this.2.2.2 w (Ext.refl w)).1, (this.2.2.2 w (Ext.refl w)).2⟩

theorem clear_own {z : Value} (hz : z.oneCell' = true) {g cap : Nat} (hv : v = .slice (some ⟨g, 0, none⟩) n cap) : ∀ (m i : Nat) (w : World) (xs : List Value), Eng.Own B e 1 w v n xs → i + m ≤ n →
    ∃ ys, Gr (fun j => v.ownBlock = some j) w (w.setCells g i (List.replicate m z)) ∧ Eng.Own B e 1 (w.setCells g i (List.replicate m z)) v n ys ∧ ys.take i = xs.take i
  | 0, i, w, xs, h, _ => ⟨xs, Gr.ofExt (Ext.refl w), h, rfl⟩
  | m + 1, i, w, xs, h, hi => by
    have hl := h.1
    have hea : ea v i = ⟨g, i, none⟩ := by
      subst hv; simp only [ea]; unfold Addr.add; split <;> simp_all
    obtain ⟨_, _, hg, ho⟩ := Own.put h (k := i) (by omega) hz
    rw [hea] at hg ho
    obtain ⟨ys, hg2, ho2, ht⟩ := clear_own hz hv m (i + 1) _ _ ho (by omega)
    refine ⟨ys, hg.trans hg2, ho2, ?_⟩
    have e1 : ys.take i = (ys.take (i + 1)).take i := by rw [List.take_take, Nat.min_eq_left (by omega)]
    rw [e1, ht, List.take_take, Nat.min_eq_left (by omega)]
    rw [List.take_set]
    exact List.set_eq_of_length_le (by rw [List.length_take]; omega)

/-- 'clear(s[i:])', s the call's own row of one-cell elements, i short of its end. -/
theorem VE.clear {i b : Nat} {z : Value} {T : TypeId} {K : Value → World → Prop} (ht : P.underlying t = some (.slice e)) (he : Elem P e z 1 b) (hz : z.cells = #[z]) (hz1 : z.oneCell' = true) (H : Eng.Own B e 1 w v n xs) (hi : i < n)
    (hk : ∀ w' ys, Gr (fun j => v.ownBlock = some j) w w' → Eng.Own B e 1 w' v n ys → ys.take i = xs.take i → K (.tuple #[]) w') : VE P (Builtin.clear_ #[t] T #[view v 1 i n]) w K := by
  simp only [VE]
  intro w1 hw1
  have H1 := Own.ext H hw1
  rcases H1.2 with ⟨rfl, h0⟩ | ⟨g, cap, cur, hv, h1, h2, h3, h4, h5, h6⟩
  · omega
  · obtain ⟨ys, hg, ho, hy⟩ := clear_own hz1 hv (n - i) i w1 xs H1 (by omega)
    obtain ⟨i0, hinf, hzv, _, _⟩ := he.info
    have hzr : ∀ w, (zeroValue e).run P w = .ok z w := fun w => by simp [zeroValue, typeInfo, Sem.run_bind, run_program, hinf, hzv]
    have hvw : view v 1 i n = .slice (some ⟨g, i, none⟩) (n - i) (cap - i) := by
      subst hv
      show sliced (some ⟨g, 0, none⟩) i n cap 1 = _
      unfold sliced
      have e0 : (⟨g, 0, none⟩ : Addr).add (i * 1) = ⟨g, i, none⟩ := by rw [Nat.mul_one]; unfold Addr.add; split <;> simp_all
      rw [if_neg (by omega)]
      simp only [Option.map_some, e0]
    have hcell : ∀ j, j < n - i → (w1.cell? ⟨g, i + j, none⟩).isSome = true ∧ w1.frozen? ⟨g, i + j, none⟩ = false := fun j hj => by
      have hl := H1.1
      obtain ⟨⟨u, hu⟩, hf, _, _⟩ := Own.put H1 (k := i + j) (x := z) (by omega) hz1
      have hea : ea v (i + j) = ⟨g, i + j, none⟩ := by
        subst hv; simp only [ea]; unfold Addr.add; split <;> simp_all
      rw [hea] at hu hf
      exact ⟨by rw [hu]; rfl, hf⟩
    have hrun := Go.Lib.run_clear_slice (P := P) w1 t e T z ht hzr hz hz1 g i (n - i) (cap - i) (by omega) (fun j hj => (hcell j hj).1) (fun j hj => (hcell j hj).2)
    rw [← hvw] at hrun
    exact ⟨_, _, hrun, _, Ext.refl _, hk _ ys ((Gr.ofExt hw1).trans hg) ho hy⟩
end
end Go.Eng
set_option linter.unusedVariables false
set_option linter.unusedSimpArgs false
namespace Go.Proofs.Ytpdldifklgpikaa
open Go.Eng
set_option maxRecDepth 100000
set_option maxHeartbeats 4000000

abbrev OZ (B : Nat) (w : World) (v : Value) (l : List Bool) : Prop := Go.Eng.Own B 4 1 w v l.length (l.map bv)
theorem OZ.set {B k : Nat} {x : Bool} {w : World} {v : Value} {l : List Bool} {K : World → Prop} (h : OZ B w v l) (hk : k < l.length) (hK : ∀ w', Gr (fun j => v.ownBlock = some j) w w' → OZ B w' v (l.set k x) → K w') : St w (ea v k) (.bool x) K :=
  Own.set h (by rw [List.length_map]; exact hk) rfl fun w' hg h' => hK w' hg (by
    rw [show (l.map bv).set k (.bool x) = (l.set k x).map bv by rw [List.map_set]; rfl] at h'
    show Go.Eng.Own B 4 1 w' v (l.set k x).length _
    rw [List.length_set]; exact h')
theorem OZ.made {B n : Nat} {w : World} {v : Value} (h : Go.Eng.Own B 4 1 w v n (List.replicate n (.bool false))) : OZ B w v (List.replicate n false) := by
  show Go.Eng.Own B 4 1 w v (List.replicate n false).length ((List.replicate n false).map bv)
  rw [List.length_replicate, List.map_replicate]; exact h
theorem Ints.ldv {w : World} {v : Value} {l : List Int} {K : Value → Prop} {c : Nat} {x : Int} (h : Ints w v l) (hv : l.getD c 0 = x) (hc : c < l.length) (hk : K (.int .i64 x)) : Ld w (ea v c) K :=
  Ints.ld h hc (by rw [hv]; exact hk)
abbrev OS (B : Nat) (w : World) (v : Value) (l : List Int) : Prop := Go.Eng.Own B 3 1 w v l.length (l.map i64v)
theorem snoc_of {l : List Int} (h : l ≠ []) : ∃ l0 x, l = l0 ++ [x] := ⟨l.dropLast, l.getLast h, (List.dropLast_concat_getLast h).symm⟩

theorem greach_rc {w : World} {N : Nat} {sv fv : Value} {A : List T3} {f : List Int} (HA : Trs w sv A) (Hf : Ints w fv f) (hk : NetOk N A) (hF : isF A f) :
    RC Try.prog 34 [.agg #[.int .i64 (N : Int), sv], fv] w NoB (fun u w' => OZ w.heap.size w' u (rchL N A f)) := by
  refine RC.mk tyOk Try.func34 rfl (by kernel_rfl) fun w1 E1 => ?_
  replace HA := HA.ext E1
  replace Hf := Hf.ext E1
  have EE := Ext.refl w1
  refine Bx.agg fun b2 w2 E2 hb2 Hb _ => ?_
  replace HA := HA.ext E2
  replace Hf := Hf.ext E2
  replace EE := EE.ext E2
  have hz1 := EE.size
  have hz0 : w.heap.size ≤ w1.heap.size := by first | omega | exact E1.size
  have hle := HA.le
  have hlf := Hf.le
  have h40 := hk.n40
  have h200 := hk.a200
  have hn2 := hk.n2
  have hfl := hF.1
  obtain ⟨hst, hcn⟩ := RI.start (f := f) hk
  repeat' ((conv => whnf); first | (refine Dr.quiet tyOk (by kernel_rfl) ?_) | (refine Rng.mk (by omega) ?_) | (refine Split.pos (by omega) ?_) | (refine Split.neg (by omega) ?_) | (refine Split.mk (fun h => ?_) (fun h => ?_)) | (refine Need.mk (by omega) ?_) | (refine Ints.ln (by assumption) ?_) | (refine Mat.ln (by assumption) ?_) | (refine Ints.ln (Mat.row (by assumption) _ (by omega)) ?_) | (refine Ints.ix (by assumption) (by omega) ?_) | (refine Mat.ix (by assumption) (by omega) ?_) | (refine Ints.ix (Mat.row (by assumption) _ (by omega)) (by omega) ?_) | (refine Ints.ix (c := 0) (by assumption) (by omega) ?_) | (refine Mat.ix (c := 0) (by assumption) (by omega) ?_) | (refine Ints.ix (c := 0) (Mat.row (by assumption) _ (by omega)) (by omega) ?_) | (refine Ints.ixI (by assumption) (by omega) ?_) | (refine Mat.ixI (by assumption) (by omega) ?_) | (refine Ints.ixI (Mat.row (by assumption) _ (by omega)) (by omega) ?_) | (refine Ints.ld (by assumption) (by omega) ?_) | (refine Mat.ld (by assumption) (by omega) ?_) | (refine Ints.ld (Mat.row (by assumption) _ (by omega)) (by omega) ?_) | (refine At.ld (by assumption) rfl ?_) | (refine At.ldN (by assumption) rfl ?_) | (refine Prs.ln (by assumption) ?_) | (refine Trs.ln (by assumption) ?_) | (refine Prs.ix (by assumption) (by omega) ?_) | (refine Trs.ix (by assumption) (by omega) ?_) | (refine Prs.ldN (by assumption) (by omega) ?_) | (refine Trs.ldN (by assumption) (by omega) ?_) | (refine At.ldN (Blk.at (by assumption)) rfl ?_) | (refine At.ld (Blk.at (by assumption)) rfl ?_) | (refine IxA.mk (by omega) ?_) | (refine Sl.ln (Own.sl (by assumption)) ?_) | (refine Ints.ix (Own.sl (by assumption)) (by omega) ?_) | (refine Ints.ixI (Own.sl (by assumption)) (by omega) ?_) | (refine Ints.ld (Own.sl (by assumption)) (by omega) ?_))
  have HA__1 := HA
  have Hf__1 := Hf
  have EE__1 := EE
  have Hb__1 := Hb
  conv => whnf
  refine VE.made (n := N) Try.underlying32 eBool rfl (by omega) (by omega) fun rv w3 E3 HO hb_rv => ?_
  replace HA := HA.ext E3
  replace Hf := Hf.ext E3
  replace EE := EE.ext E3
  replace Hb := Hb.ext E3
  replace HO := OZ.made (HO _ (Nat.le_refl _))
  have EL1 := E3
  have hrl : (List.replicate N false).length = N := List.length_replicate
  repeat' ((conv => whnf); first | (refine Dr.quiet tyOk (by kernel_rfl) ?_) | (refine Bls.ix (c := 0) (Own.sl HO) (by omega) ?_) | (refine Rng.mk (by omega) ?_) | (refine Split.pos (by omega) ?_) | (refine Split.neg (by omega) ?_) | (refine Split.mk (fun h => ?_) (fun h => ?_)) | (refine Need.mk (by omega) ?_) | (refine Ints.ln (by assumption) ?_) | (refine Mat.ln (by assumption) ?_) | (refine Ints.ln (Mat.row (by assumption) _ (by omega)) ?_) | (refine Ints.ix (by assumption) (by omega) ?_) | (refine Mat.ix (by assumption) (by omega) ?_) | (refine Ints.ix (Mat.row (by assumption) _ (by omega)) (by omega) ?_) | (refine Ints.ix (c := 0) (by assumption) (by omega) ?_) | (refine Mat.ix (c := 0) (by assumption) (by omega) ?_) | (refine Ints.ix (c := 0) (Mat.row (by assumption) _ (by omega)) (by omega) ?_) | (refine Ints.ixI (by assumption) (by omega) ?_) | (refine Mat.ixI (by assumption) (by omega) ?_) | (refine Ints.ixI (Mat.row (by assumption) _ (by omega)) (by omega) ?_) | (refine Ints.ld (by assumption) (by omega) ?_) | (refine Mat.ld (by assumption) (by omega) ?_) | (refine Ints.ld (Mat.row (by assumption) _ (by omega)) (by omega) ?_) | (refine At.ld (by assumption) rfl ?_) | (refine At.ldN (by assumption) rfl ?_) | (refine Prs.ln (by assumption) ?_) | (refine Trs.ln (by assumption) ?_) | (refine Prs.ix (by assumption) (by omega) ?_) | (refine Trs.ix (by assumption) (by omega) ?_) | (refine Prs.ldN (by assumption) (by omega) ?_) | (refine Trs.ldN (by assumption) (by omega) ?_) | (refine At.ldN (Blk.at (by assumption)) rfl ?_) | (refine At.ld (Blk.at (by assumption)) rfl ?_) | (refine IxA.mk (by omega) ?_) | (refine Sl.ln (Own.sl (by assumption)) ?_) | (refine Ints.ix (Own.sl (by assumption)) (by omega) ?_) | (refine Ints.ixI (Own.sl (by assumption)) (by omega) ?_) | (refine Ints.ld (Own.sl (by assumption)) (by omega) ?_))
  refine OZ.set HO (by omega) fun w4 G4 HO' => ?_
  have E4 : Ext w2 w4 := Own.keep HO EL1 (Nat.le_refl _) G4
  replace HO := HO'
  replace HA := HA__1.ext E4
  replace Hf := Hf__1.ext E4
  replace EE := EE__1.ext E4
  replace Hb := Hb__1.ext E4
  replace EL1 := E4
  repeat' ((conv => whnf); first | (refine Dr.quiet tyOk (by kernel_rfl) ?_) | (refine Rng.mk (by omega) ?_) | (refine Split.pos (by omega) ?_) | (refine Split.neg (by omega) ?_) | (refine Split.mk (fun h => ?_) (fun h => ?_)) | (refine Need.mk (by omega) ?_) | (refine Ints.ln (by assumption) ?_) | (refine Mat.ln (by assumption) ?_) | (refine Ints.ln (Mat.row (by assumption) _ (by omega)) ?_) | (refine Ints.ix (by assumption) (by omega) ?_) | (refine Mat.ix (by assumption) (by omega) ?_) | (refine Ints.ix (Mat.row (by assumption) _ (by omega)) (by omega) ?_) | (refine Ints.ix (c := 0) (by assumption) (by omega) ?_) | (refine Mat.ix (c := 0) (by assumption) (by omega) ?_) | (refine Ints.ix (c := 0) (Mat.row (by assumption) _ (by omega)) (by omega) ?_) | (refine Ints.ixI (by assumption) (by omega) ?_) | (refine Mat.ixI (by assumption) (by omega) ?_) | (refine Ints.ixI (Mat.row (by assumption) _ (by omega)) (by omega) ?_) | (refine Ints.ld (by assumption) (by omega) ?_) | (refine Mat.ld (by assumption) (by omega) ?_) | (refine Ints.ld (Mat.row (by assumption) _ (by omega)) (by omega) ?_) | (refine At.ld (by assumption) rfl ?_) | (refine At.ldN (by assumption) rfl ?_) | (refine Prs.ln (by assumption) ?_) | (refine Trs.ln (by assumption) ?_) | (refine Prs.ix (by assumption) (by omega) ?_) | (refine Trs.ix (by assumption) (by omega) ?_) | (refine Prs.ldN (by assumption) (by omega) ?_) | (refine Trs.ldN (by assumption) (by omega) ?_) | (refine At.ldN (Blk.at (by assumption)) rfl ?_) | (refine At.ld (Blk.at (by assumption)) rfl ?_) | (refine IxA.mk (by omega) ?_) | (refine Sl.ln (Own.sl (by assumption)) ?_) | (refine Ints.ix (Own.sl (by assumption)) (by omega) ?_) | (refine Ints.ixI (Own.sl (by assumption)) (by omega) ?_) | (refine Ints.ld (Own.sl (by assumption)) (by omega) ?_))
  have hsz := EL1.size
  refine VE.litI [0] Try.underlying26 eInt (by decide) fun sk w20 E20 HS0 _ => ?_
  have HS1 : OS _ w20 sk [0] := HS0 _ hsz
  replace HA := HA.ext E20
  replace Hf := Hf.ext E20
  replace EE := EE.ext E20
  replace Hb := Hb.ext E20
  replace EL1 := EL1.ext E20
  replace HO := HO.ext E20
  repeat' ((conv => whnf); first | (refine Dr.quiet tyOk (by kernel_rfl) ?_) | (refine Rng.mk (by omega) ?_) | (refine Split.pos (by omega) ?_) | (refine Split.neg (by omega) ?_) | (refine Split.mk (fun h => ?_) (fun h => ?_)) | (refine Need.mk (by omega) ?_) | (refine Ints.ln (by assumption) ?_) | (refine Mat.ln (by assumption) ?_) | (refine Ints.ln (Mat.row (by assumption) _ (by omega)) ?_) | (refine Ints.ix (by assumption) (by omega) ?_) | (refine Mat.ix (by assumption) (by omega) ?_) | (refine Ints.ix (Mat.row (by assumption) _ (by omega)) (by omega) ?_) | (refine Ints.ix (c := 0) (by assumption) (by omega) ?_) | (refine Mat.ix (c := 0) (by assumption) (by omega) ?_) | (refine Ints.ix (c := 0) (Mat.row (by assumption) _ (by omega)) (by omega) ?_) | (refine Ints.ixI (by assumption) (by omega) ?_) | (refine Mat.ixI (by assumption) (by omega) ?_) | (refine Ints.ixI (Mat.row (by assumption) _ (by omega)) (by omega) ?_) | (refine Ints.ld (by assumption) (by omega) ?_) | (refine Mat.ld (by assumption) (by omega) ?_) | (refine Ints.ld (Mat.row (by assumption) _ (by omega)) (by omega) ?_) | (refine At.ld (by assumption) rfl ?_) | (refine At.ldN (by assumption) rfl ?_) | (refine Prs.ln (by assumption) ?_) | (refine Trs.ln (by assumption) ?_) | (refine Prs.ix (by assumption) (by omega) ?_) | (refine Trs.ix (by assumption) (by omega) ?_) | (refine Prs.ldN (by assumption) (by omega) ?_) | (refine Trs.ldN (by assumption) (by omega) ?_) | (refine At.ldN (Blk.at (by assumption)) rfl ?_) | (refine At.ld (Blk.at (by assumption)) rfl ?_) | (refine IxA.mk (by omega) ?_) | (refine Sl.ln (Own.sl (by assumption)) ?_) | (refine Ints.ix (Own.sl (by assumption)) (by omega) ?_) | (refine Ints.ixI (Own.sl (by assumption)) (by omega) ?_) | (refine Ints.ld (Own.sl (by assumption)) (by omega) ?_))
  refine Lp.mk tyOk [false, false, false, false, false, false, true, true, true, true, true, false, false, false, false, false, false, true, true, true, true, true, true, true, true, true, true, true, true, true, true, true, true, true, true, true, true, true, true, true, true, true, true, true, true, true, true, true, true, true, true, true, true, true, true, true, true, true, true, true, true, true, true, true, true, true, true, true, true, true, true, true, true, true, true, true, true, true, true, true, true, true, true, true] (fun m fr wr => getK fr 6 fun st => ∃ c : Nat, c ≤ (N + 1) ∧ m = (N + 1) - c ∧ ((∃ M S, OZ w2.heap.size wr rv M ∧ OS w2.heap.size wr st S ∧ RI N A f M S (fun _ => False) ∧ c + cntF M + S.length = N)) ∧ Ext w2 wr) ((N + 1)) ?_ ?_
  · exact ⟨0, Nat.zero_le _, rfl, ⟨_, _, HO, HS1, hst, by simp; omega⟩, EL1⟩
  · intro m w22 u6 u7 u8 u9 u10 u17 u18 u19 u20 u21 u22 u23 u24 u25 u26 u27 u28 u29 u30 u31 u32 u33 u34 u35 u36 u37 u38 u39 u40 u41 u42 u43 u44 u45 u46 u47 u48 u49 u50 u51 u52 u53 u54 u55 u56 u57 u58 u59 u60 u61 u62 u63 u64 u65 u66 u67 u68 u69 u70 u71 u72 u73 u74 u75 u76 u77 u78 u79 u80 u81 u82 u83 hR
    obtain ⟨c, hc, rfl, HX, EL1⟩ := hR
    replace HA := HA__1.ext EL1
    replace Hf := Hf__1.ext EL1
    replace EE := EE__1.ext EL1
    replace Hb := Hb__1.ext EL1
    obtain ⟨M, S, HO, HS, hR, hcnt⟩ := HX
    have hMl := hR.rm.len
    have HSI := Own.sl HS
    by_cases hS : S = []
    · subst hS
      have hl0 : ([] : List Int).length = 0 := rfl
      repeat' ((conv => whnf); first | (refine Dr.quiet tyOk (by kernel_rfl) ?_) | (refine Rng.mk (by omega) ?_) | (refine Split.pos (by omega) ?_) | (refine Split.neg (by omega) ?_) | (refine Split.mk (fun h => ?_) (fun h => ?_)) | (refine Need.mk (by omega) ?_) | (refine Ints.ln (by assumption) ?_) | (refine Mat.ln (by assumption) ?_) | (refine Ints.ln (Mat.row (by assumption) _ (by omega)) ?_) | (refine Ints.ix (by assumption) (by omega) ?_) | (refine Mat.ix (by assumption) (by omega) ?_) | (refine Ints.ix (Mat.row (by assumption) _ (by omega)) (by omega) ?_) | (refine Ints.ix (c := 0) (by assumption) (by omega) ?_) | (refine Mat.ix (c := 0) (by assumption) (by omega) ?_) | (refine Ints.ix (c := 0) (Mat.row (by assumption) _ (by omega)) (by omega) ?_) | (refine Ints.ixI (by assumption) (by omega) ?_) | (refine Mat.ixI (by assumption) (by omega) ?_) | (refine Ints.ixI (Mat.row (by assumption) _ (by omega)) (by omega) ?_) | (refine Ints.ld (by assumption) (by omega) ?_) | (refine Mat.ld (by assumption) (by omega) ?_) | (refine Ints.ld (Mat.row (by assumption) _ (by omega)) (by omega) ?_) | (refine At.ld (by assumption) rfl ?_) | (refine At.ldN (by assumption) rfl ?_) | (refine Prs.ln (by assumption) ?_) | (refine Trs.ln (by assumption) ?_) | (refine Prs.ix (by assumption) (by omega) ?_) | (refine Trs.ix (by assumption) (by omega) ?_) | (refine Prs.ldN (by assumption) (by omega) ?_) | (refine Trs.ldN (by assumption) (by omega) ?_) | (refine At.ldN (Blk.at (by assumption)) rfl ?_) | (refine At.ld (Blk.at (by assumption)) rfl ?_) | (refine IxA.mk (by omega) ?_) | (refine Sl.ln (Own.sl (by assumption)) ?_) | (refine Ints.ix (Own.sl (by assumption)) (by omega) ?_) | (refine Ints.ixI (Own.sl (by assumption)) (by omega) ?_) | (refine Ints.ld (Own.sl (by assumption)) (by omega) ?_))
      rw [← hR.done hk]
      exact ⟨EE, Own.base HO (by omega)⟩
    · obtain ⟨S0, v, rfl⟩ := snoc_of hS
      have hv := hR.stk v (by simp)
      have hsl : (S0 ++ [v]).length = S0.length + 1 := by simp
      have hidx : (((S0 ++ [v]).length : Int) - 1).toNat = S0.length := by omega
      have hgv : (S0 ++ [v]).getD S0.length 0 = v := by simp [List.getD]
      have hgv' : (S0 ++ [v]).getD (((S0 ++ [v]).length : Int) - 1).toNat 0 = v := by rw [hidx]; exact hgv
      have hrch : Rch A f v := by have := hR.rm.rch _ hv.2.2; rwa [show ((v.toNat : Nat) : Int) = v by omega] at this
      repeat' ((conv => whnf); first | (refine Dr.quiet tyOk (by kernel_rfl) ?_) | (refine Ints.ixI HSI (by omega) ?_) | (refine Ints.ldv HSI hgv' (by omega) ?_) | (refine VS.cutHI (h := S0.length) (by omega) Try.underlying26 (by kernel_rfl) (by decide) HSI (by omega) ?_) | (refine Rng.mk (by omega) ?_) | (refine Split.pos (by omega) ?_) | (refine Split.neg (by omega) ?_) | (refine Split.mk (fun h => ?_) (fun h => ?_)) | (refine Need.mk (by omega) ?_) | (refine Ints.ln (by assumption) ?_) | (refine Mat.ln (by assumption) ?_) | (refine Ints.ln (Mat.row (by assumption) _ (by omega)) ?_) | (refine Ints.ix (by assumption) (by omega) ?_) | (refine Mat.ix (by assumption) (by omega) ?_) | (refine Ints.ix (Mat.row (by assumption) _ (by omega)) (by omega) ?_) | (refine Ints.ix (c := 0) (by assumption) (by omega) ?_) | (refine Mat.ix (c := 0) (by assumption) (by omega) ?_) | (refine Ints.ix (c := 0) (Mat.row (by assumption) _ (by omega)) (by omega) ?_) | (refine Ints.ixI (by assumption) (by omega) ?_) | (refine Mat.ixI (by assumption) (by omega) ?_) | (refine Ints.ixI (Mat.row (by assumption) _ (by omega)) (by omega) ?_) | (refine Ints.ld (by assumption) (by omega) ?_) | (refine Mat.ld (by assumption) (by omega) ?_) | (refine Ints.ld (Mat.row (by assumption) _ (by omega)) (by omega) ?_) | (refine At.ld (by assumption) rfl ?_) | (refine At.ldN (by assumption) rfl ?_) | (refine Prs.ln (by assumption) ?_) | (refine Trs.ln (by assumption) ?_) | (refine Prs.ix (by assumption) (by omega) ?_) | (refine Trs.ix (by assumption) (by omega) ?_) | (refine Prs.ldN (by assumption) (by omega) ?_) | (refine Trs.ldN (by assumption) (by omega) ?_) | (refine At.ldN (Blk.at (by assumption)) rfl ?_) | (refine At.ld (Blk.at (by assumption)) rfl ?_) | (refine IxA.mk (by omega) ?_) | (refine Sl.ln (Own.sl (by assumption)) ?_) | (refine Ints.ix (Own.sl (by assumption)) (by omega) ?_) | (refine Ints.ixI (Own.sl (by assumption)) (by omega) ?_) | (refine Ints.ld (Own.sl (by assumption)) (by omega) ?_))
      have HC := Own.cut HS (h := S0.length) (by omega)
      rw [Nat.mul_one, ← List.map_take, List.take_left' rfl] at HC
      have hR0 := hR.pop
      refine Lp.mk tyOk [false, false, false, false, false, false, true, false, true, true, true, false, false, false, false, false, false, false, false, false, false, false, false, false, false, false, false, false, false, false, false, false, false, false, true, true, true, true, true, true, true, true, true, true, true, true, true, true, true, true, true, true, true, true, true, true, true, true, true, true, true, true, true, true, true, true, true, true, true, true, true, true, true, true, true, true, true, true, true, true, true, true, true, true] (fun m fr wr => getK fr 34 fun i => getK fr 6 fun st => ∃ d : Nat, d ≤ A.length ∧ m = A.length - d ∧ i = .int .i64 (d : Int) ∧ ((∃ M S, OZ w2.heap.size wr rv M ∧ OS w2.heap.size wr st S ∧ RI N A f M S (fun u => u = v) ∧ c + 1 + cntF M + S.length = N ∧ ∀ i, i < d → ∀ t, Edg A f v t i → M.getD t.toNat false = true)) ∧ Ext w2 wr) (A.length) ?_ ?_
      · exact ⟨0, Nat.zero_le _, rfl, rfl, ⟨M, S0, HO, HC, hR0, by omega, fun i hi => absurd hi (Nat.not_lt_zero _)⟩, EL1⟩
      · intro m w23 u6 u8 u9 u10 u34 u35 u36 u37 u38 u39 u40 u41 u42 u43 u44 u45 u46 u47 u48 u49 u50 u51 u52 u53 u54 u55 u56 u57 u58 u59 u60 u61 u62 u63 u64 u65 u66 u67 u68 u69 u70 u71 u72 u73 u74 u75 u76 u77 u78 u79 u80 u81 u82 u83 hR
        obtain ⟨d, hd, rfl, rfl, HY, EL1⟩ := hR
        replace HA := HA__1.ext EL1
        replace Hf := Hf__1.ext EL1
        replace EE := EE__1.ext EL1
        replace Hb := Hb__1.ext EL1
        obtain ⟨M, S, HO, HS, hR, hcnt, hdone⟩ := HY
        have hMl := hR.rm.len
        by_cases hdl : d < A.length
        · obtain ⟨hf, ht, hne, hc0, hc1⟩ := hk.arc d hdl
          have e1 : (A.getD d (0, 0, 0)).1 = frm A d := rfl
          have e2 : (A.getD d (0, 0, 0)).2.1 = too A d := rfl
          have e3 : (A.getD d (0, 0, 0)).2.2 = cpy A d := rfl
          repeat' ((conv => whnf); first | (refine Dr.quiet tyOk (by kernel_rfl) ?_) | (refine Rng.mk (by omega) ?_) | (refine Split.pos (by omega) ?_) | (refine Split.neg (by omega) ?_) | (refine Split.mk (fun h => ?_) (fun h => ?_)) | (refine Need.mk (by omega) ?_) | (refine Ints.ln (by assumption) ?_) | (refine Mat.ln (by assumption) ?_) | (refine Ints.ln (Mat.row (by assumption) _ (by omega)) ?_) | (refine Ints.ix (by assumption) (by omega) ?_) | (refine Mat.ix (by assumption) (by omega) ?_) | (refine Ints.ix (Mat.row (by assumption) _ (by omega)) (by omega) ?_) | (refine Ints.ix (c := 0) (by assumption) (by omega) ?_) | (refine Mat.ix (c := 0) (by assumption) (by omega) ?_) | (refine Ints.ix (c := 0) (Mat.row (by assumption) _ (by omega)) (by omega) ?_) | (refine Ints.ixI (by assumption) (by omega) ?_) | (refine Mat.ixI (by assumption) (by omega) ?_) | (refine Ints.ixI (Mat.row (by assumption) _ (by omega)) (by omega) ?_) | (refine Ints.ld (by assumption) (by omega) ?_) | (refine Mat.ld (by assumption) (by omega) ?_) | (refine Ints.ld (Mat.row (by assumption) _ (by omega)) (by omega) ?_) | (refine At.ld (by assumption) rfl ?_) | (refine At.ldN (by assumption) rfl ?_) | (refine Prs.ln (by assumption) ?_) | (refine Trs.ln (by assumption) ?_) | (refine Prs.ix (by assumption) (by omega) ?_) | (refine Trs.ix (by assumption) (by omega) ?_) | (refine Prs.ldN (by assumption) (by omega) ?_) | (refine Trs.ldN (by assumption) (by omega) ?_) | (refine At.ldN (Blk.at (by assumption)) rfl ?_) | (refine At.ld (Blk.at (by assumption)) rfl ?_) | (refine IxA.mk (by omega) ?_) | (refine Sl.ln (Own.sl (by assumption)) ?_) | (refine Ints.ix (Own.sl (by assumption)) (by omega) ?_) | (refine Ints.ixI (Own.sl (by assumption)) (by omega) ?_) | (refine Ints.ld (Own.sl (by assumption)) (by omega) ?_))
          have HA__2 := HA
          have Hf__2 := Hf
          have EE__2 := EE
          have Hb__2 := Hb
          have EL1__2 := EL1
          have HO__2 := HO
          have HS__2 := HS
          conv => whnf
          refine VE.alloc eArc fun xb w24 E24 hb_xb Hk => ?_
          replace HA := HA.ext E24
          replace Hf := Hf.ext E24
          replace EE := EE.ext E24
          replace Hb := Hb.ext E24
          replace EL1 := EL1.ext E24
          replace HO := HO.ext E24
          replace HS := HS.ext E24
          have EL2 := E24
          conv => whnf
          refine Blk.all Hk (by kernel_rfl) (by first | decide | simp) rfl rfl (by intro v hv; simp at hv; rcases hv with rfl | rfl | rfl | rfl | rfl <;> rfl) fun w25 G25 Hk' => ?_
          have E25 : Ext w23 w25 := EL2.new G25 fun i hi hk => by omega
          replace Hk := Hk'
          replace HA := HA__2.ext E25
          replace Hf := Hf__2.ext E25
          replace EE := EE__2.ext E25
          replace Hb := Hb__2.ext E25
          replace EL1 := EL1__2.ext E25
          replace HO := HO__2.ext E25
          replace HS := HS__2.ext E25
          replace EL2 := E25
          by_cases hF1 : frm A d = v ∧ f.getD d 0 < cpy A d
          · have hedge : Edg A f v (too A d) d := .inl ⟨hF1.1, rfl, hF1.2⟩
            have huniq : ∀ t, Edg A f v t d → t = too A d := fun t h => by unfold Edg at h; omega
            have hrt : Rch A f (too A d) := Rch.s hrch hdl hedge
            cases hm : M.getD (too A d).toNat false with
            | true =>
              have hmk : ∀ i, i < d + 1 → ∀ t, Edg A f v t i → M.getD t.toNat false = true := by
                intro i hi t hte
                by_cases e : i = d
                · subst e; rw [huniq t hte]; exact hm
                · exact hdone i (by omega) t hte
              repeat' ((conv => whnf); first | (refine Dr.quiet tyOk (by kernel_rfl) ?_) | (refine Bls.ixI (Own.sl HO) (by omega) ?_) | (refine Bls.ldv (Own.sl HO) hm (by omega) ?_) | (refine Rng.mk (by omega) ?_) | (refine Split.pos (by omega) ?_) | (refine Split.neg (by omega) ?_) | (refine Split.mk (fun h => ?_) (fun h => ?_)) | (refine Need.mk (by omega) ?_) | (refine Ints.ln (by assumption) ?_) | (refine Mat.ln (by assumption) ?_) | (refine Ints.ln (Mat.row (by assumption) _ (by omega)) ?_) | (refine Ints.ix (by assumption) (by omega) ?_) | (refine Mat.ix (by assumption) (by omega) ?_) | (refine Ints.ix (Mat.row (by assumption) _ (by omega)) (by omega) ?_) | (refine Ints.ix (c := 0) (by assumption) (by omega) ?_) | (refine Mat.ix (c := 0) (by assumption) (by omega) ?_) | (refine Ints.ix (c := 0) (Mat.row (by assumption) _ (by omega)) (by omega) ?_) | (refine Ints.ixI (by assumption) (by omega) ?_) | (refine Mat.ixI (by assumption) (by omega) ?_) | (refine Ints.ixI (Mat.row (by assumption) _ (by omega)) (by omega) ?_) | (refine Ints.ld (by assumption) (by omega) ?_) | (refine Mat.ld (by assumption) (by omega) ?_) | (refine Ints.ld (Mat.row (by assumption) _ (by omega)) (by omega) ?_) | (refine At.ld (by assumption) rfl ?_) | (refine At.ldN (by assumption) rfl ?_) | (refine Prs.ln (by assumption) ?_) | (refine Trs.ln (by assumption) ?_) | (refine Prs.ix (by assumption) (by omega) ?_) | (refine Trs.ix (by assumption) (by omega) ?_) | (refine Prs.ldN (by assumption) (by omega) ?_) | (refine Trs.ldN (by assumption) (by omega) ?_) | (refine At.ldN (Blk.at (by assumption)) rfl ?_) | (refine At.ld (Blk.at (by assumption)) rfl ?_) | (refine IxA.mk (by omega) ?_) | (refine Sl.ln (Own.sl (by assumption)) ?_) | (refine Ints.ix (Own.sl (by assumption)) (by omega) ?_) | (refine Ints.ixI (Own.sl (by assumption)) (by omega) ?_) | (refine Ints.ld (Own.sl (by assumption)) (by omega) ?_))
              refine ⟨_, (by omega : A.length - (d + 1) < A.length - d), rfl, d + 1, by omega, rfl, rfl, ⟨M, S, HO, HS, hR, hcnt, hmk⟩, EL1⟩
            | false =>
              have hpu := hR.push (t := too A d) (by omega) (by omega) hrt
              have hcs := cntF_set (l := M) (t := (too A d).toNat) (by omega) hm
              have hgm : ∀ j, (M.set (too A d).toNat true).getD j false = if (too A d).toNat = j then true else M.getD j false := fun j => setB_getD (by omega)
              have hSl : S.length ≤ 40 := by omega
              have hmk : ∀ i, i < d + 1 → ∀ t, Edg A f v t i → (M.set (too A d).toNat true).getD t.toNat false = true := by
                intro i hi t hte
                rw [hgm]
                by_cases e2 : (too A d).toNat = t.toNat
                · rw [if_pos e2]
                · rw [if_neg e2]
                  by_cases e : i = d
                  · subst e; exact absurd (by rw [huniq t hte]) e2
                  · exact hdone i (by omega) t hte
              repeat' ((conv => whnf); first | (refine Dr.quiet tyOk (by kernel_rfl) ?_) | (refine Bls.ixI (Own.sl HO) (by omega) ?_) | (refine Bls.ldv (Own.sl HO) hm (by omega) ?_) | (refine Rng.mk (by omega) ?_) | (refine Split.pos (by omega) ?_) | (refine Split.neg (by omega) ?_) | (refine Split.mk (fun h => ?_) (fun h => ?_)) | (refine Need.mk (by omega) ?_) | (refine Ints.ln (by assumption) ?_) | (refine Mat.ln (by assumption) ?_) | (refine Ints.ln (Mat.row (by assumption) _ (by omega)) ?_) | (refine Ints.ix (by assumption) (by omega) ?_) | (refine Mat.ix (by assumption) (by omega) ?_) | (refine Ints.ix (Mat.row (by assumption) _ (by omega)) (by omega) ?_) | (refine Ints.ix (c := 0) (by assumption) (by omega) ?_) | (refine Mat.ix (c := 0) (by assumption) (by omega) ?_) | (refine Ints.ix (c := 0) (Mat.row (by assumption) _ (by omega)) (by omega) ?_) | (refine Ints.ixI (by assumption) (by omega) ?_) | (refine Mat.ixI (by assumption) (by omega) ?_) | (refine Ints.ixI (Mat.row (by assumption) _ (by omega)) (by omega) ?_) | (refine Ints.ld (by assumption) (by omega) ?_) | (refine Mat.ld (by assumption) (by omega) ?_) | (refine Ints.ld (Mat.row (by assumption) _ (by omega)) (by omega) ?_) | (refine At.ld (by assumption) rfl ?_) | (refine At.ldN (by assumption) rfl ?_) | (refine Prs.ln (by assumption) ?_) | (refine Trs.ln (by assumption) ?_) | (refine Prs.ix (by assumption) (by omega) ?_) | (refine Trs.ix (by assumption) (by omega) ?_) | (refine Prs.ldN (by assumption) (by omega) ?_) | (refine Trs.ldN (by assumption) (by omega) ?_) | (refine At.ldN (Blk.at (by assumption)) rfl ?_) | (refine At.ld (Blk.at (by assumption)) rfl ?_) | (refine IxA.mk (by omega) ?_) | (refine Sl.ln (Own.sl (by assumption)) ?_) | (refine Ints.ix (Own.sl (by assumption)) (by omega) ?_) | (refine Ints.ixI (Own.sl (by assumption)) (by omega) ?_) | (refine Ints.ld (Own.sl (by assumption)) (by omega) ?_))
              have ho0 := HO
              have hs0 := HS
              refine OZ.set HO (by omega) fun w26 G26 HO' => ?_
              have E26 : Ext w2 w26 := Own.keep HO EL1 (Nat.le_refl _) G26
              replace HO := HO'
              replace HA := HA__1.ext E26
              replace Hf := Hf__1.ext E26
              replace EE := EE__1.ext E26
              replace Hb := Hb__1.ext E26
              replace EL1 := E26
              have HS2 := Own.gr hs0 G26 (fun q hq hS => Own.ne ho0 hs0 (by decide) q hS hq)
              repeat' ((conv => whnf); first | (refine Dr.quiet tyOk (by kernel_rfl) ?_) | (refine Rng.mk (by omega) ?_) | (refine Split.pos (by omega) ?_) | (refine Split.neg (by omega) ?_) | (refine Split.mk (fun h => ?_) (fun h => ?_)) | (refine Need.mk (by omega) ?_) | (refine Ints.ln (by assumption) ?_) | (refine Mat.ln (by assumption) ?_) | (refine Ints.ln (Mat.row (by assumption) _ (by omega)) ?_) | (refine Ints.ix (by assumption) (by omega) ?_) | (refine Mat.ix (by assumption) (by omega) ?_) | (refine Ints.ix (Mat.row (by assumption) _ (by omega)) (by omega) ?_) | (refine Ints.ix (c := 0) (by assumption) (by omega) ?_) | (refine Mat.ix (c := 0) (by assumption) (by omega) ?_) | (refine Ints.ix (c := 0) (Mat.row (by assumption) _ (by omega)) (by omega) ?_) | (refine Ints.ixI (by assumption) (by omega) ?_) | (refine Mat.ixI (by assumption) (by omega) ?_) | (refine Ints.ixI (Mat.row (by assumption) _ (by omega)) (by omega) ?_) | (refine Ints.ld (by assumption) (by omega) ?_) | (refine Mat.ld (by assumption) (by omega) ?_) | (refine Ints.ld (Mat.row (by assumption) _ (by omega)) (by omega) ?_) | (refine At.ld (by assumption) rfl ?_) | (refine At.ldN (by assumption) rfl ?_) | (refine Prs.ln (by assumption) ?_) | (refine Trs.ln (by assumption) ?_) | (refine Prs.ix (by assumption) (by omega) ?_) | (refine Trs.ix (by assumption) (by omega) ?_) | (refine Prs.ldN (by assumption) (by omega) ?_) | (refine Trs.ldN (by assumption) (by omega) ?_) | (refine At.ldN (Blk.at (by assumption)) rfl ?_) | (refine At.ld (Blk.at (by assumption)) rfl ?_) | (refine IxA.mk (by omega) ?_) | (refine Sl.ln (Own.sl (by assumption)) ?_) | (refine Ints.ix (Own.sl (by assumption)) (by omega) ?_) | (refine Ints.ixI (Own.sl (by assumption)) (by omega) ?_) | (refine Ints.ld (Own.sl (by assumption)) (by omega) ?_))
              refine VE.lit1 Try.underlying26 eInt (rfl) fun lv w27 E27 Hl => ?_
              replace HA := HA.ext E27
              replace Hf := Hf.ext E27
              replace EE := EE.ext E27
              replace Hb := Hb.ext E27
              replace EL1 := EL1.ext E27
              replace HO := HO.ext E27
              replace HS2 := HS2.ext E27
              conv => whnf
              refine VE.app Try.underlying26 eInt rfl (by omega) HS2 EL1 rfl Hl (by simp [Value.oneCell']) (by first | omega | (simp only [List.length_map, List.length_range]; omega) | (simp; omega)) (by first | omega | (simp only [List.length_map, List.length_range]; omega) | (simp; omega)) fun v8 w28 E28 G28 H8 => ?_
              replace HO := Own.gr HO G28 (fun k hk hS => Own.ne HS2 HO (by decide) k hS hk)
              replace HA := HA__1.ext E28
              replace Hf := Hf__1.ext E28
              replace EE := EE__1.ext E28
              replace Hb := Hb__1.ext E28
              replace EL1 := E28
              repeat' ((conv => whnf); first | (refine Dr.quiet tyOk (by kernel_rfl) ?_) | (refine Rng.mk (by omega) ?_) | (refine Split.pos (by omega) ?_) | (refine Split.neg (by omega) ?_) | (refine Split.mk (fun h => ?_) (fun h => ?_)) | (refine Need.mk (by omega) ?_) | (refine Ints.ln (by assumption) ?_) | (refine Mat.ln (by assumption) ?_) | (refine Ints.ln (Mat.row (by assumption) _ (by omega)) ?_) | (refine Ints.ix (by assumption) (by omega) ?_) | (refine Mat.ix (by assumption) (by omega) ?_) | (refine Ints.ix (Mat.row (by assumption) _ (by omega)) (by omega) ?_) | (refine Ints.ix (c := 0) (by assumption) (by omega) ?_) | (refine Mat.ix (c := 0) (by assumption) (by omega) ?_) | (refine Ints.ix (c := 0) (Mat.row (by assumption) _ (by omega)) (by omega) ?_) | (refine Ints.ixI (by assumption) (by omega) ?_) | (refine Mat.ixI (by assumption) (by omega) ?_) | (refine Ints.ixI (Mat.row (by assumption) _ (by omega)) (by omega) ?_) | (refine Ints.ld (by assumption) (by omega) ?_) | (refine Mat.ld (by assumption) (by omega) ?_) | (refine Ints.ld (Mat.row (by assumption) _ (by omega)) (by omega) ?_) | (refine At.ld (by assumption) rfl ?_) | (refine At.ldN (by assumption) rfl ?_) | (refine Prs.ln (by assumption) ?_) | (refine Trs.ln (by assumption) ?_) | (refine Prs.ix (by assumption) (by omega) ?_) | (refine Trs.ix (by assumption) (by omega) ?_) | (refine Prs.ldN (by assumption) (by omega) ?_) | (refine Trs.ldN (by assumption) (by omega) ?_) | (refine At.ldN (Blk.at (by assumption)) rfl ?_) | (refine At.ld (Blk.at (by assumption)) rfl ?_) | (refine IxA.mk (by omega) ?_) | (refine Sl.ln (Own.sl (by assumption)) ?_) | (refine Ints.ix (Own.sl (by assumption)) (by omega) ?_) | (refine Ints.ixI (Own.sl (by assumption)) (by omega) ?_) | (refine Ints.ld (Own.sl (by assumption)) (by omega) ?_))
              refine ⟨_, (by omega : A.length - (d + 1) < A.length - d), rfl, d + 1, by omega, rfl, rfl, ⟨M.set (too A d).toNat true, S ++ [too A d], HO, by show Go.Eng.Own _ _ _ _ _ (S ++ [too A d]).length ((S ++ [too A d]).map i64v); rw [List.length_append, List.map_append]; exact H8, hpu, by rw [List.length_append]; simp only [List.length_singleton]; omega, hmk⟩, EL1⟩
          · by_cases hB1 : too A d = v ∧ 0 < f.getD d 0
            · have hedge : Edg A f v (frm A d) d := .inr ⟨hB1.1, rfl, hB1.2⟩
              have huniq : ∀ t, Edg A f v t d → t = frm A d := fun t h => by unfold Edg at h; omega
              have hrt : Rch A f (frm A d) := Rch.s hrch hdl hedge
              cases hm : M.getD (frm A d).toNat false with
              | true =>
                have hmk : ∀ i, i < d + 1 → ∀ t, Edg A f v t i → M.getD t.toNat false = true := by
                  intro i hi t hte
                  by_cases e : i = d
                  · subst e; rw [huniq t hte]; exact hm
                  · exact hdone i (by omega) t hte
                repeat' ((conv => whnf); first | (refine Dr.quiet tyOk (by kernel_rfl) ?_) | (refine Bls.ixI (Own.sl HO) (by omega) ?_) | (refine Bls.ldv (Own.sl HO) hm (by omega) ?_) | (refine Rng.mk (by omega) ?_) | (refine Split.pos (by omega) ?_) | (refine Split.neg (by omega) ?_) | (refine Split.mk (fun h => ?_) (fun h => ?_)) | (refine Need.mk (by omega) ?_) | (refine Ints.ln (by assumption) ?_) | (refine Mat.ln (by assumption) ?_) | (refine Ints.ln (Mat.row (by assumption) _ (by omega)) ?_) | (refine Ints.ix (by assumption) (by omega) ?_) | (refine Mat.ix (by assumption) (by omega) ?_) | (refine Ints.ix (Mat.row (by assumption) _ (by omega)) (by omega) ?_) | (refine Ints.ix (c := 0) (by assumption) (by omega) ?_) | (refine Mat.ix (c := 0) (by assumption) (by omega) ?_) | (refine Ints.ix (c := 0) (Mat.row (by assumption) _ (by omega)) (by omega) ?_) | (refine Ints.ixI (by assumption) (by omega) ?_) | (refine Mat.ixI (by assumption) (by omega) ?_) | (refine Ints.ixI (Mat.row (by assumption) _ (by omega)) (by omega) ?_) | (refine Ints.ld (by assumption) (by omega) ?_) | (refine Mat.ld (by assumption) (by omega) ?_) | (refine Ints.ld (Mat.row (by assumption) _ (by omega)) (by omega) ?_) | (refine At.ld (by assumption) rfl ?_) | (refine At.ldN (by assumption) rfl ?_) | (refine Prs.ln (by assumption) ?_) | (refine Trs.ln (by assumption) ?_) | (refine Prs.ix (by assumption) (by omega) ?_) | (refine Trs.ix (by assumption) (by omega) ?_) | (refine Prs.ldN (by assumption) (by omega) ?_) | (refine Trs.ldN (by assumption) (by omega) ?_) | (refine At.ldN (Blk.at (by assumption)) rfl ?_) | (refine At.ld (Blk.at (by assumption)) rfl ?_) | (refine IxA.mk (by omega) ?_) | (refine Sl.ln (Own.sl (by assumption)) ?_) | (refine Ints.ix (Own.sl (by assumption)) (by omega) ?_) | (refine Ints.ixI (Own.sl (by assumption)) (by omega) ?_) | (refine Ints.ld (Own.sl (by assumption)) (by omega) ?_))
                refine ⟨_, (by omega : A.length - (d + 1) < A.length - d), rfl, d + 1, by omega, rfl, rfl, ⟨M, S, HO, HS, hR, hcnt, hmk⟩, EL1⟩
              | false =>
                have hpu := hR.push (t := frm A d) (by omega) (by omega) hrt
                have hcs := cntF_set (l := M) (t := (frm A d).toNat) (by omega) hm
                have hgm : ∀ j, (M.set (frm A d).toNat true).getD j false = if (frm A d).toNat = j then true else M.getD j false := fun j => setB_getD (by omega)
                have hSl : S.length ≤ 40 := by omega
                have hmk : ∀ i, i < d + 1 → ∀ t, Edg A f v t i → (M.set (frm A d).toNat true).getD t.toNat false = true := by
                  intro i hi t hte
                  rw [hgm]
                  by_cases e2 : (frm A d).toNat = t.toNat
                  · rw [if_pos e2]
                  · rw [if_neg e2]
                    by_cases e : i = d
                    · subst e; exact absurd (by rw [huniq t hte]) e2
                    · exact hdone i (by omega) t hte
                repeat' ((conv => whnf); first | (refine Dr.quiet tyOk (by kernel_rfl) ?_) | (refine Bls.ixI (Own.sl HO) (by omega) ?_) | (refine Bls.ldv (Own.sl HO) hm (by omega) ?_) | (refine Rng.mk (by omega) ?_) | (refine Split.pos (by omega) ?_) | (refine Split.neg (by omega) ?_) | (refine Split.mk (fun h => ?_) (fun h => ?_)) | (refine Need.mk (by omega) ?_) | (refine Ints.ln (by assumption) ?_) | (refine Mat.ln (by assumption) ?_) | (refine Ints.ln (Mat.row (by assumption) _ (by omega)) ?_) | (refine Ints.ix (by assumption) (by omega) ?_) | (refine Mat.ix (by assumption) (by omega) ?_) | (refine Ints.ix (Mat.row (by assumption) _ (by omega)) (by omega) ?_) | (refine Ints.ix (c := 0) (by assumption) (by omega) ?_) | (refine Mat.ix (c := 0) (by assumption) (by omega) ?_) | (refine Ints.ix (c := 0) (Mat.row (by assumption) _ (by omega)) (by omega) ?_) | (refine Ints.ixI (by assumption) (by omega) ?_) | (refine Mat.ixI (by assumption) (by omega) ?_) | (refine Ints.ixI (Mat.row (by assumption) _ (by omega)) (by omega) ?_) | (refine Ints.ld (by assumption) (by omega) ?_) | (refine Mat.ld (by assumption) (by omega) ?_) | (refine Ints.ld (Mat.row (by assumption) _ (by omega)) (by omega) ?_) | (refine At.ld (by assumption) rfl ?_) | (refine At.ldN (by assumption) rfl ?_) | (refine Prs.ln (by assumption) ?_) | (refine Trs.ln (by assumption) ?_) | (refine Prs.ix (by assumption) (by omega) ?_) | (refine Trs.ix (by assumption) (by omega) ?_) | (refine Prs.ldN (by assumption) (by omega) ?_) | (refine Trs.ldN (by assumption) (by omega) ?_) | (refine At.ldN (Blk.at (by assumption)) rfl ?_) | (refine At.ld (Blk.at (by assumption)) rfl ?_) | (refine IxA.mk (by omega) ?_) | (refine Sl.ln (Own.sl (by assumption)) ?_) | (refine Ints.ix (Own.sl (by assumption)) (by omega) ?_) | (refine Ints.ixI (Own.sl (by assumption)) (by omega) ?_) | (refine Ints.ld (Own.sl (by assumption)) (by omega) ?_))
                have ho0 := HO
                have hs0 := HS
                refine OZ.set HO (by omega) fun w29 G29 HO' => ?_
                have E29 : Ext w2 w29 := Own.keep HO EL1 (Nat.le_refl _) G29
                replace HO := HO'
                replace HA := HA__1.ext E29
                replace Hf := Hf__1.ext E29
                replace EE := EE__1.ext E29
                replace Hb := Hb__1.ext E29
                replace EL1 := E29
                have HS2 := Own.gr hs0 G29 (fun q hq hS => Own.ne ho0 hs0 (by decide) q hS hq)
                repeat' ((conv => whnf); first | (refine Dr.quiet tyOk (by kernel_rfl) ?_) | (refine Rng.mk (by omega) ?_) | (refine Split.pos (by omega) ?_) | (refine Split.neg (by omega) ?_) | (refine Split.mk (fun h => ?_) (fun h => ?_)) | (refine Need.mk (by omega) ?_) | (refine Ints.ln (by assumption) ?_) | (refine Mat.ln (by assumption) ?_) | (refine Ints.ln (Mat.row (by assumption) _ (by omega)) ?_) | (refine Ints.ix (by assumption) (by omega) ?_) | (refine Mat.ix (by assumption) (by omega) ?_) | (refine Ints.ix (Mat.row (by assumption) _ (by omega)) (by omega) ?_) | (refine Ints.ix (c := 0) (by assumption) (by omega) ?_) | (refine Mat.ix (c := 0) (by assumption) (by omega) ?_) | (refine Ints.ix (c := 0) (Mat.row (by assumption) _ (by omega)) (by omega) ?_) | (refine Ints.ixI (by assumption) (by omega) ?_) | (refine Mat.ixI (by assumption) (by omega) ?_) | (refine Ints.ixI (Mat.row (by assumption) _ (by omega)) (by omega) ?_) | (refine Ints.ld (by assumption) (by omega) ?_) | (refine Mat.ld (by assumption) (by omega) ?_) | (refine Ints.ld (Mat.row (by assumption) _ (by omega)) (by omega) ?_) | (refine At.ld (by assumption) rfl ?_) | (refine At.ldN (by assumption) rfl ?_) | (refine Prs.ln (by assumption) ?_) | (refine Trs.ln (by assumption) ?_) | (refine Prs.ix (by assumption) (by omega) ?_) | (refine Trs.ix (by assumption) (by omega) ?_) | (refine Prs.ldN (by assumption) (by omega) ?_) | (refine Trs.ldN (by assumption) (by omega) ?_) | (refine At.ldN (Blk.at (by assumption)) rfl ?_) | (refine At.ld (Blk.at (by assumption)) rfl ?_) | (refine IxA.mk (by omega) ?_) | (refine Sl.ln (Own.sl (by assumption)) ?_) | (refine Ints.ix (Own.sl (by assumption)) (by omega) ?_) | (refine Ints.ixI (Own.sl (by assumption)) (by omega) ?_) | (refine Ints.ld (Own.sl (by assumption)) (by omega) ?_))
                refine VE.lit1 Try.underlying26 eInt (rfl) fun lv w30 E30 Hl => ?_
                replace HA := HA.ext E30
                replace Hf := Hf.ext E30
                replace EE := EE.ext E30
                replace Hb := Hb.ext E30
                replace EL1 := EL1.ext E30
                replace HO := HO.ext E30
                replace HS2 := HS2.ext E30
                conv => whnf
                refine VE.app Try.underlying26 eInt rfl (by omega) HS2 EL1 rfl Hl (by simp [Value.oneCell']) (by first | omega | (simp only [List.length_map, List.length_range]; omega) | (simp; omega)) (by first | omega | (simp only [List.length_map, List.length_range]; omega) | (simp; omega)) fun v8 w31 E31 G31 H8 => ?_
                replace HO := Own.gr HO G31 (fun k hk hS => Own.ne HS2 HO (by decide) k hS hk)
                replace HA := HA__1.ext E31
                replace Hf := Hf__1.ext E31
                replace EE := EE__1.ext E31
                replace Hb := Hb__1.ext E31
                replace EL1 := E31
                repeat' ((conv => whnf); first | (refine Dr.quiet tyOk (by kernel_rfl) ?_) | (refine Rng.mk (by omega) ?_) | (refine Split.pos (by omega) ?_) | (refine Split.neg (by omega) ?_) | (refine Split.mk (fun h => ?_) (fun h => ?_)) | (refine Need.mk (by omega) ?_) | (refine Ints.ln (by assumption) ?_) | (refine Mat.ln (by assumption) ?_) | (refine Ints.ln (Mat.row (by assumption) _ (by omega)) ?_) | (refine Ints.ix (by assumption) (by omega) ?_) | (refine Mat.ix (by assumption) (by omega) ?_) | (refine Ints.ix (Mat.row (by assumption) _ (by omega)) (by omega) ?_) | (refine Ints.ix (c := 0) (by assumption) (by omega) ?_) | (refine Mat.ix (c := 0) (by assumption) (by omega) ?_) | (refine Ints.ix (c := 0) (Mat.row (by assumption) _ (by omega)) (by omega) ?_) | (refine Ints.ixI (by assumption) (by omega) ?_) | (refine Mat.ixI (by assumption) (by omega) ?_) | (refine Ints.ixI (Mat.row (by assumption) _ (by omega)) (by omega) ?_) | (refine Ints.ld (by assumption) (by omega) ?_) | (refine Mat.ld (by assumption) (by omega) ?_) | (refine Ints.ld (Mat.row (by assumption) _ (by omega)) (by omega) ?_) | (refine At.ld (by assumption) rfl ?_) | (refine At.ldN (by assumption) rfl ?_) | (refine Prs.ln (by assumption) ?_) | (refine Trs.ln (by assumption) ?_) | (refine Prs.ix (by assumption) (by omega) ?_) | (refine Trs.ix (by assumption) (by omega) ?_) | (refine Prs.ldN (by assumption) (by omega) ?_) | (refine Trs.ldN (by assumption) (by omega) ?_) | (refine At.ldN (Blk.at (by assumption)) rfl ?_) | (refine At.ld (Blk.at (by assumption)) rfl ?_) | (refine IxA.mk (by omega) ?_) | (refine Sl.ln (Own.sl (by assumption)) ?_) | (refine Ints.ix (Own.sl (by assumption)) (by omega) ?_) | (refine Ints.ixI (Own.sl (by assumption)) (by omega) ?_) | (refine Ints.ld (Own.sl (by assumption)) (by omega) ?_))
                refine ⟨_, (by omega : A.length - (d + 1) < A.length - d), rfl, d + 1, by omega, rfl, rfl, ⟨M.set (frm A d).toNat true, S ++ [frm A d], HO, by show Go.Eng.Own _ _ _ _ _ (S ++ [frm A d]).length ((S ++ [frm A d]).map i64v); rw [List.length_append, List.map_append]; exact H8, hpu, by rw [List.length_append]; simp only [List.length_singleton]; omega, hmk⟩, EL1⟩
            · have hno : ∀ t, ¬ Edg A f v t d := fun t h => by unfold Edg at h; omega
              have hmk : ∀ i, i < d + 1 → ∀ t, Edg A f v t i → M.getD t.toNat false = true := by
                intro i hi t hte
                by_cases e : i = d
                · subst e; exact absurd hte (hno t)
                · exact hdone i (by omega) t hte
              repeat' ((conv => whnf); first | (refine Dr.quiet tyOk (by kernel_rfl) ?_) | (refine Rng.mk (by omega) ?_) | (refine Split.pos (by omega) ?_) | (refine Split.neg (by omega) ?_) | (refine Split.mk (fun h => ?_) (fun h => ?_)) | (refine Need.mk (by omega) ?_) | (refine Ints.ln (by assumption) ?_) | (refine Mat.ln (by assumption) ?_) | (refine Ints.ln (Mat.row (by assumption) _ (by omega)) ?_) | (refine Ints.ix (by assumption) (by omega) ?_) | (refine Mat.ix (by assumption) (by omega) ?_) | (refine Ints.ix (Mat.row (by assumption) _ (by omega)) (by omega) ?_) | (refine Ints.ix (c := 0) (by assumption) (by omega) ?_) | (refine Mat.ix (c := 0) (by assumption) (by omega) ?_) | (refine Ints.ix (c := 0) (Mat.row (by assumption) _ (by omega)) (by omega) ?_) | (refine Ints.ixI (by assumption) (by omega) ?_) | (refine Mat.ixI (by assumption) (by omega) ?_) | (refine Ints.ixI (Mat.row (by assumption) _ (by omega)) (by omega) ?_) | (refine Ints.ld (by assumption) (by omega) ?_) | (refine Mat.ld (by assumption) (by omega) ?_) | (refine Ints.ld (Mat.row (by assumption) _ (by omega)) (by omega) ?_) | (refine At.ld (by assumption) rfl ?_) | (refine At.ldN (by assumption) rfl ?_) | (refine Prs.ln (by assumption) ?_) | (refine Trs.ln (by assumption) ?_) | (refine Prs.ix (by assumption) (by omega) ?_) | (refine Trs.ix (by assumption) (by omega) ?_) | (refine Prs.ldN (by assumption) (by omega) ?_) | (refine Trs.ldN (by assumption) (by omega) ?_) | (refine At.ldN (Blk.at (by assumption)) rfl ?_) | (refine At.ld (Blk.at (by assumption)) rfl ?_) | (refine IxA.mk (by omega) ?_) | (refine Sl.ln (Own.sl (by assumption)) ?_) | (refine Ints.ix (Own.sl (by assumption)) (by omega) ?_) | (refine Ints.ixI (Own.sl (by assumption)) (by omega) ?_) | (refine Ints.ld (Own.sl (by assumption)) (by omega) ?_))
              all_goals (refine ⟨_, (by omega : A.length - (d + 1) < A.length - d), rfl, d + 1, by omega, rfl, rfl, ⟨M, S, HO, HS, hR, hcnt, hmk⟩, EL1⟩)
        · repeat' ((conv => whnf); first | (refine Dr.quiet tyOk (by kernel_rfl) ?_) | (refine Rng.mk (by omega) ?_) | (refine Split.pos (by omega) ?_) | (refine Split.neg (by omega) ?_) | (refine Split.mk (fun h => ?_) (fun h => ?_)) | (refine Need.mk (by omega) ?_) | (refine Ints.ln (by assumption) ?_) | (refine Mat.ln (by assumption) ?_) | (refine Ints.ln (Mat.row (by assumption) _ (by omega)) ?_) | (refine Ints.ix (by assumption) (by omega) ?_) | (refine Mat.ix (by assumption) (by omega) ?_) | (refine Ints.ix (Mat.row (by assumption) _ (by omega)) (by omega) ?_) | (refine Ints.ix (c := 0) (by assumption) (by omega) ?_) | (refine Mat.ix (c := 0) (by assumption) (by omega) ?_) | (refine Ints.ix (c := 0) (Mat.row (by assumption) _ (by omega)) (by omega) ?_) | (refine Ints.ixI (by assumption) (by omega) ?_) | (refine Mat.ixI (by assumption) (by omega) ?_) | (refine Ints.ixI (Mat.row (by assumption) _ (by omega)) (by omega) ?_) | (refine Ints.ld (by assumption) (by omega) ?_) | (refine Mat.ld (by assumption) (by omega) ?_) | (refine Ints.ld (Mat.row (by assumption) _ (by omega)) (by omega) ?_) | (refine At.ld (by assumption) rfl ?_) | (refine At.ldN (by assumption) rfl ?_) | (refine Prs.ln (by assumption) ?_) | (refine Trs.ln (by assumption) ?_) | (refine Prs.ix (by assumption) (by omega) ?_) | (refine Trs.ix (by assumption) (by omega) ?_) | (refine Prs.ldN (by assumption) (by omega) ?_) | (refine Trs.ldN (by assumption) (by omega) ?_) | (refine At.ldN (Blk.at (by assumption)) rfl ?_) | (refine At.ld (Blk.at (by assumption)) rfl ?_) | (refine IxA.mk (by omega) ?_) | (refine Sl.ln (Own.sl (by assumption)) ?_) | (refine Ints.ix (Own.sl (by assumption)) (by omega) ?_) | (refine Ints.ixI (Own.sl (by assumption)) (by omega) ?_) | (refine Ints.ld (Own.sl (by assumption)) (by omega) ?_))
          refine ⟨_, (by omega : (N + 1) - (c + 1) < (N + 1) - c), rfl, c + 1, by omega, rfl, ⟨M, S, HO, HS, hR.shut (fun i hi t ht => hdone i (by omega) t ht), by omega⟩, EL1⟩
end Go.Proofs.Ytpdldifklgpikaa
set_option linter.unusedVariables false
set_option linter.unusedSimpArgs false
namespace Go.Proofs.Ytpdldifklgpikaa
open Go.Eng
set_option maxRecDepth 100000
set_option maxHeartbeats 4000000

theorem rleft_pc {w : World} {N : Nat} {sv fv : Value} {A : List T3} {f : List Int} {d : Nat} (HA : Trs w sv A) (Hf : Ints w fv f) (hk : NetOk N A) (hF : isF A f) (hd : d < f.length) :
    PC Try.prog 44 [.agg #[.int .i64 (N : Int), sv], fv, .int .i64 (d : Int)] w (.tuple #[.int .i64 (cpy A d - f.getD d 0), .int .i64 (f.getD d 0)]) := by
  refine PC.mk tyOk Try.func44 rfl (by kernel_rfl) fun w1 E1 => ?_
  replace HA := HA.ext E1
  replace Hf := Hf.ext E1
  have EE := Ext.refl w1
  refine Bx.agg fun b2 w2 E2 hb2 Hb _ => ?_
  replace HA := HA.ext E2
  replace Hf := Hf.ext E2
  replace EE := EE.ext E2
  have hfl := hF.1
  have h1 := hF.2 d hd
  have h2 := (hk.arc d (by omega)).2.2.2.2
  have e3 : (A.getD d (0, 0, 0)).2.2 = cpy A d := rfl
  repeat' ((conv => whnf); first | (refine Dr.quiet tyOk (by kernel_rfl) ?_) | (refine Trs.ld0 (by assumption) (by omega) rfl ?_) | (refine Trs.ld1 (by assumption) (by omega) rfl ?_) | (refine Trs.ld2 (by assumption) (by omega) rfl ?_) | (refine Rng.mk (by omega) ?_) | (refine Split.pos (by omega) ?_) | (refine Split.neg (by omega) ?_) | (refine Split.mk (fun h => ?_) (fun h => ?_)) | (refine Need.mk (by omega) ?_) | (refine Ints.ln (by assumption) ?_) | (refine Mat.ln (by assumption) ?_) | (refine Ints.ln (Mat.row (by assumption) _ (by omega)) ?_) | (refine Ints.ix (by assumption) (by omega) ?_) | (refine Mat.ix (by assumption) (by omega) ?_) | (refine Ints.ix (Mat.row (by assumption) _ (by omega)) (by omega) ?_) | (refine Ints.ix (c := 0) (by assumption) (by omega) ?_) | (refine Mat.ix (c := 0) (by assumption) (by omega) ?_) | (refine Ints.ix (c := 0) (Mat.row (by assumption) _ (by omega)) (by omega) ?_) | (refine Ints.ixI (by assumption) (by omega) ?_) | (refine Mat.ixI (by assumption) (by omega) ?_) | (refine Ints.ixI (Mat.row (by assumption) _ (by omega)) (by omega) ?_) | (refine Ints.ld (by assumption) (by omega) ?_) | (refine Mat.ld (by assumption) (by omega) ?_) | (refine Ints.ld (Mat.row (by assumption) _ (by omega)) (by omega) ?_) | (refine At.ld (by assumption) rfl ?_) | (refine At.ldN (by assumption) rfl ?_) | (refine Prs.ln (by assumption) ?_) | (refine Trs.ln (by assumption) ?_) | (refine Prs.ix (by assumption) (by omega) ?_) | (refine Trs.ix (by assumption) (by omega) ?_) | (refine Prs.ldN (by assumption) (by omega) ?_) | (refine Trs.ldN (by assumption) (by omega) ?_) | (refine At.ldN (Blk.at (by assumption)) rfl ?_) | (refine At.ld (Blk.at (by assumption)) rfl ?_) | (refine IxA.mk (by omega) ?_) | (refine Sl.ln (Own.sl (by assumption)) ?_) | (refine Ints.ix (Own.sl (by assumption)) (by omega) ?_) | (refine Ints.ixI (Own.sl (by assumption)) (by omega) ?_) | (refine Ints.ld (Own.sl (by assumption)) (by omega) ?_))
  exact ⟨rfl, EE⟩

/-- what is behind arc i is marked -/
def Shut (A : List T3) (f : List Int) (M : List Bool) (i : Nat) : Prop := ∀ u v : Int, M.getD u.toNat false = true → Edg A f u v i → M.getD v.toNat false = true

theorem rfound_rc {w : World} {N : Nat} {sv fv : Value} {A : List T3} {f : List Int} (HA : Trs w sv A) (Hf : Ints w fv f) (hk : NetOk N A) (hF : isF A f) :
    RC Try.prog 35 [.agg #[.int .i64 (N : Int), sv], fv] w NoB (fun u w' => OZ w.heap.size w' u (rchL N A f)) := by
  refine RC.mk tyOk Try.func35 rfl (by kernel_rfl) fun w1 E1 => ?_
  replace HA := HA.ext E1
  replace Hf := Hf.ext E1
  have EE := Ext.refl w1
  refine Bx.agg fun b2 w2 E2 hb2 Hb _ => ?_
  replace HA := HA.ext E2
  replace Hf := Hf.ext E2
  replace EE := EE.ext E2
  have hz1 := EE.size
  have hz0 : w.heap.size ≤ w1.heap.size := by first | omega | exact E1.size
  have hle := HA.le
  have hlf := Hf.le
  have h40 := hk.n40
  have h200 := hk.a200
  have hn2 := hk.n2
  have hfl := hF.1
  have hrm0 := (RI.start (f := f) hk).1.rm
  have hcn := (RI.start (f := f) hk).2
  repeat' ((conv => whnf); first | (refine Dr.quiet tyOk (by kernel_rfl) ?_) | (refine Rng.mk (by omega) ?_) | (refine Split.pos (by omega) ?_) | (refine Split.neg (by omega) ?_) | (refine Split.mk (fun h => ?_) (fun h => ?_)) | (refine Need.mk (by omega) ?_) | (refine Ints.ln (by assumption) ?_) | (refine Mat.ln (by assumption) ?_) | (refine Ints.ln (Mat.row (by assumption) _ (by omega)) ?_) | (refine Ints.ix (by assumption) (by omega) ?_) | (refine Mat.ix (by assumption) (by omega) ?_) | (refine Ints.ix (Mat.row (by assumption) _ (by omega)) (by omega) ?_) | (refine Ints.ix (c := 0) (by assumption) (by omega) ?_) | (refine Mat.ix (c := 0) (by assumption) (by omega) ?_) | (refine Ints.ix (c := 0) (Mat.row (by assumption) _ (by omega)) (by omega) ?_) | (refine Ints.ixI (by assumption) (by omega) ?_) | (refine Mat.ixI (by assumption) (by omega) ?_) | (refine Ints.ixI (Mat.row (by assumption) _ (by omega)) (by omega) ?_) | (refine Ints.ld (by assumption) (by omega) ?_) | (refine Mat.ld (by assumption) (by omega) ?_) | (refine Ints.ld (Mat.row (by assumption) _ (by omega)) (by omega) ?_) | (refine At.ld (by assumption) rfl ?_) | (refine At.ldN (by assumption) rfl ?_) | (refine Prs.ln (by assumption) ?_) | (refine Trs.ln (by assumption) ?_) | (refine Prs.ix (by assumption) (by omega) ?_) | (refine Trs.ix (by assumption) (by omega) ?_) | (refine Prs.ldN (by assumption) (by omega) ?_) | (refine Trs.ldN (by assumption) (by omega) ?_) | (refine At.ldN (Blk.at (by assumption)) rfl ?_) | (refine At.ld (Blk.at (by assumption)) rfl ?_) | (refine IxA.mk (by omega) ?_) | (refine Sl.ln (Own.sl (by assumption)) ?_) | (refine Ints.ix (Own.sl (by assumption)) (by omega) ?_) | (refine Ints.ixI (Own.sl (by assumption)) (by omega) ?_) | (refine Ints.ld (Own.sl (by assumption)) (by omega) ?_))
  have HA__1 := HA
  have Hf__1 := Hf
  have EE__1 := EE
  have Hb__1 := Hb
  conv => whnf
  refine VE.made (n := N) Try.underlying32 eBool rfl (by omega) (by omega) fun rv w3 E3 HO hb_rv => ?_
  replace HA := HA.ext E3
  replace Hf := Hf.ext E3
  replace EE := EE.ext E3
  replace Hb := Hb.ext E3
  replace HO := OZ.made (HO _ (Nat.le_refl _))
  have EL1 := E3
  have hrl : (List.replicate N false).length = N := List.length_replicate
  repeat' ((conv => whnf); first | (refine Dr.quiet tyOk (by kernel_rfl) ?_) | (refine Bls.ix (c := 0) (Own.sl HO) (by omega) ?_) | (refine Rng.mk (by omega) ?_) | (refine Split.pos (by omega) ?_) | (refine Split.neg (by omega) ?_) | (refine Split.mk (fun h => ?_) (fun h => ?_)) | (refine Need.mk (by omega) ?_) | (refine Ints.ln (by assumption) ?_) | (refine Mat.ln (by assumption) ?_) | (refine Ints.ln (Mat.row (by assumption) _ (by omega)) ?_) | (refine Ints.ix (by assumption) (by omega) ?_) | (refine Mat.ix (by assumption) (by omega) ?_) | (refine Ints.ix (Mat.row (by assumption) _ (by omega)) (by omega) ?_) | (refine Ints.ix (c := 0) (by assumption) (by omega) ?_) | (refine Mat.ix (c := 0) (by assumption) (by omega) ?_) | (refine Ints.ix (c := 0) (Mat.row (by assumption) _ (by omega)) (by omega) ?_) | (refine Ints.ixI (by assumption) (by omega) ?_) | (refine Mat.ixI (by assumption) (by omega) ?_) | (refine Ints.ixI (Mat.row (by assumption) _ (by omega)) (by omega) ?_) | (refine Ints.ld (by assumption) (by omega) ?_) | (refine Mat.ld (by assumption) (by omega) ?_) | (refine Ints.ld (Mat.row (by assumption) _ (by omega)) (by omega) ?_) | (refine At.ld (by assumption) rfl ?_) | (refine At.ldN (by assumption) rfl ?_) | (refine Prs.ln (by assumption) ?_) | (refine Trs.ln (by assumption) ?_) | (refine Prs.ix (by assumption) (by omega) ?_) | (refine Trs.ix (by assumption) (by omega) ?_) | (refine Prs.ldN (by assumption) (by omega) ?_) | (refine Trs.ldN (by assumption) (by omega) ?_) | (refine At.ldN (Blk.at (by assumption)) rfl ?_) | (refine At.ld (Blk.at (by assumption)) rfl ?_) | (refine IxA.mk (by omega) ?_) | (refine Sl.ln (Own.sl (by assumption)) ?_) | (refine Ints.ix (Own.sl (by assumption)) (by omega) ?_) | (refine Ints.ixI (Own.sl (by assumption)) (by omega) ?_) | (refine Ints.ld (Own.sl (by assumption)) (by omega) ?_))
  refine OZ.set HO (by omega) fun w4 G4 HO' => ?_
  have E4 : Ext w2 w4 := Own.keep HO EL1 (Nat.le_refl _) G4
  replace HO := HO'
  replace HA := HA__1.ext E4
  replace Hf := Hf__1.ext E4
  replace EE := EE__1.ext E4
  replace Hb := Hb__1.ext E4
  replace EL1 := E4
  repeat' ((conv => whnf); first | (refine Dr.quiet tyOk (by kernel_rfl) ?_) | (refine Rng.mk (by omega) ?_) | (refine Split.pos (by omega) ?_) | (refine Split.neg (by omega) ?_) | (refine Split.mk (fun h => ?_) (fun h => ?_)) | (refine Need.mk (by omega) ?_) | (refine Ints.ln (by assumption) ?_) | (refine Mat.ln (by assumption) ?_) | (refine Ints.ln (Mat.row (by assumption) _ (by omega)) ?_) | (refine Ints.ix (by assumption) (by omega) ?_) | (refine Mat.ix (by assumption) (by omega) ?_) | (refine Ints.ix (Mat.row (by assumption) _ (by omega)) (by omega) ?_) | (refine Ints.ix (c := 0) (by assumption) (by omega) ?_) | (refine Mat.ix (c := 0) (by assumption) (by omega) ?_) | (refine Ints.ix (c := 0) (Mat.row (by assumption) _ (by omega)) (by omega) ?_) | (refine Ints.ixI (by assumption) (by omega) ?_) | (refine Mat.ixI (by assumption) (by omega) ?_) | (refine Ints.ixI (Mat.row (by assumption) _ (by omega)) (by omega) ?_) | (refine Ints.ld (by assumption) (by omega) ?_) | (refine Mat.ld (by assumption) (by omega) ?_) | (refine Ints.ld (Mat.row (by assumption) _ (by omega)) (by omega) ?_) | (refine At.ld (by assumption) rfl ?_) | (refine At.ldN (by assumption) rfl ?_) | (refine Prs.ln (by assumption) ?_) | (refine Trs.ln (by assumption) ?_) | (refine Prs.ix (by assumption) (by omega) ?_) | (refine Trs.ix (by assumption) (by omega) ?_) | (refine Prs.ldN (by assumption) (by omega) ?_) | (refine Trs.ldN (by assumption) (by omega) ?_) | (refine At.ldN (Blk.at (by assumption)) rfl ?_) | (refine At.ld (Blk.at (by assumption)) rfl ?_) | (refine IxA.mk (by omega) ?_) | (refine Sl.ln (Own.sl (by assumption)) ?_) | (refine Ints.ix (Own.sl (by assumption)) (by omega) ?_) | (refine Ints.ixI (Own.sl (by assumption)) (by omega) ?_) | (refine Ints.ld (Own.sl (by assumption)) (by omega) ?_))
  refine Lp.mk tyOk [false, false, false, false, false, false, true, true, true, true, true, false, false, false, false, false, true, true, true, true, true, true, true, true, true, true, true, true, true, true, true, true, true, true, true, true, true, true, true, true, true, true, true, true, true, true, true, true, true, true, true, true, true, true, true, true, true, true, true, true, true, true, true, true, true, true, true, true, true, true, true, true, true, true, true, true, true] (fun m fr wr => getK fr 6 fun mo => ∃ c : Nat, c ≤ (N + 1) ∧ m = (N + 1) - c ∧ ((∃ b M, mo = .bool b ∧ OZ w2.heap.size wr rv M ∧ RM N A f M ∧ (b = true → c + cntF M ≤ N) ∧ (b = false → ∀ i, i < A.length → Shut A f M i))) ∧ Ext w2 wr) ((N + 1)) ?_ ?_
  · exact ⟨0, Nat.zero_le _, rfl, ⟨true, _, rfl, HO, hrm0, fun _ => by omega, fun h => (by cases h)⟩, EL1⟩
  · intro m w5 u6 u7 u8 u9 u10 u16 u17 u18 u19 u20 u21 u22 u23 u24 u25 u26 u27 u28 u29 u30 u31 u32 u33 u34 u35 u36 u37 u38 u39 u40 u41 u42 u43 u44 u45 u46 u47 u48 u49 u50 u51 u52 u53 u54 u55 u56 u57 u58 u59 u60 u61 u62 u63 u64 u65 u66 u67 u68 u69 u70 u71 u72 u73 u74 u75 u76 hR
    obtain ⟨c, hc, rfl, HX, EL1⟩ := hR
    replace HA := HA__1.ext EL1
    replace Hf := Hf__1.ext EL1
    replace EE := EE__1.ext EL1
    replace Hb := Hb__1.ext EL1
    obtain ⟨b, M, rfl, HO, hR, hb1, hb0⟩ := HX
    cases b with
    | false =>
      repeat' ((conv => whnf); first | (refine Dr.quiet tyOk (by kernel_rfl) ?_) | (refine Rng.mk (by omega) ?_) | (refine Split.pos (by omega) ?_) | (refine Split.neg (by omega) ?_) | (refine Split.mk (fun h => ?_) (fun h => ?_)) | (refine Need.mk (by omega) ?_) | (refine Ints.ln (by assumption) ?_) | (refine Mat.ln (by assumption) ?_) | (refine Ints.ln (Mat.row (by assumption) _ (by omega)) ?_) | (refine Ints.ix (by assumption) (by omega) ?_) | (refine Mat.ix (by assumption) (by omega) ?_) | (refine Ints.ix (Mat.row (by assumption) _ (by omega)) (by omega) ?_) | (refine Ints.ix (c := 0) (by assumption) (by omega) ?_) | (refine Mat.ix (c := 0) (by assumption) (by omega) ?_) | (refine Ints.ix (c := 0) (Mat.row (by assumption) _ (by omega)) (by omega) ?_) | (refine Ints.ixI (by assumption) (by omega) ?_) | (refine Mat.ixI (by assumption) (by omega) ?_) | (refine Ints.ixI (Mat.row (by assumption) _ (by omega)) (by omega) ?_) | (refine Ints.ld (by assumption) (by omega) ?_) | (refine Mat.ld (by assumption) (by omega) ?_) | (refine Ints.ld (Mat.row (by assumption) _ (by omega)) (by omega) ?_) | (refine At.ld (by assumption) rfl ?_) | (refine At.ldN (by assumption) rfl ?_) | (refine Prs.ln (by assumption) ?_) | (refine Trs.ln (by assumption) ?_) | (refine Prs.ix (by assumption) (by omega) ?_) | (refine Trs.ix (by assumption) (by omega) ?_) | (refine Prs.ldN (by assumption) (by omega) ?_) | (refine Trs.ldN (by assumption) (by omega) ?_) | (refine At.ldN (Blk.at (by assumption)) rfl ?_) | (refine At.ld (Blk.at (by assumption)) rfl ?_) | (refine IxA.mk (by omega) ?_) | (refine Sl.ln (Own.sl (by assumption)) ?_) | (refine Ints.ix (Own.sl (by assumption)) (by omega) ?_) | (refine Ints.ixI (Own.sl (by assumption)) (by omega) ?_) | (refine Ints.ld (Own.sl (by assumption)) (by omega) ?_))
      rw [← hR.done hk (fun i hi => hb0 rfl i hi)]
      exact ⟨EE, Own.base HO (by omega)⟩
    | true =>
      have hcK := hb1 rfl
      obtain ⟨K, hK⟩ : ∃ K, K = cntF M := ⟨_, rfl⟩
      repeat' ((conv => whnf); first | (refine Dr.quiet tyOk (by kernel_rfl) ?_) | (refine Rng.mk (by omega) ?_) | (refine Split.pos (by omega) ?_) | (refine Split.neg (by omega) ?_) | (refine Split.mk (fun h => ?_) (fun h => ?_)) | (refine Need.mk (by omega) ?_) | (refine Ints.ln (by assumption) ?_) | (refine Mat.ln (by assumption) ?_) | (refine Ints.ln (Mat.row (by assumption) _ (by omega)) ?_) | (refine Ints.ix (by assumption) (by omega) ?_) | (refine Mat.ix (by assumption) (by omega) ?_) | (refine Ints.ix (Mat.row (by assumption) _ (by omega)) (by omega) ?_) | (refine Ints.ix (c := 0) (by assumption) (by omega) ?_) | (refine Mat.ix (c := 0) (by assumption) (by omega) ?_) | (refine Ints.ix (c := 0) (Mat.row (by assumption) _ (by omega)) (by omega) ?_) | (refine Ints.ixI (by assumption) (by omega) ?_) | (refine Mat.ixI (by assumption) (by omega) ?_) | (refine Ints.ixI (Mat.row (by assumption) _ (by omega)) (by omega) ?_) | (refine Ints.ld (by assumption) (by omega) ?_) | (refine Mat.ld (by assumption) (by omega) ?_) | (refine Ints.ld (Mat.row (by assumption) _ (by omega)) (by omega) ?_) | (refine At.ld (by assumption) rfl ?_) | (refine At.ldN (by assumption) rfl ?_) | (refine Prs.ln (by assumption) ?_) | (refine Trs.ln (by assumption) ?_) | (refine Prs.ix (by assumption) (by omega) ?_) | (refine Trs.ix (by assumption) (by omega) ?_) | (refine Prs.ldN (by assumption) (by omega) ?_) | (refine Trs.ldN (by assumption) (by omega) ?_) | (refine At.ldN (Blk.at (by assumption)) rfl ?_) | (refine At.ld (Blk.at (by assumption)) rfl ?_) | (refine IxA.mk (by omega) ?_) | (refine Sl.ln (Own.sl (by assumption)) ?_) | (refine Ints.ix (Own.sl (by assumption)) (by omega) ?_) | (refine Ints.ixI (Own.sl (by assumption)) (by omega) ?_) | (refine Ints.ld (Own.sl (by assumption)) (by omega) ?_))
      refine Lp.mk tyOk [false, false, false, false, false, false, true, true, true, true, true, false, false, false, false, false, false, true, true, true, true, true, true, true, true, true, true, true, true, true, true, true, true, true, true, true, true, true, true, true, true, true, true, true, true, true, true, true, true, true, true, true, true, true, true, true, true, true, true, true, true, true, true, true, true, true, true, true, true, true, true, true, true, true, true, true, true] (fun m fr wr => getK fr 7 fun i => getK fr 6 fun mo => ∃ d : Nat, d ≤ f.length ∧ m = f.length - d ∧ i = .int .i64 (d : Int) ∧ ((∃ b M, mo = .bool b ∧ OZ w2.heap.size wr rv M ∧ RM N A f M ∧ cntF M ≤ K ∧ (b = true → cntF M < K) ∧ (b = false → ∀ i, i < d → Shut A f M i))) ∧ Ext w2 wr) (f.length) ?_ ?_
      · exact ⟨0, Nat.zero_le _, rfl, rfl, ⟨false, M, rfl, HO, hR, by omega, fun h => (by cases h), fun _ i hi => absurd hi (Nat.not_lt_zero _)⟩, EL1⟩
      · intro m w6 u6 u7 u8 u9 u10 u17 u18 u19 u20 u21 u22 u23 u24 u25 u26 u27 u28 u29 u30 u31 u32 u33 u34 u35 u36 u37 u38 u39 u40 u41 u42 u43 u44 u45 u46 u47 u48 u49 u50 u51 u52 u53 u54 u55 u56 u57 u58 u59 u60 u61 u62 u63 u64 u65 u66 u67 u68 u69 u70 u71 u72 u73 u74 u75 u76 hR
        obtain ⟨d, hd, rfl, rfl, HY, EL1⟩ := hR
        replace HA := HA__1.ext EL1
        replace Hf := Hf__1.ext EL1
        replace EE := EE__1.ext EL1
        replace Hb := Hb__1.ext EL1
        obtain ⟨b, M, rfl, HO, hR, hleK, hbt, hbf⟩ := HY
        have hMl := hR.len
        by_cases hdl : d < f.length
        · have hdA : d < A.length := by omega
          obtain ⟨hf, ht, hne, hc0, hc1⟩ := hk.arc d hdA
          have hfd := hF.2 d hdl
          have e1 : (A.getD d (0, 0, 0)).1 = frm A d := rfl
          have e2 : (A.getD d (0, 0, 0)).2.1 = too A d := rfl
          have e3 : (A.getD d (0, 0, 0)).2.2 = cpy A d := rfl
          have hkeep : Shut A f M d → b = false → ∀ i, i < d + 1 → Shut A f M i := fun hsd h i hi => by
            by_cases e : i = d
            · subst e; exact hsd
            · exact hbf h i (by omega)
          repeat' ((conv => whnf); first | (refine Dr.quiet tyOk (by kernel_rfl) ?_) | (refine Rng.mk (by omega) ?_) | (refine Split.pos (by omega) ?_) | (refine Split.neg (by omega) ?_) | (refine Split.mk (fun h => ?_) (fun h => ?_)) | (refine Need.mk (by omega) ?_) | (refine Ints.ln (by assumption) ?_) | (refine Mat.ln (by assumption) ?_) | (refine Ints.ln (Mat.row (by assumption) _ (by omega)) ?_) | (refine Ints.ix (by assumption) (by omega) ?_) | (refine Mat.ix (by assumption) (by omega) ?_) | (refine Ints.ix (Mat.row (by assumption) _ (by omega)) (by omega) ?_) | (refine Ints.ix (c := 0) (by assumption) (by omega) ?_) | (refine Mat.ix (c := 0) (by assumption) (by omega) ?_) | (refine Ints.ix (c := 0) (Mat.row (by assumption) _ (by omega)) (by omega) ?_) | (refine Ints.ixI (by assumption) (by omega) ?_) | (refine Mat.ixI (by assumption) (by omega) ?_) | (refine Ints.ixI (Mat.row (by assumption) _ (by omega)) (by omega) ?_) | (refine Ints.ld (by assumption) (by omega) ?_) | (refine Mat.ld (by assumption) (by omega) ?_) | (refine Ints.ld (Mat.row (by assumption) _ (by omega)) (by omega) ?_) | (refine At.ld (by assumption) rfl ?_) | (refine At.ldN (by assumption) rfl ?_) | (refine Prs.ln (by assumption) ?_) | (refine Trs.ln (by assumption) ?_) | (refine Prs.ix (by assumption) (by omega) ?_) | (refine Trs.ix (by assumption) (by omega) ?_) | (refine Prs.ldN (by assumption) (by omega) ?_) | (refine Trs.ldN (by assumption) (by omega) ?_) | (refine At.ldN (Blk.at (by assumption)) rfl ?_) | (refine At.ld (Blk.at (by assumption)) rfl ?_) | (refine IxA.mk (by omega) ?_) | (refine Sl.ln (Own.sl (by assumption)) ?_) | (refine Ints.ix (Own.sl (by assumption)) (by omega) ?_) | (refine Ints.ixI (Own.sl (by assumption)) (by omega) ?_) | (refine Ints.ld (Own.sl (by assumption)) (by omega) ?_))
          have HA__2 := HA
          have Hf__2 := Hf
          have EE__2 := EE
          have Hb__2 := Hb
          have EL1__2 := EL1
          have HO__2 := HO
          conv => whnf
          refine VE.alloc eArc fun xb w7 E7 hb_xb Hk => ?_
          replace HA := HA.ext E7
          replace Hf := Hf.ext E7
          replace EE := EE.ext E7
          replace Hb := Hb.ext E7
          replace EL1 := EL1.ext E7
          replace HO := HO.ext E7
          have EL2 := E7
          conv => whnf
          refine Blk.all Hk (by kernel_rfl) (by first | decide | simp) rfl rfl (by intro v hv; simp at hv; rcases hv with rfl | rfl | rfl | rfl | rfl <;> rfl) fun w8 G8 Hk' => ?_
          have E8 : Ext w6 w8 := EL2.new G8 fun i hi hk => by omega
          replace Hk := Hk'
          replace HA := HA__2.ext E8
          replace Hf := Hf__2.ext E8
          replace EE := EE__2.ext E8
          replace Hb := Hb__2.ext E8
          replace EL1 := EL1__2.ext E8
          replace HO := HO__2.ext E8
          replace EL2 := E8
          have cl := rleft_pc (d := d) HA Hf hk hF hdl
          cases hp : M.getD (frm A d).toNat false with
          | true =>
            cases hq : M.getD (too A d).toNat false with
            | true =>
              have hsd : Shut A f M d := fun u v hu he => by
                rcases he with ⟨h1, h2, _⟩ | ⟨h1, h2, _⟩
                · rw [← h2]; exact hq
                · rw [← h2]; exact hp
              repeat' ((conv => whnf); first | (refine Dr.quiet tyOk (by kernel_rfl) ?_) | (refine VC.pure cl ?_) | (refine Bls.ixI (Own.sl HO) (by omega) ?_) | (refine Bls.ldv (Own.sl HO) hp (by omega) ?_) | (refine Bls.ldv (Own.sl HO) hq (by omega) ?_) | (refine Rng.mk (by omega) ?_) | (refine Split.pos (by omega) ?_) | (refine Split.neg (by omega) ?_) | (refine Split.mk (fun h => ?_) (fun h => ?_)) | (refine Need.mk (by omega) ?_) | (refine Ints.ln (by assumption) ?_) | (refine Mat.ln (by assumption) ?_) | (refine Ints.ln (Mat.row (by assumption) _ (by omega)) ?_) | (refine Ints.ix (by assumption) (by omega) ?_) | (refine Mat.ix (by assumption) (by omega) ?_) | (refine Ints.ix (Mat.row (by assumption) _ (by omega)) (by omega) ?_) | (refine Ints.ix (c := 0) (by assumption) (by omega) ?_) | (refine Mat.ix (c := 0) (by assumption) (by omega) ?_) | (refine Ints.ix (c := 0) (Mat.row (by assumption) _ (by omega)) (by omega) ?_) | (refine Ints.ixI (by assumption) (by omega) ?_) | (refine Mat.ixI (by assumption) (by omega) ?_) | (refine Ints.ixI (Mat.row (by assumption) _ (by omega)) (by omega) ?_) | (refine Ints.ld (by assumption) (by omega) ?_) | (refine Mat.ld (by assumption) (by omega) ?_) | (refine Ints.ld (Mat.row (by assumption) _ (by omega)) (by omega) ?_) | (refine At.ld (by assumption) rfl ?_) | (refine At.ldN (by assumption) rfl ?_) | (refine Prs.ln (by assumption) ?_) | (refine Trs.ln (by assumption) ?_) | (refine Prs.ix (by assumption) (by omega) ?_) | (refine Trs.ix (by assumption) (by omega) ?_) | (refine Prs.ldN (by assumption) (by omega) ?_) | (refine Trs.ldN (by assumption) (by omega) ?_) | (refine At.ldN (Blk.at (by assumption)) rfl ?_) | (refine At.ld (Blk.at (by assumption)) rfl ?_) | (refine IxA.mk (by omega) ?_) | (refine Sl.ln (Own.sl (by assumption)) ?_) | (refine Ints.ix (Own.sl (by assumption)) (by omega) ?_) | (refine Ints.ixI (Own.sl (by assumption)) (by omega) ?_) | (refine Ints.ld (Own.sl (by assumption)) (by omega) ?_))
              all_goals (refine ⟨_, (by omega : f.length - (d + 1) < f.length - d), rfl, d + 1, by omega, rfl, rfl, ⟨b, M, rfl, HO, hR, hleK, hbt, fun h i hi => hkeep hsd h i hi⟩, EL1⟩)
            | false =>
              by_cases hfw : f.getD d 0 < cpy A d
              · have hpu := hR.set (t := (too A d).toNat) (by omega) (by rw [show ((((too A d).toNat : Nat)) : Int) = too A d by omega]; exact Rch.s (by have := hR.rch _ hp; rwa [show ((((frm A d).toNat : Nat)) : Int) = frm A d by omega] at this) hdA (.inl ⟨rfl, rfl, hfw⟩))
                have hcs := cntF_set (l := M) (t := (too A d).toNat) (by omega) hq
                have hg1 : (M.set (too A d).toNat true).getD (too A d).toNat false = true := by rw [setB_getD (by omega), if_pos rfl]
                have hg2 : (M.set (too A d).toNat true).getD (frm A d).toNat false = true := by rw [setB_getD (by omega)]; split; rfl; exact hp
                have hml2 : (M.set (too A d).toNat true).length = N := by rw [List.length_set]; exact hMl
                repeat' ((conv => whnf); first | (refine Dr.quiet tyOk (by kernel_rfl) ?_) | (refine VC.pure cl ?_) | (refine Bls.ixI (Own.sl HO) (by omega) ?_) | (refine Bls.ldv (Own.sl HO) hp (by omega) ?_) | (refine Bls.ldv (Own.sl HO) hq (by omega) ?_) | (refine Rng.mk (by omega) ?_) | (refine Split.pos (by omega) ?_) | (refine Split.neg (by omega) ?_) | (refine Split.mk (fun h => ?_) (fun h => ?_)) | (refine Need.mk (by omega) ?_) | (refine Ints.ln (by assumption) ?_) | (refine Mat.ln (by assumption) ?_) | (refine Ints.ln (Mat.row (by assumption) _ (by omega)) ?_) | (refine Ints.ix (by assumption) (by omega) ?_) | (refine Mat.ix (by assumption) (by omega) ?_) | (refine Ints.ix (Mat.row (by assumption) _ (by omega)) (by omega) ?_) | (refine Ints.ix (c := 0) (by assumption) (by omega) ?_) | (refine Mat.ix (c := 0) (by assumption) (by omega) ?_) | (refine Ints.ix (c := 0) (Mat.row (by assumption) _ (by omega)) (by omega) ?_) | (refine Ints.ixI (by assumption) (by omega) ?_) | (refine Mat.ixI (by assumption) (by omega) ?_) | (refine Ints.ixI (Mat.row (by assumption) _ (by omega)) (by omega) ?_) | (refine Ints.ld (by assumption) (by omega) ?_) | (refine Mat.ld (by assumption) (by omega) ?_) | (refine Ints.ld (Mat.row (by assumption) _ (by omega)) (by omega) ?_) | (refine At.ld (by assumption) rfl ?_) | (refine At.ldN (by assumption) rfl ?_) | (refine Prs.ln (by assumption) ?_) | (refine Trs.ln (by assumption) ?_) | (refine Prs.ix (by assumption) (by omega) ?_) | (refine Trs.ix (by assumption) (by omega) ?_) | (refine Prs.ldN (by assumption) (by omega) ?_) | (refine Trs.ldN (by assumption) (by omega) ?_) | (refine At.ldN (Blk.at (by assumption)) rfl ?_) | (refine At.ld (Blk.at (by assumption)) rfl ?_) | (refine IxA.mk (by omega) ?_) | (refine Sl.ln (Own.sl (by assumption)) ?_) | (refine Ints.ix (Own.sl (by assumption)) (by omega) ?_) | (refine Ints.ixI (Own.sl (by assumption)) (by omega) ?_) | (refine Ints.ld (Own.sl (by assumption)) (by omega) ?_))
                have ho0 := HO
                refine OZ.set HO (by omega) fun w9 G9 HO' => ?_
                have E9 : Ext w2 w9 := Own.keep HO EL1 (Nat.le_refl _) G9
                replace HO := HO'
                replace HA := HA__1.ext E9
                replace Hf := Hf__1.ext E9
                replace EE := EE__1.ext E9
                replace Hb := Hb__1.ext E9
                replace EL1 := E9
                rw [e2] at HO
                have Hk2 := Blk.row Hk ho0 (by decide) G9
                repeat' ((conv => whnf); first | (refine Dr.quiet tyOk (by kernel_rfl) ?_) | (refine Bls.ixI (Own.sl HO) (by omega) ?_) | (refine Bls.ldv (Own.sl HO) hg1 (by omega) ?_) | (refine Bls.ldv (Own.sl HO) hg2 (by omega) ?_) | (refine Rng.mk (by omega) ?_) | (refine Split.pos (by omega) ?_) | (refine Split.neg (by omega) ?_) | (refine Split.mk (fun h => ?_) (fun h => ?_)) | (refine Need.mk (by omega) ?_) | (refine Ints.ln (by assumption) ?_) | (refine Mat.ln (by assumption) ?_) | (refine Ints.ln (Mat.row (by assumption) _ (by omega)) ?_) | (refine Ints.ix (by assumption) (by omega) ?_) | (refine Mat.ix (by assumption) (by omega) ?_) | (refine Ints.ix (Mat.row (by assumption) _ (by omega)) (by omega) ?_) | (refine Ints.ix (c := 0) (by assumption) (by omega) ?_) | (refine Mat.ix (c := 0) (by assumption) (by omega) ?_) | (refine Ints.ix (c := 0) (Mat.row (by assumption) _ (by omega)) (by omega) ?_) | (refine Ints.ixI (by assumption) (by omega) ?_) | (refine Mat.ixI (by assumption) (by omega) ?_) | (refine Ints.ixI (Mat.row (by assumption) _ (by omega)) (by omega) ?_) | (refine Ints.ld (by assumption) (by omega) ?_) | (refine Mat.ld (by assumption) (by omega) ?_) | (refine Ints.ld (Mat.row (by assumption) _ (by omega)) (by omega) ?_) | (refine At.ld (by assumption) rfl ?_) | (refine At.ldN (by assumption) rfl ?_) | (refine Prs.ln (by assumption) ?_) | (refine Trs.ln (by assumption) ?_) | (refine Prs.ix (by assumption) (by omega) ?_) | (refine Trs.ix (by assumption) (by omega) ?_) | (refine Prs.ldN (by assumption) (by omega) ?_) | (refine Trs.ldN (by assumption) (by omega) ?_) | (refine At.ldN (Blk.at (by assumption)) rfl ?_) | (refine At.ld (Blk.at (by assumption)) rfl ?_) | (refine IxA.mk (by omega) ?_) | (refine Sl.ln (Own.sl (by assumption)) ?_) | (refine Ints.ix (Own.sl (by assumption)) (by omega) ?_) | (refine Ints.ixI (Own.sl (by assumption)) (by omega) ?_) | (refine Ints.ld (Own.sl (by assumption)) (by omega) ?_))
                refine ⟨_, (by omega : f.length - (d + 1) < f.length - d), rfl, d + 1, by omega, rfl, rfl, ⟨true, M.set (too A d).toNat true, rfl, HO, hpu, by omega, fun _ => by omega, fun h => (by cases h)⟩, EL1⟩
              · have hsd : Shut A f M d := fun u v hu he => by
                  rcases he with ⟨h1, h2, h3⟩ | ⟨h1, h2, _⟩
                  · exact absurd h3 hfw
                  · rw [← h1, hq] at hu; cases hu
                repeat' ((conv => whnf); first | (refine Dr.quiet tyOk (by kernel_rfl) ?_) | (refine VC.pure cl ?_) | (refine Bls.ixI (Own.sl HO) (by omega) ?_) | (refine Bls.ldv (Own.sl HO) hp (by omega) ?_) | (refine Bls.ldv (Own.sl HO) hq (by omega) ?_) | (refine Rng.mk (by omega) ?_) | (refine Split.pos (by omega) ?_) | (refine Split.neg (by omega) ?_) | (refine Split.mk (fun h => ?_) (fun h => ?_)) | (refine Need.mk (by omega) ?_) | (refine Ints.ln (by assumption) ?_) | (refine Mat.ln (by assumption) ?_) | (refine Ints.ln (Mat.row (by assumption) _ (by omega)) ?_) | (refine Ints.ix (by assumption) (by omega) ?_) | (refine Mat.ix (by assumption) (by omega) ?_) | (refine Ints.ix (Mat.row (by assumption) _ (by omega)) (by omega) ?_) | (refine Ints.ix (c := 0) (by assumption) (by omega) ?_) | (refine Mat.ix (c := 0) (by assumption) (by omega) ?_) | (refine Ints.ix (c := 0) (Mat.row (by assumption) _ (by omega)) (by omega) ?_) | (refine Ints.ixI (by assumption) (by omega) ?_) | (refine Mat.ixI (by assumption) (by omega) ?_) | (refine Ints.ixI (Mat.row (by assumption) _ (by omega)) (by omega) ?_) | (refine Ints.ld (by assumption) (by omega) ?_) | (refine Mat.ld (by assumption) (by omega) ?_) | (refine Ints.ld (Mat.row (by assumption) _ (by omega)) (by omega) ?_) | (refine At.ld (by assumption) rfl ?_) | (refine At.ldN (by assumption) rfl ?_) | (refine Prs.ln (by assumption) ?_) | (refine Trs.ln (by assumption) ?_) | (refine Prs.ix (by assumption) (by omega) ?_) | (refine Trs.ix (by assumption) (by omega) ?_) | (refine Prs.ldN (by assumption) (by omega) ?_) | (refine Trs.ldN (by assumption) (by omega) ?_) | (refine At.ldN (Blk.at (by assumption)) rfl ?_) | (refine At.ld (Blk.at (by assumption)) rfl ?_) | (refine IxA.mk (by omega) ?_) | (refine Sl.ln (Own.sl (by assumption)) ?_) | (refine Ints.ix (Own.sl (by assumption)) (by omega) ?_) | (refine Ints.ixI (Own.sl (by assumption)) (by omega) ?_) | (refine Ints.ld (Own.sl (by assumption)) (by omega) ?_))
                all_goals (refine ⟨_, (by omega : f.length - (d + 1) < f.length - d), rfl, d + 1, by omega, rfl, rfl, ⟨b, M, rfl, HO, hR, hleK, hbt, fun h i hi => hkeep hsd h i hi⟩, EL1⟩)
          | false =>
            cases hq : M.getD (too A d).toNat false with
            | true =>
              by_cases hbw : 0 < f.getD d 0
              · have hpu := hR.set (t := (frm A d).toNat) (by omega) (by rw [show ((((frm A d).toNat : Nat)) : Int) = frm A d by omega]; exact Rch.s (by have := hR.rch _ hq; rwa [show ((((too A d).toNat : Nat)) : Int) = too A d by omega] at this) hdA (.inr ⟨rfl, rfl, hbw⟩))
                have hcs := cntF_set (l := M) (t := (frm A d).toNat) (by omega) hp
                have hg1 : (M.set (frm A d).toNat true).getD (frm A d).toNat false = true := by rw [setB_getD (by omega), if_pos rfl]
                have hg2 : (M.set (frm A d).toNat true).getD (too A d).toNat false = true := by rw [setB_getD (by omega)]; split; rfl; exact hq
                have hml2 : (M.set (frm A d).toNat true).length = N := by rw [List.length_set]; exact hMl
                repeat' ((conv => whnf); first | (refine Dr.quiet tyOk (by kernel_rfl) ?_) | (refine VC.pure cl ?_) | (refine Bls.ixI (Own.sl HO) (by omega) ?_) | (refine Bls.ldv (Own.sl HO) hp (by omega) ?_) | (refine Bls.ldv (Own.sl HO) hq (by omega) ?_) | (refine Rng.mk (by omega) ?_) | (refine Split.pos (by omega) ?_) | (refine Split.neg (by omega) ?_) | (refine Split.mk (fun h => ?_) (fun h => ?_)) | (refine Need.mk (by omega) ?_) | (refine Ints.ln (by assumption) ?_) | (refine Mat.ln (by assumption) ?_) | (refine Ints.ln (Mat.row (by assumption) _ (by omega)) ?_) | (refine Ints.ix (by assumption) (by omega) ?_) | (refine Mat.ix (by assumption) (by omega) ?_) | (refine Ints.ix (Mat.row (by assumption) _ (by omega)) (by omega) ?_) | (refine Ints.ix (c := 0) (by assumption) (by omega) ?_) | (refine Mat.ix (c := 0) (by assumption) (by omega) ?_) | (refine Ints.ix (c := 0) (Mat.row (by assumption) _ (by omega)) (by omega) ?_) | (refine Ints.ixI (by assumption) (by omega) ?_) | (refine Mat.ixI (by assumption) (by omega) ?_) | (refine Ints.ixI (Mat.row (by assumption) _ (by omega)) (by omega) ?_) | (refine Ints.ld (by assumption) (by omega) ?_) | (refine Mat.ld (by assumption) (by omega) ?_) | (refine Ints.ld (Mat.row (by assumption) _ (by omega)) (by omega) ?_) | (refine At.ld (by assumption) rfl ?_) | (refine At.ldN (by assumption) rfl ?_) | (refine Prs.ln (by assumption) ?_) | (refine Trs.ln (by assumption) ?_) | (refine Prs.ix (by assumption) (by omega) ?_) | (refine Trs.ix (by assumption) (by omega) ?_) | (refine Prs.ldN (by assumption) (by omega) ?_) | (refine Trs.ldN (by assumption) (by omega) ?_) | (refine At.ldN (Blk.at (by assumption)) rfl ?_) | (refine At.ld (Blk.at (by assumption)) rfl ?_) | (refine IxA.mk (by omega) ?_) | (refine Sl.ln (Own.sl (by assumption)) ?_) | (refine Ints.ix (Own.sl (by assumption)) (by omega) ?_) | (refine Ints.ixI (Own.sl (by assumption)) (by omega) ?_) | (refine Ints.ld (Own.sl (by assumption)) (by omega) ?_))
                have ho0 := HO
                refine OZ.set HO (by omega) fun w10 G10 HO' => ?_
                have E10 : Ext w2 w10 := Own.keep HO EL1 (Nat.le_refl _) G10
                replace HO := HO'
                replace HA := HA__1.ext E10
                replace Hf := Hf__1.ext E10
                replace EE := EE__1.ext E10
                replace Hb := Hb__1.ext E10
                replace EL1 := E10
                rw [e1] at HO
                have Hk2 := Blk.row Hk ho0 (by decide) G10
                repeat' ((conv => whnf); first | (refine Dr.quiet tyOk (by kernel_rfl) ?_) | (refine Bls.ixI (Own.sl HO) (by omega) ?_) | (refine Bls.ldv (Own.sl HO) hg1 (by omega) ?_) | (refine Bls.ldv (Own.sl HO) hg2 (by omega) ?_) | (refine Rng.mk (by omega) ?_) | (refine Split.pos (by omega) ?_) | (refine Split.neg (by omega) ?_) | (refine Split.mk (fun h => ?_) (fun h => ?_)) | (refine Need.mk (by omega) ?_) | (refine Ints.ln (by assumption) ?_) | (refine Mat.ln (by assumption) ?_) | (refine Ints.ln (Mat.row (by assumption) _ (by omega)) ?_) | (refine Ints.ix (by assumption) (by omega) ?_) | (refine Mat.ix (by assumption) (by omega) ?_) | (refine Ints.ix (Mat.row (by assumption) _ (by omega)) (by omega) ?_) | (refine Ints.ix (c := 0) (by assumption) (by omega) ?_) | (refine Mat.ix (c := 0) (by assumption) (by omega) ?_) | (refine Ints.ix (c := 0) (Mat.row (by assumption) _ (by omega)) (by omega) ?_) | (refine Ints.ixI (by assumption) (by omega) ?_) | (refine Mat.ixI (by assumption) (by omega) ?_) | (refine Ints.ixI (Mat.row (by assumption) _ (by omega)) (by omega) ?_) | (refine Ints.ld (by assumption) (by omega) ?_) | (refine Mat.ld (by assumption) (by omega) ?_) | (refine Ints.ld (Mat.row (by assumption) _ (by omega)) (by omega) ?_) | (refine At.ld (by assumption) rfl ?_) | (refine At.ldN (by assumption) rfl ?_) | (refine Prs.ln (by assumption) ?_) | (refine Trs.ln (by assumption) ?_) | (refine Prs.ix (by assumption) (by omega) ?_) | (refine Trs.ix (by assumption) (by omega) ?_) | (refine Prs.ldN (by assumption) (by omega) ?_) | (refine Trs.ldN (by assumption) (by omega) ?_) | (refine At.ldN (Blk.at (by assumption)) rfl ?_) | (refine At.ld (Blk.at (by assumption)) rfl ?_) | (refine IxA.mk (by omega) ?_) | (refine Sl.ln (Own.sl (by assumption)) ?_) | (refine Ints.ix (Own.sl (by assumption)) (by omega) ?_) | (refine Ints.ixI (Own.sl (by assumption)) (by omega) ?_) | (refine Ints.ld (Own.sl (by assumption)) (by omega) ?_))
                refine ⟨_, (by omega : f.length - (d + 1) < f.length - d), rfl, d + 1, by omega, rfl, rfl, ⟨true, M.set (frm A d).toNat true, rfl, HO, hpu, by omega, fun _ => by omega, fun h => (by cases h)⟩, EL1⟩
              · have hsd : Shut A f M d := fun u v hu he => by
                  rcases he with ⟨h1, h2, h3⟩ | ⟨h1, h2, h3⟩
                  · rw [← h1, hp] at hu; cases hu
                  · exact absurd h3 hbw
                repeat' ((conv => whnf); first | (refine Dr.quiet tyOk (by kernel_rfl) ?_) | (refine VC.pure cl ?_) | (refine Bls.ixI (Own.sl HO) (by omega) ?_) | (refine Bls.ldv (Own.sl HO) hp (by omega) ?_) | (refine Bls.ldv (Own.sl HO) hq (by omega) ?_) | (refine Rng.mk (by omega) ?_) | (refine Split.pos (by omega) ?_) | (refine Split.neg (by omega) ?_) | (refine Split.mk (fun h => ?_) (fun h => ?_)) | (refine Need.mk (by omega) ?_) | (refine Ints.ln (by assumption) ?_) | (refine Mat.ln (by assumption) ?_) | (refine Ints.ln (Mat.row (by assumption) _ (by omega)) ?_) | (refine Ints.ix (by assumption) (by omega) ?_) | (refine Mat.ix (by assumption) (by omega) ?_) | (refine Ints.ix (Mat.row (by assumption) _ (by omega)) (by omega) ?_) | (refine Ints.ix (c := 0) (by assumption) (by omega) ?_) | (refine Mat.ix (c := 0) (by assumption) (by omega) ?_) | (refine Ints.ix (c := 0) (Mat.row (by assumption) _ (by omega)) (by omega) ?_) | (refine Ints.ixI (by assumption) (by omega) ?_) | (refine Mat.ixI (by assumption) (by omega) ?_) | (refine Ints.ixI (Mat.row (by assumption) _ (by omega)) (by omega) ?_) | (refine Ints.ld (by assumption) (by omega) ?_) | (refine Mat.ld (by assumption) (by omega) ?_) | (refine Ints.ld (Mat.row (by assumption) _ (by omega)) (by omega) ?_) | (refine At.ld (by assumption) rfl ?_) | (refine At.ldN (by assumption) rfl ?_) | (refine Prs.ln (by assumption) ?_) | (refine Trs.ln (by assumption) ?_) | (refine Prs.ix (by assumption) (by omega) ?_) | (refine Trs.ix (by assumption) (by omega) ?_) | (refine Prs.ldN (by assumption) (by omega) ?_) | (refine Trs.ldN (by assumption) (by omega) ?_) | (refine At.ldN (Blk.at (by assumption)) rfl ?_) | (refine At.ld (Blk.at (by assumption)) rfl ?_) | (refine IxA.mk (by omega) ?_) | (refine Sl.ln (Own.sl (by assumption)) ?_) | (refine Ints.ix (Own.sl (by assumption)) (by omega) ?_) | (refine Ints.ixI (Own.sl (by assumption)) (by omega) ?_) | (refine Ints.ld (Own.sl (by assumption)) (by omega) ?_))
                all_goals (refine ⟨_, (by omega : f.length - (d + 1) < f.length - d), rfl, d + 1, by omega, rfl, rfl, ⟨b, M, rfl, HO, hR, hleK, hbt, fun h i hi => hkeep hsd h i hi⟩, EL1⟩)
            | false =>
              have hsd : Shut A f M d := fun u v hu he => by
                rcases he with ⟨h1, h2, _⟩ | ⟨h1, h2, _⟩
                · rw [← h1, hp] at hu; cases hu
                · rw [← h1, hq] at hu; cases hu
              repeat' ((conv => whnf); first | (refine Dr.quiet tyOk (by kernel_rfl) ?_) | (refine VC.pure cl ?_) | (refine Bls.ixI (Own.sl HO) (by omega) ?_) | (refine Bls.ldv (Own.sl HO) hp (by omega) ?_) | (refine Bls.ldv (Own.sl HO) hq (by omega) ?_) | (refine Rng.mk (by omega) ?_) | (refine Split.pos (by omega) ?_) | (refine Split.neg (by omega) ?_) | (refine Split.mk (fun h => ?_) (fun h => ?_)) | (refine Need.mk (by omega) ?_) | (refine Ints.ln (by assumption) ?_) | (refine Mat.ln (by assumption) ?_) | (refine Ints.ln (Mat.row (by assumption) _ (by omega)) ?_) | (refine Ints.ix (by assumption) (by omega) ?_) | (refine Mat.ix (by assumption) (by omega) ?_) | (refine Ints.ix (Mat.row (by assumption) _ (by omega)) (by omega) ?_) | (refine Ints.ix (c := 0) (by assumption) (by omega) ?_) | (refine Mat.ix (c := 0) (by assumption) (by omega) ?_) | (refine Ints.ix (c := 0) (Mat.row (by assumption) _ (by omega)) (by omega) ?_) | (refine Ints.ixI (by assumption) (by omega) ?_) | (refine Mat.ixI (by assumption) (by omega) ?_) | (refine Ints.ixI (Mat.row (by assumption) _ (by omega)) (by omega) ?_) | (refine Ints.ld (by assumption) (by omega) ?_) | (refine Mat.ld (by assumption) (by omega) ?_) | (refine Ints.ld (Mat.row (by assumption) _ (by omega)) (by omega) ?_) | (refine At.ld (by assumption) rfl ?_) | (refine At.ldN (by assumption) rfl ?_) | (refine Prs.ln (by assumption) ?_) | (refine Trs.ln (by assumption) ?_) | (refine Prs.ix (by assumption) (by omega) ?_) | (refine Trs.ix (by assumption) (by omega) ?_) | (refine Prs.ldN (by assumption) (by omega) ?_) | (refine Trs.ldN (by assumption) (by omega) ?_) | (refine At.ldN (Blk.at (by assumption)) rfl ?_) | (refine At.ld (Blk.at (by assumption)) rfl ?_) | (refine IxA.mk (by omega) ?_) | (refine Sl.ln (Own.sl (by assumption)) ?_) | (refine Ints.ix (Own.sl (by assumption)) (by omega) ?_) | (refine Ints.ixI (Own.sl (by assumption)) (by omega) ?_) | (refine Ints.ld (Own.sl (by assumption)) (by omega) ?_))
              all_goals (refine ⟨_, (by omega : f.length - (d + 1) < f.length - d), rfl, d + 1, by omega, rfl, rfl, ⟨b, M, rfl, HO, hR, hleK, hbt, fun h i hi => hkeep hsd h i hi⟩, EL1⟩)
        · repeat' ((conv => whnf); first | (refine Dr.quiet tyOk (by kernel_rfl) ?_) | (refine Rng.mk (by omega) ?_) | (refine Split.pos (by omega) ?_) | (refine Split.neg (by omega) ?_) | (refine Split.mk (fun h => ?_) (fun h => ?_)) | (refine Need.mk (by omega) ?_) | (refine Ints.ln (by assumption) ?_) | (refine Mat.ln (by assumption) ?_) | (refine Ints.ln (Mat.row (by assumption) _ (by omega)) ?_) | (refine Ints.ix (by assumption) (by omega) ?_) | (refine Mat.ix (by assumption) (by omega) ?_) | (refine Ints.ix (Mat.row (by assumption) _ (by omega)) (by omega) ?_) | (refine Ints.ix (c := 0) (by assumption) (by omega) ?_) | (refine Mat.ix (c := 0) (by assumption) (by omega) ?_) | (refine Ints.ix (c := 0) (Mat.row (by assumption) _ (by omega)) (by omega) ?_) | (refine Ints.ixI (by assumption) (by omega) ?_) | (refine Mat.ixI (by assumption) (by omega) ?_) | (refine Ints.ixI (Mat.row (by assumption) _ (by omega)) (by omega) ?_) | (refine Ints.ld (by assumption) (by omega) ?_) | (refine Mat.ld (by assumption) (by omega) ?_) | (refine Ints.ld (Mat.row (by assumption) _ (by omega)) (by omega) ?_) | (refine At.ld (by assumption) rfl ?_) | (refine At.ldN (by assumption) rfl ?_) | (refine Prs.ln (by assumption) ?_) | (refine Trs.ln (by assumption) ?_) | (refine Prs.ix (by assumption) (by omega) ?_) | (refine Trs.ix (by assumption) (by omega) ?_) | (refine Prs.ldN (by assumption) (by omega) ?_) | (refine Trs.ldN (by assumption) (by omega) ?_) | (refine At.ldN (Blk.at (by assumption)) rfl ?_) | (refine At.ld (Blk.at (by assumption)) rfl ?_) | (refine IxA.mk (by omega) ?_) | (refine Sl.ln (Own.sl (by assumption)) ?_) | (refine Ints.ix (Own.sl (by assumption)) (by omega) ?_) | (refine Ints.ixI (Own.sl (by assumption)) (by omega) ?_) | (refine Ints.ld (Own.sl (by assumption)) (by omega) ?_))
          refine ⟨_, (by omega : (N + 1) - (c + 1) < (N + 1) - c), rfl, c + 1, by omega, rfl, ⟨b, M, rfl, HO, hR, fun h => (by have := hbt h; omega), fun h i hi => hbf h i (by omega)⟩, EL1⟩

end Go.Proofs.Ytpdldifklgpikaa
set_option linter.unusedVariables false
set_option linter.unusedSimpArgs false
namespace Go.Proofs.Ytpdldifklgpikaa
open Go.Eng

/-- lists in the order of their places -/
def lexlt : List Int → List Int → Prop
  | [], _ => False
  | _, [] => False
  | x :: l, y :: m => x < y ∨ (x = y ∧ lexlt l m)
/-- at the first place where they differ -/
theorem lexlt_at {l m : List Int} (h : lexlt l m) : ∃ k, k < l.length ∧ k < m.length ∧ (∀ i, i < k → l.getD i 0 = m.getD i 0) ∧ l.getD k 0 < m.getD k 0 := by
  induction l generalizing m with
  | nil => exact h.elim
  | cons x l ih =>
    cases m with
    | nil => exact h.elim
    | cons y m =>
      rcases h with h | ⟨e, h⟩
      · exact ⟨0, by simp, by simp, fun i hi => absurd hi (Nat.not_lt_zero _), by simpa using h⟩
      · obtain ⟨k, h1, h2, h3, h4⟩ := ih h
        refine ⟨k + 1, by simp; omega, by simp; omega, fun i hi => ?_, by simpa using h4⟩
        cases i with
        | zero => simpa using e
        | succ i => simpa using h3 i (by omega)

end Go.Proofs.Ytpdldifklgpikaa
set_option linter.unusedVariables false
set_option linter.unusedSimpArgs false
namespace Go.Proofs.Ytpdldifklgpikaa
open Go.Eng

theorem lex_tri : ∀ {a b : List Int}, a.length = b.length → a = b ∨ lexlt a b ∨ lexlt b a
  | [], [], _ => .inl rfl
  | [], _ :: _, h => by simp at h
  | _ :: _, [], h => by simp at h
  | x :: a, y :: b, h => by
    rcases Int.lt_trichotomy x y with e | e | e
    · exact .inr (.inl (.inl e))
    · subst e
      rcases lex_tri (a := a) (b := b) (by simpa using h) with e | e | e
      · subst e; exact .inl rfl
      · exact .inr (.inl (.inr ⟨rfl, e⟩))
      · exact .inr (.inr (.inr ⟨rfl, e⟩))
    · exact .inr (.inr (.inl e))

section
open Classical
/-- what comes into a set of nodes by the first c arcs, less what goes out -/
noncomputable def setBal (A : List T3) (f : List Int) (S : Int → Prop) : Nat → Int
  | 0 => 0
  | c + 1 => setBal A f S c + (if S (too A c) then f.getD c 0 else 0) - (if S (frm A c) then f.getD c 0 else 0)
theorem sumK_sub (f g : Nat → Int) : ∀ n, sumK (fun k => f k - g k) n = sumK f n - sumK g n
  | 0 => rfl
  | n + 1 => by have := sumK_sub f g n; simp only [sumK]; omega
theorem sumK_in {S : Int → Prop} {x y : Int} {n : Nat} (h : 0 ≤ x ∧ x < n) : sumK (fun v : Nat => if S (v : Int) then (if x = (v : Int) then y else 0) else 0) n = if S x then y else 0 := by
  rw [sumK_congr (g := fun v : Nat => if x = (v : Int) then (if S x then y else 0) else 0)]
  · rw [sumK_ind, if_pos h]
  · intro v _
    by_cases e : x = (v : Int)
    · rw [if_pos e, if_pos e, e]
    · rw [if_neg e, if_neg e]; split <;> rfl
theorem setBal_sum {N : Nat} {A : List T3} {f : List Int} {S : Int → Prop} (hk : NetOk N A) : ∀ {c : Nat}, c ≤ A.length → sumK (fun v : Nat => if S (v : Int) then bal A f v c else 0) N = setBal A f S c
  | 0, _ => by
    rw [sumK_congr (g := fun _ => 0) (fun v _ => by simp [bal])]
    exact sumK_zero N
  | c + 1, h => by
    have ih := setBal_sum (f := f) (S := S) hk (c := c) (by omega)
    have ha := hk.arc c (by omega)
    have e : sumK (fun v : Nat => if S (v : Int) then bal A f v (c + 1) else 0) N = sumK (fun v : Nat => ((if S (v : Int) then bal A f v c else 0) + (if S (v : Int) then (if too A c = (v : Int) then f.getD c 0 else 0) else 0)) - (if S (v : Int) then (if frm A c = (v : Int) then f.getD c 0 else 0) else 0)) N := by
      refine sumK_congr fun v _ => ?_
      simp only [bal]
      by_cases hs : S (v : Int)
      · simp only [if_pos hs]
      · simp only [if_neg hs]; rfl
    rw [e, sumK_sub, sumK_add, ih, sumK_in ha.2.1, sumK_in ha.1]
    rfl
/-- nothing more goes out of a shut set than goes out now -/
theorem cut_le {A : List T3} {f g : List Int} {S : Int → Prop} {k : Nat} (hf : isF A f) (hg : isF A g)
    (hc : ∀ j, k ≤ j → j < A.length → ∀ u v, S u → Edg A f u v j → S v) : ∀ d : Nat, k + d ≤ A.length → setBal A f S (k + d) - setBal A f S k ≤ setBal A g S (k + d) - setBal A g S k
  | 0, _ => by simp
  | d + 1, h => by
    have ih := cut_le hf hg hc d (by omega)
    have h1 := hf.2 (k + d) (by have := hf.1; omega)
    have h2 := hg.2 (k + d) (by have := hg.1; omega)
    have hj := hc (k + d) (by omega) (by omega)
    rw [show k + (d + 1) = (k + d) + 1 by omega]
    simp only [setBal]
    by_cases ht : S (too A (k + d)) <;> by_cases hs : S (frm A (k + d))
    · rw [if_pos ht, if_pos hs, if_pos ht, if_pos hs]; omega
    · rw [if_pos ht, if_neg hs, if_pos ht, if_neg hs]
      have : ¬ 0 < f.getD (k + d) 0 := fun h0 => hs (hj _ _ ht (.inr ⟨rfl, rfl, h0⟩))
      omega
    · rw [if_neg ht, if_pos hs, if_neg ht, if_pos hs]
      have : ¬ f.getD (k + d) 0 < cpy A (k + d) := fun h0 => ht (hj _ _ hs (.inl ⟨rfl, rfl, h0⟩))
      omega
    · rw [if_neg ht, if_neg hs, if_neg ht, if_neg hs]; omega
theorem set_mid {N : Nat} {A : List T3} {f : List Int} {S : Int → Prop} (hk : NetOk N A) (hm : midZ N A f) (h0 : S 0) (h1 : ¬ S ((N - 1 : Nat) : Int)) : setBal A f S A.length = bal A f 0 A.length := by
  have h2 := hk.n2
  rw [← setBal_sum hk (Nat.le_refl _), sumK_congr (g := fun v : Nat => if (0 : Int) = (v : Int) then bal A f 0 A.length else 0)]
  · rw [sumK_ind, if_pos (by omega)]
  · intro v hv
    by_cases e : v = 0
    · subst e; rw [show ((0 : Nat) : Int) = 0 from rfl, if_pos h0, if_pos rfl]
    · rw [if_neg (show ¬ (0 : Int) = (v : Int) by omega)]
      by_cases e2 : v = N - 1
      · subst e2; rw [if_neg h1]
      · rw [hm v (by omega) (by omega)]; split <;> rfl
theorem setBal_all {A : List T3} {f : List Int} : ∀ c, setBal A f (fun _ => True) c = 0
  | 0 => rfl
  | c + 1 => by have := setBal_all (A := A) (f := f) c; simp only [setBal, if_true]; omega
/-- what the sink gets is what the source gives -/
theorem bal_sink {N : Nat} {A : List T3} {f : List Int} (hk : NetOk N A) (hm : midZ N A f) : bal A f ((N - 1 : Nat) : Int) A.length = - bal A f 0 A.length := by
  have h2 := hk.n2
  have h := setBal_sum (f := f) (S := fun _ => True) hk (Nat.le_refl _)
  rw [setBal_all, sumK_congr (g := fun v : Nat => (if (0 : Int) = (v : Int) then bal A f 0 A.length else 0) + (if ((N - 1 : Nat) : Int) = (v : Int) then bal A f ((N - 1 : Nat) : Int) A.length else 0))] at h
  · rw [sumK_add, sumK_ind, sumK_ind, if_pos (by omega), if_pos (by omega)] at h
    omega
  · intro v hv
    rw [if_pos (show (fun _ : Int => True) (v : Int) from trivial)]
    by_cases e : v = 0
    · subst e; rw [show ((0 : Nat) : Int) = 0 from rfl, if_pos rfl, if_neg (show ¬ ((N - 1 : Nat) : Int) = 0 by omega), Int.add_zero]
    · rw [if_neg (show ¬ (0 : Int) = (v : Int) by omega)]
      by_cases e2 : v = N - 1
      · subst e2; rw [if_pos rfl]; omega
      · rw [hm v (by omega) (by omega), if_neg (show ¬ ((N - 1 : Nat) : Int) = (v : Int) by omega)]; rfl
theorem setBal_same {N : Nat} {A : List T3} {f g : List Int} {S : Int → Prop} (hk : NetOk N A) (hf : midZ N A f) (hg : midZ N A g) (h0 : bal A g 0 A.length = bal A f 0 A.length) : setBal A g S A.length = setBal A f S A.length := by
  rw [← setBal_sum hk (Nat.le_refl _), ← setBal_sum hk (Nat.le_refl _)]
  refine sumK_congr fun v hv => ?_
  have h2 := hk.n2
  have e : bal A g (v : Int) A.length = bal A f (v : Int) A.length := by
    by_cases e : v = 0
    · subst e; exact h0
    · by_cases e2 : v = N - 1
      · subst e2; rw [bal_sink hk hf, bal_sink hk hg, h0]
      · rw [hf v (by omega) (by omega), hg v (by omega) (by omega)]
  rw [e]
theorem setBal_upto {A : List T3} {f g : List Int} {S : Int → Prop} : ∀ {c : Nat}, (∀ j, j < c → g.getD j 0 = f.getD j 0) → setBal A g S c = setBal A f S c
  | 0, _ => rfl
  | c + 1, h => by have ih := setBal_upto (S := S) (A := A) (c := c) (fun j hj => h j (by omega)); simp only [setBal]; rw [ih, h c (by omega)]

/-- no way from s to t through what is left of the arcs from k on -/
def NoWay (A : List T3) (f : List Int) (s t : Int) (k : Nat) : Prop := ∃ S : Int → Prop, S s ∧ ¬ S t ∧ ∀ j, k ≤ j → j < A.length → ∀ u v, S u → Edg A f u v j → S v

theorem most_flow {N : Nat} {A : List T3} {f g : List Int} (hk : NetOk N A) (hf : isW N A f) (hg : isW N A g) (h : NoWay A f 0 ((N - 1 : Nat) : Int) 0) : bal A f 0 A.length ≤ bal A g 0 A.length := by
  obtain ⟨S, h0, h1, hc⟩ := h
  have := cut_le hf.1 hg.1 hc A.length (by omega)
  rw [Nat.zero_add, set_mid hk hf.2 h0 h1, set_mid hk hg.2 h0 h1] at this
  simpa [setBal] using this

/-- a flow of the greatest value, the least list of these -/
def IsGf (N : Nat) (A : List T3) (f : List Int) : Prop := isW N A f ∧ (∀ g, isW N A g → bal A f 0 A.length ≤ bal A g 0 A.length) ∧ ∀ g, isW N A g → bal A g 0 A.length = bal A f 0 A.length → ¬ lexlt g f
theorem IsGf.one {N : Nat} {A : List T3} {f g : List Int} (hf : IsGf N A f) (hg : IsGf N A g) : f = g := by
  have e : bal A f 0 A.length = bal A g 0 A.length := Int.le_antisymm (hf.2.1 g hg.1) (hg.2.1 f hf.1)
  rcases lex_tri (a := f) (b := g) (by rw [hf.1.1.1, hg.1.1.1]) with h | h | h
  · exact h
  · exact absurd h (hg.2.2 f hf.1 e)
  · exact absurd h (hf.2.2 g hg.1 e.symm)

/-- as little as can be by the arcs up to i -/
def Tight (N : Nat) (A : List T3) (f : List Int) (b : Int) (i : Nat) : Prop := ∃ h : List Int, isW N A h ∧ bal A h 0 A.length = b ∧ (∀ j, j ≤ i → h.getD j 0 = f.getD j 0) ∧ (h.getD i 0 = 0 ∨ NoWay A h (frm A i) (too A i) (i + 1))
theorem Tight.pre {N : Nat} {A : List T3} {f g : List Int} {b : Int} {i : Nat} (h : Tight N A f b i) (e : ∀ j, j ≤ i → g.getD j 0 = f.getD j 0) : Tight N A g b i := by
  obtain ⟨x, h1, h2, h3, h4⟩ := h
  exact ⟨x, h1, h2, fun j hj => (h3 j hj).trans (e j hj).symm, h4⟩
theorem least_flow {N : Nat} {A : List T3} {f g : List Int} (hk : NetOk N A) (h : ∀ i, i < A.length → Tight N A f (bal A f 0 A.length) i) (hg : isW N A g) (hv : bal A g 0 A.length = bal A f 0 A.length) : ¬ lexlt g f := by
  intro hl
  obtain ⟨i, hi, _, hpre, hlt⟩ := lexlt_at hl
  rw [hg.1.1] at hi
  obtain ⟨x, hx, hxv, hxp, hx0⟩ := h i hi
  have hgi := hg.1.2 i (by rw [hg.1.1]; exact hi)
  have hxi := hxp i (Nat.le_refl _)
  rcases hx0 with h0 | ⟨S, hs, ht, hc⟩
  · omega
  · have e1 := setBal_same (S := S) hk hx.2 hg.2 (by rw [hv, hxv])
    have e2 : setBal A g S i = setBal A x S i := setBal_upto fun j hj => by rw [hpre j hj, hxp j (by omega)]
    have e3 : setBal A g S (i + 1) = setBal A g S i - g.getD i 0 := by simp only [setBal]; rw [if_neg ht, if_pos hs]; omega
    have e4 : setBal A x S (i + 1) = setBal A x S i - x.getD i 0 := by simp only [setBal]; rw [if_neg ht, if_pos hs]; omega
    have h5 := cut_le hx.1 hg.1 hc (A.length - (i + 1)) (by omega)
    rw [show i + 1 + (A.length - (i + 1)) = A.length by omega] at h5
    omega
theorem isGf_of {N : Nat} {A : List T3} {f : List Int} (hk : NetOk N A) (hf : isW N A f) (h1 : ∀ g, isW N A g → bal A f 0 A.length ≤ bal A g 0 A.length) (h2 : ∀ i, i < A.length → Tight N A f (bal A f 0 A.length) i) : IsGf N A f :=
  ⟨hf, h1, fun _ hg hv => least_flow hk h2 hg hv⟩
noncomputable def gf (N : Nat) (A : List T3) : List Int := if h : ∃ f, IsGf N A f then Classical.choose h else []
theorem gf_is {N : Nat} {A : List T3} {f : List Int} (h : IsGf N A f) : gf N A = f := by
  have hex : ∃ f, IsGf N A f := ⟨f, h⟩
  unfold gf
  rw [dif_pos hex]
  exact (Classical.choose_spec hex).one h

/-- more by x from s to t, through arcs from k on -/
structure Psh (A : List T3) (f g : List Int) (s t : Int) (k : Nat) (x : Int) : Prop where
  fl : isF A g
  pre : ∀ j, j < k → g.getD j 0 = f.getD j 0
  bl : ∀ v : Int, bal A g v A.length = bal A f v A.length + (if t = v then x else 0) - (if s = v then x else 0)
theorem Psh.refl {A : List T3} {f : List Int} {s t : Int} {k : Nat} (h : isF A f) : Psh A f f s t k 0 := ⟨h, fun _ _ => rfl, fun v => by split <;> split <;> omega⟩
theorem Psh.trans {A : List T3} {f g h : List Int} {s t : Int} {k : Nat} {x y : Int} (h1 : Psh A f g s t k x) (h2 : Psh A g h s t k y) : Psh A f h s t k (x + y) :=
  ⟨h2.fl, fun j hj => (h2.pre j hj).trans (h1.pre j hj), fun v => by rw [h2.bl, h1.bl]; split <;> split <;> omega⟩
theorem bal_set {A : List T3} {f : List Int} {v d : Int} {i : Nat} (hi : i < f.length) : ∀ c : Nat, bal A (f.set i (f.getD i 0 + d)) v c = bal A f v c + if i < c then (if too A i = v then d else 0) - (if frm A i = v then d else 0) else 0
  | 0 => by simp [bal]
  | c + 1 => by
    have ih := bal_set (A := A) (v := v) (d := d) hi c
    simp only [bal]
    rw [ih, set_getD' hi]
    by_cases e : i = c
    · subst e
      rw [if_pos rfl, if_neg (Nat.lt_irrefl i), if_pos (show i < i + 1 by omega)]
      split <;> split <;> omega
    · rw [if_neg e]
      by_cases h : i < c
      · rw [if_pos h, if_pos (show i < c + 1 by omega)]; omega
      · rw [if_neg h, if_neg (show ¬ i < c + 1 by omega)]; omega
theorem isF_set {A : List T3} {f : List Int} {i : Nat} {x : Int} (h : isF A f) (hi : i < A.length) (hx : 0 ≤ x ∧ x ≤ cpy A i) : isF A (f.set i x) := by
  refine ⟨by rw [List.length_set]; exact h.1, fun j hj => ?_⟩
  rw [List.length_set] at hj
  rw [set_getD' (by rw [h.1]; exact hi)]
  by_cases e : i = j
  · subst e; rw [if_pos rfl]; exact hx
  · rw [if_neg e]; exact h.2 j hj
/-- one arc, forth -/
theorem psh_forth {A : List T3} {f : List Int} {i k : Nat} {x : Int} (h : isF A f) (hi : i < A.length) (hk : k ≤ i) (hx : 0 ≤ x) (hc : f.getD i 0 + x ≤ cpy A i) : Psh A f (f.set i (f.getD i 0 + x)) (frm A i) (too A i) k x := by
  have hfl : i < f.length := by rw [h.1]; exact hi
  refine ⟨isF_set h hi (by have := h.2 i hfl; omega), fun j hj => by rw [set_getD' hfl, if_neg (by omega)], fun v => ?_⟩
  rw [bal_set hfl, if_pos hi]; omega
/-- one arc, back -/
theorem psh_back {A : List T3} {f : List Int} {i k : Nat} {x : Int} (h : isF A f) (hi : i < A.length) (hk : k ≤ i) (hx : 0 ≤ x) (hc : x ≤ f.getD i 0) : Psh A f (f.set i (f.getD i 0 - x)) (too A i) (frm A i) k x := by
  have hfl : i < f.length := by rw [h.1]; exact hi
  refine ⟨isF_set h hi (by have := h.2 i hfl; omega), fun j hj => by rw [set_getD' hfl, if_neg (by omega)], fun v => ?_⟩
  rw [show f.getD i 0 - x = f.getD i 0 + (-x) by omega, bal_set hfl, if_pos hi]
  split <;> split <;> omega
theorem Edg.congr {A : List T3} {f g : List Int} {u v : Int} {j : Nat} (e : g.getD j 0 = f.getD j 0) (h : Edg A g u v j) : Edg A f u v j := by unfold Edg at *; rw [e] at h; exact h
theorem NoWay.congr {A : List T3} {f g : List Int} {s t : Int} {k : Nat} (h : NoWay A f s t k) (e : ∀ j, k ≤ j → j < A.length → g.getD j 0 = f.getD j 0) : NoWay A g s t k := by
  obtain ⟨S, h1, h2, h3⟩ := h
  exact ⟨S, h1, h2, fun j hj hl u v hu he => h3 j hj hl u v hu (he.congr (e j hj hl))⟩

/-- the second part of the search: what can go by later arcs goes there -/
structure Grt (N : Nat) (A : List T3) (f : List Int) (i : Nat) : Prop where
  fw : isW N A f
  most : ∀ g, isW N A g → bal A f 0 A.length ≤ bal A g 0 A.length
  tight : ∀ j, j < i → Tight N A f (bal A f 0 A.length) j
theorem Grt.step {N : Nat} {A : List T3} {f g : List Int} {i : Nat} {x : Int} (hk : NetOk N A) (h : Grt N A f i) (hi : i < A.length) (hp : Psh A f g (frm A i) (too A i) (i + 1) x) (hx : 0 ≤ x ∧ x ≤ f.getD i 0) (hn : x = f.getD i 0 ∨ NoWay A g (frm A i) (too A i) (i + 1)) :
    Grt N A (g.set i (f.getD i 0 - x)) (i + 1) := by
  have hgi : g.getD i 0 = f.getD i 0 := hp.pre i (by omega)
  have hgl : g.length = A.length := hp.fl.1
  have hfi := h.fw.1.2 i (by rw [h.fw.1.1]; exact hi)
  have hb : ∀ v : Int, bal A (g.set i (f.getD i 0 - x)) v A.length = bal A f v A.length := fun v => by
    rw [← hgi, show g.getD i 0 - x = g.getD i 0 + (-x) by omega, bal_set (by omega), if_pos hi, hp.bl]
    split <;> split <;> omega
  have hF : isF A (g.set i (f.getD i 0 - x)) := isF_set hp.fl hi (by omega)
  have hW : isW N A (g.set i (f.getD i 0 - x)) := ⟨hF, fun v h1 h2 => by rw [hb]; exact h.fw.2 v h1 h2⟩
  have hget : ∀ j, j ≠ i → (g.set i (f.getD i 0 - x)).getD j 0 = g.getD j 0 := fun j hj => by rw [set_getD' (by omega), if_neg (fun e => hj e.symm)]
  refine ⟨hW, fun q hq => by rw [hb]; exact h.most q hq, fun j hj => ?_⟩
  rw [hb]
  by_cases e : j = i
  · subst e
    refine ⟨_, hW, hb 0, fun _ _ => rfl, ?_⟩
    rcases hn with hn | hn
    · left; rw [set_getD' (by omega), if_pos rfl]; omega
    · right; exact hn.congr fun q hq _ => hget q (by omega)
  · exact (h.tight j (by omega)).pre fun q hq => by rw [hget q (by omega), hp.pre q (by omega)]
theorem Grt.done {N : Nat} {A : List T3} {f : List Int} (hk : NetOk N A) (h : Grt N A f A.length) : gf N A = f := gf_is (isGf_of hk h.fw h.most h.tight)
theorem isF_zero {N : Nat} {A : List T3} (hk : NetOk N A) : isF A (List.replicate A.length 0) := by
  refine ⟨by simp, fun i hi => ?_⟩
  rw [List.length_replicate] at hi
  have := hk.arc i hi
  rw [show (List.replicate A.length (0 : Int)).getD i 0 = 0 by simp [List.getD, hi]]
  omega
theorem bal_zero {A : List T3} {n : Nat} {v : Int} : ∀ c, bal A (List.replicate n 0) v c = 0
  | 0 => rfl
  | c + 1 => by
    have := bal_zero (A := A) (n := n) (v := v) c
    have e : (List.replicate n (0 : Int)).getD c 0 = 0 := by
      by_cases h : c < n
      · simp [List.getD, h]
      · rw [getD_out (by simp; omega)]
    simp only [bal]; rw [this, e]; split <;> split <;> rfl
theorem val_le {A : List T3} {N : Nat} {f : List Int} {v : Int} (hk : NetOk N A) (h : isF A f) : -(1000000 * (A.length : Int)) ≤ bal A f v A.length ∧ bal A f v A.length ≤ 1000000 * A.length :=
  bal_bd fun i hi => by have := h.2 i (by rw [h.1]; exact hi); have := hk.arc i hi; omega
/-- the first part: all that can go from the source to the sink -/
theorem Grt.start {N : Nat} {A : List T3} {f : List Int} {x : Int} (hk : NetOk N A) (hp : Psh A (List.replicate A.length 0) f 0 ((N - 1 : Nat) : Int) 0 x) (hn : x = 200000000 ∨ NoWay A f 0 ((N - 1 : Nat) : Int) 0) : Grt N A f 0 := by
  have h2 := hk.n2
  have hW : isW N A f := ⟨hp.fl, fun v h1 h2 => by rw [hp.bl, bal_zero, if_neg (by omega), if_neg (by omega)]; rfl⟩
  refine ⟨hW, fun g hg => ?_, fun j hj => absurd hj (Nat.not_lt_zero _)⟩
  rcases hn with hn | hn
  · have h3 := (val_le (v := 0) hk hg.1).1
    have h4 := hk.a200
    rw [hp.bl, bal_zero, if_neg (by omega), if_pos rfl]
    omega
  · exact most_flow hk hW hg hn

end
end Go.Proofs.Ytpdldifklgpikaa
set_option linter.unusedVariables false
set_option linter.unusedSimpArgs false
namespace Go.Proofs.Ytpdldifklgpikaa
open Go.Eng

/-- arc i leads on from u to v, with at least so much left -/
def EdgS (A : List T3) (f : List Int) (st : Int) (u v : Int) (i : Nat) : Prop := (frm A i = u ∧ too A i = v ∧ st ≤ cpy A i - f.getD i 0) ∨ (too A i = u ∧ frm A i = v ∧ st ≤ f.getD i 0)
theorem EdgS.one {A : List T3} {f : List Int} {u v : Int} {i : Nat} (h : Edg A f u v i) : EdgS A f 1 u v i := by
  unfold Edg at h; unfold EdgS; omega
theorem edgS_rng {N : Nat} {A : List T3} {f : List Int} {st u v : Int} {i : Nat} (hk : NetOk N A) (hi : i < A.length) (h : EdgS A f st u v i) : (0 ≤ u ∧ u < N) ∧ (0 ≤ v ∧ v < N) := by
  have := hk.arc i hi; unfold EdgS at h; omega

theorem cntF_pos : ∀ {l : List Bool} {t : Nat}, t < l.length → l.getD t false = false → 0 < cntF l := fun h h2 => by have := cntF_set h h2; omega
theorem cntF_mono : ∀ {a b : List Bool}, a.length = b.length → (∀ u, a.getD u false = true → b.getD u false = true) → cntF b ≤ cntF a
  | [], [], _, _ => Nat.le_refl _
  | [], _ :: _, h, _ => by simp at h
  | _ :: _, [], h, _ => by simp at h
  | x :: a, y :: b, h, h2 => by
    have ih := cntF_mono (a := a) (b := b) (by simpa using h) (fun u hu => h2 (u + 1) hu)
    have h0 : x = true → y = true := h2 0
    simp only [cntF]
    cases x <;> cases y <;> simp at h0 ⊢ <;> omega

/-- what a way leaves alone: arcs at nodes that were seen before -/
def Alone (A : List T3) (F F' : List Int) (Z : List Bool) : Prop := ∀ j, F'.getD j 0 = F.getD j 0 ∨ (Z.getD (frm A j).toNat false = false ∧ Z.getD (too A j).toNat false = false)
theorem Alone.refl {A : List T3} {F : List Int} {Z : List Bool} : Alone A F F Z := fun _ => .inl rfl
theorem Alone.at {A : List T3} {F F' : List Int} {Z : List Bool} {j : Nat} (h : Alone A F F' Z) (hs : Z.getD (frm A j).toNat false = true ∨ Z.getD (too A j).toNat false = true) : F'.getD j 0 = F.getD j 0 := by
  rcases h j with e | ⟨e1, e2⟩
  · exact e
  · rcases hs with hs | hs
    · rw [e1] at hs; cases hs
    · rw [e2] at hs; cases hs
theorem Alone.set {A : List T3} {F F' : List Int} {Z Z' : List Bool} {i : Nat} {x : Int} (h : Alone A F F' Z') (hz : ∀ u, Z.getD u false = true → Z'.getD u false = true) (h1 : Z.getD (frm A i).toNat false = false) (h2 : Z.getD (too A i).toNat false = false) (hi : i < F'.length) : Alone A F (F'.set i x) Z := by
  intro j
  by_cases e : i = j
  · subst e; exact .inr ⟨h1, h2⟩
  · rw [set_getD' hi, if_neg e]
    rcases h j with h3 | ⟨h3, h4⟩
    · exact .inl h3
    · refine .inr ⟨?_, ?_⟩
      · refine Classical.byContradiction fun hn => ?_
        have := hz _ (by simpa using hn); rw [h3] at this; cases this
      · refine Classical.byContradiction fun hn => ?_
        have := hz _ (by simpa using hn); rw [h4] at this; cases this
/-- the arcs before c are looked at, without finding a way -/
structure WayT (A : List T3) (F : List Int) (st : Int) (sk : Nat) (s t : Int) (Z Z' : List Bool) (c : Nat) : Prop where
  len : Z'.length = Z.length
  up : ∀ u, Z.getD u false = true → Z'.getD u false = true
  me : Z'.getD s.toNat false = true
  goal : Z'.getD t.toNat false = false
  cl : ∀ u : Nat, Z'.getD u false = true → Z.getD u false = true ∨ (u : Int) = s ∨ ∀ j, sk ≤ j → j < A.length → ∀ v : Int, EdgS A F st u v j → Z'.getD v.toNat false = true
  dn : ∀ j, sk ≤ j → j < c → ∀ v : Int, EdgS A F st s v j → Z'.getD v.toNat false = true
section
variable {A : List T3} {F : List Int} {st : Int} {sk : Nat} {s t : Int} {Z Z' Z'' : List Bool} {c : Nat}
theorem WayT.start (h0 : 0 ≤ s) (hs : s.toNat < Z.length) (hst : s ≠ t) (h1 : 0 ≤ t) (ht : Z.getD t.toNat false = false) : WayT A F st sk s t Z (Z.set s.toNat true) sk := by
  have hg : ∀ j, (Z.set s.toNat true).getD j false = if s.toNat = j then true else Z.getD j false := fun j => setB_getD hs
  refine ⟨List.length_set, fun u hu => by rw [hg]; split; rfl; exact hu, by rw [hg, if_pos rfl], by rw [hg, if_neg (by omega)]; exact ht, fun u hu => ?_, fun j h1 h2 => absurd h2 (by omega)⟩
  rw [hg] at hu
  by_cases e : s.toNat = u
  · exact .inr (.inl (by omega))
  · rw [if_neg e] at hu; exact .inl hu
theorem WayT.skip (h : WayT A F st sk s t Z Z' c) (hc : ∀ v : Int, EdgS A F st s v c → Z'.getD v.toNat false = true) : WayT A F st sk s t Z Z' (c + 1) :=
  ⟨h.len, h.up, h.me, h.goal, h.cl, fun j h1 h2 v hv => by
    by_cases e : j = c
    · subst e; exact hc v hv
    · exact h.dn j h1 (by omega) v hv⟩
theorem WayT.call {k : Int} (h : WayT A F st sk s t Z Z' c) (h2 : WayT A F st sk k t Z' Z'' A.length) (hc : ∀ v : Int, EdgS A F st s v c → v = k) : WayT A F st sk s t Z Z'' (c + 1) := by
  refine ⟨h2.len.trans h.len, fun u hu => h2.up u (h.up u hu), h2.up _ h.me, h2.goal, fun u hu => ?_, fun j h3 h4 v hv => ?_⟩
  · rcases h2.cl u hu with h5 | h5 | h5
    · rcases h.cl u h5 with h6 | h6 | h6
      · exact .inl h6
      · exact .inr (.inl h6)
      · exact .inr (.inr fun j h7 h8 v hv => h2.up _ (h6 j h7 h8 v hv))
    · exact .inr (.inr fun j h7 h8 v hv => h2.dn j h7 h8 v (by rw [h5] at hv; exact hv))
    · exact .inr (.inr h5)
  · by_cases e : j = c
    · subst e; rw [hc v hv]; exact h2.me
    · exact h2.up _ (h.dn j h3 (by omega) v hv)
theorem WayT.cnt (h : WayT A F st sk s t Z Z' c) (hs : s.toNat < Z.length) (h0 : Z.getD s.toNat false = false) : cntF Z' < cntF Z := by
  have h1 := cntF_set hs h0
  have h2 : cntF Z' ≤ cntF (Z.set s.toNat true) := cntF_mono (by rw [List.length_set]; exact h.len.symm) fun u hu => by
    rw [setB_getD hs] at hu
    by_cases e : s.toNat = u
    · subst e; exact h.me
    · rw [if_neg e] at hu; exact h.up u hu
  omega
theorem WayT.noway {N : Nat} (hk : NetOk N A) (h0 : 0 ≤ s) (h : WayT A F 1 sk s t (List.replicate N false) Z' A.length) : NoWay A F s t sk := by
  refine ⟨fun v => 0 ≤ v ∧ Z'.getD v.toNat false = true, ⟨h0, h.me⟩, fun h2 => ?_, fun j hj hl u v hu he => ?_⟩
  · have := h2.2; rw [h.goal] at this; cases this
  · have hr := edgS_rng hk hl (EdgS.one he)
    refine ⟨hr.2.1, ?_⟩
    have e : ((u.toNat : Nat) : Int) = u := by omega
    rcases h.cl u.toNat hu.2 with h5 | h5 | h5
    · exfalso
      rw [show (List.replicate N false).getD u.toNat false = false by simp only [List.getD, List.getElem?_replicate]; split <;> rfl] at h5
      cases h5
    · exact h.dn j hj hl v (by rw [← h5, e]; exact EdgS.one he)
    · exact h5 j hj hl v (by rw [e]; exact EdgS.one he)
/-- what one call of the search brings -/
structure WayR (A : List T3) (F F' : List Int) (st : Int) (sk : Nat) (s t : Int) (Z Z' : List Bool) (m x : Int) : Prop where
  rng : 0 ≤ x ∧ x ≤ m
  psh : Psh A F F' s t sk x
  alone : Alone A F F' Z
  none : x = 0 → F' = F ∧ WayT A F st sk s t Z Z' A.length
end
theorem Psh.leg2 {A : List T3} {f g h : List Int} {s u t : Int} {k : Nat} {x : Int} (h1 : Psh A f g u t k x) (h2 : Psh A g h s u k x) : Psh A f h s t k x :=
  ⟨h2.fl, fun j hj => (h2.pre j hj).trans (h1.pre j hj), fun v => by rw [h2.bl, h1.bl]; split <;> split <;> split <;> omega⟩
/-- the same push with another amount on an arc that is left alone -/
theorem Psh.swap {A : List T3} {f g : List Int} {s t : Int} {k i : Nat} {x z : Int} (h : Psh A f g s t k x) (hf : isF A f) (hi : i < A.length) (hk : i < k) (hz : 0 ≤ z ∧ z ≤ cpy A i) : Psh A (f.set i z) (g.set i z) s t k x := by
  have e := h.pre i hk
  have hfl : i < f.length := by rw [hf.1]; exact hi
  have hgl : i < g.length := by rw [h.fl.1]; exact hi
  refine ⟨isF_set h.fl hi hz, fun j hj => ?_, fun v => ?_⟩
  · rw [set_getD' hfl, set_getD' hgl]; split; rfl; exact h.pre j hj
  · have e1 : z = g.getD i 0 + (z - g.getD i 0) := by omega
    have e2 : z = f.getD i 0 + (z - f.getD i 0) := by omega
    rw [show g.set i z = g.set i (g.getD i 0 + (z - g.getD i 0)) by rw [← e1], show f.set i z = f.set i (f.getD i 0 + (z - f.getD i 0)) by rw [← e2], bal_set hgl, bal_set hfl, h.bl v, e]
    omega
theorem Psh.swap' {A : List T3} {f g q : List Int} {s t : Int} {k i : Nat} {x y z : Int} (h0 : Psh A f g s t k x) (hf : isF A f) (hi : i < A.length) (hk : i < k) (hz : 0 ≤ z ∧ z ≤ cpy A i) (h : Psh A (g.set i z) q s t k y) : Psh A f (q.set i (f.getD i 0)) s t k (x + y) := by
  have hgl : i < g.length := by rw [h0.fl.1]; exact hi
  have hfi := hf.2 i (by rw [hf.1]; exact hi)
  have h1 := h.swap (z := f.getD i 0) (isF_set h0.fl hi hz) hi hk hfi
  rw [List.set_set] at h1
  have e : g.set i (f.getD i 0) = g := by
    rw [← h0.pre i hk]
    apply List.ext_getElem?
    intro j
    rw [List.getElem?_set]
    by_cases e : i = j
    · subst e; rw [if_pos rfl, if_pos hgl]; simp [List.getD, hgl]
    · rw [if_neg e]
  rw [e] at h1
  exact h0.trans h1
end Go.Proofs.Ytpdldifklgpikaa
set_option linter.unusedVariables false
set_option linter.unusedSimpArgs false
namespace Go.Eng
open Go.RowKit

section
variable {P : Program} {w : World} {t e : TypeId} {x y : Operand} {v : Value} {K : Value → Prop}
end

/-- A new box, as a block. -/
theorem Bx.blk {T : TypeId} {l : List Value} {w : World} {K : Value → World → Prop} (h : ∀ (b : Nat) w', Ext w w' → w.heap.size ≤ b → Blk w' b T l → K (.pointer (some ⟨b, 0, none⟩)) w') : Bx T (.agg l.toArray) w K := by
  simp only [Bx]
  intro w1 hw1
  exact h w1.heap.size _ (hw1.alloc _) hw1.size (Blk.new w1 T l)

theorem places_run {P : Program} {w : World} : ∀ {l : List Field}, (∀ f ∈ l, P.cellsOf f.type ≠ 0) →
    ((l.toArray).mapM (m := Sem) fun f => do pure (f.offset, ← Go.sizeOf f.type)).run P w = .ok (l.map fun f => (f.offset, P.cellsOf f.type)).toArray w := by
  intro l hl
  rw [List.mapM_toArray]
  have h := mapM_run (P := P) (w := w) (fun f : Field => (do pure (f.offset, ← Go.sizeOf f.type) : Sem (Nat × Nat))) (fun f => (f.offset, P.cellsOf f.type)) l (fun f hf => by
    simp only [Sem.run_bind, sizeOf_run rfl (hl f hf), Result.andThen_ok, Sem.run_pure])
  simp only [Sem.run_bind, Sem.run_map, h, Result.andThen_ok, Sem.run_pure]
  try rfl
end Go.Eng
