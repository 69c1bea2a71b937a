/- Joined texts: Strip1 Strip3 Strip4 Strip5 Enum StripMf EngAG. -/
import Derived.Test.YtclbiabiiknolaaJ1
import Derived.MapKept
set_option linter.unusedVariables false
set_option linter.unusedSimpArgs false
namespace Go.Proofs.Ytclbiabiiknolaa
open Go.Eng
set_option maxRecDepth 100000
set_option maxHeartbeats 4000000

theorem sck1_pc {w : World} {rv : Value} {l : List Int} (Hr : Ints w rv l) : PC Try.prog 33 [rv] w (.bool (decide (16 < l.length))) := by
  refine PC.mk tyOk Try.func33 rfl (by kernel_rfl) fun w1 E1 => ?_
  replace Hr := Hr.ext E1
  have EE := Ext.refl w1
  have hle := Hr.le
  by_cases h : 16 < l.length
  · rw [decide_eq_true h]
    repeat' ((conv => whnf); first | (refine Dr.quiet tyOk (by kernel_rfl) ?_) | (refine Rng.mk (by omega) ?_) | (refine Split.pos (by omega) ?_) | (refine Split.neg (by omega) ?_) | (refine Split.mk (fun h => ?_) (fun h => ?_)) | (refine Need.mk (by omega) ?_) | (refine Ints.ln (by assumption) ?_) | (refine Mat.ln (by assumption) ?_) | (refine Ints.ln (Mat.row (by assumption) _ (by omega)) ?_) | (refine Ints.ix (by assumption) (by omega) ?_) | (refine Mat.ix (by assumption) (by omega) ?_) | (refine Ints.ix (Mat.row (by assumption) _ (by omega)) (by omega) ?_) | (refine Ints.ix (c := 0) (by assumption) (by omega) ?_) | (refine Mat.ix (c := 0) (by assumption) (by omega) ?_) | (refine Ints.ix (c := 0) (Mat.row (by assumption) _ (by omega)) (by omega) ?_) | (refine Ints.ixI (by assumption) (by omega) ?_) | (refine Mat.ixI (by assumption) (by omega) ?_) | (refine Ints.ixI (Mat.row (by assumption) _ (by omega)) (by omega) ?_) | (refine Ints.ld (by assumption) (by omega) ?_) | (refine Mat.ld (by assumption) (by omega) ?_) | (refine Ints.ld (Mat.row (by assumption) _ (by omega)) (by omega) ?_) | (refine At.ld (by assumption) rfl ?_) | (refine At.ldN (by assumption) rfl ?_) | (refine Prs.ln (by assumption) ?_) | (refine Trs.ln (by assumption) ?_) | (refine Prs.ix (by assumption) (by omega) ?_) | (refine Trs.ix (by assumption) (by omega) ?_) | (refine Prs.ldN (by assumption) (by omega) ?_) | (refine Trs.ldN (by assumption) (by omega) ?_) | (refine At.ldN (Blk.at (by assumption)) rfl ?_) | (refine At.ld (Blk.at (by assumption)) rfl ?_) | (refine IxA.mk (by omega) ?_) | (refine Sl.ln (Own.sl (by assumption)) ?_) | (refine Ints.ix (Own.sl (by assumption)) (by omega) ?_) | (refine Ints.ixI (Own.sl (by assumption)) (by omega) ?_) | (refine Ints.ld (Own.sl (by assumption)) (by omega) ?_))
    exact ⟨rfl, EE⟩
  · rw [decide_eq_false h]
    repeat' ((conv => whnf); first | (refine Dr.quiet tyOk (by kernel_rfl) ?_) | (refine Rng.mk (by omega) ?_) | (refine Split.pos (by omega) ?_) | (refine Split.neg (by omega) ?_) | (refine Split.mk (fun h => ?_) (fun h => ?_)) | (refine Need.mk (by omega) ?_) | (refine Ints.ln (by assumption) ?_) | (refine Mat.ln (by assumption) ?_) | (refine Ints.ln (Mat.row (by assumption) _ (by omega)) ?_) | (refine Ints.ix (by assumption) (by omega) ?_) | (refine Mat.ix (by assumption) (by omega) ?_) | (refine Ints.ix (Mat.row (by assumption) _ (by omega)) (by omega) ?_) | (refine Ints.ix (c := 0) (by assumption) (by omega) ?_) | (refine Mat.ix (c := 0) (by assumption) (by omega) ?_) | (refine Ints.ix (c := 0) (Mat.row (by assumption) _ (by omega)) (by omega) ?_) | (refine Ints.ixI (by assumption) (by omega) ?_) | (refine Mat.ixI (by assumption) (by omega) ?_) | (refine Ints.ixI (Mat.row (by assumption) _ (by omega)) (by omega) ?_) | (refine Ints.ld (by assumption) (by omega) ?_) | (refine Mat.ld (by assumption) (by omega) ?_) | (refine Ints.ld (Mat.row (by assumption) _ (by omega)) (by omega) ?_) | (refine At.ld (by assumption) rfl ?_) | (refine At.ldN (by assumption) rfl ?_) | (refine Prs.ln (by assumption) ?_) | (refine Trs.ln (by assumption) ?_) | (refine Prs.ix (by assumption) (by omega) ?_) | (refine Trs.ix (by assumption) (by omega) ?_) | (refine Prs.ldN (by assumption) (by omega) ?_) | (refine Trs.ldN (by assumption) (by omega) ?_) | (refine At.ldN (Blk.at (by assumption)) rfl ?_) | (refine At.ld (Blk.at (by assumption)) rfl ?_) | (refine IxA.mk (by omega) ?_) | (refine Sl.ln (Own.sl (by assumption)) ?_) | (refine Ints.ix (Own.sl (by assumption)) (by omega) ?_) | (refine Ints.ixI (Own.sl (by assumption)) (by omega) ?_) | (refine Ints.ld (Own.sl (by assumption)) (by omega) ?_))
    exact ⟨rfl, EE⟩
def odds (x : Int) : Bool := decide (x < 0) || decide (1000 < x)
theorem sck3_pc {w : World} {x : Int} : PC Try.prog 36 [.int .i64 x] w (.bool (odds x)) := by
  refine PC.mk tyOk Try.func36 rfl (by kernel_rfl) fun w1 E1 => ?_
  have EE := Ext.refl w1
  unfold odds
  repeat' ((conv => whnf); first | (refine Dr.quiet tyOk (by kernel_rfl) ?_) | (refine Rng.mk (by omega) ?_) | (refine Split.pos (by omega) ?_) | (refine Split.neg (by omega) ?_) | (refine Split.mk (fun h => ?_) (fun h => ?_)) | (refine Need.mk (by omega) ?_) | (refine Ints.ln (by assumption) ?_) | (refine Mat.ln (by assumption) ?_) | (refine Ints.ln (Mat.row (by assumption) _ (by omega)) ?_) | (refine Ints.ix (by assumption) (by omega) ?_) | (refine Mat.ix (by assumption) (by omega) ?_) | (refine Ints.ix (Mat.row (by assumption) _ (by omega)) (by omega) ?_) | (refine Ints.ix (c := 0) (by assumption) (by omega) ?_) | (refine Mat.ix (c := 0) (by assumption) (by omega) ?_) | (refine Ints.ix (c := 0) (Mat.row (by assumption) _ (by omega)) (by omega) ?_) | (refine Ints.ixI (by assumption) (by omega) ?_) | (refine Mat.ixI (by assumption) (by omega) ?_) | (refine Ints.ixI (Mat.row (by assumption) _ (by omega)) (by omega) ?_) | (refine Ints.ld (by assumption) (by omega) ?_) | (refine Mat.ld (by assumption) (by omega) ?_) | (refine Ints.ld (Mat.row (by assumption) _ (by omega)) (by omega) ?_) | (refine At.ld (by assumption) rfl ?_) | (refine At.ldN (by assumption) rfl ?_) | (refine Prs.ln (by assumption) ?_) | (refine Trs.ln (by assumption) ?_) | (refine Prs.ix (by assumption) (by omega) ?_) | (refine Trs.ix (by assumption) (by omega) ?_) | (refine Prs.ldN (by assumption) (by omega) ?_) | (refine Trs.ldN (by assumption) (by omega) ?_) | (refine At.ldN (Blk.at (by assumption)) rfl ?_) | (refine At.ld (Blk.at (by assumption)) rfl ?_) | (refine IxA.mk (by omega) ?_) | (refine Sl.ln (Own.sl (by assumption)) ?_) | (refine Ints.ix (Own.sl (by assumption)) (by omega) ?_) | (refine Ints.ixI (Own.sl (by assumption)) (by omega) ?_) | (refine Ints.ld (Own.sl (by assumption)) (by omega) ?_))
  · rw [decide_eq_true (by omega)]; exact ⟨rfl, EE⟩
  · rw [decide_eq_false (by omega), decide_eq_true (by omega)]; exact ⟨rfl, EE⟩
  · rw [decide_eq_false (by omega), decide_eq_false (by omega)]; exact ⟨rfl, EE⟩
theorem ints_elem {l : List Int} {i : Nat} (h : i < l.length) : (l.map i64v).getD i undef = .int .i64 (l.getD i 0) := by simp [List.getD, h, i64v]
/-- a row that is wrong -/
def wrg (rr : List (List Int)) (i : Nat) : Prop := (rr.getD i []).length ≠ (rr.getD 0 []).length ∨ ∃ j, j < (rr.getD i []).length ∧ odds (val rr i j) = true
theorem sck2_pc {w : World} {vv : Value} {vs : List Value} {rr : List (List Int)} {i b : Nat} (Hv : Mat w vv vs rr) (hi : i < rr.length) (Hb : At w ⟨b, 0, none⟩ [vv]) :
    PC Try.prog 34 [vs.getD i undef, .pointer (some ⟨b, 0, none⟩)] w (.bool (tf (wrg rr i))) := by
  refine PC.mk tyOk Try.func34 rfl (by kernel_rfl) fun w1 E1 => ?_
  replace Hv := Hv.ext E1
  replace Hb := Hb.ext E1
  have EE := Ext.refl w1
  have hr0 := (Hv.row 0 (by omega)).le
  have hri := (Hv.row i hi).le
  have Hri := Hv.row i hi
  have hle := Hv.top.le
  have cc := containsfuncI_pc (g := 36) (cap := []) (p := fun j => odds (val rr i j)) Hri (fun j hj => by rw [ints_elem hj]; exact sck3_pc)
  by_cases hl : (rr.getD i []).length = (rr.getD 0 []).length
  · by_cases ho : ∃ j, j < (rr.getD i []).length ∧ odds (val rr i j) = true
    · rw [tf_t ho] at cc
      rw [tf_t (p := wrg rr i) (.inr ho)]
      repeat' ((conv => whnf); first | (refine Dr.quiet tyOk (by kernel_rfl) ?_) | (refine At.ld (i := 0) Hb rfl ?_) | (refine Ints.ln Hri ?_) | (refine VC.pure cc ?_) | (refine VCQ.pure cc ?_) | (refine Rng.mk (by omega) ?_) | (refine Split.pos (by omega) ?_) | (refine Split.neg (by omega) ?_) | (refine Split.mk (fun h => ?_) (fun h => ?_)) | (refine Need.mk (by omega) ?_) | (refine Ints.ln (by assumption) ?_) | (refine Mat.ln (by assumption) ?_) | (refine Ints.ln (Mat.row (by assumption) _ (by omega)) ?_) | (refine Ints.ix (by assumption) (by omega) ?_) | (refine Mat.ix (by assumption) (by omega) ?_) | (refine Ints.ix (Mat.row (by assumption) _ (by omega)) (by omega) ?_) | (refine Ints.ix (c := 0) (by assumption) (by omega) ?_) | (refine Mat.ix (c := 0) (by assumption) (by omega) ?_) | (refine Ints.ix (c := 0) (Mat.row (by assumption) _ (by omega)) (by omega) ?_) | (refine Ints.ixI (by assumption) (by omega) ?_) | (refine Mat.ixI (by assumption) (by omega) ?_) | (refine Ints.ixI (Mat.row (by assumption) _ (by omega)) (by omega) ?_) | (refine Ints.ld (by assumption) (by omega) ?_) | (refine Mat.ld (by assumption) (by omega) ?_) | (refine Ints.ld (Mat.row (by assumption) _ (by omega)) (by omega) ?_) | (refine At.ld (by assumption) rfl ?_) | (refine At.ldN (by assumption) rfl ?_) | (refine Prs.ln (by assumption) ?_) | (refine Trs.ln (by assumption) ?_) | (refine Prs.ix (by assumption) (by omega) ?_) | (refine Trs.ix (by assumption) (by omega) ?_) | (refine Prs.ldN (by assumption) (by omega) ?_) | (refine Trs.ldN (by assumption) (by omega) ?_) | (refine At.ldN (Blk.at (by assumption)) rfl ?_) | (refine At.ld (Blk.at (by assumption)) rfl ?_) | (refine IxA.mk (by omega) ?_) | (refine Sl.ln (Own.sl (by assumption)) ?_) | (refine Ints.ix (Own.sl (by assumption)) (by omega) ?_) | (refine Ints.ixI (Own.sl (by assumption)) (by omega) ?_) | (refine Ints.ld (Own.sl (by assumption)) (by omega) ?_))
      exact ⟨rfl, EE⟩
    · rw [tf_f ho] at cc
      rw [tf_f (p := wrg rr i) (by rintro (h | h); exact h hl; exact ho h)]
      repeat' ((conv => whnf); first | (refine Dr.quiet tyOk (by kernel_rfl) ?_) | (refine At.ld (i := 0) Hb rfl ?_) | (refine Ints.ln Hri ?_) | (refine VC.pure cc ?_) | (refine VCQ.pure cc ?_) | (refine Rng.mk (by omega) ?_) | (refine Split.pos (by omega) ?_) | (refine Split.neg (by omega) ?_) | (refine Split.mk (fun h => ?_) (fun h => ?_)) | (refine Need.mk (by omega) ?_) | (refine Ints.ln (by assumption) ?_) | (refine Mat.ln (by assumption) ?_) | (refine Ints.ln (Mat.row (by assumption) _ (by omega)) ?_) | (refine Ints.ix (by assumption) (by omega) ?_) | (refine Mat.ix (by assumption) (by omega) ?_) | (refine Ints.ix (Mat.row (by assumption) _ (by omega)) (by omega) ?_) | (refine Ints.ix (c := 0) (by assumption) (by omega) ?_) | (refine Mat.ix (c := 0) (by assumption) (by omega) ?_) | (refine Ints.ix (c := 0) (Mat.row (by assumption) _ (by omega)) (by omega) ?_) | (refine Ints.ixI (by assumption) (by omega) ?_) | (refine Mat.ixI (by assumption) (by omega) ?_) | (refine Ints.ixI (Mat.row (by assumption) _ (by omega)) (by omega) ?_) | (refine Ints.ld (by assumption) (by omega) ?_) | (refine Mat.ld (by assumption) (by omega) ?_) | (refine Ints.ld (Mat.row (by assumption) _ (by omega)) (by omega) ?_) | (refine At.ld (by assumption) rfl ?_) | (refine At.ldN (by assumption) rfl ?_) | (refine Prs.ln (by assumption) ?_) | (refine Trs.ln (by assumption) ?_) | (refine Prs.ix (by assumption) (by omega) ?_) | (refine Trs.ix (by assumption) (by omega) ?_) | (refine Prs.ldN (by assumption) (by omega) ?_) | (refine Trs.ldN (by assumption) (by omega) ?_) | (refine At.ldN (Blk.at (by assumption)) rfl ?_) | (refine At.ld (Blk.at (by assumption)) rfl ?_) | (refine IxA.mk (by omega) ?_) | (refine Sl.ln (Own.sl (by assumption)) ?_) | (refine Ints.ix (Own.sl (by assumption)) (by omega) ?_) | (refine Ints.ixI (Own.sl (by assumption)) (by omega) ?_) | (refine Ints.ld (Own.sl (by assumption)) (by omega) ?_))
      exact ⟨rfl, EE⟩
  · rw [tf_t (p := wrg rr i) (.inl hl)]
    repeat' ((conv => whnf); first | (refine Dr.quiet tyOk (by kernel_rfl) ?_) | (refine At.ld (i := 0) Hb rfl ?_) | (refine Ints.ln Hri ?_) | (refine Rng.mk (by omega) ?_) | (refine Split.pos (by omega) ?_) | (refine Split.neg (by omega) ?_) | (refine Split.mk (fun h => ?_) (fun h => ?_)) | (refine Need.mk (by omega) ?_) | (refine Ints.ln (by assumption) ?_) | (refine Mat.ln (by assumption) ?_) | (refine Ints.ln (Mat.row (by assumption) _ (by omega)) ?_) | (refine Ints.ix (by assumption) (by omega) ?_) | (refine Mat.ix (by assumption) (by omega) ?_) | (refine Ints.ix (Mat.row (by assumption) _ (by omega)) (by omega) ?_) | (refine Ints.ix (c := 0) (by assumption) (by omega) ?_) | (refine Mat.ix (c := 0) (by assumption) (by omega) ?_) | (refine Ints.ix (c := 0) (Mat.row (by assumption) _ (by omega)) (by omega) ?_) | (refine Ints.ixI (by assumption) (by omega) ?_) | (refine Mat.ixI (by assumption) (by omega) ?_) | (refine Ints.ixI (Mat.row (by assumption) _ (by omega)) (by omega) ?_) | (refine Ints.ld (by assumption) (by omega) ?_) | (refine Mat.ld (by assumption) (by omega) ?_) | (refine Ints.ld (Mat.row (by assumption) _ (by omega)) (by omega) ?_) | (refine At.ld (by assumption) rfl ?_) | (refine At.ldN (by assumption) rfl ?_) | (refine Prs.ln (by assumption) ?_) | (refine Trs.ln (by assumption) ?_) | (refine Prs.ix (by assumption) (by omega) ?_) | (refine Trs.ix (by assumption) (by omega) ?_) | (refine Prs.ldN (by assumption) (by omega) ?_) | (refine Trs.ldN (by assumption) (by omega) ?_) | (refine At.ldN (Blk.at (by assumption)) rfl ?_) | (refine At.ld (Blk.at (by assumption)) rfl ?_) | (refine IxA.mk (by omega) ?_) | (refine Sl.ln (Own.sl (by assumption)) ?_) | (refine Ints.ix (Own.sl (by assumption)) (by omega) ?_) | (refine Ints.ixI (Own.sl (by assumption)) (by omega) ?_) | (refine Ints.ld (Own.sl (by assumption)) (by omega) ?_))
    exact ⟨rfl, EE⟩
theorem odds_iff {x : Int} : odds x = true ↔ x < 0 ∨ 1000 < x := by simp [odds]
theorem wrg_iff {rr : List (List Int)} {i : Nat} : wrg rr i ↔ ((rr.getD i []).length ≠ (rr.getD 0 []).length ∨ ∃ j, j < (rr.getD i []).length ∧ (val rr i j < 0 ∨ 1000 < val rr i j)) := by
  unfold wrg
  simp only [odds_iff]

theorem gsk_pc {w : World} {vv : Value} {vs : List Value} {rr : List (List Int)} (Hv : Mat w vv vs rr) : PC Try.prog 13 [vv] w (.int .i64 (skE rr)) := by
  refine PC.mk tyOk Try.func13 rfl (by kernel_rfl) fun w1 E1 => ?_
  replace Hv := Hv.ext E1
  have EE := Ext.refl w1
  have hcv := (Sl.cells Hv.top).1
  have hle := Hv.top.le
  refine Bx.one hcv fun b2 w2 E2 hb2 Hb _ => ?_
  replace Hv := Hv.ext E2
  replace EE := EE.ext E2
  have cb := containsfuncR_pc (g := 33) (cap := []) (p := fun i => decide (16 < (rr.getD i []).length)) Hv.top (fun i hi => sck1_pc (Hv.row i hi))
  have cw := containsfuncR_pc (g := 34) (cap := [.pointer (some ⟨b2, 0, none⟩)]) (p := fun i => tf (wrg rr i)) Hv.top (fun i hi => sck2_pc Hv hi Hb)
  by_cases h6 : 6 < rr.length
  · rw [skE_big (.inl h6)]
    repeat' ((conv => whnf); first | (refine Dr.quiet tyOk (by kernel_rfl) ?_) | (refine At.ld (i := 0) Hb rfl ?_) | (refine Rng.mk (by omega) ?_) | (refine Split.pos (by omega) ?_) | (refine Split.neg (by omega) ?_) | (refine Split.mk (fun h => ?_) (fun h => ?_)) | (refine Need.mk (by omega) ?_) | (refine Ints.ln (by assumption) ?_) | (refine Mat.ln (by assumption) ?_) | (refine Ints.ln (Mat.row (by assumption) _ (by omega)) ?_) | (refine Ints.ix (by assumption) (by omega) ?_) | (refine Mat.ix (by assumption) (by omega) ?_) | (refine Ints.ix (Mat.row (by assumption) _ (by omega)) (by omega) ?_) | (refine Ints.ix (c := 0) (by assumption) (by omega) ?_) | (refine Mat.ix (c := 0) (by assumption) (by omega) ?_) | (refine Ints.ix (c := 0) (Mat.row (by assumption) _ (by omega)) (by omega) ?_) | (refine Ints.ixI (by assumption) (by omega) ?_) | (refine Mat.ixI (by assumption) (by omega) ?_) | (refine Ints.ixI (Mat.row (by assumption) _ (by omega)) (by omega) ?_) | (refine Ints.ld (by assumption) (by omega) ?_) | (refine Mat.ld (by assumption) (by omega) ?_) | (refine Ints.ld (Mat.row (by assumption) _ (by omega)) (by omega) ?_) | (refine At.ld (by assumption) rfl ?_) | (refine At.ldN (by assumption) rfl ?_) | (refine Prs.ln (by assumption) ?_) | (refine Trs.ln (by assumption) ?_) | (refine Prs.ix (by assumption) (by omega) ?_) | (refine Trs.ix (by assumption) (by omega) ?_) | (refine Prs.ldN (by assumption) (by omega) ?_) | (refine Trs.ldN (by assumption) (by omega) ?_) | (refine At.ldN (Blk.at (by assumption)) rfl ?_) | (refine At.ld (Blk.at (by assumption)) rfl ?_) | (refine IxA.mk (by omega) ?_) | (refine Sl.ln (Own.sl (by assumption)) ?_) | (refine Ints.ix (Own.sl (by assumption)) (by omega) ?_) | (refine Ints.ixI (Own.sl (by assumption)) (by omega) ?_) | (refine Ints.ld (Own.sl (by assumption)) (by omega) ?_))
    exact ⟨rfl, EE⟩
  · by_cases h10 : ∃ i, i < rr.length ∧ decide (16 < (rr.getD i []).length) = true
    · rw [tf_t h10] at cb
      obtain ⟨i, hi, hh⟩ := h10
      rw [skE_big (.inr ⟨i, hi, by simpa using hh⟩)]
      repeat' ((conv => whnf); first | (refine Dr.quiet tyOk (by kernel_rfl) ?_) | (refine At.ld (i := 0) Hb rfl ?_) | (refine VC.pure cb ?_) | (refine VCQ.pure cb ?_) | (refine Rng.mk (by omega) ?_) | (refine Split.pos (by omega) ?_) | (refine Split.neg (by omega) ?_) | (refine Split.mk (fun h => ?_) (fun h => ?_)) | (refine Need.mk (by omega) ?_) | (refine Ints.ln (by assumption) ?_) | (refine Mat.ln (by assumption) ?_) | (refine Ints.ln (Mat.row (by assumption) _ (by omega)) ?_) | (refine Ints.ix (by assumption) (by omega) ?_) | (refine Mat.ix (by assumption) (by omega) ?_) | (refine Ints.ix (Mat.row (by assumption) _ (by omega)) (by omega) ?_) | (refine Ints.ix (c := 0) (by assumption) (by omega) ?_) | (refine Mat.ix (c := 0) (by assumption) (by omega) ?_) | (refine Ints.ix (c := 0) (Mat.row (by assumption) _ (by omega)) (by omega) ?_) | (refine Ints.ixI (by assumption) (by omega) ?_) | (refine Mat.ixI (by assumption) (by omega) ?_) | (refine Ints.ixI (Mat.row (by assumption) _ (by omega)) (by omega) ?_) | (refine Ints.ld (by assumption) (by omega) ?_) | (refine Mat.ld (by assumption) (by omega) ?_) | (refine Ints.ld (Mat.row (by assumption) _ (by omega)) (by omega) ?_) | (refine At.ld (by assumption) rfl ?_) | (refine At.ldN (by assumption) rfl ?_) | (refine Prs.ln (by assumption) ?_) | (refine Trs.ln (by assumption) ?_) | (refine Prs.ix (by assumption) (by omega) ?_) | (refine Trs.ix (by assumption) (by omega) ?_) | (refine Prs.ldN (by assumption) (by omega) ?_) | (refine Trs.ldN (by assumption) (by omega) ?_) | (refine At.ldN (Blk.at (by assumption)) rfl ?_) | (refine At.ld (Blk.at (by assumption)) rfl ?_) | (refine IxA.mk (by omega) ?_) | (refine Sl.ln (Own.sl (by assumption)) ?_) | (refine Ints.ix (Own.sl (by assumption)) (by omega) ?_) | (refine Ints.ixI (Own.sl (by assumption)) (by omega) ?_) | (refine Ints.ld (Own.sl (by assumption)) (by omega) ?_))
      exact ⟨rfl, EE⟩
    · rw [tf_f h10] at cb
      have hnb : ¬ sbig rr := by
        rintro (h1 | ⟨i, hi, h1⟩)
        · omega
        · exact h10 ⟨i, hi, by simpa using h1⟩
      by_cases h0 : rr.length = 0
      · rw [skE_bad hnb (.inl h0)]
        repeat' ((conv => whnf); first | (refine Dr.quiet tyOk (by kernel_rfl) ?_) | (refine At.ld (i := 0) Hb rfl ?_) | (refine VC.pure cb ?_) | (refine VCQ.pure cb ?_) | (refine Rng.mk (by omega) ?_) | (refine Split.pos (by omega) ?_) | (refine Split.neg (by omega) ?_) | (refine Split.mk (fun h => ?_) (fun h => ?_)) | (refine Need.mk (by omega) ?_) | (refine Ints.ln (by assumption) ?_) | (refine Mat.ln (by assumption) ?_) | (refine Ints.ln (Mat.row (by assumption) _ (by omega)) ?_) | (refine Ints.ix (by assumption) (by omega) ?_) | (refine Mat.ix (by assumption) (by omega) ?_) | (refine Ints.ix (Mat.row (by assumption) _ (by omega)) (by omega) ?_) | (refine Ints.ix (c := 0) (by assumption) (by omega) ?_) | (refine Mat.ix (c := 0) (by assumption) (by omega) ?_) | (refine Ints.ix (c := 0) (Mat.row (by assumption) _ (by omega)) (by omega) ?_) | (refine Ints.ixI (by assumption) (by omega) ?_) | (refine Mat.ixI (by assumption) (by omega) ?_) | (refine Ints.ixI (Mat.row (by assumption) _ (by omega)) (by omega) ?_) | (refine Ints.ld (by assumption) (by omega) ?_) | (refine Mat.ld (by assumption) (by omega) ?_) | (refine Ints.ld (Mat.row (by assumption) _ (by omega)) (by omega) ?_) | (refine At.ld (by assumption) rfl ?_) | (refine At.ldN (by assumption) rfl ?_) | (refine Prs.ln (by assumption) ?_) | (refine Trs.ln (by assumption) ?_) | (refine Prs.ix (by assumption) (by omega) ?_) | (refine Trs.ix (by assumption) (by omega) ?_) | (refine Prs.ldN (by assumption) (by omega) ?_) | (refine Trs.ldN (by assumption) (by omega) ?_) | (refine At.ldN (Blk.at (by assumption)) rfl ?_) | (refine At.ld (Blk.at (by assumption)) rfl ?_) | (refine IxA.mk (by omega) ?_) | (refine Sl.ln (Own.sl (by assumption)) ?_) | (refine Ints.ix (Own.sl (by assumption)) (by omega) ?_) | (refine Ints.ixI (Own.sl (by assumption)) (by omega) ?_) | (refine Ints.ld (Own.sl (by assumption)) (by omega) ?_))
        exact ⟨rfl, EE⟩
      · by_cases hw : ∃ i, i < rr.length ∧ tf (wrg rr i) = true
        · rw [tf_t hw] at cw
          obtain ⟨i, hi, hh⟩ := hw
          have hwi : wrg rr i := Classical.byContradiction fun hn => by rw [tf_f hn] at hh; cases hh
          rw [skE_bad hnb (.inr ⟨i, hi, wrg_iff.1 hwi⟩)]
          repeat' ((conv => whnf); first | (refine Dr.quiet tyOk (by kernel_rfl) ?_) | (refine At.ld (i := 0) Hb rfl ?_) | (refine VC.pure cb ?_) | (refine VCQ.pure cb ?_) | (refine VC.pure cw ?_) | (refine VCQ.pure cw ?_) | (refine Rng.mk (by omega) ?_) | (refine Split.pos (by omega) ?_) | (refine Split.neg (by omega) ?_) | (refine Split.mk (fun h => ?_) (fun h => ?_)) | (refine Need.mk (by omega) ?_) | (refine Ints.ln (by assumption) ?_) | (refine Mat.ln (by assumption) ?_) | (refine Ints.ln (Mat.row (by assumption) _ (by omega)) ?_) | (refine Ints.ix (by assumption) (by omega) ?_) | (refine Mat.ix (by assumption) (by omega) ?_) | (refine Ints.ix (Mat.row (by assumption) _ (by omega)) (by omega) ?_) | (refine Ints.ix (c := 0) (by assumption) (by omega) ?_) | (refine Mat.ix (c := 0) (by assumption) (by omega) ?_) | (refine Ints.ix (c := 0) (Mat.row (by assumption) _ (by omega)) (by omega) ?_) | (refine Ints.ixI (by assumption) (by omega) ?_) | (refine Mat.ixI (by assumption) (by omega) ?_) | (refine Ints.ixI (Mat.row (by assumption) _ (by omega)) (by omega) ?_) | (refine Ints.ld (by assumption) (by omega) ?_) | (refine Mat.ld (by assumption) (by omega) ?_) | (refine Ints.ld (Mat.row (by assumption) _ (by omega)) (by omega) ?_) | (refine At.ld (by assumption) rfl ?_) | (refine At.ldN (by assumption) rfl ?_) | (refine Prs.ln (by assumption) ?_) | (refine Trs.ln (by assumption) ?_) | (refine Prs.ix (by assumption) (by omega) ?_) | (refine Trs.ix (by assumption) (by omega) ?_) | (refine Prs.ldN (by assumption) (by omega) ?_) | (refine Trs.ldN (by assumption) (by omega) ?_) | (refine At.ldN (Blk.at (by assumption)) rfl ?_) | (refine At.ld (Blk.at (by assumption)) rfl ?_) | (refine IxA.mk (by omega) ?_) | (refine Sl.ln (Own.sl (by assumption)) ?_) | (refine Ints.ix (Own.sl (by assumption)) (by omega) ?_) | (refine Ints.ixI (Own.sl (by assumption)) (by omega) ?_) | (refine Ints.ld (Own.sl (by assumption)) (by omega) ?_))
          exact ⟨rfl, EE⟩
        · rw [tf_f hw] at cw
          rw [skE_ok hnb (by
            rintro (h | ⟨i, hi, h⟩)
            · exact h0 h
            · exact hw ⟨i, hi, tf_t (wrg_iff.2 h)⟩)]
          repeat' ((conv => whnf); first | (refine Dr.quiet tyOk (by kernel_rfl) ?_) | (refine At.ld (i := 0) Hb rfl ?_) | (refine VC.pure cb ?_) | (refine VCQ.pure cb ?_) | (refine VC.pure cw ?_) | (refine VCQ.pure cw ?_) | (refine Rng.mk (by omega) ?_) | (refine Split.pos (by omega) ?_) | (refine Split.neg (by omega) ?_) | (refine Split.mk (fun h => ?_) (fun h => ?_)) | (refine Need.mk (by omega) ?_) | (refine Ints.ln (by assumption) ?_) | (refine Mat.ln (by assumption) ?_) | (refine Ints.ln (Mat.row (by assumption) _ (by omega)) ?_) | (refine Ints.ix (by assumption) (by omega) ?_) | (refine Mat.ix (by assumption) (by omega) ?_) | (refine Ints.ix (Mat.row (by assumption) _ (by omega)) (by omega) ?_) | (refine Ints.ix (c := 0) (by assumption) (by omega) ?_) | (refine Mat.ix (c := 0) (by assumption) (by omega) ?_) | (refine Ints.ix (c := 0) (Mat.row (by assumption) _ (by omega)) (by omega) ?_) | (refine Ints.ixI (by assumption) (by omega) ?_) | (refine Mat.ixI (by assumption) (by omega) ?_) | (refine Ints.ixI (Mat.row (by assumption) _ (by omega)) (by omega) ?_) | (refine Ints.ld (by assumption) (by omega) ?_) | (refine Mat.ld (by assumption) (by omega) ?_) | (refine Ints.ld (Mat.row (by assumption) _ (by omega)) (by omega) ?_) | (refine At.ld (by assumption) rfl ?_) | (refine At.ldN (by assumption) rfl ?_) | (refine Prs.ln (by assumption) ?_) | (refine Trs.ln (by assumption) ?_) | (refine Prs.ix (by assumption) (by omega) ?_) | (refine Trs.ix (by assumption) (by omega) ?_) | (refine Prs.ldN (by assumption) (by omega) ?_) | (refine Trs.ldN (by assumption) (by omega) ?_) | (refine At.ldN (Blk.at (by assumption)) rfl ?_) | (refine At.ld (Blk.at (by assumption)) rfl ?_) | (refine IxA.mk (by omega) ?_) | (refine Sl.ln (Own.sl (by assumption)) ?_) | (refine Ints.ix (Own.sl (by assumption)) (by omega) ?_) | (refine Ints.ixI (Own.sl (by assumption)) (by omega) ?_) | (refine Ints.ld (Own.sl (by assumption)) (by omega) ?_))
          exact ⟨rfl, EE⟩

theorem rsk_pc {w : World} {vv : Value} {vs : List Value} {rr : List (List Int)} (Hv : Mat w vv vs rr) : PC Try.prog 14 [vv] w (.int .i64 (skE rr)) := by
  refine PC.mk tyOk Try.func14 rfl (by kernel_rfl) fun w1 E1 => ?_
  replace Hv := Hv.ext E1
  have EE := Ext.refl w1
  have hle := Hv.top.le
  by_cases h6 : 6 < rr.length
  · rw [skE_big (.inl h6)]
    repeat' ((conv => whnf); first | (refine Dr.quiet tyOk (by kernel_rfl) ?_) | (refine Rng.mk (by omega) ?_) | (refine Split.pos (by omega) ?_) | (refine Split.neg (by omega) ?_) | (refine Split.mk (fun h => ?_) (fun h => ?_)) | (refine Need.mk (by omega) ?_) | (refine Ints.ln (by assumption) ?_) | (refine Mat.ln (by assumption) ?_) | (refine Ints.ln (Mat.row (by assumption) _ (by omega)) ?_) | (refine Ints.ix (by assumption) (by omega) ?_) | (refine Mat.ix (by assumption) (by omega) ?_) | (refine Ints.ix (Mat.row (by assumption) _ (by omega)) (by omega) ?_) | (refine Ints.ix (c := 0) (by assumption) (by omega) ?_) | (refine Mat.ix (c := 0) (by assumption) (by omega) ?_) | (refine Ints.ix (c := 0) (Mat.row (by assumption) _ (by omega)) (by omega) ?_) | (refine Ints.ixI (by assumption) (by omega) ?_) | (refine Mat.ixI (by assumption) (by omega) ?_) | (refine Ints.ixI (Mat.row (by assumption) _ (by omega)) (by omega) ?_) | (refine Ints.ld (by assumption) (by omega) ?_) | (refine Mat.ld (by assumption) (by omega) ?_) | (refine Ints.ld (Mat.row (by assumption) _ (by omega)) (by omega) ?_) | (refine At.ld (by assumption) rfl ?_) | (refine At.ldN (by assumption) rfl ?_) | (refine Prs.ln (by assumption) ?_) | (refine Trs.ln (by assumption) ?_) | (refine Prs.ix (by assumption) (by omega) ?_) | (refine Trs.ix (by assumption) (by omega) ?_) | (refine Prs.ldN (by assumption) (by omega) ?_) | (refine Trs.ldN (by assumption) (by omega) ?_) | (refine At.ldN (Blk.at (by assumption)) rfl ?_) | (refine At.ld (Blk.at (by assumption)) rfl ?_) | (refine IxA.mk (by omega) ?_) | (refine Sl.ln (Own.sl (by assumption)) ?_) | (refine Ints.ix (Own.sl (by assumption)) (by omega) ?_) | (refine Ints.ixI (Own.sl (by assumption)) (by omega) ?_) | (refine Ints.ld (Own.sl (by assumption)) (by omega) ?_))
    exact ⟨rfl, EE⟩
  · repeat' ((conv => whnf); first | (refine Dr.quiet tyOk (by kernel_rfl) ?_) | (refine Rng.mk (by omega) ?_) | (refine Split.pos (by omega) ?_) | (refine Split.neg (by omega) ?_) | (refine Split.mk (fun h => ?_) (fun h => ?_)) | (refine Need.mk (by omega) ?_) | (refine Ints.ln (by assumption) ?_) | (refine Mat.ln (by assumption) ?_) | (refine Ints.ln (Mat.row (by assumption) _ (by omega)) ?_) | (refine Ints.ix (by assumption) (by omega) ?_) | (refine Mat.ix (by assumption) (by omega) ?_) | (refine Ints.ix (Mat.row (by assumption) _ (by omega)) (by omega) ?_) | (refine Ints.ix (c := 0) (by assumption) (by omega) ?_) | (refine Mat.ix (c := 0) (by assumption) (by omega) ?_) | (refine Ints.ix (c := 0) (Mat.row (by assumption) _ (by omega)) (by omega) ?_) | (refine Ints.ixI (by assumption) (by omega) ?_) | (refine Mat.ixI (by assumption) (by omega) ?_) | (refine Ints.ixI (Mat.row (by assumption) _ (by omega)) (by omega) ?_) | (refine Ints.ld (by assumption) (by omega) ?_) | (refine Mat.ld (by assumption) (by omega) ?_) | (refine Ints.ld (Mat.row (by assumption) _ (by omega)) (by omega) ?_) | (refine At.ld (by assumption) rfl ?_) | (refine At.ldN (by assumption) rfl ?_) | (refine Prs.ln (by assumption) ?_) | (refine Trs.ln (by assumption) ?_) | (refine Prs.ix (by assumption) (by omega) ?_) | (refine Trs.ix (by assumption) (by omega) ?_) | (refine Prs.ldN (by assumption) (by omega) ?_) | (refine Trs.ldN (by assumption) (by omega) ?_) | (refine At.ldN (Blk.at (by assumption)) rfl ?_) | (refine At.ld (Blk.at (by assumption)) rfl ?_) | (refine IxA.mk (by omega) ?_) | (refine Sl.ln (Own.sl (by assumption)) ?_) | (refine Ints.ix (Own.sl (by assumption)) (by omega) ?_) | (refine Ints.ixI (Own.sl (by assumption)) (by omega) ?_) | (refine Ints.ld (Own.sl (by assumption)) (by omega) ?_))
    refine Lp.mk tyOk [false, false, true, true, false, false, false, false, false, true, true, true, true, true, true, true, true, true, true, true, true] (fun m fr wr => getK fr 3 fun i => ∃ c : Nat, c ≤ rr.length ∧ m = rr.length - c ∧ i = .int .i64 (c : Int) ∧ (∀ i, i < c → (rr.getD i []).length ≤ 16) ∧ wr = w1) (rr.length) ?_ ?_
    · exact ⟨0, Nat.zero_le _, rfl, rfl, (by first | exact fun _ hi => absurd hi (Nat.not_lt_zero _) | exact fun _ _ hi => absurd hi (Nat.not_lt_zero _) | assumption | exact Own.nil | omega | simp), rfl⟩
    · intro m w2 u2 u3 u9 u10 u11 u12 u13 u14 u15 u16 u17 u18 u19 u20 hR
      obtain ⟨c, hc, rfl, rfl, hv, rfl⟩ := hR
      by_cases hcl : c < rr.length
      · have hrc := (Hv.row c hcl).le
        by_cases hb : 16 < (rr.getD c []).length
        · rw [skE_big (.inr ⟨c, hcl, hb⟩)]
          repeat' ((conv => whnf); first | (refine Dr.quiet tyOk (by kernel_rfl) ?_) | (refine Rng.mk (by omega) ?_) | (refine Split.pos (by omega) ?_) | (refine Split.neg (by omega) ?_) | (refine Split.mk (fun h => ?_) (fun h => ?_)) | (refine Need.mk (by omega) ?_) | (refine Ints.ln (by assumption) ?_) | (refine Mat.ln (by assumption) ?_) | (refine Ints.ln (Mat.row (by assumption) _ (by omega)) ?_) | (refine Ints.ix (by assumption) (by omega) ?_) | (refine Mat.ix (by assumption) (by omega) ?_) | (refine Ints.ix (Mat.row (by assumption) _ (by omega)) (by omega) ?_) | (refine Ints.ix (c := 0) (by assumption) (by omega) ?_) | (refine Mat.ix (c := 0) (by assumption) (by omega) ?_) | (refine Ints.ix (c := 0) (Mat.row (by assumption) _ (by omega)) (by omega) ?_) | (refine Ints.ixI (by assumption) (by omega) ?_) | (refine Mat.ixI (by assumption) (by omega) ?_) | (refine Ints.ixI (Mat.row (by assumption) _ (by omega)) (by omega) ?_) | (refine Ints.ld (by assumption) (by omega) ?_) | (refine Mat.ld (by assumption) (by omega) ?_) | (refine Ints.ld (Mat.row (by assumption) _ (by omega)) (by omega) ?_) | (refine At.ld (by assumption) rfl ?_) | (refine At.ldN (by assumption) rfl ?_) | (refine Prs.ln (by assumption) ?_) | (refine Trs.ln (by assumption) ?_) | (refine Prs.ix (by assumption) (by omega) ?_) | (refine Trs.ix (by assumption) (by omega) ?_) | (refine Prs.ldN (by assumption) (by omega) ?_) | (refine Trs.ldN (by assumption) (by omega) ?_) | (refine At.ldN (Blk.at (by assumption)) rfl ?_) | (refine At.ld (Blk.at (by assumption)) rfl ?_) | (refine IxA.mk (by omega) ?_) | (refine Sl.ln (Own.sl (by assumption)) ?_) | (refine Ints.ix (Own.sl (by assumption)) (by omega) ?_) | (refine Ints.ixI (Own.sl (by assumption)) (by omega) ?_) | (refine Ints.ld (Own.sl (by assumption)) (by omega) ?_))
          exact ⟨rfl, EE⟩
        · repeat' ((conv => whnf); first | (refine Dr.quiet tyOk (by kernel_rfl) ?_) | (refine Rng.mk (by omega) ?_) | (refine Split.pos (by omega) ?_) | (refine Split.neg (by omega) ?_) | (refine Split.mk (fun h => ?_) (fun h => ?_)) | (refine Need.mk (by omega) ?_) | (refine Ints.ln (by assumption) ?_) | (refine Mat.ln (by assumption) ?_) | (refine Ints.ln (Mat.row (by assumption) _ (by omega)) ?_) | (refine Ints.ix (by assumption) (by omega) ?_) | (refine Mat.ix (by assumption) (by omega) ?_) | (refine Ints.ix (Mat.row (by assumption) _ (by omega)) (by omega) ?_) | (refine Ints.ix (c := 0) (by assumption) (by omega) ?_) | (refine Mat.ix (c := 0) (by assumption) (by omega) ?_) | (refine Ints.ix (c := 0) (Mat.row (by assumption) _ (by omega)) (by omega) ?_) | (refine Ints.ixI (by assumption) (by omega) ?_) | (refine Mat.ixI (by assumption) (by omega) ?_) | (refine Ints.ixI (Mat.row (by assumption) _ (by omega)) (by omega) ?_) | (refine Ints.ld (by assumption) (by omega) ?_) | (refine Mat.ld (by assumption) (by omega) ?_) | (refine Ints.ld (Mat.row (by assumption) _ (by omega)) (by omega) ?_) | (refine At.ld (by assumption) rfl ?_) | (refine At.ldN (by assumption) rfl ?_) | (refine Prs.ln (by assumption) ?_) | (refine Trs.ln (by assumption) ?_) | (refine Prs.ix (by assumption) (by omega) ?_) | (refine Trs.ix (by assumption) (by omega) ?_) | (refine Prs.ldN (by assumption) (by omega) ?_) | (refine Trs.ldN (by assumption) (by omega) ?_) | (refine At.ldN (Blk.at (by assumption)) rfl ?_) | (refine At.ld (Blk.at (by assumption)) rfl ?_) | (refine IxA.mk (by omega) ?_) | (refine Sl.ln (Own.sl (by assumption)) ?_) | (refine Ints.ix (Own.sl (by assumption)) (by omega) ?_) | (refine Ints.ixI (Own.sl (by assumption)) (by omega) ?_) | (refine Ints.ld (Own.sl (by assumption)) (by omega) ?_))
          refine ⟨_, (by omega : rr.length - (c + 1) < rr.length - c), rfl, c + 1, by omega, rfl, rfl, all_succ hv (by omega), rfl⟩
      · have hnb : ¬ sbig rr := by
          rintro (h1 | ⟨i, hi, h1⟩)
          · omega
          · have := hv i (by omega); omega
        by_cases h0 : rr.length = 0
        · rw [skE_bad hnb (.inl h0)]
          repeat' ((conv => whnf); first | (refine Dr.quiet tyOk (by kernel_rfl) ?_) | (refine Rng.mk (by omega) ?_) | (refine Split.pos (by omega) ?_) | (refine Split.neg (by omega) ?_) | (refine Split.mk (fun h => ?_) (fun h => ?_)) | (refine Need.mk (by omega) ?_) | (refine Ints.ln (by assumption) ?_) | (refine Mat.ln (by assumption) ?_) | (refine Ints.ln (Mat.row (by assumption) _ (by omega)) ?_) | (refine Ints.ix (by assumption) (by omega) ?_) | (refine Mat.ix (by assumption) (by omega) ?_) | (refine Ints.ix (Mat.row (by assumption) _ (by omega)) (by omega) ?_) | (refine Ints.ix (c := 0) (by assumption) (by omega) ?_) | (refine Mat.ix (c := 0) (by assumption) (by omega) ?_) | (refine Ints.ix (c := 0) (Mat.row (by assumption) _ (by omega)) (by omega) ?_) | (refine Ints.ixI (by assumption) (by omega) ?_) | (refine Mat.ixI (by assumption) (by omega) ?_) | (refine Ints.ixI (Mat.row (by assumption) _ (by omega)) (by omega) ?_) | (refine Ints.ld (by assumption) (by omega) ?_) | (refine Mat.ld (by assumption) (by omega) ?_) | (refine Ints.ld (Mat.row (by assumption) _ (by omega)) (by omega) ?_) | (refine At.ld (by assumption) rfl ?_) | (refine At.ldN (by assumption) rfl ?_) | (refine Prs.ln (by assumption) ?_) | (refine Trs.ln (by assumption) ?_) | (refine Prs.ix (by assumption) (by omega) ?_) | (refine Trs.ix (by assumption) (by omega) ?_) | (refine Prs.ldN (by assumption) (by omega) ?_) | (refine Trs.ldN (by assumption) (by omega) ?_) | (refine At.ldN (Blk.at (by assumption)) rfl ?_) | (refine At.ld (Blk.at (by assumption)) rfl ?_) | (refine IxA.mk (by omega) ?_) | (refine Sl.ln (Own.sl (by assumption)) ?_) | (refine Ints.ix (Own.sl (by assumption)) (by omega) ?_) | (refine Ints.ixI (Own.sl (by assumption)) (by omega) ?_) | (refine Ints.ld (Own.sl (by assumption)) (by omega) ?_))
          exact ⟨rfl, EE⟩
        · repeat' ((conv => whnf); first | (refine Dr.quiet tyOk (by kernel_rfl) ?_) | (refine Rng.mk (by omega) ?_) | (refine Split.pos (by omega) ?_) | (refine Split.neg (by omega) ?_) | (refine Split.mk (fun h => ?_) (fun h => ?_)) | (refine Need.mk (by omega) ?_) | (refine Ints.ln (by assumption) ?_) | (refine Mat.ln (by assumption) ?_) | (refine Ints.ln (Mat.row (by assumption) _ (by omega)) ?_) | (refine Ints.ix (by assumption) (by omega) ?_) | (refine Mat.ix (by assumption) (by omega) ?_) | (refine Ints.ix (Mat.row (by assumption) _ (by omega)) (by omega) ?_) | (refine Ints.ix (c := 0) (by assumption) (by omega) ?_) | (refine Mat.ix (c := 0) (by assumption) (by omega) ?_) | (refine Ints.ix (c := 0) (Mat.row (by assumption) _ (by omega)) (by omega) ?_) | (refine Ints.ixI (by assumption) (by omega) ?_) | (refine Mat.ixI (by assumption) (by omega) ?_) | (refine Ints.ixI (Mat.row (by assumption) _ (by omega)) (by omega) ?_) | (refine Ints.ld (by assumption) (by omega) ?_) | (refine Mat.ld (by assumption) (by omega) ?_) | (refine Ints.ld (Mat.row (by assumption) _ (by omega)) (by omega) ?_) | (refine At.ld (by assumption) rfl ?_) | (refine At.ldN (by assumption) rfl ?_) | (refine Prs.ln (by assumption) ?_) | (refine Trs.ln (by assumption) ?_) | (refine Prs.ix (by assumption) (by omega) ?_) | (refine Trs.ix (by assumption) (by omega) ?_) | (refine Prs.ldN (by assumption) (by omega) ?_) | (refine Trs.ldN (by assumption) (by omega) ?_) | (refine At.ldN (Blk.at (by assumption)) rfl ?_) | (refine At.ld (Blk.at (by assumption)) rfl ?_) | (refine IxA.mk (by omega) ?_) | (refine Sl.ln (Own.sl (by assumption)) ?_) | (refine Ints.ix (Own.sl (by assumption)) (by omega) ?_) | (refine Ints.ixI (Own.sl (by assumption)) (by omega) ?_) | (refine Ints.ld (Own.sl (by assumption)) (by omega) ?_))
          refine Lp.mk tyOk [false, false, true, false, true, true, false, false, false, false, false, false, false, false, false, false, false, false, false, false, false, false, false, false, true, true, true, true, true, true, true, true, true, true, true, true, true, true, true, true, true, true, true, true, true, true, true, true, true, true, true, true, true, true, true, true, true, true, true, true, true, true, true, true, true, true, true] (fun m fr wr => getK fr 4 fun i => ∃ d : Nat, d ≤ rr.length ∧ m = rr.length - d ∧ i = .int .i64 (d : Int) ∧ (∀ i, i < d → (rr.getD i []).length = (rr.getD 0 []).length ∧ ∀ j, j < (rr.getD i []).length → 0 ≤ val rr i j ∧ val rr i j ≤ 1000) ∧ wr = w2) (rr.length) ?_ ?_
          · exact ⟨0, Nat.zero_le _, rfl, rfl, (by first | exact fun _ hi => absurd hi (Nat.not_lt_zero _) | exact fun _ _ hi => absurd hi (Nat.not_lt_zero _) | assumption | exact Own.nil | omega | simp), rfl⟩
          · intro m w3 u2 u4 u5 u24 u25 u26 u27 u28 u29 u30 u31 u32 u33 u34 u35 u36 u37 u38 u39 u40 u41 u42 u43 u44 u45 u46 u47 u48 u49 u50 u51 u52 u53 u54 u55 u56 u57 u58 u59 u60 u61 u62 u63 u64 u65 u66 hR
            obtain ⟨d, hd, rfl, rfl, hok, rfl⟩ := hR
            by_cases hdl : d < rr.length
            · have hrd := (Hv.row d hdl).le
              by_cases hl : (rr.getD d []).length = (rr.getD 0 []).length
              · repeat' ((conv => whnf); first | (refine Dr.quiet tyOk (by kernel_rfl) ?_) | (refine Rng.mk (by omega) ?_) | (refine Split.pos (by omega) ?_) | (refine Split.neg (by omega) ?_) | (refine Split.mk (fun h => ?_) (fun h => ?_)) | (refine Need.mk (by omega) ?_) | (refine Ints.ln (by assumption) ?_) | (refine Mat.ln (by assumption) ?_) | (refine Ints.ln (Mat.row (by assumption) _ (by omega)) ?_) | (refine Ints.ix (by assumption) (by omega) ?_) | (refine Mat.ix (by assumption) (by omega) ?_) | (refine Ints.ix (Mat.row (by assumption) _ (by omega)) (by omega) ?_) | (refine Ints.ix (c := 0) (by assumption) (by omega) ?_) | (refine Mat.ix (c := 0) (by assumption) (by omega) ?_) | (refine Ints.ix (c := 0) (Mat.row (by assumption) _ (by omega)) (by omega) ?_) | (refine Ints.ixI (by assumption) (by omega) ?_) | (refine Mat.ixI (by assumption) (by omega) ?_) | (refine Ints.ixI (Mat.row (by assumption) _ (by omega)) (by omega) ?_) | (refine Ints.ld (by assumption) (by omega) ?_) | (refine Mat.ld (by assumption) (by omega) ?_) | (refine Ints.ld (Mat.row (by assumption) _ (by omega)) (by omega) ?_) | (refine At.ld (by assumption) rfl ?_) | (refine At.ldN (by assumption) rfl ?_) | (refine Prs.ln (by assumption) ?_) | (refine Trs.ln (by assumption) ?_) | (refine Prs.ix (by assumption) (by omega) ?_) | (refine Trs.ix (by assumption) (by omega) ?_) | (refine Prs.ldN (by assumption) (by omega) ?_) | (refine Trs.ldN (by assumption) (by omega) ?_) | (refine At.ldN (Blk.at (by assumption)) rfl ?_) | (refine At.ld (Blk.at (by assumption)) rfl ?_) | (refine IxA.mk (by omega) ?_) | (refine Sl.ln (Own.sl (by assumption)) ?_) | (refine Ints.ix (Own.sl (by assumption)) (by omega) ?_) | (refine Ints.ixI (Own.sl (by assumption)) (by omega) ?_) | (refine Ints.ld (Own.sl (by assumption)) (by omega) ?_))
                refine Lp.mk tyOk [false, false, true, false, false, true, false, false, false, false, false, false, false, false, false, false, false, false, false, false, false, false, false, false, false, false, false, false, false, false, false, false, false, false, false, false, false, false, false, false, true, true, true, true, true, true, true, true, true, true, true, true, true, true, true, true, true, true, true, true, true, true, true, true, true, true, true] (fun m fr wr => getK fr 5 fun k => ∃ e : Nat, e ≤ (rr.getD d []).length ∧ m = (rr.getD d []).length - e ∧ k = .int .i64 (e : Int) ∧ (∀ j, j < e → 0 ≤ val rr d j ∧ val rr d j ≤ 1000) ∧ wr = w3) ((rr.getD d []).length) ?_ ?_
                · exact ⟨0, Nat.zero_le _, rfl, rfl, (by first | exact fun _ hi => absurd hi (Nat.not_lt_zero _) | exact fun _ _ hi => absurd hi (Nat.not_lt_zero _) | assumption | exact Own.nil | omega | simp), rfl⟩
                · intro m w4 u2 u5 u40 u41 u42 u43 u44 u45 u46 u47 u48 u49 u50 u51 u52 u53 u54 u55 u56 u57 u58 u59 u60 u61 u62 u63 u64 u65 u66 hR
                  obtain ⟨e, he, rfl, rfl, hk, rfl⟩ := hR
                  have hve : (rr.getD d []).getD e 0 = val rr d e := rfl
                  by_cases hel : e < (rr.getD d []).length
                  · by_cases hb : 0 ≤ val rr d e ∧ val rr d e ≤ 1000
                    · repeat' ((conv => whnf); first | (refine Dr.quiet tyOk (by kernel_rfl) ?_) | (refine Rng.mk (by omega) ?_) | (refine Split.pos (by omega) ?_) | (refine Split.neg (by omega) ?_) | (refine Split.mk (fun h => ?_) (fun h => ?_)) | (refine Need.mk (by omega) ?_) | (refine Ints.ln (by assumption) ?_) | (refine Mat.ln (by assumption) ?_) | (refine Ints.ln (Mat.row (by assumption) _ (by omega)) ?_) | (refine Ints.ix (by assumption) (by omega) ?_) | (refine Mat.ix (by assumption) (by omega) ?_) | (refine Ints.ix (Mat.row (by assumption) _ (by omega)) (by omega) ?_) | (refine Ints.ix (c := 0) (by assumption) (by omega) ?_) | (refine Mat.ix (c := 0) (by assumption) (by omega) ?_) | (refine Ints.ix (c := 0) (Mat.row (by assumption) _ (by omega)) (by omega) ?_) | (refine Ints.ixI (by assumption) (by omega) ?_) | (refine Mat.ixI (by assumption) (by omega) ?_) | (refine Ints.ixI (Mat.row (by assumption) _ (by omega)) (by omega) ?_) | (refine Ints.ld (by assumption) (by omega) ?_) | (refine Mat.ld (by assumption) (by omega) ?_) | (refine Ints.ld (Mat.row (by assumption) _ (by omega)) (by omega) ?_) | (refine At.ld (by assumption) rfl ?_) | (refine At.ldN (by assumption) rfl ?_) | (refine Prs.ln (by assumption) ?_) | (refine Trs.ln (by assumption) ?_) | (refine Prs.ix (by assumption) (by omega) ?_) | (refine Trs.ix (by assumption) (by omega) ?_) | (refine Prs.ldN (by assumption) (by omega) ?_) | (refine Trs.ldN (by assumption) (by omega) ?_) | (refine At.ldN (Blk.at (by assumption)) rfl ?_) | (refine At.ld (Blk.at (by assumption)) rfl ?_) | (refine IxA.mk (by omega) ?_) | (refine Sl.ln (Own.sl (by assumption)) ?_) | (refine Ints.ix (Own.sl (by assumption)) (by omega) ?_) | (refine Ints.ixI (Own.sl (by assumption)) (by omega) ?_) | (refine Ints.ld (Own.sl (by assumption)) (by omega) ?_))
                      refine ⟨_, (by omega : (rr.getD d []).length - (e + 1) < (rr.getD d []).length - e), rfl, e + 1, by omega, rfl, rfl, all_succ hk hb, rfl⟩
                    · rw [skE_bad hnb (.inr ⟨d, hdl, .inr ⟨e, hel, by omega⟩⟩)]
                      repeat' ((conv => whnf); first | (refine Dr.quiet tyOk (by kernel_rfl) ?_) | (refine Rng.mk (by omega) ?_) | (refine Split.pos (by omega) ?_) | (refine Split.neg (by omega) ?_) | (refine Split.mk (fun h => ?_) (fun h => ?_)) | (refine Need.mk (by omega) ?_) | (refine Ints.ln (by assumption) ?_) | (refine Mat.ln (by assumption) ?_) | (refine Ints.ln (Mat.row (by assumption) _ (by omega)) ?_) | (refine Ints.ix (by assumption) (by omega) ?_) | (refine Mat.ix (by assumption) (by omega) ?_) | (refine Ints.ix (Mat.row (by assumption) _ (by omega)) (by omega) ?_) | (refine Ints.ix (c := 0) (by assumption) (by omega) ?_) | (refine Mat.ix (c := 0) (by assumption) (by omega) ?_) | (refine Ints.ix (c := 0) (Mat.row (by assumption) _ (by omega)) (by omega) ?_) | (refine Ints.ixI (by assumption) (by omega) ?_) | (refine Mat.ixI (by assumption) (by omega) ?_) | (refine Ints.ixI (Mat.row (by assumption) _ (by omega)) (by omega) ?_) | (refine Ints.ld (by assumption) (by omega) ?_) | (refine Mat.ld (by assumption) (by omega) ?_) | (refine Ints.ld (Mat.row (by assumption) _ (by omega)) (by omega) ?_) | (refine At.ld (by assumption) rfl ?_) | (refine At.ldN (by assumption) rfl ?_) | (refine Prs.ln (by assumption) ?_) | (refine Trs.ln (by assumption) ?_) | (refine Prs.ix (by assumption) (by omega) ?_) | (refine Trs.ix (by assumption) (by omega) ?_) | (refine Prs.ldN (by assumption) (by omega) ?_) | (refine Trs.ldN (by assumption) (by omega) ?_) | (refine At.ldN (Blk.at (by assumption)) rfl ?_) | (refine At.ld (Blk.at (by assumption)) rfl ?_) | (refine IxA.mk (by omega) ?_) | (refine Sl.ln (Own.sl (by assumption)) ?_) | (refine Ints.ix (Own.sl (by assumption)) (by omega) ?_) | (refine Ints.ixI (Own.sl (by assumption)) (by omega) ?_) | (refine Ints.ld (Own.sl (by assumption)) (by omega) ?_))
                      all_goals exact ⟨rfl, EE⟩
                  · repeat' ((conv => whnf); first | (refine Dr.quiet tyOk (by kernel_rfl) ?_) | (refine Rng.mk (by omega) ?_) | (refine Split.pos (by omega) ?_) | (refine Split.neg (by omega) ?_) | (refine Split.mk (fun h => ?_) (fun h => ?_)) | (refine Need.mk (by omega) ?_) | (refine Ints.ln (by assumption) ?_) | (refine Mat.ln (by assumption) ?_) | (refine Ints.ln (Mat.row (by assumption) _ (by omega)) ?_) | (refine Ints.ix (by assumption) (by omega) ?_) | (refine Mat.ix (by assumption) (by omega) ?_) | (refine Ints.ix (Mat.row (by assumption) _ (by omega)) (by omega) ?_) | (refine Ints.ix (c := 0) (by assumption) (by omega) ?_) | (refine Mat.ix (c := 0) (by assumption) (by omega) ?_) | (refine Ints.ix (c := 0) (Mat.row (by assumption) _ (by omega)) (by omega) ?_) | (refine Ints.ixI (by assumption) (by omega) ?_) | (refine Mat.ixI (by assumption) (by omega) ?_) | (refine Ints.ixI (Mat.row (by assumption) _ (by omega)) (by omega) ?_) | (refine Ints.ld (by assumption) (by omega) ?_) | (refine Mat.ld (by assumption) (by omega) ?_) | (refine Ints.ld (Mat.row (by assumption) _ (by omega)) (by omega) ?_) | (refine At.ld (by assumption) rfl ?_) | (refine At.ldN (by assumption) rfl ?_) | (refine Prs.ln (by assumption) ?_) | (refine Trs.ln (by assumption) ?_) | (refine Prs.ix (by assumption) (by omega) ?_) | (refine Trs.ix (by assumption) (by omega) ?_) | (refine Prs.ldN (by assumption) (by omega) ?_) | (refine Trs.ldN (by assumption) (by omega) ?_) | (refine At.ldN (Blk.at (by assumption)) rfl ?_) | (refine At.ld (Blk.at (by assumption)) rfl ?_) | (refine IxA.mk (by omega) ?_) | (refine Sl.ln (Own.sl (by assumption)) ?_) | (refine Ints.ix (Own.sl (by assumption)) (by omega) ?_) | (refine Ints.ixI (Own.sl (by assumption)) (by omega) ?_) | (refine Ints.ld (Own.sl (by assumption)) (by omega) ?_))
                    refine ⟨_, (by omega : rr.length - (d + 1) < rr.length - d), rfl, d + 1, by omega, rfl, rfl, all_succ hok ⟨hl, fun j hj => hk j (by omega)⟩, rfl⟩
              · rw [skE_bad hnb (.inr ⟨d, hdl, .inl hl⟩)]
                repeat' ((conv => whnf); first | (refine Dr.quiet tyOk (by kernel_rfl) ?_) | (refine Rng.mk (by omega) ?_) | (refine Split.pos (by omega) ?_) | (refine Split.neg (by omega) ?_) | (refine Split.mk (fun h => ?_) (fun h => ?_)) | (refine Need.mk (by omega) ?_) | (refine Ints.ln (by assumption) ?_) | (refine Mat.ln (by assumption) ?_) | (refine Ints.ln (Mat.row (by assumption) _ (by omega)) ?_) | (refine Ints.ix (by assumption) (by omega) ?_) | (refine Mat.ix (by assumption) (by omega) ?_) | (refine Ints.ix (Mat.row (by assumption) _ (by omega)) (by omega) ?_) | (refine Ints.ix (c := 0) (by assumption) (by omega) ?_) | (refine Mat.ix (c := 0) (by assumption) (by omega) ?_) | (refine Ints.ix (c := 0) (Mat.row (by assumption) _ (by omega)) (by omega) ?_) | (refine Ints.ixI (by assumption) (by omega) ?_) | (refine Mat.ixI (by assumption) (by omega) ?_) | (refine Ints.ixI (Mat.row (by assumption) _ (by omega)) (by omega) ?_) | (refine Ints.ld (by assumption) (by omega) ?_) | (refine Mat.ld (by assumption) (by omega) ?_) | (refine Ints.ld (Mat.row (by assumption) _ (by omega)) (by omega) ?_) | (refine At.ld (by assumption) rfl ?_) | (refine At.ldN (by assumption) rfl ?_) | (refine Prs.ln (by assumption) ?_) | (refine Trs.ln (by assumption) ?_) | (refine Prs.ix (by assumption) (by omega) ?_) | (refine Trs.ix (by assumption) (by omega) ?_) | (refine Prs.ldN (by assumption) (by omega) ?_) | (refine Trs.ldN (by assumption) (by omega) ?_) | (refine At.ldN (Blk.at (by assumption)) rfl ?_) | (refine At.ld (Blk.at (by assumption)) rfl ?_) | (refine IxA.mk (by omega) ?_) | (refine Sl.ln (Own.sl (by assumption)) ?_) | (refine Ints.ix (Own.sl (by assumption)) (by omega) ?_) | (refine Ints.ixI (Own.sl (by assumption)) (by omega) ?_) | (refine Ints.ld (Own.sl (by assumption)) (by omega) ?_))
                exact ⟨rfl, EE⟩
            · rw [skE_ok hnb (by
                rintro (h | ⟨i, hi, h | ⟨j, hj, h⟩⟩)
                · exact h0 h
                · exact h (hok i (by omega)).1
                · have := (hok i (by omega)).2 j hj; omega)]
              repeat' ((conv => whnf); first | (refine Dr.quiet tyOk (by kernel_rfl) ?_) | (refine Rng.mk (by omega) ?_) | (refine Split.pos (by omega) ?_) | (refine Split.neg (by omega) ?_) | (refine Split.mk (fun h => ?_) (fun h => ?_)) | (refine Need.mk (by omega) ?_) | (refine Ints.ln (by assumption) ?_) | (refine Mat.ln (by assumption) ?_) | (refine Ints.ln (Mat.row (by assumption) _ (by omega)) ?_) | (refine Ints.ix (by assumption) (by omega) ?_) | (refine Mat.ix (by assumption) (by omega) ?_) | (refine Ints.ix (Mat.row (by assumption) _ (by omega)) (by omega) ?_) | (refine Ints.ix (c := 0) (by assumption) (by omega) ?_) | (refine Mat.ix (c := 0) (by assumption) (by omega) ?_) | (refine Ints.ix (c := 0) (Mat.row (by assumption) _ (by omega)) (by omega) ?_) | (refine Ints.ixI (by assumption) (by omega) ?_) | (refine Mat.ixI (by assumption) (by omega) ?_) | (refine Ints.ixI (Mat.row (by assumption) _ (by omega)) (by omega) ?_) | (refine Ints.ld (by assumption) (by omega) ?_) | (refine Mat.ld (by assumption) (by omega) ?_) | (refine Ints.ld (Mat.row (by assumption) _ (by omega)) (by omega) ?_) | (refine At.ld (by assumption) rfl ?_) | (refine At.ldN (by assumption) rfl ?_) | (refine Prs.ln (by assumption) ?_) | (refine Trs.ln (by assumption) ?_) | (refine Prs.ix (by assumption) (by omega) ?_) | (refine Trs.ix (by assumption) (by omega) ?_) | (refine Prs.ldN (by assumption) (by omega) ?_) | (refine Trs.ldN (by assumption) (by omega) ?_) | (refine At.ldN (Blk.at (by assumption)) rfl ?_) | (refine At.ld (Blk.at (by assumption)) rfl ?_) | (refine IxA.mk (by omega) ?_) | (refine Sl.ln (Own.sl (by assumption)) ?_) | (refine Ints.ix (Own.sl (by assumption)) (by omega) ?_) | (refine Ints.ixI (Own.sl (by assumption)) (by omega) ?_) | (refine Ints.ld (Own.sl (by assumption)) (by omega) ?_))
              exact ⟨rfl, EE⟩

theorem sints_pc {w : World} {av bv : Value} {a b : List Int} (Ha : Ints w av a) (Hb : Ints w bv b) : PC Try.prog 15 [av, bv] w (.bool (tf (a = b))) := by
  refine PC.mk tyOk Try.func15 rfl (by kernel_rfl) fun w1 E1 => ?_
  replace Ha := Ha.ext E1
  replace Hb := Hb.ext E1
  have EE := Ext.refl w1
  have hle := Ha.le
  have hle2 := Hb.le
  by_cases hl : a.length = b.length
  · repeat' ((conv => whnf); first | (refine Dr.quiet tyOk (by kernel_rfl) ?_) | (refine Rng.mk (by omega) ?_) | (refine Split.pos (by omega) ?_) | (refine Split.neg (by omega) ?_) | (refine Split.mk (fun h => ?_) (fun h => ?_)) | (refine Need.mk (by omega) ?_) | (refine Ints.ln (by assumption) ?_) | (refine Mat.ln (by assumption) ?_) | (refine Ints.ln (Mat.row (by assumption) _ (by omega)) ?_) | (refine Ints.ix (by assumption) (by omega) ?_) | (refine Mat.ix (by assumption) (by omega) ?_) | (refine Ints.ix (Mat.row (by assumption) _ (by omega)) (by omega) ?_) | (refine Ints.ix (c := 0) (by assumption) (by omega) ?_) | (refine Mat.ix (c := 0) (by assumption) (by omega) ?_) | (refine Ints.ix (c := 0) (Mat.row (by assumption) _ (by omega)) (by omega) ?_) | (refine Ints.ixI (by assumption) (by omega) ?_) | (refine Mat.ixI (by assumption) (by omega) ?_) | (refine Ints.ixI (Mat.row (by assumption) _ (by omega)) (by omega) ?_) | (refine Ints.ld (by assumption) (by omega) ?_) | (refine Mat.ld (by assumption) (by omega) ?_) | (refine Ints.ld (Mat.row (by assumption) _ (by omega)) (by omega) ?_) | (refine At.ld (by assumption) rfl ?_) | (refine At.ldN (by assumption) rfl ?_) | (refine Prs.ln (by assumption) ?_) | (refine Trs.ln (by assumption) ?_) | (refine Prs.ix (by assumption) (by omega) ?_) | (refine Trs.ix (by assumption) (by omega) ?_) | (refine Prs.ldN (by assumption) (by omega) ?_) | (refine Trs.ldN (by assumption) (by omega) ?_) | (refine At.ldN (Blk.at (by assumption)) rfl ?_) | (refine At.ld (Blk.at (by assumption)) rfl ?_) | (refine IxA.mk (by omega) ?_) | (refine Sl.ln (Own.sl (by assumption)) ?_) | (refine Ints.ix (Own.sl (by assumption)) (by omega) ?_) | (refine Ints.ixI (Own.sl (by assumption)) (by omega) ?_) | (refine Ints.ld (Own.sl (by assumption)) (by omega) ?_))
    refine Lp.mk tyOk [false, false, false, false, true, true, false, false, false, false, false, true, true, true, true, true, true, true, true, true, true, true, true, true, true, true] (fun m fr wr => getK fr 5 fun j => ∃ c : Nat, c ≤ a.length ∧ m = a.length - c ∧ j = .int .i64 (c : Int) ∧ (∀ i, i < c → a.getD i 0 = b.getD i 0) ∧ wr = w1) (a.length) ?_ ?_
    · exact ⟨0, Nat.zero_le _, rfl, rfl, (by first | exact fun _ hi => absurd hi (Nat.not_lt_zero _) | exact fun _ _ hi => absurd hi (Nat.not_lt_zero _) | assumption | exact Own.nil | omega | simp), rfl⟩
    · intro m w2 u4 u5 u11 u12 u13 u14 u15 u16 u17 u18 u19 u20 u21 u22 u23 u24 u25 hR
      obtain ⟨c, hc, rfl, rfl, hv, rfl⟩ := hR
      by_cases hcl : c < a.length
      · by_cases he : a.getD c 0 = b.getD c 0
        · repeat' ((conv => whnf); first | (refine Dr.quiet tyOk (by kernel_rfl) ?_) | (refine Rng.mk (by omega) ?_) | (refine Split.pos (by omega) ?_) | (refine Split.neg (by omega) ?_) | (refine Split.mk (fun h => ?_) (fun h => ?_)) | (refine Need.mk (by omega) ?_) | (refine Ints.ln (by assumption) ?_) | (refine Mat.ln (by assumption) ?_) | (refine Ints.ln (Mat.row (by assumption) _ (by omega)) ?_) | (refine Ints.ix (by assumption) (by omega) ?_) | (refine Mat.ix (by assumption) (by omega) ?_) | (refine Ints.ix (Mat.row (by assumption) _ (by omega)) (by omega) ?_) | (refine Ints.ix (c := 0) (by assumption) (by omega) ?_) | (refine Mat.ix (c := 0) (by assumption) (by omega) ?_) | (refine Ints.ix (c := 0) (Mat.row (by assumption) _ (by omega)) (by omega) ?_) | (refine Ints.ixI (by assumption) (by omega) ?_) | (refine Mat.ixI (by assumption) (by omega) ?_) | (refine Ints.ixI (Mat.row (by assumption) _ (by omega)) (by omega) ?_) | (refine Ints.ld (by assumption) (by omega) ?_) | (refine Mat.ld (by assumption) (by omega) ?_) | (refine Ints.ld (Mat.row (by assumption) _ (by omega)) (by omega) ?_) | (refine At.ld (by assumption) rfl ?_) | (refine At.ldN (by assumption) rfl ?_) | (refine Prs.ln (by assumption) ?_) | (refine Trs.ln (by assumption) ?_) | (refine Prs.ix (by assumption) (by omega) ?_) | (refine Trs.ix (by assumption) (by omega) ?_) | (refine Prs.ldN (by assumption) (by omega) ?_) | (refine Trs.ldN (by assumption) (by omega) ?_) | (refine At.ldN (Blk.at (by assumption)) rfl ?_) | (refine At.ld (Blk.at (by assumption)) rfl ?_) | (refine IxA.mk (by omega) ?_) | (refine Sl.ln (Own.sl (by assumption)) ?_) | (refine Ints.ix (Own.sl (by assumption)) (by omega) ?_) | (refine Ints.ixI (Own.sl (by assumption)) (by omega) ?_) | (refine Ints.ld (Own.sl (by assumption)) (by omega) ?_))
          refine ⟨_, (by omega : a.length - (c + 1) < a.length - c), rfl, c + 1, by omega, rfl, rfl, all_succ hv he, rfl⟩
        · rw [tf_f (p := a = b) (by rintro rfl; exact he rfl)]
          repeat' ((conv => whnf); first | (refine Dr.quiet tyOk (by kernel_rfl) ?_) | (refine Rng.mk (by omega) ?_) | (refine Split.pos (by omega) ?_) | (refine Split.neg (by omega) ?_) | (refine Split.mk (fun h => ?_) (fun h => ?_)) | (refine Need.mk (by omega) ?_) | (refine Ints.ln (by assumption) ?_) | (refine Mat.ln (by assumption) ?_) | (refine Ints.ln (Mat.row (by assumption) _ (by omega)) ?_) | (refine Ints.ix (by assumption) (by omega) ?_) | (refine Mat.ix (by assumption) (by omega) ?_) | (refine Ints.ix (Mat.row (by assumption) _ (by omega)) (by omega) ?_) | (refine Ints.ix (c := 0) (by assumption) (by omega) ?_) | (refine Mat.ix (c := 0) (by assumption) (by omega) ?_) | (refine Ints.ix (c := 0) (Mat.row (by assumption) _ (by omega)) (by omega) ?_) | (refine Ints.ixI (by assumption) (by omega) ?_) | (refine Mat.ixI (by assumption) (by omega) ?_) | (refine Ints.ixI (Mat.row (by assumption) _ (by omega)) (by omega) ?_) | (refine Ints.ld (by assumption) (by omega) ?_) | (refine Mat.ld (by assumption) (by omega) ?_) | (refine Ints.ld (Mat.row (by assumption) _ (by omega)) (by omega) ?_) | (refine At.ld (by assumption) rfl ?_) | (refine At.ldN (by assumption) rfl ?_) | (refine Prs.ln (by assumption) ?_) | (refine Trs.ln (by assumption) ?_) | (refine Prs.ix (by assumption) (by omega) ?_) | (refine Trs.ix (by assumption) (by omega) ?_) | (refine Prs.ldN (by assumption) (by omega) ?_) | (refine Trs.ldN (by assumption) (by omega) ?_) | (refine At.ldN (Blk.at (by assumption)) rfl ?_) | (refine At.ld (Blk.at (by assumption)) rfl ?_) | (refine IxA.mk (by omega) ?_) | (refine Sl.ln (Own.sl (by assumption)) ?_) | (refine Ints.ix (Own.sl (by assumption)) (by omega) ?_) | (refine Ints.ixI (Own.sl (by assumption)) (by omega) ?_) | (refine Ints.ld (Own.sl (by assumption)) (by omega) ?_))
          exact ⟨rfl, EE⟩
      · repeat' ((conv => whnf); first | (refine Dr.quiet tyOk (by kernel_rfl) ?_) | (refine Rng.mk (by omega) ?_) | (refine Split.pos (by omega) ?_) | (refine Split.neg (by omega) ?_) | (refine Split.mk (fun h => ?_) (fun h => ?_)) | (refine Need.mk (by omega) ?_) | (refine Ints.ln (by assumption) ?_) | (refine Mat.ln (by assumption) ?_) | (refine Ints.ln (Mat.row (by assumption) _ (by omega)) ?_) | (refine Ints.ix (by assumption) (by omega) ?_) | (refine Mat.ix (by assumption) (by omega) ?_) | (refine Ints.ix (Mat.row (by assumption) _ (by omega)) (by omega) ?_) | (refine Ints.ix (c := 0) (by assumption) (by omega) ?_) | (refine Mat.ix (c := 0) (by assumption) (by omega) ?_) | (refine Ints.ix (c := 0) (Mat.row (by assumption) _ (by omega)) (by omega) ?_) | (refine Ints.ixI (by assumption) (by omega) ?_) | (refine Mat.ixI (by assumption) (by omega) ?_) | (refine Ints.ixI (Mat.row (by assumption) _ (by omega)) (by omega) ?_) | (refine Ints.ld (by assumption) (by omega) ?_) | (refine Mat.ld (by assumption) (by omega) ?_) | (refine Ints.ld (Mat.row (by assumption) _ (by omega)) (by omega) ?_) | (refine At.ld (by assumption) rfl ?_) | (refine At.ldN (by assumption) rfl ?_) | (refine Prs.ln (by assumption) ?_) | (refine Trs.ln (by assumption) ?_) | (refine Prs.ix (by assumption) (by omega) ?_) | (refine Trs.ix (by assumption) (by omega) ?_) | (refine Prs.ldN (by assumption) (by omega) ?_) | (refine Trs.ldN (by assumption) (by omega) ?_) | (refine At.ldN (Blk.at (by assumption)) rfl ?_) | (refine At.ld (Blk.at (by assumption)) rfl ?_) | (refine IxA.mk (by omega) ?_) | (refine Sl.ln (Own.sl (by assumption)) ?_) | (refine Ints.ix (Own.sl (by assumption)) (by omega) ?_) | (refine Ints.ixI (Own.sl (by assumption)) (by omega) ?_) | (refine Ints.ld (Own.sl (by assumption)) (by omega) ?_))
        rw [tf_t (p := a = b) (ext_getD 0 (by omega) fun i hi => hv i (by omega))]; exact ⟨rfl, EE⟩
  · rw [tf_f (p := a = b) (fun h => hl (by rw [h]))]
    repeat' ((conv => whnf); first | (refine Dr.quiet tyOk (by kernel_rfl) ?_) | (refine Rng.mk (by omega) ?_) | (refine Split.pos (by omega) ?_) | (refine Split.neg (by omega) ?_) | (refine Split.mk (fun h => ?_) (fun h => ?_)) | (refine Need.mk (by omega) ?_) | (refine Ints.ln (by assumption) ?_) | (refine Mat.ln (by assumption) ?_) | (refine Ints.ln (Mat.row (by assumption) _ (by omega)) ?_) | (refine Ints.ix (by assumption) (by omega) ?_) | (refine Mat.ix (by assumption) (by omega) ?_) | (refine Ints.ix (Mat.row (by assumption) _ (by omega)) (by omega) ?_) | (refine Ints.ix (c := 0) (by assumption) (by omega) ?_) | (refine Mat.ix (c := 0) (by assumption) (by omega) ?_) | (refine Ints.ix (c := 0) (Mat.row (by assumption) _ (by omega)) (by omega) ?_) | (refine Ints.ixI (by assumption) (by omega) ?_) | (refine Mat.ixI (by assumption) (by omega) ?_) | (refine Ints.ixI (Mat.row (by assumption) _ (by omega)) (by omega) ?_) | (refine Ints.ld (by assumption) (by omega) ?_) | (refine Mat.ld (by assumption) (by omega) ?_) | (refine Ints.ld (Mat.row (by assumption) _ (by omega)) (by omega) ?_) | (refine At.ld (by assumption) rfl ?_) | (refine At.ldN (by assumption) rfl ?_) | (refine Prs.ln (by assumption) ?_) | (refine Trs.ln (by assumption) ?_) | (refine Prs.ix (by assumption) (by omega) ?_) | (refine Trs.ix (by assumption) (by omega) ?_) | (refine Prs.ldN (by assumption) (by omega) ?_) | (refine Trs.ldN (by assumption) (by omega) ?_) | (refine At.ldN (Blk.at (by assumption)) rfl ?_) | (refine At.ld (Blk.at (by assumption)) rfl ?_) | (refine IxA.mk (by omega) ?_) | (refine Sl.ln (Own.sl (by assumption)) ?_) | (refine Ints.ix (Own.sl (by assumption)) (by omega) ?_) | (refine Ints.ixI (Own.sl (by assumption)) (by omega) ?_) | (refine Ints.ld (Own.sl (by assumption)) (by omega) ?_))
    exact ⟨rfl, EE⟩
end Go.Proofs.Ytclbiabiiknolaa
set_option linter.unusedVariables false
set_option linter.unusedSimpArgs false
namespace Go.Proofs.Ytclbiabiiknolaa
open Go.Eng
set_option maxRecDepth 100000
set_option maxHeartbeats 4000000

theorem rlev_pc {w : World} {vv av : Value} {vs : List Value} {rr : List (List Int)} {a : List Int} {m : Nat} (Hv : Mat w vv vs rr) (Ha : Ints w av a) (hk : Sd rr m) (hd : divn rr a) : PC Try.prog 39 [vv, av] w (.int .i64 (lvl rr a)) := by
  refine PC.mk tyOk Try.func39 rfl (by kernel_rfl) fun w1 E1 => ?_
  replace Hv := Hv.ext E1
  replace Ha := Ha.ext E1
  have EE := Ext.refl w1
  have hla := Ha.le
  have hn1 := hk.n1
  have hn6 := hk.n6
  have hm16 := hk.m16
  have h0l := hk.m0
  have hal := hd.1
  repeat' ((conv => whnf); first | (refine Dr.quiet tyOk (by kernel_rfl) ?_) | (refine Rng.mk (by omega) ?_) | (refine Split.pos (by omega) ?_) | (refine Split.neg (by omega) ?_) | (refine Split.mk (fun h => ?_) (fun h => ?_)) | (refine Need.mk (by omega) ?_) | (refine Ints.ln (by assumption) ?_) | (refine Mat.ln (by assumption) ?_) | (refine Ints.ln (Mat.row (by assumption) _ (by omega)) ?_) | (refine Ints.ix (by assumption) (by omega) ?_) | (refine Mat.ix (by assumption) (by omega) ?_) | (refine Ints.ix (Mat.row (by assumption) _ (by omega)) (by omega) ?_) | (refine Ints.ix (c := 0) (by assumption) (by omega) ?_) | (refine Mat.ix (c := 0) (by assumption) (by omega) ?_) | (refine Ints.ix (c := 0) (Mat.row (by assumption) _ (by omega)) (by omega) ?_) | (refine Ints.ixI (by assumption) (by omega) ?_) | (refine Mat.ixI (by assumption) (by omega) ?_) | (refine Ints.ixI (Mat.row (by assumption) _ (by omega)) (by omega) ?_) | (refine Ints.ld (by assumption) (by omega) ?_) | (refine Mat.ld (by assumption) (by omega) ?_) | (refine Ints.ld (Mat.row (by assumption) _ (by omega)) (by omega) ?_) | (refine At.ld (by assumption) rfl ?_) | (refine At.ldN (by assumption) rfl ?_) | (refine Prs.ln (by assumption) ?_) | (refine Trs.ln (by assumption) ?_) | (refine Prs.ix (by assumption) (by omega) ?_) | (refine Trs.ix (by assumption) (by omega) ?_) | (refine Prs.ldN (by assumption) (by omega) ?_) | (refine Trs.ldN (by assumption) (by omega) ?_) | (refine At.ldN (Blk.at (by assumption)) rfl ?_) | (refine At.ld (Blk.at (by assumption)) rfl ?_) | (refine IxA.mk (by omega) ?_) | (refine Sl.ln (Own.sl (by assumption)) ?_) | (refine Ints.ix (Own.sl (by assumption)) (by omega) ?_) | (refine Ints.ixI (Own.sl (by assumption)) (by omega) ?_) | (refine Ints.ld (Own.sl (by assumption)) (by omega) ?_))
  refine Lp.mk tyOk [false, false, false, false, false, true, true, true, true, true, true, true, true, true, true, true, true, true, true, true, true, true, true, true, true, true, true, true, true, true, true, true, true, true, true, true, true, true, true, true, true, true, true, true] (fun m fr wr => getK fr 6 fun i => getK fr 5 fun lo => ∃ c : Nat, c ≤ rr.length ∧ m = rr.length - c ∧ i = .int .i64 (c : Int) ∧ lo = .int .i64 (if c = 0 then -1 else mnTo (fun i => worth a (rr.getD i []) i a.length) (c - 1)) ∧ wr = w1) (rr.length) ?_ ?_
  · exact ⟨0, Nat.zero_le _, rfl, rfl, (by simp), rfl⟩
  · intro m w2 u5 u6 u7 u8 u9 u10 u11 u12 u13 u14 u15 u16 u17 u18 u19 u20 u21 u22 u23 u24 u25 u26 u27 u28 u29 u30 u31 u32 u33 u34 u35 u36 u37 u38 u39 u40 u41 u42 u43 hR
    obtain ⟨c, hc, rfl, rfl, rfl, rfl⟩ := hR
    by_cases hcl : c < rr.length
    · repeat' ((conv => whnf); first | (refine Dr.quiet tyOk (by kernel_rfl) ?_) | (refine Rng.mk (by omega) ?_) | (refine Split.pos (by omega) ?_) | (refine Split.neg (by omega) ?_) | (refine Split.mk (fun h => ?_) (fun h => ?_)) | (refine Need.mk (by omega) ?_) | (refine Ints.ln (by assumption) ?_) | (refine Mat.ln (by assumption) ?_) | (refine Ints.ln (Mat.row (by assumption) _ (by omega)) ?_) | (refine Ints.ix (by assumption) (by omega) ?_) | (refine Mat.ix (by assumption) (by omega) ?_) | (refine Ints.ix (Mat.row (by assumption) _ (by omega)) (by omega) ?_) | (refine Ints.ix (c := 0) (by assumption) (by omega) ?_) | (refine Mat.ix (c := 0) (by assumption) (by omega) ?_) | (refine Ints.ix (c := 0) (Mat.row (by assumption) _ (by omega)) (by omega) ?_) | (refine Ints.ixI (by assumption) (by omega) ?_) | (refine Mat.ixI (by assumption) (by omega) ?_) | (refine Ints.ixI (Mat.row (by assumption) _ (by omega)) (by omega) ?_) | (refine Ints.ld (by assumption) (by omega) ?_) | (refine Mat.ld (by assumption) (by omega) ?_) | (refine Ints.ld (Mat.row (by assumption) _ (by omega)) (by omega) ?_) | (refine At.ld (by assumption) rfl ?_) | (refine At.ldN (by assumption) rfl ?_) | (refine Prs.ln (by assumption) ?_) | (refine Trs.ln (by assumption) ?_) | (refine Prs.ix (by assumption) (by omega) ?_) | (refine Trs.ix (by assumption) (by omega) ?_) | (refine Prs.ldN (by assumption) (by omega) ?_) | (refine Trs.ldN (by assumption) (by omega) ?_) | (refine At.ldN (Blk.at (by assumption)) rfl ?_) | (refine At.ld (Blk.at (by assumption)) rfl ?_) | (refine IxA.mk (by omega) ?_) | (refine Sl.ln (Own.sl (by assumption)) ?_) | (refine Ints.ix (Own.sl (by assumption)) (by omega) ?_) | (refine Ints.ixI (Own.sl (by assumption)) (by omega) ?_) | (refine Ints.ld (Own.sl (by assumption)) (by omega) ?_))
      refine Lp.mk tyOk [false, false, false, false, false, false, false, true, true, false, false, false, false, false, false, true, true, true, true, true, true, true, true, true, true, true, true, true, true, true, true, true, true, true, true, true] (fun m fr wr => getK fr 8 fun k => getK fr 7 fun s => ∃ d : Nat, d ≤ a.length ∧ m = a.length - d ∧ k = .int .i64 (d : Int) ∧ s = .int .i64 (worth a (rr.getD c []) c d) ∧ wr = w2) (a.length) ?_ ?_
      · exact ⟨0, Nat.zero_le _, rfl, rfl, rfl, rfl⟩
      · intro m w3 u7 u8 u15 u16 u17 u18 u19 u20 u21 u22 u23 u24 u25 u26 u27 u28 u29 u30 u31 u32 u33 u34 u35 hR
        obtain ⟨d, hd, rfl, rfl, rfl, rfl⟩ := hR
        have hbd := worth_bd (a := a) (k := (c : Int)) (fun j => hk.val c j) d
        have hev : ∀ j, (rr.getD c []).getD j 0 = val rr c j := fun _ => rfl
        have hrc := hk.row c hcl
        by_cases hdl : d < a.length
        · have hs : worth a (rr.getD c []) c (d + 1) = worth a (rr.getD c []) c d + if a.getD d 0 = (c : Int) then (rr.getD c []).getD d 0 else 0 := rfl
          have hval := hk.val c d
          have hvd := hev d
          by_cases he : a.getD d 0 = (c : Int)
          · rw [if_pos he] at hs
            repeat' ((conv => whnf); first | (refine Dr.quiet tyOk (by kernel_rfl) ?_) | (refine Rng.mk (by omega) ?_) | (refine Split.pos (by omega) ?_) | (refine Split.neg (by omega) ?_) | (refine Split.mk (fun h => ?_) (fun h => ?_)) | (refine Need.mk (by omega) ?_) | (refine Ints.ln (by assumption) ?_) | (refine Mat.ln (by assumption) ?_) | (refine Ints.ln (Mat.row (by assumption) _ (by omega)) ?_) | (refine Ints.ix (by assumption) (by omega) ?_) | (refine Mat.ix (by assumption) (by omega) ?_) | (refine Ints.ix (Mat.row (by assumption) _ (by omega)) (by omega) ?_) | (refine Ints.ix (c := 0) (by assumption) (by omega) ?_) | (refine Mat.ix (c := 0) (by assumption) (by omega) ?_) | (refine Ints.ix (c := 0) (Mat.row (by assumption) _ (by omega)) (by omega) ?_) | (refine Ints.ixI (by assumption) (by omega) ?_) | (refine Mat.ixI (by assumption) (by omega) ?_) | (refine Ints.ixI (Mat.row (by assumption) _ (by omega)) (by omega) ?_) | (refine Ints.ld (by assumption) (by omega) ?_) | (refine Mat.ld (by assumption) (by omega) ?_) | (refine Ints.ld (Mat.row (by assumption) _ (by omega)) (by omega) ?_) | (refine At.ld (by assumption) rfl ?_) | (refine At.ldN (by assumption) rfl ?_) | (refine Prs.ln (by assumption) ?_) | (refine Trs.ln (by assumption) ?_) | (refine Prs.ix (by assumption) (by omega) ?_) | (refine Trs.ix (by assumption) (by omega) ?_) | (refine Prs.ldN (by assumption) (by omega) ?_) | (refine Trs.ldN (by assumption) (by omega) ?_) | (refine At.ldN (Blk.at (by assumption)) rfl ?_) | (refine At.ld (Blk.at (by assumption)) rfl ?_) | (refine IxA.mk (by omega) ?_) | (refine Sl.ln (Own.sl (by assumption)) ?_) | (refine Ints.ix (Own.sl (by assumption)) (by omega) ?_) | (refine Ints.ixI (Own.sl (by assumption)) (by omega) ?_) | (refine Ints.ld (Own.sl (by assumption)) (by omega) ?_))
            refine ⟨_, (by omega : a.length - (d + 1) < a.length - d), rfl, d + 1, by omega, rfl, rfl, (by rw [hs]), rfl⟩
          · rw [if_neg he, Int.add_zero] at hs
            repeat' ((conv => whnf); first | (refine Dr.quiet tyOk (by kernel_rfl) ?_) | (refine Rng.mk (by omega) ?_) | (refine Split.pos (by omega) ?_) | (refine Split.neg (by omega) ?_) | (refine Split.mk (fun h => ?_) (fun h => ?_)) | (refine Need.mk (by omega) ?_) | (refine Ints.ln (by assumption) ?_) | (refine Mat.ln (by assumption) ?_) | (refine Ints.ln (Mat.row (by assumption) _ (by omega)) ?_) | (refine Ints.ix (by assumption) (by omega) ?_) | (refine Mat.ix (by assumption) (by omega) ?_) | (refine Ints.ix (Mat.row (by assumption) _ (by omega)) (by omega) ?_) | (refine Ints.ix (c := 0) (by assumption) (by omega) ?_) | (refine Mat.ix (c := 0) (by assumption) (by omega) ?_) | (refine Ints.ix (c := 0) (Mat.row (by assumption) _ (by omega)) (by omega) ?_) | (refine Ints.ixI (by assumption) (by omega) ?_) | (refine Mat.ixI (by assumption) (by omega) ?_) | (refine Ints.ixI (Mat.row (by assumption) _ (by omega)) (by omega) ?_) | (refine Ints.ld (by assumption) (by omega) ?_) | (refine Mat.ld (by assumption) (by omega) ?_) | (refine Ints.ld (Mat.row (by assumption) _ (by omega)) (by omega) ?_) | (refine At.ld (by assumption) rfl ?_) | (refine At.ldN (by assumption) rfl ?_) | (refine Prs.ln (by assumption) ?_) | (refine Trs.ln (by assumption) ?_) | (refine Prs.ix (by assumption) (by omega) ?_) | (refine Trs.ix (by assumption) (by omega) ?_) | (refine Prs.ldN (by assumption) (by omega) ?_) | (refine Trs.ldN (by assumption) (by omega) ?_) | (refine At.ldN (Blk.at (by assumption)) rfl ?_) | (refine At.ld (Blk.at (by assumption)) rfl ?_) | (refine IxA.mk (by omega) ?_) | (refine Sl.ln (Own.sl (by assumption)) ?_) | (refine Ints.ix (Own.sl (by assumption)) (by omega) ?_) | (refine Ints.ixI (Own.sl (by assumption)) (by omega) ?_) | (refine Ints.ld (Own.sl (by assumption)) (by omega) ?_))
            refine ⟨_, (by omega : a.length - (d + 1) < a.length - d), rfl, d + 1, by omega, rfl, rfl, (by rw [hs]), rfl⟩
        · obtain rfl : d = a.length := by omega
          by_cases hc0 : c = 0
          · rw [if_pos hc0]
            repeat' ((conv => whnf); first | (refine Dr.quiet tyOk (by kernel_rfl) ?_) | (refine Rng.mk (by omega) ?_) | (refine Split.pos (by omega) ?_) | (refine Split.neg (by omega) ?_) | (refine Split.mk (fun h => ?_) (fun h => ?_)) | (refine Need.mk (by omega) ?_) | (refine Ints.ln (by assumption) ?_) | (refine Mat.ln (by assumption) ?_) | (refine Ints.ln (Mat.row (by assumption) _ (by omega)) ?_) | (refine Ints.ix (by assumption) (by omega) ?_) | (refine Mat.ix (by assumption) (by omega) ?_) | (refine Ints.ix (Mat.row (by assumption) _ (by omega)) (by omega) ?_) | (refine Ints.ix (c := 0) (by assumption) (by omega) ?_) | (refine Mat.ix (c := 0) (by assumption) (by omega) ?_) | (refine Ints.ix (c := 0) (Mat.row (by assumption) _ (by omega)) (by omega) ?_) | (refine Ints.ixI (by assumption) (by omega) ?_) | (refine Mat.ixI (by assumption) (by omega) ?_) | (refine Ints.ixI (Mat.row (by assumption) _ (by omega)) (by omega) ?_) | (refine Ints.ld (by assumption) (by omega) ?_) | (refine Mat.ld (by assumption) (by omega) ?_) | (refine Ints.ld (Mat.row (by assumption) _ (by omega)) (by omega) ?_) | (refine At.ld (by assumption) rfl ?_) | (refine At.ldN (by assumption) rfl ?_) | (refine Prs.ln (by assumption) ?_) | (refine Trs.ln (by assumption) ?_) | (refine Prs.ix (by assumption) (by omega) ?_) | (refine Trs.ix (by assumption) (by omega) ?_) | (refine Prs.ldN (by assumption) (by omega) ?_) | (refine Trs.ldN (by assumption) (by omega) ?_) | (refine At.ldN (Blk.at (by assumption)) rfl ?_) | (refine At.ld (Blk.at (by assumption)) rfl ?_) | (refine IxA.mk (by omega) ?_) | (refine Sl.ln (Own.sl (by assumption)) ?_) | (refine Ints.ix (Own.sl (by assumption)) (by omega) ?_) | (refine Ints.ixI (Own.sl (by assumption)) (by omega) ?_) | (refine Ints.ld (Own.sl (by assumption)) (by omega) ?_))
            all_goals (refine ⟨_, (by omega : rr.length - (c + 1) < rr.length - c), rfl, c + 1, by omega, rfl, rfl, (by rw [if_neg (by omega)]; subst hc0; rfl), rfl⟩)
          · have hc1 : c + 1 - 1 = c - 1 + 1 := by omega
            have hmb := mnTo_bd (f := fun i => worth a (rr.getD i []) i a.length) (b := 16000) (c := c - 1) (fun i hi => by
              have := worth_bd (a := a) (k := (i : Int)) (fun j => hk.val i j) a.length
              omega)
            have hs : mnTo (fun i => worth a (rr.getD i []) i a.length) (c + 1 - 1) = min (mnTo (fun i => worth a (rr.getD i []) i a.length) (c - 1)) (worth a (rr.getD c []) c a.length) := by
              rw [hc1]
              simp only [mnTo]
              rw [show c - 1 + 1 = c by omega]
            rw [if_neg hc0]
            by_cases hlt : worth a (rr.getD c []) c a.length < mnTo (fun i => worth a (rr.getD i []) i a.length) (c - 1)
            · rw [Int.min_eq_right (by omega)] at hs
              repeat' ((conv => whnf); first | (refine Dr.quiet tyOk (by kernel_rfl) ?_) | (refine Rng.mk (by omega) ?_) | (refine Split.pos (by omega) ?_) | (refine Split.neg (by omega) ?_) | (refine Split.mk (fun h => ?_) (fun h => ?_)) | (refine Need.mk (by omega) ?_) | (refine Ints.ln (by assumption) ?_) | (refine Mat.ln (by assumption) ?_) | (refine Ints.ln (Mat.row (by assumption) _ (by omega)) ?_) | (refine Ints.ix (by assumption) (by omega) ?_) | (refine Mat.ix (by assumption) (by omega) ?_) | (refine Ints.ix (Mat.row (by assumption) _ (by omega)) (by omega) ?_) | (refine Ints.ix (c := 0) (by assumption) (by omega) ?_) | (refine Mat.ix (c := 0) (by assumption) (by omega) ?_) | (refine Ints.ix (c := 0) (Mat.row (by assumption) _ (by omega)) (by omega) ?_) | (refine Ints.ixI (by assumption) (by omega) ?_) | (refine Mat.ixI (by assumption) (by omega) ?_) | (refine Ints.ixI (Mat.row (by assumption) _ (by omega)) (by omega) ?_) | (refine Ints.ld (by assumption) (by omega) ?_) | (refine Mat.ld (by assumption) (by omega) ?_) | (refine Ints.ld (Mat.row (by assumption) _ (by omega)) (by omega) ?_) | (refine At.ld (by assumption) rfl ?_) | (refine At.ldN (by assumption) rfl ?_) | (refine Prs.ln (by assumption) ?_) | (refine Trs.ln (by assumption) ?_) | (refine Prs.ix (by assumption) (by omega) ?_) | (refine Trs.ix (by assumption) (by omega) ?_) | (refine Prs.ldN (by assumption) (by omega) ?_) | (refine Trs.ldN (by assumption) (by omega) ?_) | (refine At.ldN (Blk.at (by assumption)) rfl ?_) | (refine At.ld (Blk.at (by assumption)) rfl ?_) | (refine IxA.mk (by omega) ?_) | (refine Sl.ln (Own.sl (by assumption)) ?_) | (refine Ints.ix (Own.sl (by assumption)) (by omega) ?_) | (refine Ints.ixI (Own.sl (by assumption)) (by omega) ?_) | (refine Ints.ld (Own.sl (by assumption)) (by omega) ?_))
              all_goals (refine ⟨_, (by omega : rr.length - (c + 1) < rr.length - c), rfl, c + 1, by omega, rfl, rfl, (by rw [if_neg (by omega), hs]), rfl⟩)
            · rw [Int.min_eq_left (by omega)] at hs
              repeat' ((conv => whnf); first | (refine Dr.quiet tyOk (by kernel_rfl) ?_) | (refine Rng.mk (by omega) ?_) | (refine Split.pos (by omega) ?_) | (refine Split.neg (by omega) ?_) | (refine Split.mk (fun h => ?_) (fun h => ?_)) | (refine Need.mk (by omega) ?_) | (refine Ints.ln (by assumption) ?_) | (refine Mat.ln (by assumption) ?_) | (refine Ints.ln (Mat.row (by assumption) _ (by omega)) ?_) | (refine Ints.ix (by assumption) (by omega) ?_) | (refine Mat.ix (by assumption) (by omega) ?_) | (refine Ints.ix (Mat.row (by assumption) _ (by omega)) (by omega) ?_) | (refine Ints.ix (c := 0) (by assumption) (by omega) ?_) | (refine Mat.ix (c := 0) (by assumption) (by omega) ?_) | (refine Ints.ix (c := 0) (Mat.row (by assumption) _ (by omega)) (by omega) ?_) | (refine Ints.ixI (by assumption) (by omega) ?_) | (refine Mat.ixI (by assumption) (by omega) ?_) | (refine Ints.ixI (Mat.row (by assumption) _ (by omega)) (by omega) ?_) | (refine Ints.ld (by assumption) (by omega) ?_) | (refine Mat.ld (by assumption) (by omega) ?_) | (refine Ints.ld (Mat.row (by assumption) _ (by omega)) (by omega) ?_) | (refine At.ld (by assumption) rfl ?_) | (refine At.ldN (by assumption) rfl ?_) | (refine Prs.ln (by assumption) ?_) | (refine Trs.ln (by assumption) ?_) | (refine Prs.ix (by assumption) (by omega) ?_) | (refine Trs.ix (by assumption) (by omega) ?_) | (refine Prs.ldN (by assumption) (by omega) ?_) | (refine Trs.ldN (by assumption) (by omega) ?_) | (refine At.ldN (Blk.at (by assumption)) rfl ?_) | (refine At.ld (Blk.at (by assumption)) rfl ?_) | (refine IxA.mk (by omega) ?_) | (refine Sl.ln (Own.sl (by assumption)) ?_) | (refine Ints.ix (Own.sl (by assumption)) (by omega) ?_) | (refine Ints.ixI (Own.sl (by assumption)) (by omega) ?_) | (refine Ints.ld (Own.sl (by assumption)) (by omega) ?_))
              all_goals (refine ⟨_, (by omega : rr.length - (c + 1) < rr.length - c), rfl, c + 1, by omega, rfl, rfl, (by rw [if_neg (by omega), hs]), rfl⟩)
    · obtain rfl : c = rr.length := by omega
      rw [if_neg (by omega)]
      repeat' ((conv => whnf); first | (refine Dr.quiet tyOk (by kernel_rfl) ?_) | (refine Rng.mk (by omega) ?_) | (refine Split.pos (by omega) ?_) | (refine Split.neg (by omega) ?_) | (refine Split.mk (fun h => ?_) (fun h => ?_)) | (refine Need.mk (by omega) ?_) | (refine Ints.ln (by assumption) ?_) | (refine Mat.ln (by assumption) ?_) | (refine Ints.ln (Mat.row (by assumption) _ (by omega)) ?_) | (refine Ints.ix (by assumption) (by omega) ?_) | (refine Mat.ix (by assumption) (by omega) ?_) | (refine Ints.ix (Mat.row (by assumption) _ (by omega)) (by omega) ?_) | (refine Ints.ix (c := 0) (by assumption) (by omega) ?_) | (refine Mat.ix (c := 0) (by assumption) (by omega) ?_) | (refine Ints.ix (c := 0) (Mat.row (by assumption) _ (by omega)) (by omega) ?_) | (refine Ints.ixI (by assumption) (by omega) ?_) | (refine Mat.ixI (by assumption) (by omega) ?_) | (refine Ints.ixI (Mat.row (by assumption) _ (by omega)) (by omega) ?_) | (refine Ints.ld (by assumption) (by omega) ?_) | (refine Mat.ld (by assumption) (by omega) ?_) | (refine Ints.ld (Mat.row (by assumption) _ (by omega)) (by omega) ?_) | (refine At.ld (by assumption) rfl ?_) | (refine At.ldN (by assumption) rfl ?_) | (refine Prs.ln (by assumption) ?_) | (refine Trs.ln (by assumption) ?_) | (refine Prs.ix (by assumption) (by omega) ?_) | (refine Trs.ix (by assumption) (by omega) ?_) | (refine Prs.ldN (by assumption) (by omega) ?_) | (refine Trs.ldN (by assumption) (by omega) ?_) | (refine At.ldN (Blk.at (by assumption)) rfl ?_) | (refine At.ld (Blk.at (by assumption)) rfl ?_) | (refine IxA.mk (by omega) ?_) | (refine Sl.ln (Own.sl (by assumption)) ?_) | (refine Ints.ix (Own.sl (by assumption)) (by omega) ?_) | (refine Ints.ixI (Own.sl (by assumption)) (by omega) ?_) | (refine Ints.ld (Own.sl (by assumption)) (by omega) ?_))
      exact ⟨rfl, EE⟩
end Go.Proofs.Ytclbiabiiknolaa
set_option linter.unusedVariables false
set_option linter.unusedSimpArgs false
namespace Go.Proofs.Ytclbiabiiknolaa
open Go.Eng
set_option maxRecDepth 100000
set_option maxHeartbeats 4000000

theorem ldw {w : World} {v : Value} {l : List Int} {K : Value → Prop} {c : Nat} {x : Int} (h : Ints w v l) (hv : l.getD c 0 = x) (hc : c < l.length) (hk : K (.int .i64 x)) : Ld w (ea v c) K :=
  Ints.ld h hc (by rw [hv]; exact hk)
theorem enf_step {l : List Int} {L s : Int} {p : Nat} (h : p < l.length) : enf l L (l.length - p) p s = if L ≤ s + l.getD p 0 then ((p + 1 : Nat) : Int) else enf l L (l.length - (p + 1)) (p + 1) (s + l.getD p 0) := by
  rw [show l.length - p = (l.length - (p + 1)) + 1 by omega]
  simp only [enf]
  rfl
theorem enf_end {l : List Int} {L s : Int} {p : Nat} (h : ¬ p < l.length) : enf l L (l.length - p) p s = (l.length : Int) + 1 := by
  rw [show l.length - p = 0 by omega]; rfl

theorem sreach_pc {w : World} {rv : Value} {l : List Int} {p : Nat} {L : Int} (Hr : Ints w rv l) (hb : ∀ j, 0 ≤ l.getD j 0 ∧ l.getD j 0 ≤ 1000) (h16 : l.length ≤ 16) (hL : 1 ≤ L ∧ L ≤ 16001) (hp : p ≤ 20) :
    PC Try.prog 42 [rv, .int .i64 (p : Int), .int .i64 L] w (.int .i64 (enough l p L)) := by
  refine PC.mk tyOk Try.func42 rfl (by kernel_rfl) fun w1 E1 => ?_
  replace Hr := Hr.ext E1
  have EE := Ext.refl w1
  repeat' ((conv => whnf); first | (refine Dr.quiet tyOk (by kernel_rfl) ?_) | (refine Rng.mk (by omega) ?_) | (refine Split.pos (by omega) ?_) | (refine Split.neg (by omega) ?_) | (refine Split.mk (fun h => ?_) (fun h => ?_)) | (refine Need.mk (by omega) ?_) | (refine Ints.ln (by assumption) ?_) | (refine Mat.ln (by assumption) ?_) | (refine Ints.ln (Mat.row (by assumption) _ (by omega)) ?_) | (refine Ints.ix (by assumption) (by omega) ?_) | (refine Mat.ix (by assumption) (by omega) ?_) | (refine Ints.ix (Mat.row (by assumption) _ (by omega)) (by omega) ?_) | (refine Ints.ix (c := 0) (by assumption) (by omega) ?_) | (refine Mat.ix (c := 0) (by assumption) (by omega) ?_) | (refine Ints.ix (c := 0) (Mat.row (by assumption) _ (by omega)) (by omega) ?_) | (refine Ints.ixI (by assumption) (by omega) ?_) | (refine Mat.ixI (by assumption) (by omega) ?_) | (refine Ints.ixI (Mat.row (by assumption) _ (by omega)) (by omega) ?_) | (refine Ints.ld (by assumption) (by omega) ?_) | (refine Mat.ld (by assumption) (by omega) ?_) | (refine Ints.ld (Mat.row (by assumption) _ (by omega)) (by omega) ?_) | (refine At.ld (by assumption) rfl ?_) | (refine At.ldN (by assumption) rfl ?_) | (refine Prs.ln (by assumption) ?_) | (refine Trs.ln (by assumption) ?_) | (refine Prs.ix (by assumption) (by omega) ?_) | (refine Trs.ix (by assumption) (by omega) ?_) | (refine Prs.ldN (by assumption) (by omega) ?_) | (refine Trs.ldN (by assumption) (by omega) ?_) | (refine At.ldN (Blk.at (by assumption)) rfl ?_) | (refine At.ld (Blk.at (by assumption)) rfl ?_) | (refine IxA.mk (by omega) ?_) | (refine Sl.ln (Own.sl (by assumption)) ?_) | (refine Ints.ix (Own.sl (by assumption)) (by omega) ?_) | (refine Ints.ixI (Own.sl (by assumption)) (by omega) ?_) | (refine Ints.ld (Own.sl (by assumption)) (by omega) ?_))
  refine Lp.mk tyOk [false, false, true, false, false, false, false, true, false, true, true, true, true, true, true, true, true, true, true, true, true, true, true, true, true] (fun m fr wr => getK fr 7 fun q => getK fr 2 fun lv => ∃ c : Nat, c ≤ (l.length - p) ∧ m = (l.length - p) - c ∧ q = .int .i64 ((p + c : Nat) : Int) ∧ ((∃ s, lv = .int .i64 (L - s) ∧ 0 ≤ s ∧ s ≤ 1000 * (c : Int) ∧ ((s < L ∧ enough l p L = enf l L (l.length - (p + c)) (p + c) s) ∨ (L ≤ s ∧ enough l p L = ((p + c : Nat) : Int))))) ∧ wr = w1) ((l.length - p)) ?_ ?_
  · exact ⟨0, Nat.zero_le _, rfl, rfl, ⟨0, by rw [Int.sub_zero], by omega, by omega, .inl ⟨by omega, rfl⟩⟩, rfl⟩
  · intro m w2 u2 u7 u9 u10 u11 u12 u13 u14 u15 u16 u17 u18 u19 u20 u21 u22 u23 u24 hR
    obtain ⟨c, hc, rfl, rfl, hX, rfl⟩ := hR
    obtain ⟨s, rfl, h0, h1, hX⟩ := hX
    by_cases hlt : p + c < l.length
    · have hbc := hb (p + c)
      by_cases hs : s < L
      · have hX : enough l p L = enf l L (l.length - (p + c)) (p + c) s := by
          rcases hX with h | h
          · exact h.2
          · omega
        rw [enf_step hlt] at hX
        have hor : (s + l.getD (p + c) 0 < L ∧ enough l p L = enf l L (l.length - (p + (c + 1))) (p + (c + 1)) (s + l.getD (p + c) 0)) ∨ (L ≤ s + l.getD (p + c) 0 ∧ enough l p L = ((p + (c + 1) : Nat) : Int)) := by
          by_cases hc : L ≤ s + l.getD (p + c) 0
          · rw [if_pos hc] at hX; exact .inr ⟨hc, hX⟩
          · rw [if_neg hc] at hX; exact .inl ⟨by omega, hX⟩
        repeat' ((conv => whnf); first | (refine Dr.quiet tyOk (by kernel_rfl) ?_) | (refine Ints.ix (c := p + c) Hr (by omega) ?_) | (refine Rng.mk (by omega) ?_) | (refine Split.pos (by omega) ?_) | (refine Split.neg (by omega) ?_) | (refine Split.mk (fun h => ?_) (fun h => ?_)) | (refine Need.mk (by omega) ?_) | (refine Ints.ln (by assumption) ?_) | (refine Mat.ln (by assumption) ?_) | (refine Ints.ln (Mat.row (by assumption) _ (by omega)) ?_) | (refine Ints.ix (by assumption) (by omega) ?_) | (refine Mat.ix (by assumption) (by omega) ?_) | (refine Ints.ix (Mat.row (by assumption) _ (by omega)) (by omega) ?_) | (refine Ints.ix (c := 0) (by assumption) (by omega) ?_) | (refine Mat.ix (c := 0) (by assumption) (by omega) ?_) | (refine Ints.ix (c := 0) (Mat.row (by assumption) _ (by omega)) (by omega) ?_) | (refine Ints.ixI (by assumption) (by omega) ?_) | (refine Mat.ixI (by assumption) (by omega) ?_) | (refine Ints.ixI (Mat.row (by assumption) _ (by omega)) (by omega) ?_) | (refine Ints.ld (by assumption) (by omega) ?_) | (refine Mat.ld (by assumption) (by omega) ?_) | (refine Ints.ld (Mat.row (by assumption) _ (by omega)) (by omega) ?_) | (refine At.ld (by assumption) rfl ?_) | (refine At.ldN (by assumption) rfl ?_) | (refine Prs.ln (by assumption) ?_) | (refine Trs.ln (by assumption) ?_) | (refine Prs.ix (by assumption) (by omega) ?_) | (refine Trs.ix (by assumption) (by omega) ?_) | (refine Prs.ldN (by assumption) (by omega) ?_) | (refine Trs.ldN (by assumption) (by omega) ?_) | (refine At.ldN (Blk.at (by assumption)) rfl ?_) | (refine At.ld (Blk.at (by assumption)) rfl ?_) | (refine IxA.mk (by omega) ?_) | (refine Sl.ln (Own.sl (by assumption)) ?_) | (refine Ints.ix (Own.sl (by assumption)) (by omega) ?_) | (refine Ints.ixI (Own.sl (by assumption)) (by omega) ?_) | (refine Ints.ld (Own.sl (by assumption)) (by omega) ?_))
        refine ⟨_, (by omega : (l.length - p) - (c + 1) < (l.length - p) - c), rfl, c + 1, by omega, rfl, (congrArg (Value.int .i64) (by omega)), ⟨s + l.getD (p + c) 0, (by congr 1; omega), (by omega), (by omega), hor⟩, rfl⟩
      · have hX : enough l p L = ((p + c : Nat) : Int) := by
          rcases hX with h | h
          · omega
          · exact h.2
        rw [hX]
        repeat' ((conv => whnf); first | (refine Dr.quiet tyOk (by kernel_rfl) ?_) | (refine Rng.mk (by omega) ?_) | (refine Split.pos (by omega) ?_) | (refine Split.neg (by omega) ?_) | (refine Split.mk (fun h => ?_) (fun h => ?_)) | (refine Need.mk (by omega) ?_) | (refine Ints.ln (by assumption) ?_) | (refine Mat.ln (by assumption) ?_) | (refine Ints.ln (Mat.row (by assumption) _ (by omega)) ?_) | (refine Ints.ix (by assumption) (by omega) ?_) | (refine Mat.ix (by assumption) (by omega) ?_) | (refine Ints.ix (Mat.row (by assumption) _ (by omega)) (by omega) ?_) | (refine Ints.ix (c := 0) (by assumption) (by omega) ?_) | (refine Mat.ix (c := 0) (by assumption) (by omega) ?_) | (refine Ints.ix (c := 0) (Mat.row (by assumption) _ (by omega)) (by omega) ?_) | (refine Ints.ixI (by assumption) (by omega) ?_) | (refine Mat.ixI (by assumption) (by omega) ?_) | (refine Ints.ixI (Mat.row (by assumption) _ (by omega)) (by omega) ?_) | (refine Ints.ld (by assumption) (by omega) ?_) | (refine Mat.ld (by assumption) (by omega) ?_) | (refine Ints.ld (Mat.row (by assumption) _ (by omega)) (by omega) ?_) | (refine At.ld (by assumption) rfl ?_) | (refine At.ldN (by assumption) rfl ?_) | (refine Prs.ln (by assumption) ?_) | (refine Trs.ln (by assumption) ?_) | (refine Prs.ix (by assumption) (by omega) ?_) | (refine Trs.ix (by assumption) (by omega) ?_) | (refine Prs.ldN (by assumption) (by omega) ?_) | (refine Trs.ldN (by assumption) (by omega) ?_) | (refine At.ldN (Blk.at (by assumption)) rfl ?_) | (refine At.ld (Blk.at (by assumption)) rfl ?_) | (refine IxA.mk (by omega) ?_) | (refine Sl.ln (Own.sl (by assumption)) ?_) | (refine Ints.ix (Own.sl (by assumption)) (by omega) ?_) | (refine Ints.ixI (Own.sl (by assumption)) (by omega) ?_) | (refine Ints.ld (Own.sl (by assumption)) (by omega) ?_))
        exact ⟨rfl, EE⟩
    · by_cases hs : s < L
      · have hX : enough l p L = (l.length : Int) + 1 := by
          rcases hX with h | h
          · rw [h.2, enf_end hlt]
          · omega
        rw [hX]
        repeat' ((conv => whnf); first | (refine Dr.quiet tyOk (by kernel_rfl) ?_) | (refine Rng.mk (by omega) ?_) | (refine Split.pos (by omega) ?_) | (refine Split.neg (by omega) ?_) | (refine Split.mk (fun h => ?_) (fun h => ?_)) | (refine Need.mk (by omega) ?_) | (refine Ints.ln (by assumption) ?_) | (refine Mat.ln (by assumption) ?_) | (refine Ints.ln (Mat.row (by assumption) _ (by omega)) ?_) | (refine Ints.ix (by assumption) (by omega) ?_) | (refine Mat.ix (by assumption) (by omega) ?_) | (refine Ints.ix (Mat.row (by assumption) _ (by omega)) (by omega) ?_) | (refine Ints.ix (c := 0) (by assumption) (by omega) ?_) | (refine Mat.ix (c := 0) (by assumption) (by omega) ?_) | (refine Ints.ix (c := 0) (Mat.row (by assumption) _ (by omega)) (by omega) ?_) | (refine Ints.ixI (by assumption) (by omega) ?_) | (refine Mat.ixI (by assumption) (by omega) ?_) | (refine Ints.ixI (Mat.row (by assumption) _ (by omega)) (by omega) ?_) | (refine Ints.ld (by assumption) (by omega) ?_) | (refine Mat.ld (by assumption) (by omega) ?_) | (refine Ints.ld (Mat.row (by assumption) _ (by omega)) (by omega) ?_) | (refine At.ld (by assumption) rfl ?_) | (refine At.ldN (by assumption) rfl ?_) | (refine Prs.ln (by assumption) ?_) | (refine Trs.ln (by assumption) ?_) | (refine Prs.ix (by assumption) (by omega) ?_) | (refine Trs.ix (by assumption) (by omega) ?_) | (refine Prs.ldN (by assumption) (by omega) ?_) | (refine Trs.ldN (by assumption) (by omega) ?_) | (refine At.ldN (Blk.at (by assumption)) rfl ?_) | (refine At.ld (Blk.at (by assumption)) rfl ?_) | (refine IxA.mk (by omega) ?_) | (refine Sl.ln (Own.sl (by assumption)) ?_) | (refine Ints.ix (Own.sl (by assumption)) (by omega) ?_) | (refine Ints.ixI (Own.sl (by assumption)) (by omega) ?_) | (refine Ints.ld (Own.sl (by assumption)) (by omega) ?_))
        exact ⟨rfl, EE⟩
      · have hX : enough l p L = ((p + c : Nat) : Int) := by
          rcases hX with h | h
          · omega
          · exact h.2
        rw [hX]
        repeat' ((conv => whnf); first | (refine Dr.quiet tyOk (by kernel_rfl) ?_) | (refine Rng.mk (by omega) ?_) | (refine Split.pos (by omega) ?_) | (refine Split.neg (by omega) ?_) | (refine Split.mk (fun h => ?_) (fun h => ?_)) | (refine Need.mk (by omega) ?_) | (refine Ints.ln (by assumption) ?_) | (refine Mat.ln (by assumption) ?_) | (refine Ints.ln (Mat.row (by assumption) _ (by omega)) ?_) | (refine Ints.ix (by assumption) (by omega) ?_) | (refine Mat.ix (by assumption) (by omega) ?_) | (refine Ints.ix (Mat.row (by assumption) _ (by omega)) (by omega) ?_) | (refine Ints.ix (c := 0) (by assumption) (by omega) ?_) | (refine Mat.ix (c := 0) (by assumption) (by omega) ?_) | (refine Ints.ix (c := 0) (Mat.row (by assumption) _ (by omega)) (by omega) ?_) | (refine Ints.ixI (by assumption) (by omega) ?_) | (refine Mat.ixI (by assumption) (by omega) ?_) | (refine Ints.ixI (Mat.row (by assumption) _ (by omega)) (by omega) ?_) | (refine Ints.ld (by assumption) (by omega) ?_) | (refine Mat.ld (by assumption) (by omega) ?_) | (refine Ints.ld (Mat.row (by assumption) _ (by omega)) (by omega) ?_) | (refine At.ld (by assumption) rfl ?_) | (refine At.ldN (by assumption) rfl ?_) | (refine Prs.ln (by assumption) ?_) | (refine Trs.ln (by assumption) ?_) | (refine Prs.ix (by assumption) (by omega) ?_) | (refine Trs.ix (by assumption) (by omega) ?_) | (refine Prs.ldN (by assumption) (by omega) ?_) | (refine Trs.ldN (by assumption) (by omega) ?_) | (refine At.ldN (Blk.at (by assumption)) rfl ?_) | (refine At.ld (Blk.at (by assumption)) rfl ?_) | (refine IxA.mk (by omega) ?_) | (refine Sl.ln (Own.sl (by assumption)) ?_) | (refine Ints.ix (Own.sl (by assumption)) (by omega) ?_) | (refine Ints.ixI (Own.sl (by assumption)) (by omega) ?_) | (refine Ints.ld (Own.sl (by assumption)) (by omega) ?_))
        exact ⟨rfl, EE⟩

theorem pow6 {n : Nat} (h : n ≤ 6) : 2 ^ n ≤ 64 := Nat.pow_le_pow_right (n := 2) (by omega) h
theorem bit_t {s i : Nat} (h : bit s i = true) : s / 2 ^ i % 2 = 1 := by unfold bit at h; simpa using h
theorem bit_f {s i : Nat} (h : bit s i = false) : s / 2 ^ i % 2 = 0 := by
  unfold bit at h
  have : ¬ s / 2 ^ i % 2 = 1 := by simpa using h
  omega
theorem bit_le {s i : Nat} (h : bit s i = true) : 2 ^ i ≤ s := by
  have := bit_t h
  refine Classical.byContradiction fun hn => ?_
  rw [Nat.div_eq_of_lt (by omega)] at this
  omega
def fullT (rr : List (List Int)) (L : Int) (s : Nat) : List Int := tbl rr L s ++ List.replicate (2 ^ rr.length - s) 0
theorem fullT_len {rr : List (List Int)} {L : Int} {s : Nat} (h : s ≤ 2 ^ rr.length) : (fullT rr L s).length = 2 ^ rr.length := by
  unfold fullT; rw [List.length_append, tbl_len, List.length_replicate]; omega
theorem fullT_zero (rr : List (List Int)) (L : Int) : List.replicate (2 ^ rr.length) 0 = fullT rr L 0 := by unfold fullT; simp [tbl]
theorem fullT_lt {rr : List (List Int)} {L : Int} {s j : Nat} (h : j < s) : (fullT rr L s).getD j 0 = (tbl rr L s).getD j 0 := by
  unfold fullT
  simp only [List.getD]
  rw [List.getElem?_append_left (by rw [tbl_len]; exact h)]
theorem mid_set {α : Type} {p r : List α} {x y : α} {q : Nat} (h : p.length = q) : (p ++ x :: r).set q y = p ++ y :: r := by
  subst h
  induction p with
  | nil => rfl
  | cons a p ih => simp
theorem fullT_set {rr : List (List Int)} {L : Int} {s : Nat} (h : s < 2 ^ rr.length) : (fullT rr L s).set s (ent rr L (tbl rr L s) s) = fullT rr L (s + 1) := by
  unfold fullT
  rw [show 2 ^ rr.length - s = (2 ^ rr.length - (s + 1)) + 1 by omega, List.replicate_succ]
  have := mid_set (p := tbl rr L s) (x := (0 : Int)) (r := List.replicate (2 ^ rr.length - (s + 1)) 0) (y := ent rr L (tbl rr L s) s) (tbl_len rr L s)
  rw [this]
  simp only [tbl, List.append_assoc]
  rfl
theorem fullT_all (rr : List (List Int)) (L : Int) : fullT rr L (2 ^ rr.length) = tabl rr L := by unfold fullT tabl; simp
theorem set_getI {l : List Int} {i j : Nat} {x : Int} (hi : i < l.length) : (l.set i x).getD j 0 = if i = j then x else l.getD j 0 := by
  simp only [List.getD]
  rw [List.getElem?_set]
  by_cases e : i = j
  · subst e; rw [if_pos rfl, if_pos rfl, if_pos hi]; rfl
  · rw [if_neg e, if_neg e]

theorem getD_setN {rr : List (List Int)} {L x : Int} {s q : Nat} (hs : s < 2 ^ rr.length) (hq : q < s) : ((fullT rr L s).set s x).getD q 0 = (tbl rr L s).getD q 0 := by
  rw [set_getI (by rw [fullT_len (by omega)]; exact hs), if_neg (by omega), fullT_lt hq]
theorem setset {l : List Int} {i : Nat} {x y : Int} : (l.set i x).set i y = l.set i y := List.set_set ..

theorem gtab_rc {w : World} {vv : Value} {vs : List Value} {rr : List (List Int)} {m : Nat} {L : Int} (Hv : Mat w vv vs rr) (hk : Sd rr m) (hL : 1 ≤ L ∧ L ≤ 16001) :
    RC Try.prog 29 [vv, .int .i64 L] w NoB (fun u w' => OB w.heap.size w' u (tabl rr L)) := by
  refine RC.mk tyOk Try.func29 rfl (by kernel_rfl) fun w1 E1 => ?_
  replace Hv := Hv.ext E1
  have EE := Ext.refl w1
  have hz0 : w.heap.size ≤ w1.heap.size := E1.size
  have hn1 := hk.n1
  have hn6 := hk.n6
  have hm16 := hk.m16
  have h0l := hk.m0
  have hvl := Hv.top.le
  have hr0 := (Hv.row 0 (by omega)).le
  have hP := pow6 hn6
  have hP1 : 1 ≤ 2 ^ rr.length := Nat.pow_pos (by omega)
  repeat' ((conv => whnf); first | (refine Dr.quiet tyOk (by kernel_rfl) ?_) | (refine VS.shl1 (i := rr.length) (by omega) ?_) | (refine Rng.mk (by omega) ?_) | (refine Split.pos (by omega) ?_) | (refine Split.neg (by omega) ?_) | (refine Split.mk (fun h => ?_) (fun h => ?_)) | (refine Need.mk (by omega) ?_) | (refine Ints.ln (by assumption) ?_) | (refine Mat.ln (by assumption) ?_) | (refine Ints.ln (Mat.row (by assumption) _ (by omega)) ?_) | (refine Ints.ix (by assumption) (by omega) ?_) | (refine Mat.ix (by assumption) (by omega) ?_) | (refine Ints.ix (Mat.row (by assumption) _ (by omega)) (by omega) ?_) | (refine Ints.ix (c := 0) (by assumption) (by omega) ?_) | (refine Mat.ix (c := 0) (by assumption) (by omega) ?_) | (refine Ints.ix (c := 0) (Mat.row (by assumption) _ (by omega)) (by omega) ?_) | (refine Ints.ixI (by assumption) (by omega) ?_) | (refine Mat.ixI (by assumption) (by omega) ?_) | (refine Ints.ixI (Mat.row (by assumption) _ (by omega)) (by omega) ?_) | (refine Ints.ld (by assumption) (by omega) ?_) | (refine Mat.ld (by assumption) (by omega) ?_) | (refine Ints.ld (Mat.row (by assumption) _ (by omega)) (by omega) ?_) | (refine At.ld (by assumption) rfl ?_) | (refine At.ldN (by assumption) rfl ?_) | (refine Prs.ln (by assumption) ?_) | (refine Trs.ln (by assumption) ?_) | (refine Prs.ix (by assumption) (by omega) ?_) | (refine Trs.ix (by assumption) (by omega) ?_) | (refine Prs.ldN (by assumption) (by omega) ?_) | (refine Trs.ldN (by assumption) (by omega) ?_) | (refine At.ldN (Blk.at (by assumption)) rfl ?_) | (refine At.ld (Blk.at (by assumption)) rfl ?_) | (refine IxA.mk (by omega) ?_) | (refine Sl.ln (Own.sl (by assumption)) ?_) | (refine Ints.ix (Own.sl (by assumption)) (by omega) ?_) | (refine Ints.ixI (Own.sl (by assumption)) (by omega) ?_) | (refine Ints.ld (Own.sl (by assumption)) (by omega) ?_))
  have Hv__1 := Hv
  have EE__1 := EE
  conv => whnf
  refine VE.made (n := (2 ^ rr.length)) Try.underlying24 eInt rfl (by omega) (by omega) fun ov w2 E2 HO hb_ov => ?_
  replace Hv := Hv.ext E2
  replace EE := EE.ext E2
  replace HO := OB.made (HO _ (Nat.le_refl _))
  have EL1 := E2
  rw [fullT_zero rr L] at HO
  have hfl0 := fullT_len (rr := rr) (L := L) (s := 0) (by omega)
  repeat' ((conv => whnf); first | (refine Dr.quiet tyOk (by kernel_rfl) ?_) | (refine Rng.mk (by omega) ?_) | (refine Split.pos (by omega) ?_) | (refine Split.neg (by omega) ?_) | (refine Split.mk (fun h => ?_) (fun h => ?_)) | (refine Need.mk (by omega) ?_) | (refine Ints.ln (by assumption) ?_) | (refine Mat.ln (by assumption) ?_) | (refine Ints.ln (Mat.row (by assumption) _ (by omega)) ?_) | (refine Ints.ix (by assumption) (by omega) ?_) | (refine Mat.ix (by assumption) (by omega) ?_) | (refine Ints.ix (Mat.row (by assumption) _ (by omega)) (by omega) ?_) | (refine Ints.ix (c := 0) (by assumption) (by omega) ?_) | (refine Mat.ix (c := 0) (by assumption) (by omega) ?_) | (refine Ints.ix (c := 0) (Mat.row (by assumption) _ (by omega)) (by omega) ?_) | (refine Ints.ixI (by assumption) (by omega) ?_) | (refine Mat.ixI (by assumption) (by omega) ?_) | (refine Ints.ixI (Mat.row (by assumption) _ (by omega)) (by omega) ?_) | (refine Ints.ld (by assumption) (by omega) ?_) | (refine Mat.ld (by assumption) (by omega) ?_) | (refine Ints.ld (Mat.row (by assumption) _ (by omega)) (by omega) ?_) | (refine At.ld (by assumption) rfl ?_) | (refine At.ldN (by assumption) rfl ?_) | (refine Prs.ln (by assumption) ?_) | (refine Trs.ln (by assumption) ?_) | (refine Prs.ix (by assumption) (by omega) ?_) | (refine Trs.ix (by assumption) (by omega) ?_) | (refine Prs.ldN (by assumption) (by omega) ?_) | (refine Trs.ldN (by assumption) (by omega) ?_) | (refine At.ldN (Blk.at (by assumption)) rfl ?_) | (refine At.ld (Blk.at (by assumption)) rfl ?_) | (refine IxA.mk (by omega) ?_) | (refine Sl.ln (Own.sl (by assumption)) ?_) | (refine Ints.ix (Own.sl (by assumption)) (by omega) ?_) | (refine Ints.ixI (Own.sl (by assumption)) (by omega) ?_) | (refine Ints.ld (Own.sl (by assumption)) (by omega) ?_))
  refine Lp.mk tyOk [false, false, false, false, false, false, false, true, true, false, false, false, false, false, false, false, false, false, false, true, true, true, true, true, true, true, true, true, true, true, true, true, true, true, true, true, true, true, true, true, true, true, true, true, true, true, true, true, true, true, true, true, true, true, true, true, true, true, true, true, true, true] (fun m fr wr => getK fr 19 fun i => ∃ s : Nat, s ≤ (2 ^ rr.length) ∧ m = (2 ^ rr.length) - s ∧ i = .int .i64 (s : Int) ∧ (OB w1.heap.size wr ov (fullT rr L s)) ∧ Ext w1 wr) ((2 ^ rr.length)) ?_ ?_
  · exact ⟨0, Nat.zero_le _, rfl, rfl, HO, EL1⟩
  · intro m w3 u7 u8 u19 u20 u21 u22 u23 u24 u25 u26 u27 u28 u29 u30 u31 u32 u33 u34 u35 u36 u37 u38 u39 u40 u41 u42 u43 u44 u45 u46 u47 u48 u49 u50 u51 u52 u53 u54 u55 u56 u57 u58 u59 u60 u61 hR
    obtain ⟨s, hs, rfl, rfl, HO, EL1⟩ := hR
    replace Hv := Hv__1.ext EL1
    replace EE := EE__1.ext EL1
    by_cases hs : s < 2 ^ rr.length
    · have hfl := fullT_len (rr := rr) (L := L) (s := s) (by omega)
      have hset := fullT_set (rr := rr) (L := L) hs
      by_cases h0 : s = 0
      · have he0 : fullT rr L s = fullT rr L (s + 1) := by
          rw [← hset]
          subst h0
          have e : ent rr L (tbl rr L 0) 0 = 0 := rfl
          rw [e, ← fullT_zero]
          refine ext_getD 0 (by simp) fun i hi => ?_
          rw [set_getI (by rw [List.length_replicate]; omega)]
          split
          · simp only [List.getD]; rw [List.getElem?_replicate]; split <;> rfl
          · rfl
        repeat' ((conv => whnf); first | (refine Dr.quiet tyOk (by kernel_rfl) ?_) | (refine Rng.mk (by omega) ?_) | (refine Split.pos (by omega) ?_) | (refine Split.neg (by omega) ?_) | (refine Split.mk (fun h => ?_) (fun h => ?_)) | (refine Need.mk (by omega) ?_) | (refine Ints.ln (by assumption) ?_) | (refine Mat.ln (by assumption) ?_) | (refine Ints.ln (Mat.row (by assumption) _ (by omega)) ?_) | (refine Ints.ix (by assumption) (by omega) ?_) | (refine Mat.ix (by assumption) (by omega) ?_) | (refine Ints.ix (Mat.row (by assumption) _ (by omega)) (by omega) ?_) | (refine Ints.ix (c := 0) (by assumption) (by omega) ?_) | (refine Mat.ix (c := 0) (by assumption) (by omega) ?_) | (refine Ints.ix (c := 0) (Mat.row (by assumption) _ (by omega)) (by omega) ?_) | (refine Ints.ixI (by assumption) (by omega) ?_) | (refine Mat.ixI (by assumption) (by omega) ?_) | (refine Ints.ixI (Mat.row (by assumption) _ (by omega)) (by omega) ?_) | (refine Ints.ld (by assumption) (by omega) ?_) | (refine Mat.ld (by assumption) (by omega) ?_) | (refine Ints.ld (Mat.row (by assumption) _ (by omega)) (by omega) ?_) | (refine At.ld (by assumption) rfl ?_) | (refine At.ldN (by assumption) rfl ?_) | (refine Prs.ln (by assumption) ?_) | (refine Trs.ln (by assumption) ?_) | (refine Prs.ix (by assumption) (by omega) ?_) | (refine Trs.ix (by assumption) (by omega) ?_) | (refine Prs.ldN (by assumption) (by omega) ?_) | (refine Trs.ldN (by assumption) (by omega) ?_) | (refine At.ldN (Blk.at (by assumption)) rfl ?_) | (refine At.ld (Blk.at (by assumption)) rfl ?_) | (refine IxA.mk (by omega) ?_) | (refine Sl.ln (Own.sl (by assumption)) ?_) | (refine Ints.ix (Own.sl (by assumption)) (by omega) ?_) | (refine Ints.ixI (Own.sl (by assumption)) (by omega) ?_) | (refine Ints.ld (Own.sl (by assumption)) (by omega) ?_))
        refine ⟨_, (by omega : (2 ^ rr.length) - (s + 1) < (2 ^ rr.length) - s), rfl, s + 1, by omega, rfl, rfl, (by rw [← he0]; exact HO), EL1⟩
      · have hent : ent rr L (tbl rr L s) s = entTo rr L (tbl rr L s) s rr.length := by unfold ent; rw [if_neg h0]
        repeat' ((conv => whnf); first | (refine Dr.quiet tyOk (by kernel_rfl) ?_) | (refine Rng.mk (by omega) ?_) | (refine Split.pos (by omega) ?_) | (refine Split.neg (by omega) ?_) | (refine Split.mk (fun h => ?_) (fun h => ?_)) | (refine Need.mk (by omega) ?_) | (refine Ints.ln (by assumption) ?_) | (refine Mat.ln (by assumption) ?_) | (refine Ints.ln (Mat.row (by assumption) _ (by omega)) ?_) | (refine Ints.ix (by assumption) (by omega) ?_) | (refine Mat.ix (by assumption) (by omega) ?_) | (refine Ints.ix (Mat.row (by assumption) _ (by omega)) (by omega) ?_) | (refine Ints.ix (c := 0) (by assumption) (by omega) ?_) | (refine Mat.ix (c := 0) (by assumption) (by omega) ?_) | (refine Ints.ix (c := 0) (Mat.row (by assumption) _ (by omega)) (by omega) ?_) | (refine Ints.ixI (by assumption) (by omega) ?_) | (refine Mat.ixI (by assumption) (by omega) ?_) | (refine Ints.ixI (Mat.row (by assumption) _ (by omega)) (by omega) ?_) | (refine Ints.ld (by assumption) (by omega) ?_) | (refine Mat.ld (by assumption) (by omega) ?_) | (refine Ints.ld (Mat.row (by assumption) _ (by omega)) (by omega) ?_) | (refine At.ld (by assumption) rfl ?_) | (refine At.ldN (by assumption) rfl ?_) | (refine Prs.ln (by assumption) ?_) | (refine Trs.ln (by assumption) ?_) | (refine Prs.ix (by assumption) (by omega) ?_) | (refine Trs.ix (by assumption) (by omega) ?_) | (refine Prs.ldN (by assumption) (by omega) ?_) | (refine Trs.ldN (by assumption) (by omega) ?_) | (refine At.ldN (Blk.at (by assumption)) rfl ?_) | (refine At.ld (Blk.at (by assumption)) rfl ?_) | (refine IxA.mk (by omega) ?_) | (refine Sl.ln (Own.sl (by assumption)) ?_) | (refine Ints.ix (Own.sl (by assumption)) (by omega) ?_) | (refine Ints.ixI (Own.sl (by assumption)) (by omega) ?_) | (refine Ints.ld (Own.sl (by assumption)) (by omega) ?_))
        refine OB.set HO (by omega) fun w4 G4 HO' => ?_
        have E4 : Ext w1 w4 := Own.keep HO EL1 (Nat.le_refl _) G4
        replace HO := HO'
        replace Hv := Hv__1.ext E4
        replace EE := EE__1.ext E4
        replace EL1 := E4
        have hml : (fullT rr L s).set s (((rr.getD 0 []).length : Int) + 1) = (fullT rr L s).set s (entTo rr L (tbl rr L s) s 0) := rfl
        rw [hml] at HO
        repeat' ((conv => whnf); first | (refine Dr.quiet tyOk (by kernel_rfl) ?_) | (refine Rng.mk (by omega) ?_) | (refine Split.pos (by omega) ?_) | (refine Split.neg (by omega) ?_) | (refine Split.mk (fun h => ?_) (fun h => ?_)) | (refine Need.mk (by omega) ?_) | (refine Ints.ln (by assumption) ?_) | (refine Mat.ln (by assumption) ?_) | (refine Ints.ln (Mat.row (by assumption) _ (by omega)) ?_) | (refine Ints.ix (by assumption) (by omega) ?_) | (refine Mat.ix (by assumption) (by omega) ?_) | (refine Ints.ix (Mat.row (by assumption) _ (by omega)) (by omega) ?_) | (refine Ints.ix (c := 0) (by assumption) (by omega) ?_) | (refine Mat.ix (c := 0) (by assumption) (by omega) ?_) | (refine Ints.ix (c := 0) (Mat.row (by assumption) _ (by omega)) (by omega) ?_) | (refine Ints.ixI (by assumption) (by omega) ?_) | (refine Mat.ixI (by assumption) (by omega) ?_) | (refine Ints.ixI (Mat.row (by assumption) _ (by omega)) (by omega) ?_) | (refine Ints.ld (by assumption) (by omega) ?_) | (refine Mat.ld (by assumption) (by omega) ?_) | (refine Ints.ld (Mat.row (by assumption) _ (by omega)) (by omega) ?_) | (refine At.ld (by assumption) rfl ?_) | (refine At.ldN (by assumption) rfl ?_) | (refine Prs.ln (by assumption) ?_) | (refine Trs.ln (by assumption) ?_) | (refine Prs.ix (by assumption) (by omega) ?_) | (refine Trs.ix (by assumption) (by omega) ?_) | (refine Prs.ldN (by assumption) (by omega) ?_) | (refine Trs.ldN (by assumption) (by omega) ?_) | (refine At.ldN (Blk.at (by assumption)) rfl ?_) | (refine At.ld (Blk.at (by assumption)) rfl ?_) | (refine IxA.mk (by omega) ?_) | (refine Sl.ln (Own.sl (by assumption)) ?_) | (refine Ints.ix (Own.sl (by assumption)) (by omega) ?_) | (refine Ints.ixI (Own.sl (by assumption)) (by omega) ?_) | (refine Ints.ld (Own.sl (by assumption)) (by omega) ?_))
        refine Lp.mk tyOk [false, false, false, false, false, false, false, false, true, false, false, false, false, false, false, false, false, false, false, false, false, false, false, false, false, false, false, false, false, false, false, true, true, true, true, true, true, true, true, true, true, true, true, true, true, true, true, true, true, true, true, true, true, true, true, true, true, true, true, true, true] (fun m fr wr => getK fr 31 fun k => ∃ c : Nat, c ≤ rr.length ∧ m = rr.length - c ∧ k = .int .i64 (c : Int) ∧ (OB w1.heap.size wr ov ((fullT rr L s).set s (entTo rr L (tbl rr L s) s c))) ∧ Ext w1 wr) (rr.length) ?_ ?_
        · exact ⟨0, Nat.zero_le _, rfl, rfl, HO, EL1⟩
        · intro m w5 u8 u31 u32 u33 u34 u35 u36 u37 u38 u39 u40 u41 u42 u43 u44 u45 u46 u47 u48 u49 u50 u51 u52 u53 u54 u55 u56 u57 u58 u59 u60 hR
          obtain ⟨c, hc, rfl, rfl, HO, EL1⟩ := hR
          replace Hv := Hv__1.ext EL1
          replace EE := EE__1.ext EL1
          have hsl : ((fullT rr L s).set s (entTo rr L (tbl rr L s) s c)).length = 2 ^ rr.length := by rw [List.length_set]; exact hfl
          have hss : ((fullT rr L s).set s (entTo rr L (tbl rr L s) s c)).getD s 0 = entTo rr L (tbl rr L s) s c := by rw [set_getI (by omega), if_pos rfl]
          by_cases hcl : c < rr.length
          · have hstep : entTo rr L (tbl rr L s) s (c + 1) = if bit s c then min (entTo rr L (tbl rr L s) s c) (enough (rr.getD c []) ((tbl rr L s).getD (s - 2 ^ c) 0).toNat L) else entTo rr L (tbl rr L s) s c := rfl
            have hrc := hk.row c hcl
            cases hb : bit s c with
            | true =>
              rw [hb, if_pos rfl] at hstep
              have hb1 := bit_t hb
              have hble := bit_le hb
              have hpc : 1 ≤ 2 ^ c := Nat.pow_pos (by omega)
              have hq : ((fullT rr L s).set s (entTo rr L (tbl rr L s) s c)).getD (s - 2 ^ c) 0 = (tbl rr L s).getD (s - 2 ^ c) 0 := getD_setN hs (by omega)
              have hqb := tbl_bd hk L (s := s) (j := s - 2 ^ c)
              obtain ⟨q, hqd⟩ : ∃ q, q = ((tbl rr L s).getD (s - 2 ^ c) 0).toNat := ⟨_, rfl⟩
              have hqv : ((fullT rr L s).set s (entTo rr L (tbl rr L s) s c)).getD (s - 2 ^ c) 0 = (q : Int) := by rw [hq]; omega
              have cr := sreach_pc (p := q) (Hv.row c hcl) (fun j => hk.val c j) (by omega) hL (by omega)
              rw [← hqd] at hstep
              by_cases hlt : enough (rr.getD c []) q L < entTo rr L (tbl rr L s) s c
              · rw [Int.min_eq_right (by omega)] at hstep
                repeat' ((conv => whnf); first | (refine Dr.plan 39 [21] (.q 0 (.q 1 (.q 2 (.q 3 (.q 4 (.q 5 (.q 6 (.q 7 (.q 8 (.q 9 (.q 10 (.q 11 (.q 12 (.q 13 (.q 14 (.q 15 (.q 16 (.q 17 (.e 18 (.q 19 (.q 20 (.e 21 .nil .nil))) .nil))))))))))))))))))) tyOk rfl (by kernel_rfl) ?_) | (refine Dr.quiet tyOk (by kernel_rfl) ?_) | (refine ldw (Own.sl HO) hss (by omega) ?_) | (refine ldw (Own.sl HO) hqv (by omega) ?_) | (refine VS.shr (s := s) (i := c) (by omega) ?_) | (refine VS.and1 (by have := Nat.div_le_self s (2 ^ c); omega) ?_) | (refine VS.shl1 (i := c) (by omega) ?_) | (refine VS.andNot (s := s) (i := c) (by omega) (by omega) hb1 ?_) | (refine VCX.pure cr ?_) | (refine Rng.mk (by omega) ?_) | (refine Split.pos (by omega) ?_) | (refine Split.neg (by omega) ?_) | (refine Split.mk (fun h => ?_) (fun h => ?_)) | (refine Need.mk (by omega) ?_) | (refine Ints.ln (by assumption) ?_) | (refine Mat.ln (by assumption) ?_) | (refine Ints.ln (Mat.row (by assumption) _ (by omega)) ?_) | (refine Ints.ix (by assumption) (by omega) ?_) | (refine Mat.ix (by assumption) (by omega) ?_) | (refine Ints.ix (Mat.row (by assumption) _ (by omega)) (by omega) ?_) | (refine Ints.ix (c := 0) (by assumption) (by omega) ?_) | (refine Mat.ix (c := 0) (by assumption) (by omega) ?_) | (refine Ints.ix (c := 0) (Mat.row (by assumption) _ (by omega)) (by omega) ?_) | (refine Ints.ixI (by assumption) (by omega) ?_) | (refine Mat.ixI (by assumption) (by omega) ?_) | (refine Ints.ixI (Mat.row (by assumption) _ (by omega)) (by omega) ?_) | (refine Ints.ld (by assumption) (by omega) ?_) | (refine Mat.ld (by assumption) (by omega) ?_) | (refine Ints.ld (Mat.row (by assumption) _ (by omega)) (by omega) ?_) | (refine At.ld (by assumption) rfl ?_) | (refine At.ldN (by assumption) rfl ?_) | (refine Prs.ln (by assumption) ?_) | (refine Trs.ln (by assumption) ?_) | (refine Prs.ix (by assumption) (by omega) ?_) | (refine Trs.ix (by assumption) (by omega) ?_) | (refine Prs.ldN (by assumption) (by omega) ?_) | (refine Trs.ldN (by assumption) (by omega) ?_) | (refine At.ldN (Blk.at (by assumption)) rfl ?_) | (refine At.ld (Blk.at (by assumption)) rfl ?_) | (refine IxA.mk (by omega) ?_) | (refine Sl.ln (Own.sl (by assumption)) ?_) | (refine Ints.ix (Own.sl (by assumption)) (by omega) ?_) | (refine Ints.ixI (Own.sl (by assumption)) (by omega) ?_) | (refine Ints.ld (Own.sl (by assumption)) (by omega) ?_))
                refine OB.set HO (by omega) fun w6 G6 HO' => ?_
                have E6 : Ext w1 w6 := Own.keep HO EL1 (Nat.le_refl _) G6
                replace HO := HO'
                replace Hv := Hv__1.ext E6
                replace EE := EE__1.ext E6
                replace EL1 := E6
                rw [setset, ← hstep] at HO
                repeat' ((conv => whnf); first | (refine Dr.quiet tyOk (by kernel_rfl) ?_) | (refine Rng.mk (by omega) ?_) | (refine Split.pos (by omega) ?_) | (refine Split.neg (by omega) ?_) | (refine Split.mk (fun h => ?_) (fun h => ?_)) | (refine Need.mk (by omega) ?_) | (refine Ints.ln (by assumption) ?_) | (refine Mat.ln (by assumption) ?_) | (refine Ints.ln (Mat.row (by assumption) _ (by omega)) ?_) | (refine Ints.ix (by assumption) (by omega) ?_) | (refine Mat.ix (by assumption) (by omega) ?_) | (refine Ints.ix (Mat.row (by assumption) _ (by omega)) (by omega) ?_) | (refine Ints.ix (c := 0) (by assumption) (by omega) ?_) | (refine Mat.ix (c := 0) (by assumption) (by omega) ?_) | (refine Ints.ix (c := 0) (Mat.row (by assumption) _ (by omega)) (by omega) ?_) | (refine Ints.ixI (by assumption) (by omega) ?_) | (refine Mat.ixI (by assumption) (by omega) ?_) | (refine Ints.ixI (Mat.row (by assumption) _ (by omega)) (by omega) ?_) | (refine Ints.ld (by assumption) (by omega) ?_) | (refine Mat.ld (by assumption) (by omega) ?_) | (refine Ints.ld (Mat.row (by assumption) _ (by omega)) (by omega) ?_) | (refine At.ld (by assumption) rfl ?_) | (refine At.ldN (by assumption) rfl ?_) | (refine Prs.ln (by assumption) ?_) | (refine Trs.ln (by assumption) ?_) | (refine Prs.ix (by assumption) (by omega) ?_) | (refine Trs.ix (by assumption) (by omega) ?_) | (refine Prs.ldN (by assumption) (by omega) ?_) | (refine Trs.ldN (by assumption) (by omega) ?_) | (refine At.ldN (Blk.at (by assumption)) rfl ?_) | (refine At.ld (Blk.at (by assumption)) rfl ?_) | (refine IxA.mk (by omega) ?_) | (refine Sl.ln (Own.sl (by assumption)) ?_) | (refine Ints.ix (Own.sl (by assumption)) (by omega) ?_) | (refine Ints.ixI (Own.sl (by assumption)) (by omega) ?_) | (refine Ints.ld (Own.sl (by assumption)) (by omega) ?_))
                refine ⟨_, (by omega : rr.length - (c + 1) < rr.length - c), rfl, c + 1, by omega, rfl, rfl, HO, EL1⟩
              · rw [Int.min_eq_left (by omega)] at hstep
                repeat' ((conv => whnf); first | (refine Dr.plan 39 [21] (.q 0 (.q 1 (.q 2 (.q 3 (.q 4 (.q 5 (.q 6 (.q 7 (.q 8 (.q 9 (.q 10 (.q 11 (.q 12 (.q 13 (.q 14 (.q 15 (.q 16 (.q 17 (.e 18 (.q 19 (.q 20 (.e 21 .nil .nil))) .nil))))))))))))))))))) tyOk rfl (by kernel_rfl) ?_) | (refine Dr.quiet tyOk (by kernel_rfl) ?_) | (refine ldw (Own.sl HO) hss (by omega) ?_) | (refine ldw (Own.sl HO) hqv (by omega) ?_) | (refine VS.shr (s := s) (i := c) (by omega) ?_) | (refine VS.and1 (by have := Nat.div_le_self s (2 ^ c); omega) ?_) | (refine VS.shl1 (i := c) (by omega) ?_) | (refine VS.andNot (s := s) (i := c) (by omega) (by omega) hb1 ?_) | (refine VCX.pure cr ?_) | (refine Rng.mk (by omega) ?_) | (refine Split.pos (by omega) ?_) | (refine Split.neg (by omega) ?_) | (refine Split.mk (fun h => ?_) (fun h => ?_)) | (refine Need.mk (by omega) ?_) | (refine Ints.ln (by assumption) ?_) | (refine Mat.ln (by assumption) ?_) | (refine Ints.ln (Mat.row (by assumption) _ (by omega)) ?_) | (refine Ints.ix (by assumption) (by omega) ?_) | (refine Mat.ix (by assumption) (by omega) ?_) | (refine Ints.ix (Mat.row (by assumption) _ (by omega)) (by omega) ?_) | (refine Ints.ix (c := 0) (by assumption) (by omega) ?_) | (refine Mat.ix (c := 0) (by assumption) (by omega) ?_) | (refine Ints.ix (c := 0) (Mat.row (by assumption) _ (by omega)) (by omega) ?_) | (refine Ints.ixI (by assumption) (by omega) ?_) | (refine Mat.ixI (by assumption) (by omega) ?_) | (refine Ints.ixI (Mat.row (by assumption) _ (by omega)) (by omega) ?_) | (refine Ints.ld (by assumption) (by omega) ?_) | (refine Mat.ld (by assumption) (by omega) ?_) | (refine Ints.ld (Mat.row (by assumption) _ (by omega)) (by omega) ?_) | (refine At.ld (by assumption) rfl ?_) | (refine At.ldN (by assumption) rfl ?_) | (refine Prs.ln (by assumption) ?_) | (refine Trs.ln (by assumption) ?_) | (refine Prs.ix (by assumption) (by omega) ?_) | (refine Trs.ix (by assumption) (by omega) ?_) | (refine Prs.ldN (by assumption) (by omega) ?_) | (refine Trs.ldN (by assumption) (by omega) ?_) | (refine At.ldN (Blk.at (by assumption)) rfl ?_) | (refine At.ld (Blk.at (by assumption)) rfl ?_) | (refine IxA.mk (by omega) ?_) | (refine Sl.ln (Own.sl (by assumption)) ?_) | (refine Ints.ix (Own.sl (by assumption)) (by omega) ?_) | (refine Ints.ixI (Own.sl (by assumption)) (by omega) ?_) | (refine Ints.ld (Own.sl (by assumption)) (by omega) ?_))
                refine OB.set HO (by omega) fun w7 G7 HO' => ?_
                have E7 : Ext w1 w7 := Own.keep HO EL1 (Nat.le_refl _) G7
                replace HO := HO'
                replace Hv := Hv__1.ext E7
                replace EE := EE__1.ext E7
                replace EL1 := E7
                rw [setset, ← hstep] at HO
                repeat' ((conv => whnf); first | (refine Dr.quiet tyOk (by kernel_rfl) ?_) | (refine Rng.mk (by omega) ?_) | (refine Split.pos (by omega) ?_) | (refine Split.neg (by omega) ?_) | (refine Split.mk (fun h => ?_) (fun h => ?_)) | (refine Need.mk (by omega) ?_) | (refine Ints.ln (by assumption) ?_) | (refine Mat.ln (by assumption) ?_) | (refine Ints.ln (Mat.row (by assumption) _ (by omega)) ?_) | (refine Ints.ix (by assumption) (by omega) ?_) | (refine Mat.ix (by assumption) (by omega) ?_) | (refine Ints.ix (Mat.row (by assumption) _ (by omega)) (by omega) ?_) | (refine Ints.ix (c := 0) (by assumption) (by omega) ?_) | (refine Mat.ix (c := 0) (by assumption) (by omega) ?_) | (refine Ints.ix (c := 0) (Mat.row (by assumption) _ (by omega)) (by omega) ?_) | (refine Ints.ixI (by assumption) (by omega) ?_) | (refine Mat.ixI (by assumption) (by omega) ?_) | (refine Ints.ixI (Mat.row (by assumption) _ (by omega)) (by omega) ?_) | (refine Ints.ld (by assumption) (by omega) ?_) | (refine Mat.ld (by assumption) (by omega) ?_) | (refine Ints.ld (Mat.row (by assumption) _ (by omega)) (by omega) ?_) | (refine At.ld (by assumption) rfl ?_) | (refine At.ldN (by assumption) rfl ?_) | (refine Prs.ln (by assumption) ?_) | (refine Trs.ln (by assumption) ?_) | (refine Prs.ix (by assumption) (by omega) ?_) | (refine Trs.ix (by assumption) (by omega) ?_) | (refine Prs.ldN (by assumption) (by omega) ?_) | (refine Trs.ldN (by assumption) (by omega) ?_) | (refine At.ldN (Blk.at (by assumption)) rfl ?_) | (refine At.ld (Blk.at (by assumption)) rfl ?_) | (refine IxA.mk (by omega) ?_) | (refine Sl.ln (Own.sl (by assumption)) ?_) | (refine Ints.ix (Own.sl (by assumption)) (by omega) ?_) | (refine Ints.ixI (Own.sl (by assumption)) (by omega) ?_) | (refine Ints.ld (Own.sl (by assumption)) (by omega) ?_))
                refine ⟨_, (by omega : rr.length - (c + 1) < rr.length - c), rfl, c + 1, by omega, rfl, rfl, HO, EL1⟩
            | false =>
              rw [hb, if_neg (by decide)] at hstep
              have hb0 := bit_f hb
              repeat' ((conv => whnf); first | (refine Dr.quiet tyOk (by kernel_rfl) ?_) | (refine VS.shr (s := s) (i := c) (by omega) ?_) | (refine VS.and1 (by have := Nat.div_le_self s (2 ^ c); omega) ?_) | (refine Rng.mk (by omega) ?_) | (refine Split.pos (by omega) ?_) | (refine Split.neg (by omega) ?_) | (refine Split.mk (fun h => ?_) (fun h => ?_)) | (refine Need.mk (by omega) ?_) | (refine Ints.ln (by assumption) ?_) | (refine Mat.ln (by assumption) ?_) | (refine Ints.ln (Mat.row (by assumption) _ (by omega)) ?_) | (refine Ints.ix (by assumption) (by omega) ?_) | (refine Mat.ix (by assumption) (by omega) ?_) | (refine Ints.ix (Mat.row (by assumption) _ (by omega)) (by omega) ?_) | (refine Ints.ix (c := 0) (by assumption) (by omega) ?_) | (refine Mat.ix (c := 0) (by assumption) (by omega) ?_) | (refine Ints.ix (c := 0) (Mat.row (by assumption) _ (by omega)) (by omega) ?_) | (refine Ints.ixI (by assumption) (by omega) ?_) | (refine Mat.ixI (by assumption) (by omega) ?_) | (refine Ints.ixI (Mat.row (by assumption) _ (by omega)) (by omega) ?_) | (refine Ints.ld (by assumption) (by omega) ?_) | (refine Mat.ld (by assumption) (by omega) ?_) | (refine Ints.ld (Mat.row (by assumption) _ (by omega)) (by omega) ?_) | (refine At.ld (by assumption) rfl ?_) | (refine At.ldN (by assumption) rfl ?_) | (refine Prs.ln (by assumption) ?_) | (refine Trs.ln (by assumption) ?_) | (refine Prs.ix (by assumption) (by omega) ?_) | (refine Trs.ix (by assumption) (by omega) ?_) | (refine Prs.ldN (by assumption) (by omega) ?_) | (refine Trs.ldN (by assumption) (by omega) ?_) | (refine At.ldN (Blk.at (by assumption)) rfl ?_) | (refine At.ld (Blk.at (by assumption)) rfl ?_) | (refine IxA.mk (by omega) ?_) | (refine Sl.ln (Own.sl (by assumption)) ?_) | (refine Ints.ix (Own.sl (by assumption)) (by omega) ?_) | (refine Ints.ixI (Own.sl (by assumption)) (by omega) ?_) | (refine Ints.ld (Own.sl (by assumption)) (by omega) ?_))
              refine ⟨_, (by omega : rr.length - (c + 1) < rr.length - c), rfl, c + 1, by omega, rfl, rfl, (by rw [hstep]; exact HO), EL1⟩
          · obtain rfl : c = rr.length := by omega
            rw [← hent, hset] at HO
            repeat' ((conv => whnf); first | (refine Dr.quiet tyOk (by kernel_rfl) ?_) | (refine Rng.mk (by omega) ?_) | (refine Split.pos (by omega) ?_) | (refine Split.neg (by omega) ?_) | (refine Split.mk (fun h => ?_) (fun h => ?_)) | (refine Need.mk (by omega) ?_) | (refine Ints.ln (by assumption) ?_) | (refine Mat.ln (by assumption) ?_) | (refine Ints.ln (Mat.row (by assumption) _ (by omega)) ?_) | (refine Ints.ix (by assumption) (by omega) ?_) | (refine Mat.ix (by assumption) (by omega) ?_) | (refine Ints.ix (Mat.row (by assumption) _ (by omega)) (by omega) ?_) | (refine Ints.ix (c := 0) (by assumption) (by omega) ?_) | (refine Mat.ix (c := 0) (by assumption) (by omega) ?_) | (refine Ints.ix (c := 0) (Mat.row (by assumption) _ (by omega)) (by omega) ?_) | (refine Ints.ixI (by assumption) (by omega) ?_) | (refine Mat.ixI (by assumption) (by omega) ?_) | (refine Ints.ixI (Mat.row (by assumption) _ (by omega)) (by omega) ?_) | (refine Ints.ld (by assumption) (by omega) ?_) | (refine Mat.ld (by assumption) (by omega) ?_) | (refine Ints.ld (Mat.row (by assumption) _ (by omega)) (by omega) ?_) | (refine At.ld (by assumption) rfl ?_) | (refine At.ldN (by assumption) rfl ?_) | (refine Prs.ln (by assumption) ?_) | (refine Trs.ln (by assumption) ?_) | (refine Prs.ix (by assumption) (by omega) ?_) | (refine Trs.ix (by assumption) (by omega) ?_) | (refine Prs.ldN (by assumption) (by omega) ?_) | (refine Trs.ldN (by assumption) (by omega) ?_) | (refine At.ldN (Blk.at (by assumption)) rfl ?_) | (refine At.ld (Blk.at (by assumption)) rfl ?_) | (refine IxA.mk (by omega) ?_) | (refine Sl.ln (Own.sl (by assumption)) ?_) | (refine Ints.ix (Own.sl (by assumption)) (by omega) ?_) | (refine Ints.ixI (Own.sl (by assumption)) (by omega) ?_) | (refine Ints.ld (Own.sl (by assumption)) (by omega) ?_))
            refine ⟨_, (by omega : (2 ^ rr.length) - (s + 1) < (2 ^ rr.length) - s), rfl, s + 1, by omega, rfl, rfl, HO, EL1⟩
    · obtain rfl : s = 2 ^ rr.length := by omega
      rw [fullT_all] at HO
      repeat' ((conv => whnf); first | (refine Dr.quiet tyOk (by kernel_rfl) ?_) | (refine Rng.mk (by omega) ?_) | (refine Split.pos (by omega) ?_) | (refine Split.neg (by omega) ?_) | (refine Split.mk (fun h => ?_) (fun h => ?_)) | (refine Need.mk (by omega) ?_) | (refine Ints.ln (by assumption) ?_) | (refine Mat.ln (by assumption) ?_) | (refine Ints.ln (Mat.row (by assumption) _ (by omega)) ?_) | (refine Ints.ix (by assumption) (by omega) ?_) | (refine Mat.ix (by assumption) (by omega) ?_) | (refine Ints.ix (Mat.row (by assumption) _ (by omega)) (by omega) ?_) | (refine Ints.ix (c := 0) (by assumption) (by omega) ?_) | (refine Mat.ix (c := 0) (by assumption) (by omega) ?_) | (refine Ints.ix (c := 0) (Mat.row (by assumption) _ (by omega)) (by omega) ?_) | (refine Ints.ixI (by assumption) (by omega) ?_) | (refine Mat.ixI (by assumption) (by omega) ?_) | (refine Ints.ixI (Mat.row (by assumption) _ (by omega)) (by omega) ?_) | (refine Ints.ld (by assumption) (by omega) ?_) | (refine Mat.ld (by assumption) (by omega) ?_) | (refine Ints.ld (Mat.row (by assumption) _ (by omega)) (by omega) ?_) | (refine At.ld (by assumption) rfl ?_) | (refine At.ldN (by assumption) rfl ?_) | (refine Prs.ln (by assumption) ?_) | (refine Trs.ln (by assumption) ?_) | (refine Prs.ix (by assumption) (by omega) ?_) | (refine Trs.ix (by assumption) (by omega) ?_) | (refine Prs.ldN (by assumption) (by omega) ?_) | (refine Trs.ldN (by assumption) (by omega) ?_) | (refine At.ldN (Blk.at (by assumption)) rfl ?_) | (refine At.ld (Blk.at (by assumption)) rfl ?_) | (refine IxA.mk (by omega) ?_) | (refine Sl.ln (Own.sl (by assumption)) ?_) | (refine Ints.ix (Own.sl (by assumption)) (by omega) ?_) | (refine Ints.ixI (Own.sl (by assumption)) (by omega) ?_) | (refine Ints.ld (Own.sl (by assumption)) (by omega) ?_))
      exact ⟨EE, Own.base HO (by omega)⟩

end Go.Proofs.Ytclbiabiiknolaa
set_option linter.unusedVariables false
set_option linter.unusedSimpArgs false
namespace Go.Proofs.Ytclbiabiiknolaa
open Go.Eng
set_option maxRecDepth 100000
set_option maxHeartbeats 4000000

theorem gtabL {w : World} {vv : Value} {vs : List Value} {rr : List (List Int)} {m : Nat} {x : Int} (Hv : Mat w vv vs rr) (hk : Sd rr m) (hb : 0 ≤ x ∧ x ≤ 16000) :
    RC Try.prog 29 [vv, .int .i64 (x + 1)] w NoB (fun u w' => OB w.heap.size w' u (tabl rr (x + 1))) := gtab_rc Hv hk (by omega)
end Go.Proofs.Ytclbiabiiknolaa
set_option linter.unusedVariables false
set_option linter.unusedSimpArgs false
namespace Go.Proofs.Ytclbiabiiknolaa
open Go.Eng

/-- lists in the order of their places -/
def lexlt : List Int → List Int → Prop
  | [], _ => False
  | _, [] => False
  | x :: l, y :: m => x < y ∨ (x = y ∧ lexlt l m)
theorem lexlt_asymm : ∀ {l m}, lexlt l m → ¬ lexlt m l
  | [], _, h, _ => h
  | _ :: _, [], h, _ => h
  | x :: l, y :: m, h, h2 => by
    rcases h with h | ⟨e, h⟩ <;> rcases h2 with h2 | ⟨e2, h2⟩
    · omega
    · omega
    · omega
    · exact lexlt_asymm h h2
end Go.Proofs.Ytclbiabiiknolaa
set_option linter.unusedVariables false
set_option linter.unusedSimpArgs false
namespace Go.Proofs.Ytclbiabiiknolaa
open Go.Eng

theorem lex_tri : ∀ {a b : List Int}, a.length = b.length → a = b ∨ lexlt a b ∨ lexlt b a
  | [], [], _ => .inl rfl
  | [], _ :: _, h => by simp at h
  | _ :: _, [], h => by simp at h
  | x :: a, y :: b, h => by
    rcases Int.lt_trichotomy x y with e | e | e
    · exact .inr (.inl (.inl e))
    · subst e
      rcases lex_tri (a := a) (b := b) (by simpa using h) with e | e | e
      · subst e; exact .inl rfl
      · exact .inr (.inl (.inr ⟨rfl, e⟩))
      · exact .inr (.inr (.inr ⟨rfl, e⟩))
    · exact .inr (.inr (.inl e))

/-! ### lists in which nobody comes back -/
def nr : List Int → Prop
  | [] => True
  | [_] => True
  | x :: y :: t => (x = y ∨ x ∉ y :: t) ∧ nr (y :: t)
theorem lft_cons {x z : Int} {a : List Int} {k : Nat} : lft (x :: a) (k + 1) z ↔ (0 < a.length ∧ x = z ∧ a.getD 0 0 ≠ z) ∨ lft a k z := by
  constructor
  · rintro ⟨j, h1, h2, h3, h4⟩
    cases j with
    | zero => exact .inl ⟨by simpa using h2, by simpa using h3, by simpa using h4⟩
    | succ j => exact .inr ⟨j, by omega, by simpa using h2, by simpa using h3, by simpa using h4⟩
  · rintro (⟨h1, h2, h3⟩ | ⟨j, h1, h2, h3, h4⟩)
    · exact ⟨0, by omega, by simpa using h1, by simpa using h2, by simpa using h3⟩
    · exact ⟨j + 1, by omega, by simpa using h2, by simpa using h3, by simpa using h4⟩
theorem mem_getI {l : List Int} {x : Int} : x ∈ l ↔ ∃ k, k < l.length ∧ l.getD k 0 = x := by
  constructor
  · intro h
    obtain ⟨k, hk, e⟩ := List.getElem_of_mem h
    exact ⟨k, hk, by rw [List.getD, List.getElem?_eq_getElem hk]; exact e⟩
  · rintro ⟨k, hk, e⟩
    rw [List.getD, List.getElem?_eq_getElem hk] at e
    rw [← e]; exact List.getElem_mem hk
theorem nr_iff : ∀ {a : List Int}, nr a ↔ ∀ k, k < a.length → ¬ lft a k (a.getD k 0)
  | [] => ⟨fun _ k hk => absurd hk (Nat.not_lt_zero _), fun _ => trivial⟩
  | [x] => ⟨fun _ k hk => by
      obtain rfl : k = 0 := by simp at hk; omega
      exact lft_zero, fun _ => trivial⟩
  | x :: y :: t => by
    have ih := nr_iff (a := y :: t)
    show ((x = y ∨ x ∉ y :: t) ∧ nr (y :: t)) ↔ _
    rw [ih]
    constructor
    · rintro ⟨h1, h2⟩ k hk
      cases k with
      | zero => exact lft_zero
      | succ k =>
        have hk2 : k < (y :: t).length := by simpa using hk
        have e : (x :: y :: t).getD (k + 1) 0 = (y :: t).getD k 0 := rfl
        rw [e, lft_cons]
        rintro (⟨_, h3, h4⟩ | h3)
        · rcases h1 with h1 | h1
          · subst h1; exact h4 h3
          · exact h1 (mem_getI.2 ⟨k, hk2, h3.symm⟩)
        · exact h2 k hk2 h3
    · intro h
      refine ⟨?_, fun k hk hl => h (k + 1) (by simpa using hk) (by
        have e : (x :: y :: t).getD (k + 1) 0 = (y :: t).getD k 0 := rfl
        rw [e, lft_cons]; exact .inr hl)⟩
      refine Classical.byContradiction fun hno => ?_
      have h1 : x ≠ y := fun e => hno (.inl e)
      have h2 : x ∈ y :: t := Classical.byContradiction fun e => hno (.inr e)
      obtain ⟨k, hk, e⟩ := mem_getI.1 h2
      refine h (k + 1) (by simpa using hk) ?_
      have e2 : (x :: y :: t).getD (k + 1) 0 = (y :: t).getD k 0 := rfl
      rw [e2, lft_cons, e]
      exact .inl ⟨by simp, rfl, fun h3 => h1 h3.symm⟩
theorem divn_iff {rr : List (List Int)} {a : List Int} : divn rr a ↔ a.length = (rr.getD 0 []).length ∧ (∀ y, y ∈ a → 0 ≤ y ∧ y < rr.length) ∧ nr a := by
  unfold divn
  rw [nr_iff]
  constructor
  · rintro ⟨h1, h2⟩
    exact ⟨h1, fun y hy => by obtain ⟨k, hk, e⟩ := mem_getI.1 hy; rw [← e]; exact (h2 k hk).1, fun k hk => (h2 k hk).2⟩
  · rintro ⟨h1, h2, h3⟩
    exact ⟨h1, fun k hk => ⟨h2 _ (mem_getI.2 ⟨k, hk, rfl⟩), h3 k hk⟩⟩

/-! ### values along a list -/
def wf (r : List Int) (j : Int) : Nat → List Int → Int
  | _, [] => 0
  | p, x :: l => (if x = j then r.getD p 0 else 0) + wf r j (p + 1) l
theorem worth_take {A B r : List Int} {k : Int} : ∀ {c : Nat}, (∀ j, j < c → A.getD j 0 = B.getD j 0) → worth A r k c = worth B r k c
  | 0, _ => rfl
  | c + 1, h => by simp only [worth]; rw [worth_take (fun j hj => h j (by omega)), h c (by omega)]
theorem getD_app {p : List Int} {x : Int} {i : Nat} : i < p.length → (p ++ x :: []).getD i 0 = p.getD i 0 := fun h => by
  rw [List.getD, List.getD, List.getElem?_append_left h]
theorem worth_snoc {p r : List Int} {x k : Int} : worth (p ++ [x]) r k (p ++ [x]).length = worth p r k p.length + if x = k then r.getD p.length 0 else 0 := by
  rw [List.length_append, List.length_singleton]
  simp only [worth]
  rw [worth_take (B := p) (fun j hj => getD_app hj)]
  have e : (p ++ [x]).getD p.length 0 = x := by simp [List.getD]
  rw [e]
theorem worth_app {r : List Int} {k : Int} : ∀ {l p : List Int}, worth (p ++ l) r k (p ++ l).length = worth p r k p.length + wf r k p.length l
  | [], p => by simp [wf]
  | x :: l, p => by
    have ih := worth_app (r := r) (k := k) (l := l) (p := p ++ [x])
    rw [List.append_assoc, List.singleton_append] at ih
    rw [ih, worth_snoc]
    simp only [wf, List.length_append, List.length_singleton]
    omega
theorem worth_wf {r l : List Int} {k : Int} : worth l r k l.length = wf r k 0 l := by
  have := worth_app (r := r) (k := k) (l := l) (p := [])
  simpa [worth] using this
theorem wf_none {r : List Int} {j : Int} : ∀ {l : List Int} {p : Nat}, j ∉ l → wf r j p l = 0
  | [], _, _ => rfl
  | x :: l, p, h => by
    simp only [wf]
    rw [wf_none (fun h2 => h (List.mem_cons_of_mem _ h2)), if_neg (fun e => h (by rw [e]; exact List.mem_cons_self))]
    rfl

/-! ### the least of some numbers -/
theorem mnTo_ge {f : Nat → Int} {b : Int} : ∀ {c : Nat}, b ≤ mnTo f c ↔ ∀ i, i ≤ c → b ≤ f i
  | 0 => ⟨fun h i hi => by obtain rfl : i = 0 := by omega
                           exact h, fun h => h 0 (Nat.le_refl _)⟩
  | c + 1 => by
    have ih := mnTo_ge (f := f) (b := b) (c := c)
    simp only [mnTo]
    constructor
    · intro h i hi
      by_cases e : i = c + 1
      · subst e; omega
      · exact ih.1 (by omega) i (by omega)
    · intro h
      have h1 := ih.2 fun i hi => h i (by omega)
      have h2 := h (c + 1) (Nat.le_refl _)
      omega
theorem lvl_ge {rr : List (List Int)} {a : List Int} {L : Int} (hn : 1 ≤ rr.length) : L ≤ lvl rr a ↔ ∀ i, i < rr.length → L ≤ worth a (rr.getD i []) i a.length := by
  unfold lvl
  rw [mnTo_ge]
  exact ⟨fun h i hi => h i (by omega), fun h i hi => h i (by omega)⟩

/-! ### sets of agents -/
theorem bit_del : ∀ s, s < 64 → ∀ i, i < 6 → ∀ j, j < 6 → bit s i = true → bit (s - 2 ^ i) j = (bit s j && j != i) := by decide +kernel
theorem bit_full : ∀ n, n ≤ 6 → ∀ j, j < 6 → bit (2 ^ n - 1) j = decide (j < n) := by decide +kernel
theorem bit_sub : ∀ s, s < 64 → ∀ i, i < 6 → bit s i = true → 2 ^ i ≤ s := by decide +kernel
theorem bit_some : ∀ s, s < 64 → s ≠ 0 → ∃ i, i < 6 ∧ bit s i = true := by decide +kernel

/-- what may follow: place, agent, its sum, who is still to come -/
def Cont (rr : List (List Int)) (L : Int) : Nat → Nat → Int → Nat → List Int → Prop
  | _, _, s, set, [] => L ≤ s ∧ ∀ i, i < rr.length → bit set i = true → L ≤ 0
  | p, ag, s, set, x :: l => (x = (ag : Int) ∧ Cont rr L (p + 1) ag (s + val rr ag p) set l) ∨ ∃ i : Nat, i < rr.length ∧ x = (i : Int) ∧ i ≠ ag ∧ bit set i = true ∧ L ≤ s ∧ Cont rr L (p + 1) i (val rr i p) (set - 2 ^ i) l
theorem cont_mono {rr : List (List Int)} {L : Int} : ∀ {l : List Int} {p ag : Nat} {s t : Int} {set : Nat}, s ≤ t → Cont rr L p ag s set l → Cont rr L p ag t set l
  | [], _, _, s, t, _, h, ⟨h1, h2⟩ => ⟨by omega, h2⟩
  | x :: l, p, ag, s, t, set, h, hc => by
    rcases hc with ⟨h1, h2⟩ | ⟨i, h1, h2, h3, h4, h5, h6⟩
    · exact .inl ⟨h1, cont_mono (by omega) h2⟩
    · exact .inr ⟨i, h1, h2, h3, h4, by omega, h6⟩
theorem cont_iff {rr : List (List Int)} {L : Int} (hn : rr.length ≤ 6) : ∀ {l : List Int} {p ag : Nat} {s : Int} {set : Nat}, ag < rr.length → set < 64 → bit set ag = false →
    (Cont rr L p ag s set l ↔ nr ((ag : Int) :: l) ∧ (∀ y, y ∈ l → y = (ag : Int) ∨ ∃ i : Nat, i < rr.length ∧ y = (i : Int) ∧ bit set i = true) ∧ L ≤ s + wf (rr.getD ag []) ag p l ∧ ∀ i, i < rr.length → bit set i = true → L ≤ wf (rr.getD i []) i p l)
  | [], p, ag, s, set, ha, hs, hb => by
    simp only [Cont, wf, nr]
    constructor
    · rintro ⟨h1, h2⟩
      exact ⟨trivial, fun y hy => by simp at hy, by omega, h2⟩
    · rintro ⟨_, _, h1, h2⟩
      exact ⟨by omega, h2⟩
  | x :: l, p, ag, s, set, ha, hs, hb => by
    have hv : ∀ i : Nat, val rr i p = (rr.getD i []).getD p 0 := fun _ => rfl
    simp only [Cont]
    constructor
    · rintro (⟨rfl, h2⟩ | ⟨i, hi, rfl, hne, hbi, hL, h2⟩)
      · obtain ⟨h3, h4, h5, h6⟩ := (cont_iff hn ha hs hb).1 h2
        refine ⟨⟨.inl rfl, h3⟩, fun y hy => ?_, ?_, fun i hi hbi => ?_⟩
        · rcases List.mem_cons.1 hy with rfl | hy
          · exact .inl rfl
          · exact h4 y hy
        · simp only [wf]; rw [if_pos trivial, ← hv]; omega
        · have hne : ag ≠ i := fun e => by subst e; rw [hb] at hbi; cases hbi
          simp only [wf]; rw [if_neg (by omega)]
          have := h6 i hi hbi
          omega
      · have hd := bit_del set hs i (by omega)
        obtain ⟨h3, h4, h5, h6⟩ := (cont_iff hn hi (Nat.lt_of_le_of_lt (Nat.sub_le _ _) hs) (by rw [hd i (by omega) hbi]; simp)).1 h2
        have hno : ((ag : Nat) : Int) ∉ (i : Int) :: l := fun hm => by
          rcases List.mem_cons.1 hm with e | hm
          · omega
          · rcases h4 _ hm with e | ⟨j, hj, e, hbj⟩
            · omega
            · have : ag = j := by omega
              subst this
              rw [hd ag (by omega) hbi, hb] at hbj
              simp at hbj
        refine ⟨⟨.inr hno, h3⟩, fun y hy => ?_, ?_, fun j hj hbj => ?_⟩
        · rcases List.mem_cons.1 hy with rfl | hy
          · exact .inr ⟨i, hi, rfl, hbi⟩
          · rcases h4 y hy with e | ⟨j, hj, e, hbj⟩
            · exact .inr ⟨i, hi, e, hbi⟩
            · rw [hd j (by omega) hbi] at hbj
              exact .inr ⟨j, hj, e, by simp at hbj; exact hbj.1⟩
        · rw [wf_none hno]; omega
        · simp only [wf]
          by_cases e : i = j
          · subst e; rw [if_pos rfl, ← hv]; exact h5
          · rw [if_neg (by omega)]
            have := h6 j hj (by rw [hd j (by omega) hbi, hbj]; simp; omega)
            omega
    · rintro ⟨h1, h2, h3, h4⟩
      by_cases hx : x = (ag : Int)
      · subst hx
        refine .inl ⟨rfl, (cont_iff hn ha hs hb).2 ⟨h1.2, fun y hy => h2 y (List.mem_cons_of_mem _ hy), ?_, fun i hi hbi => ?_⟩⟩
        · simp only [wf] at h3; rw [if_pos trivial, ← hv] at h3; omega
        · have hne : ag ≠ i := fun e => by subst e; rw [hb] at hbi; cases hbi
          have := h4 i hi hbi
          simp only [wf] at this; rw [if_neg (by omega)] at this; omega
      · rcases h2 x List.mem_cons_self with e | ⟨i, hi, rfl, hbi⟩
        · exact absurd e hx
        · have hne : i ≠ ag := fun e => hx (by rw [e])
          have hd := bit_del set hs i (by omega)
          have hno : ((ag : Nat) : Int) ∉ (i : Int) :: l := by
            rcases h1.1 with e | e
            · omega
            · exact e
          rw [wf_none hno] at h3
          refine .inr ⟨i, hi, rfl, hne, hbi, by omega, (cont_iff hn hi (Nat.lt_of_le_of_lt (Nat.sub_le _ _) hs) (by rw [hd i (by omega) hbi]; simp)).2 ⟨h1.2, fun y hy => ?_, ?_, fun j hj hbj => ?_⟩⟩
          · rcases h2 y (List.mem_cons_of_mem _ hy) with e | ⟨j, hj, e, hbj⟩
            · exact absurd (by rw [← e]; exact List.mem_cons_of_mem _ hy) hno
            · by_cases hij : j = i
              · subst hij; exact .inl e
              · exact .inr ⟨j, hj, e, by rw [hd j (by omega) hbi, hbj]; simp; omega⟩
          · have := h4 i hi hbi
            simp only [wf] at this; rw [if_pos trivial, ← hv] at this; exact this
          · rw [hd j (by omega) hbi] at hbj
            simp at hbj
            have := h4 j hj hbj.1
            simp only [wf] at this; rw [if_neg (by omega)] at this; omega
/-- the first parcel goes to agent i -/
theorem cont_div {rr : List (List Int)} {m : Nat} {L : Int} (hk : Sd rr m) {i : Nat} (hi : i < rr.length) {l : List Int} (hl : l.length + 1 = m) :
    Cont rr L 1 i (val rr i 0) (2 ^ rr.length - 1 - 2 ^ i) l ↔ divn rr ((i : Int) :: l) ∧ L ≤ lvl rr ((i : Int) :: l) := by
  have hn := hk.n6
  have hp := pow6 hn
  have hf := bit_full rr.length hn
  have hbi : bit (2 ^ rr.length - 1) i = true := by rw [hf i (by omega)]; exact decide_eq_true hi
  have hd := bit_del (2 ^ rr.length - 1) (by omega) i (by omega)
  have hbj : ∀ j, j < rr.length → (bit (2 ^ rr.length - 1 - 2 ^ i) j = true ↔ j ≠ i) := fun j hj => by
    rw [hd j (by omega) hbi, hf j (by omega), decide_eq_true hj]; simp
  rw [cont_iff hn hi (Nat.lt_of_le_of_lt (Nat.sub_le _ _) (by omega)) (by rw [hd i (by omega) hbi]; simp), divn_iff, lvl_ge hk.n1]
  have hw : ∀ j : Nat, worth ((i : Int) :: l) (rr.getD j []) j ((i : Int) :: l).length = (if (i : Int) = (j : Int) then val rr j 0 else 0) + wf (rr.getD j []) j 1 l := fun j => by rw [worth_wf]; rfl
  constructor
  · rintro ⟨h1, h2, h3, h4⟩
    refine ⟨⟨by have := hk.m0; simp only [List.length_cons]; omega, fun y hy => ?_, h1⟩, fun j hj => ?_⟩
    · rcases List.mem_cons.1 hy with rfl | hy
      · omega
      · rcases h2 y hy with e | ⟨j, hj, e, _⟩ <;> omega
    · rw [hw]
      by_cases e : j = i
      · subst e; rw [if_pos rfl]; exact h3
      · rw [if_neg (by omega)]; have := h4 j hj ((hbj j hj).2 e); omega
  · rintro ⟨⟨h1, h2, h3⟩, h4⟩
    refine ⟨h3, fun y hy => ?_, ?_, fun j hj hb => ?_⟩
    · have := h2 y (List.mem_cons_of_mem _ hy)
      by_cases e : y = (i : Int)
      · exact .inl e
      · exact .inr ⟨y.toNat, by omega, by omega, (hbj _ (by omega)).2 (by omega)⟩
    · have := h4 i hi
      rw [hw, if_pos rfl] at this; exact this
    · have := h4 j hj
      have hne := (hbj j hj).1 hb
      rw [hw, if_neg (by omega)] at this; omega

/-! ### the best division -/
def IsBest (rr : List (List Int)) (a : List Int) : Prop := divn rr a ∧ ∀ b, divn rr b → lvl rr b ≤ lvl rr a ∧ (lvl rr b = lvl rr a → ¬ lexlt b a)
theorem IsBest.one {rr : List (List Int)} {a b : List Int} (ha : IsBest rr a) (hb : IsBest rr b) : a = b := by
  have h1 := ha.2 b hb.1
  have h2 := hb.2 a ha.1
  have e : lvl rr b = lvl rr a := by omega
  rcases lex_tri (a := a) (b := b) (by rw [ha.1.1, hb.1.1]) with h | h | h
  · exact h
  · exact absurd h (h2.2 e.symm)
  · exact absurd h (h1.2 e)
open Classical in
noncomputable def bst (rr : List (List Int)) : List Int := if h : ∃ a, IsBest rr a then h.choose else []
theorem bst_is {rr : List (List Int)} {a : List Int} (h : IsBest rr a) : bst rr = a := by
  have hex : ∃ c, IsBest rr c := ⟨a, h⟩
  unfold bst
  rw [dif_pos hex]
  exact hex.choose_spec.one h

/-- the first p parcels can be divided among a set, each of it with at least a level -/
def Gs (rr : List (List Int)) (L : Int) (s p : Nat) : Prop := ∃ a : List Int, a.length = p ∧ (∀ y, y ∈ a → ∃ i : Nat, i < rr.length ∧ y = (i : Int) ∧ bit s i = true) ∧ nr a ∧ ∀ i, i < rr.length → bit s i = true → L ≤ worth a (rr.getD i []) i a.length
theorem enf_spec {l : List Int} {L : Int} {q : Nat} : ∀ {k p : Nat} {s : Int}, p + k = l.length → q ≤ p → s = sumTo l p - sumTo l q → (∀ j, q ≤ j → j ≤ p → sumTo l j - sumTo l q < L) →
    (enf l L k p s = (l.length : Int) + 1 ∧ ∀ j, q ≤ j → j ≤ l.length → sumTo l j - sumTo l q < L) ∨
    (∃ e : Nat, enf l L k p s = (e : Int) ∧ p < e ∧ e ≤ l.length ∧ L ≤ sumTo l e - sumTo l q ∧ ∀ j, q ≤ j → j < e → sumTo l j - sumTo l q < L)
  | 0, p, s, h1, h2, h3, h4 => .inl ⟨rfl, fun j hj hl => h4 j hj (by omega)⟩
  | k + 1, p, s, h1, h2, h3, h4 => by
    have e1 : sumTo l (p + 1) = sumTo l p + l.getD p 0 := rfl
    by_cases h : L ≤ s + l.getD p 0
    · refine .inr ⟨p + 1, ?_, by omega, by omega, by omega, fun j hj hl => h4 j hj (by omega)⟩
      simp only [enf]; rw [if_pos h]; omega
    · have ih := enf_spec (l := l) (L := L) (q := q) (k := k) (p := p + 1) (s := s + l.getD p 0) (by omega) (by omega) (by omega) (fun j hj hl => by
        by_cases e : j = p + 1
        · subst e; omega
        · exact h4 j hj (by omega))
      simp only [enf]; rw [if_neg h]
      rcases ih with h5 | ⟨e, h5, h6, h7⟩
      · exact .inl h5
      · exact .inr ⟨e, h5, by omega, h7⟩
theorem enough_spec {l : List Int} {L : Int} {q : Nat} (hL : 1 ≤ L) (hq : q ≤ l.length) :
    (enough l q L = (l.length : Int) + 1 ∧ ∀ j, q ≤ j → j ≤ l.length → sumTo l j - sumTo l q < L) ∨
    (∃ e : Nat, enough l q L = (e : Int) ∧ q < e ∧ e ≤ l.length ∧ L ≤ sumTo l e - sumTo l q ∧ ∀ j, q ≤ j → j < e → sumTo l j - sumTo l q < L) :=
  enf_spec (by omega) (Nat.le_refl _) (by omega) (fun j h1 h2 => by
    have : j = q := by omega
    subst this; omega)
theorem enough_out {l : List Int} {L : Int} {q : Nat} (hq : ¬ q ≤ l.length) : enough l q L = (l.length : Int) + 1 := by
  unfold enough; rw [show l.length - q = 0 by omega]; rfl
theorem sumTo_le {l : List Int} (h : ∀ j, 0 ≤ l.getD j 0) {p : Nat} : ∀ {q : Nat}, p ≤ q → sumTo l p ≤ sumTo l q
  | 0, hp => by obtain rfl : p = 0 := by omega
                exact Int.le_refl _
  | q + 1, hp => by
    by_cases e : p = q + 1
    · subst e; exact Int.le_refl _
    · have ih := sumTo_le h (p := p) (q := q) (by omega)
      have := h q
      simp only [sumTo]; omega
theorem enough_mono {l : List Int} {L : Int} {p q : Nat} (hv : ∀ j, 0 ≤ l.getD j 0) (hL : 1 ≤ L) (h : p ≤ q) : enough l p L ≤ enough l q L := by
  by_cases hq : q ≤ l.length
  · rcases enough_spec hL hq with ⟨e, _⟩ | ⟨e, h1, h2, h3, h4, _⟩
    · rw [e]; exact (enough_bd l p L).2
    · rcases enough_spec hL (show p ≤ l.length by omega) with ⟨e2, h5⟩ | ⟨e2, h5, h6, h7, h8, h9⟩
      · have := h5 e (by omega) h3
        have := sumTo_le hv h
        omega
      · rw [h1, h5]
        refine Int.ofNat_le.2 (Nat.le_of_not_lt fun hlt => ?_)
        have := h9 e (by omega) hlt
        have := sumTo_le hv h
        omega
  · rw [enough_out hq]; exact (enough_bd l p L).2
/-- one entry -/
def Te (rr : List (List Int)) (L : Int) (s : Nat) : Int := (tabl rr L).getD s 0
theorem tbl_get {rr : List (List Int)} {L : Int} {j : Nat} : ∀ {S : Nat}, j < S → (tbl rr L S).getD j 0 = ent rr L (tbl rr L j) j
  | 0, h => absurd h (Nat.not_lt_zero _)
  | S + 1, h => by
    simp only [tbl]
    by_cases hj : j < S
    · rw [List.getD, List.getElem?_append_left (by rw [tbl_len]; exact hj)]
      exact tbl_get hj
    · obtain rfl : j = S := by omega
      rw [List.getD, List.getElem?_append_right (by rw [tbl_len]; omega), tbl_len]; simp
theorem Te_eq {rr : List (List Int)} {L : Int} {s : Nat} (h : s < 2 ^ rr.length) : Te rr L s = ent rr L (tbl rr L s) s := tbl_get h
theorem tbl_Te {rr : List (List Int)} {L : Int} {s j : Nat} (h : s ≤ 2 ^ rr.length) (hj : j < s) : (tbl rr L s).getD j 0 = Te rr L j := by rw [tbl_get hj, Te_eq (by omega)]
theorem Te_zero {rr : List (List Int)} {L : Int} : Te rr L 0 = 0 := by rw [Te_eq (Nat.pow_pos (by decide))]; rfl
theorem Te_bd {rr : List (List Int)} {m : Nat} (hk : Sd rr m) (L : Int) (s : Nat) : 0 ≤ Te rr L s ∧ Te rr L s ≤ (m : Int) + 1 := tbl_bd hk L
theorem entTo_le {rr : List (List Int)} {L : Int} {T : List Int} {s : Nat} : ∀ {c i : Nat}, i < c → bit s i = true → entTo rr L T s c ≤ enough (rr.getD i []) (T.getD (s - 2 ^ i) 0).toNat L
  | 0, i, h, _ => absurd h (Nat.not_lt_zero _)
  | c + 1, i, h, hb => by
    simp only [entTo]
    by_cases e : i = c
    · subst e; rw [if_pos hb]; omega
    · have := entTo_le (rr := rr) (L := L) (T := T) (c := c) (i := i) (by omega) hb
      split <;> omega
theorem entTo_at {rr : List (List Int)} {L : Int} {T : List Int} {s : Nat} : ∀ {c : Nat}, entTo rr L T s c = ((rr.getD 0 []).length : Int) + 1 ∨ ∃ i, i < c ∧ bit s i = true ∧ entTo rr L T s c = enough (rr.getD i []) (T.getD (s - 2 ^ i) 0).toNat L
  | 0 => .inl rfl
  | c + 1 => by
    have ih := entTo_at (rr := rr) (L := L) (T := T) (s := s) (c := c)
    simp only [entTo]
    have up : ∀ x, x = entTo rr L T s c → (x = ((rr.getD 0 []).length : Int) + 1 ∨ ∃ i, i < c + 1 ∧ bit s i = true ∧ x = enough (rr.getD i []) (T.getD (s - 2 ^ i) 0).toNat L) := fun x hx => by
      rw [hx]
      rcases ih with h | ⟨i, h1, h2, h3⟩
      · exact .inl h
      · exact .inr ⟨i, by omega, h2, h3⟩
    by_cases hb : bit s c = true
    · rw [if_pos hb]
      by_cases hm : entTo rr L T s c ≤ enough (rr.getD c []) (T.getD (s - 2 ^ c) 0).toNat L
      · rw [Int.min_eq_left hm]; exact up _ rfl
      · rw [Int.min_eq_right (by omega)]; exact .inr ⟨c, by omega, hb, rfl⟩
    · rw [if_neg hb]; exact up _ rfl
theorem lt64 {rr : List (List Int)} {m s : Nat} (hk : Sd rr m) (hs : s < 2 ^ rr.length) : s < 64 := by have := pow6 hk.n6; omega
theorem Te_le {rr : List (List Int)} {m : Nat} {L : Int} (hk : Sd rr m) {s i : Nat} (hs : s < 2 ^ rr.length) (hi : i < rr.length) (hb : bit s i = true) : Te rr L s ≤ enough (rr.getD i []) (Te rr L (s - 2 ^ i)).toNat L := by
  have h64 := lt64 hk hs
  have hn := hk.n6
  have hle := bit_sub s h64 i (by omega) hb
  have hp : 0 < 2 ^ i := Nat.pow_pos (by decide)
  rw [Te_eq hs]
  unfold ent
  rw [if_neg (by omega), ← tbl_Te (s := s) (by omega) (by omega)]
  exact entTo_le hi hb
theorem Te_at {rr : List (List Int)} {m : Nat} {L : Int} (hk : Sd rr m) {s : Nat} (hs : s < 2 ^ rr.length) (h0 : s ≠ 0) : Te rr L s = (m : Int) + 1 ∨ ∃ i, i < rr.length ∧ bit s i = true ∧ Te rr L s = enough (rr.getD i []) (Te rr L (s - 2 ^ i)).toNat L := by
  have h64 := lt64 hk hs
  have hn := hk.n6
  rw [Te_eq hs]
  unfold ent
  rw [if_neg h0]
  rcases entTo_at (rr := rr) (L := L) (T := tbl rr L s) (s := s) (c := rr.length) with h | ⟨i, h1, h2, h3⟩
  · left; rw [h, hk.m0]
  · have hle := bit_sub s h64 i (by omega) h2
    have hp : 0 < 2 ^ i := Nat.pow_pos (by decide)
    exact .inr ⟨i, h1, h2, by rw [h3, tbl_Te (by omega) (by omega)]⟩

/-- a run at the end -/
theorem nr_rep {c : Int} : ∀ {k : Nat} {a : List Int}, nr a → c ∉ a → nr (a ++ List.replicate k c)
  | 0, a, h, _ => by simpa using h
  | k + 1, [], _, _ => by
    induction k with
    | zero => trivial
    | succ k ih => exact ⟨.inl rfl, ih⟩
  | k + 1, [x], _, hc => by
    have h1 : nr ([] ++ List.replicate (k + 1) c) := nr_rep (k := k + 1) (a := []) trivial (by simp)
    refine ⟨.inr fun hm => ?_, h1⟩
    have : x = c := List.eq_of_mem_replicate (n := k + 1) hm
    exact hc (by simp [this])
  | k + 1, x :: y :: t, h, hc => by
    have h1 := nr_rep (k := k + 1) (a := y :: t) h.2 (fun h2 => hc (List.mem_cons_of_mem _ h2))
    refine ⟨?_, h1⟩
    rcases h.1 with e | e
    · exact .inl e
    · right
      intro hm
      have hm : x ∈ (y :: t) ++ List.replicate (k + 1) c := hm
      rcases List.mem_append.1 hm with hm | hm
      · exact e hm
      · have : x = c := List.eq_of_mem_replicate hm
        exact hc (by simp [this])
theorem nr_split : ∀ {a : List Int}, nr a → a ≠ [] → ∃ (b : List Int) (k : Nat) (c : Int), a = b ++ List.replicate (k + 1) c ∧ c ∉ b ∧ nr b
  | [], _, h => absurd rfl h
  | [x], _, _ => ⟨[], 0, x, rfl, by simp, trivial⟩
  | x :: y :: t, h, _ => by
    obtain ⟨b, k, c, e, hc, hb⟩ := nr_split (a := y :: t) h.2 (by simp)
    cases b with
    | nil =>
      by_cases hx : x = c
      · subst hx; exact ⟨[], k + 1, x, by rw [e]; rfl, by simp, trivial⟩
      · exact ⟨[x], k, c, by rw [e]; rfl, by simp; exact fun h => hx h.symm, trivial⟩
    | cons z b =>
      have hzy : z = y := by simpa using (congrArg (fun l => l.head?) e).symm
      subst hzy
      refine ⟨x :: z :: b, k, c, by rw [e]; rfl, fun hm => ?_, ?_, hb⟩
      · rcases List.mem_cons.1 hm with e2 | hm
        · subst e2
          rcases h.1 with e3 | e3
          · subst e3; exact hc List.mem_cons_self
          · refine e3 ?_
            rw [e]; simp
        · exact hc hm
      · rcases h.1 with e3 | e3
        · exact .inl e3
        · right; intro hm; refine e3 ?_
          rw [e]; exact List.mem_append_left _ hm
theorem worth_rep {r a : List Int} {c k : Int} : ∀ {n : Nat}, worth (a ++ List.replicate n c) r k (a ++ List.replicate n c).length = worth a r k a.length + if c = k then sumTo r (a.length + n) - sumTo r a.length else 0
  | 0 => by simp
  | n + 1 => by
    have ih := worth_rep (r := r) (a := a) (c := c) (k := k) (n := n)
    rw [List.replicate_succ', ← List.append_assoc, worth_snoc, ih, List.length_append, List.length_replicate]
    have e : sumTo r (a.length + (n + 1)) = sumTo r (a.length + n) + r.getD (a.length + n) 0 := rfl
    split <;> omega
theorem Te_reach {rr : List (List Int)} {m : Nat} {L : Int} (hk : Sd rr m) (hL : 1 ≤ L) : ∀ {s : Nat}, s < 2 ^ rr.length → Te rr L s ≤ m → Gs rr L s (Te rr L s).toNat := by
  intro s
  induction s using Nat.strongRecOn with
  | ind s ih =>
    intro hs hm
    have h64 := lt64 hk hs
    have hn := hk.n6
    by_cases h0 : s = 0
    · subst h0
      rw [Te_zero]
      refine ⟨[], rfl, fun y hy => by simp at hy, trivial, fun i hi hb => ?_⟩
      unfold bit at hb
      simp at hb
    · rcases Te_at (L := L) hk hs h0 with h | ⟨i, hi, hb, he⟩
      · omega
      · have hle := bit_sub s h64 i (by omega) hb
        have hp : 0 < 2 ^ i := Nat.pow_pos (by decide)
        have hd := bit_del s h64 i (by omega)
        have hrow := hk.row i hi
        have hbd := Te_bd hk L (s - 2 ^ i)
        by_cases hq : (Te rr L (s - 2 ^ i)).toNat ≤ (rr.getD i []).length
        · rcases enough_spec hL hq with ⟨e1, _⟩ | ⟨e, h1, h2, h3, h4, h5⟩
          · omega
          · obtain ⟨a, ha, ha2, ha3, ha4⟩ := ih (s - 2 ^ i) (by omega) (by omega) (by omega)
            have hni : ((i : Nat) : Int) ∉ a := fun hm2 => by
              obtain ⟨j, hj, e2, hbj⟩ := ha2 _ hm2
              have : i = j := by omega
              subst this
              rw [hd i (by omega) hb] at hbj
              simp at hbj
            have e3 : (Te rr L s).toNat = e := by omega
            refine ⟨a ++ List.replicate (e - a.length) (i : Int), by simp; omega, fun y hy => ?_, nr_rep ha3 hni, fun j hj hbj => ?_⟩
            · rcases List.mem_append.1 hy with hy | hy
              · obtain ⟨j, hj, e2, hbj⟩ := ha2 y hy
                rw [hd j (by omega) hb] at hbj
                exact ⟨j, hj, e2, by simp at hbj; exact hbj.1⟩
              · exact ⟨i, hi, List.eq_of_mem_replicate hy, hb⟩
            · rw [worth_rep]
              by_cases hij : i = j
              · subst hij
                rw [if_pos rfl, show a.length + (e - a.length) = e by omega, ha]
                have := worth_bd (a := a) (k := (i : Int)) (fun q => hk.val i q) a.length
                have e4 : ∀ q, val rr i q = (rr.getD i []).getD q 0 := fun _ => rfl
                rw [ha] at this
                have h6 : 0 ≤ worth a (rr.getD i []) i (Te rr L (s - 2 ^ i)).toNat := (worth_bd (a := a) (k := (i : Int)) (r := rr.getD i []) (fun q => hk.val i q) _).1
                omega
              · rw [if_neg (by omega)]
                have := ha4 j hj (by rw [hd j (by omega) hb, hbj]; simp; omega)
                omega
        · rw [enough_out hq] at he; omega
theorem Te_least {rr : List (List Int)} {m : Nat} {L : Int} (hk : Sd rr m) (hL : 1 ≤ L) : ∀ {s p : Nat}, s < 2 ^ rr.length → p ≤ m → Gs rr L s p → Te rr L s ≤ p := by
  intro s
  induction s using Nat.strongRecOn with
  | ind s ih =>
    intro p hs hp hg
    have h64 := lt64 hk hs
    have hn := hk.n6
    by_cases h0 : s = 0
    · subst h0; rw [Te_zero]; omega
    · obtain ⟨a, ha, ha2, ha3, ha4⟩ := hg
      have hne : a ≠ [] := fun e => by
        obtain ⟨i, hi, hb⟩ := bit_some s h64 h0
        by_cases hin : i < rr.length
        · have := ha4 i hin hb
          rw [e] at this
          have e0 : worth [] (rr.getD i []) i ([] : List Int).length = 0 := rfl
          omega
        · -- a bit above all agents
          have h1 := bit_sub s h64 i hi hb
          have h2 : 2 ^ rr.length ≤ 2 ^ i := Nat.pow_le_pow_right (by decide) (by omega)
          omega
      obtain ⟨b, k, c, e, hc, hb⟩ := nr_split ha3 hne
      obtain ⟨i, hi, rfl, hbi⟩ := ha2 c (by rw [e]; simp)
      have hle := bit_sub s h64 i (by omega) hbi
      have hpw : 0 < 2 ^ i := Nat.pow_pos (by decide)
      have hd := bit_del s h64 i (by omega)
      have hlen : b.length + (k + 1) = p := by rw [← ha, e]; simp
      have hrow := hk.row i hi
      have hw : ∀ j : Nat, worth a (rr.getD j []) j a.length = worth b (rr.getD j []) j b.length + if (i : Int) = (j : Int) then sumTo (rr.getD j []) (b.length + (k + 1)) - sumTo (rr.getD j []) b.length else 0 := fun j => by rw [e]; exact worth_rep
      have hT := ih (s - 2 ^ i) (by omega) (p := b.length) (by omega) (by omega) ⟨b, rfl, fun y hy => by
        obtain ⟨j, hj, e2, hbj⟩ := ha2 y (by rw [e]; exact List.mem_append_left _ hy)
        refine ⟨j, hj, e2, ?_⟩
        rw [hd j (by omega) hbi, hbj]
        have : j ≠ i := fun e3 => hc (by rw [← e3, ← e2]; exact hy)
        simp; exact this, hb, fun j hj hbj => by
        rw [hd j (by omega) hbi] at hbj
        simp at hbj
        have := ha4 j hj hbj.1
        rw [hw, if_neg (by omega)] at this; omega⟩
      have h1 := Te_le (L := L) hk hs hi hbi
      have hbd := Te_bd hk L (s - 2 ^ i)
      have h2 := enough_mono (l := rr.getD i []) (L := L) (fun j => (hk.val i j).1) hL (show (Te rr L (s - 2 ^ i)).toNat ≤ b.length by omega)
      have h3 := ha4 i hi hbi
      have hb0 : worth b (rr.getD i []) i b.length = 0 := by rw [worth_wf, wf_none hc]
      rw [hw, if_pos rfl, hb0, hlen] at h3
      rcases enough_spec hL (show b.length ≤ (rr.getD i []).length by omega) with ⟨_, h4⟩ | ⟨e4, h4, h5, h6, h7, h8⟩
      · have := h4 p (by omega) (by omega); omega
      · have : e4 ≤ p := Nat.le_of_not_lt fun hlt => by have := h8 p (by omega) hlt; omega
        omega
/-- the last entry tells whether there is a division of at least a level -/
theorem tab_div {rr : List (List Int)} {m : Nat} {L : Int} (hk : Sd rr m) (hL : 1 ≤ L) : Te rr L (2 ^ rr.length - 1) ≤ m ↔ ∃ a, divn rr a ∧ L ≤ lvl rr a := by
  have hn := hk.n6
  have hn1 := hk.n1
  have hm0 := hk.m0
  have hpw : 0 < 2 ^ rr.length := Nat.pow_pos (by decide)
  have hf := bit_full rr.length hn
  constructor
  · intro h
    obtain ⟨a, ha, ha2, ha3, ha4⟩ := Te_reach hk hL (show 2 ^ rr.length - 1 < 2 ^ rr.length by omega) h
    have h4 : ∀ i, i < rr.length → L ≤ worth a (rr.getD i []) i a.length := fun i hi => ha4 i hi (by rw [hf i (by omega)]; exact decide_eq_true hi)
    have hne : a ≠ [] := fun e => by
      have := h4 0 (by omega)
      rw [e] at this
      have e0 : worth [] (rr.getD 0 []) ((0 : Nat) : Int) ([] : List Int).length = 0 := rfl
      omega
    obtain ⟨b, k, c, e, hc, hb⟩ := nr_split ha3 hne
    obtain ⟨i, hi, rfl, hbi⟩ := ha2 c (by rw [e]; simp)
    have hlen : b.length + (k + 1) = a.length := by rw [e]; simp
    refine ⟨b ++ List.replicate (k + 1 + (m - a.length)) (i : Int), divn_iff.2 ⟨by simp only [List.length_append, List.length_replicate]; omega, fun y hy => ?_, nr_rep hb hc⟩, (lvl_ge hn1).2 fun j hj => ?_⟩
    · rcases List.mem_append.1 hy with hy | hy
      · obtain ⟨j, hj, e2, _⟩ := ha2 y (by rw [e]; exact List.mem_append_left _ hy)
        omega
      · have := List.eq_of_mem_replicate hy; omega
    · have h5 := h4 j hj
      have hw : worth a (rr.getD j []) j a.length = worth b (rr.getD j []) j b.length + if (i : Int) = (j : Int) then sumTo (rr.getD j []) (b.length + (k + 1)) - sumTo (rr.getD j []) b.length else 0 := by rw [e]; exact worth_rep
      rw [hw] at h5
      rw [worth_rep]
      by_cases hij : i = j
      · subst hij
        rw [if_pos rfl] at h5 ⊢
        have := sumTo_le (l := rr.getD i []) (fun q => (hk.val i q).1) (show b.length + (k + 1) ≤ b.length + (k + 1 + (m - a.length)) by omega)
        omega
      · rw [if_neg (by omega)] at h5 ⊢; exact h5
  · rintro ⟨a, hd, hl⟩
    obtain ⟨h1, h2, h3⟩ := divn_iff.1 hd
    have h4 := (lvl_ge hn1).1 hl
    refine Te_least hk hL (by omega) (Nat.le_refl _) ⟨a, by rw [h1, hm0], fun y hy => ?_, h3, fun i hi _ => h4 i hi⟩
    have := h2 y hy
    exact ⟨y.toNat, by omega, by omega, by rw [hf _ (by omega)]; exact decide_eq_true (by omega)⟩
end Go.Proofs.Ytclbiabiiknolaa
set_option linter.unusedVariables false
set_option linter.unusedSimpArgs false
namespace Go.Eng
open Go.RowKit

section
variable {P : Program}
theorem equalIn_arr3 {d : Nat} {t e : TypeId} (ht : P.underlying t = some (.array 3 e)) (he : P.underlying e = some (.int .i64)) (hc : P.cellsOf e = 1) (a b c a' b' c' : Int) (w : World) :
    (Op.equalIn (d + 1 + 1) t (.agg #[.int .i64 a, .int .i64 b, .int .i64 c]) (.agg #[.int .i64 a', .int .i64 b', .int .i64 c'])).run P w = .ok (a == a' && b == b' && c == c') w := by
  have hs : ∀ w, (Go.sizeOf e).run P w = .ok 1 w := fun w => sizeOf_run hc (by omega) w
  have hp : ∀ (x : Value) (cs : Array Value) (i : Nat) w, cs[i]? = some x → (part e cs i).run P w = .ok x w := fun x cs i w h => by
    simp [part, isAgg_run he, aggD, h]
  rw [Op.equalIn]
  simp only [Sem.run_bind, run_underlying ht, Result.andThen_ok, hs]
  simp only [Std.Legacy.Range.forIn_eq_forIn_range', Std.Legacy.Range.size, List.range', List.forIn_cons, List.forIn_nil, Sem.run_bind]
  have p0 : ∀ (x y z : Int) w, (part e #[.int .i64 x, .int .i64 y, .int .i64 z] (0 * 1)).run P w = .ok (.int .i64 x) w := fun x y z w => hp _ _ _ w (by simp)
  have p1 : ∀ (x y z : Int) w, (part e #[.int .i64 x, .int .i64 y, .int .i64 z] ((0 + 1) * 1)).run P w = .ok (.int .i64 y) w := fun x y z w => hp _ _ _ w (by simp)
  have p2 : ∀ (x y z : Int) w, (part e #[.int .i64 x, .int .i64 y, .int .i64 z] ((0 + 1 + 1) * 1)).run P w = .ok (.int .i64 z) w := fun x y z w => hp _ _ _ w (by simp)
  have q : ∀ (x y : Int) w, (Op.equalIn (d + 1) e (.int .i64 x) (.int .i64 y)).run P w = .ok (x == y) w := fun x y w => run_equalIn_int w d e .i64 .i64 x y he
  simp only [p0, q, Result.andThen_ok]
  by_cases h1 : a = a'
  · subst h1
    by_cases h2 : b = b'
    · subst h2
      by_cases h3 : c = c'
      · subst h3; simp [p1, p2, q]
      · simp [p1, p2, q, h3]
    · simp [p1, q, h2]
  · simp [h1]
theorem checkKey_arr3 {d : Nat} {t e : TypeId} (em : Bool) (ht : P.underlying t = some (.array 3 e)) (he : P.underlying e = some (.int .i64)) (hc : P.cellsOf e = 1) (a b c : Int) (w : World) :
    (Instr.checkKey em (d + 1 + 1) t (.agg #[.int .i64 a, .int .i64 b, .int .i64 c])).run P w = .ok () w := by
  have hs : ∀ w, (Go.sizeOf e).run P w = .ok 1 w := fun w => sizeOf_run hc (by omega) w
  have hp : ∀ (x : Value) (cs : Array Value) (i : Nat) w, cs[i]? = some x → (part e cs i).run P w = .ok x w := fun x cs i w h => by
    simp [part, isAgg_run he, aggD, h]
  have q : ∀ (x : Int) w, (Instr.checkKey em (d + 1) e (.int .i64 x)).run P w = .ok () w := fun x w => by
    rw [Instr.checkKey]
    simp only [Sem.run_bind, run_underlying he, Result.andThen_ok, Sem.run_pure]
  rw [Instr.checkKey]
  simp only [Sem.run_bind, run_underlying ht, Result.andThen_ok, hs]
  simp only [Std.Legacy.Range.forIn_eq_forIn_range', Std.Legacy.Range.size, List.range', List.forIn_cons, List.forIn_nil, Sem.run_bind, hs, Result.andThen_ok]
  have p0 : ∀ (x y z : Int) w, (part e #[.int .i64 x, .int .i64 y, .int .i64 z] (0 * 1)).run P w = .ok (.int .i64 x) w := fun x y z w => hp _ _ _ w (by simp)
  have p1 : ∀ (x y z : Int) w, (part e #[.int .i64 x, .int .i64 y, .int .i64 z] ((0 + 1) * 1)).run P w = .ok (.int .i64 y) w := fun x y z w => hp _ _ _ w (by simp)
  have p2 : ∀ (x y z : Int) w, (part e #[.int .i64 x, .int .i64 y, .int .i64 z] ((0 + 1 + 1) * 1)).run P w = .ok (.int .i64 z) w := fun x y z w => hp _ _ _ w (by simp)
  simp [hs, p0, p1, p2, q]

abbrev KV (a b c : Int) : Value := .agg #[.int .i64 a, .int .i64 b, .int .i64 c]
theorem KV.inj {a b c a' b' c' : Int} (h : KV a b c = KV a' b' c') : a = a' ∧ b = b' ∧ c = c' := by
  simpa [KV] using h
theorem findAsking_arr3 {t e : TypeId} (ht : P.underlying t = some (.array 3 e)) (he : P.underlying e = some (.int .i64)) (hc : P.cellsOf e = 1) (a b c : Int) : ∀ (es : List MapEntry) (i : Nat),
    (∀ (j : Nat) (x : MapEntry), es[j]? = some x → ∃ p q r, x.key = KV p q r) → ∃ r, (∀ w, (Instr.findAsking t (KV a b c) es i).run P w = .ok r w) ∧ (r = none ∨ ∃ j x, r = some (i + j, x.val) ∧ es[j]? = some x ∧ x.key = KV a b c)
  | [], i, _ => ⟨none, fun w => by simp [Instr.findAsking], .inl rfl⟩
  | x :: es, i, h => by
    obtain ⟨p, q, r, hx⟩ := h 0 x rfl
    have he2 : ∀ w, (Op.equal t (KV a b c) x.key).run P w = .ok (a == p && b == q && c == r) w := fun w => by
      rw [hx]; exact equalIn_arr3 (d := 9998) ht he hc a b c p q r w
    by_cases hq : (a == p && b == q && c == r) = true
    · refine ⟨some (i, x.val), fun w => by simp only [Instr.findAsking, Sem.run_bind, he2, hq, Result.andThen_ok, if_true, Sem.run_pure], .inr ⟨0, x, rfl, rfl, ?_⟩⟩
      simp only [Bool.and_eq_true, beq_iff_eq] at hq
      rw [hx, hq.1.1, hq.1.2, hq.2]
    · obtain ⟨r2, h1, h2⟩ := findAsking_arr3 ht he hc a b c es (i + 1) (fun j y hy => h (j + 1) y (by simpa using hy))
      refine ⟨r2, fun w => by simp only [Instr.findAsking, Sem.run_bind, he2, hq, Result.andThen_ok, Bool.false_eq_true, if_false, h1], ?_⟩
      rcases h2 with h2 | ⟨j, y, h2, h3, h4⟩
      · exact .inl h2
      · exact .inr ⟨j + 1, y, by rw [h2]; congr 2; omega, by simpa using h3, h4⟩
theorem findKey_arr3 {t e : TypeId} (ht : P.underlying t = some (.array 3 e)) (he : P.underlying e = some (.int .i64)) (hc : P.cellsOf e = 1) (a b c : Int) (es : List MapEntry)
    (h : ∀ (j : Nat) (x : MapEntry), es[j]? = some x → ∃ p q r, x.key = KV p q r) : ∃ r, (∀ w, (Instr.findKey t (KV a b c) es).run P w = .ok r w) ∧ (r = none ∨ ∃ j x, r = some (j, x.val) ∧ es[j]? = some x ∧ x.key = KV a b c) := by
  cases es with
  | nil => exact ⟨none, fun w => by simp [Instr.findKey, run_underlying ht, Instr.findNow], .inl rfl⟩
  | cons x es =>
    obtain ⟨r, h1, h2⟩ := findAsking_arr3 ht he hc a b c (x :: es) 0 h
    refine ⟨r, fun w => ?_, ?_⟩
    · have hn : Instr.findNow (.array 3 e) (KV a b c) (x :: es) 0 = none := by simp [Instr.findNow, Instr.sameNow]
      simp only [Instr.findKey, Sem.run_bind, run_underlying ht, Result.andThen_ok, hn, h1]
    · rcases h2 with h2 | ⟨j, y, h2, h3, h4⟩
      · exact .inl h2
      · exact .inr ⟨j, y, by rw [h2]; congr 2; omega, h3, h4⟩

/-- a map with a fact for each entry -/
def MD (w : World) (b : Nat) (Q : Int → Int → Int → Int → Prop) : Prop := ∃ es clock, w.heap[b]? = some (.map es clock) ∧ ∀ (j : Nat) x, es.toList[j]? = some x → ∃ p q r y, x.key = KV p q r ∧ x.val = .int .i64 y ∧ Q p q r y
variable {w w' : World} {b : Nat} {Q : Int → Int → Int → Int → Prop}
theorem MD.lt (h : MD w b Q) : b < w.heap.size := by
  obtain ⟨es, clock, hb, _⟩ := h
  exact (Array.getElem?_eq_some_iff.1 hb).1
theorem MD.gr {S : Nat → Prop} (h : MD w b Q) (hg : Gr S w w') (hS : ¬ S b) : MD w' b Q := by
  have hl := h.lt
  obtain ⟨es, clock, hb, hq⟩ := h
  exact ⟨es, clock, (hg.block b hl hS).trans hb, hq⟩
theorem MD.ext (h : MD w b Q) (hx : Ext w w') : MD w' b Q := h.gr hx fun hf => hf
theorem MD.look {T t e : TypeId} {s n : Nat} (hT : P.underlying T = some (.map t e)) (ht : P.underlying t = some (.array 3 e)) (he : P.underlying e = some (.int .i64)) (hc : P.cellsOf e = 1) (hz : Elem P e (.int .i64 0) s n)
    (h : MD w b Q) {p q r : Int} {K : Value → Prop} (h0 : K (.tuple #[.int .i64 0, .bool false])) (h1 : ∀ y, Q p q r y → K (.tuple #[.int .i64 y, .bool true])) : VS P (Instr.lookup T (.map (some b)) (KV p q r) true) w K := by
  have hl := h.lt
  obtain ⟨es, clock, hb, hq⟩ := h
  obtain ⟨i, hi, hzz, _, _⟩ := hz.info
  obtain ⟨rr, hr1, hr2⟩ := findKey_arr3 ht he hc p q r es.toList (fun j x hx => by obtain ⟨p, q, r, y, h1, _, _⟩ := hq j x hx; exact ⟨p, q, r, h1⟩)
  have hb' : ∀ w1, Ext w w1 → w1.heap[b]? = some (.map es clock) := fun w1 hx => (hx.block b hl fun hf => hf).trans hb
  have hck : ∀ w1, (Instr.checkKey es.isEmpty 10000 t (KV p q r)).run P w1 = .ok () w1 := fun w1 => checkKey_arr3 (d := 9998) es.isEmpty ht he hc p q r w1
  rcases hr2 with rfl | ⟨j, x, rfl, hx, hk⟩
  · refine VS.mk (v := .tuple #[.int .i64 0, .bool false]) (fun w1 hx => ?_) h0
    simp [Instr.lookup, run_underlying hT, MapKept.run_getObj_map (hb' w1 hx), hck, hr1, Result.andThen, zeroValue, typeInfo, hi, hzz]
  · obtain ⟨p', q', r', y, h2, h3, h4⟩ := hq j x hx
    obtain ⟨rfl, rfl, rfl⟩ := KV.inj (h2.symm.trans hk)
    refine VS.mk (v := .tuple #[.int .i64 y, .bool true]) (fun w1 hx => ?_) (h1 y h4)
    simp [Instr.lookup, run_underlying hT, MapKept.run_getObj_map (hb' w1 hx), hck, hr1, Result.andThen, h3]
theorem sameBits_KV (p q r : Int) : Instr.sameBits 10000 (KV p q r) (KV p q r) = true := by
  show Instr.sameBits (9999 + 1) _ _ = true
  simp [Instr.sameBits]
theorem MD.set {o : Obj} (hl : b < w.heap.size) {es : Array MapEntry} {clock : Nat} (ho : o = .map es clock) (hq : ∀ (j : Nat) x, es.toList[j]? = some x → ∃ p q r y, x.key = KV p q r ∧ x.val = .int .i64 y ∧ Q p q r y) :
    Gr (fun j => j = b) w { w with heap := w.heap.setIfInBounds b o } ∧ MD { w with heap := w.heap.setIfInBounds b o } b Q := by
  refine ⟨⟨rfl, rfl, rfl, by simp, fun k _ hk => ?_⟩, es, clock, ?_, hq⟩
  · show (w.heap.setIfInBounds b o)[k]? = _
    rw [Array.getElem?_setIfInBounds_ne (fun e => hk e.symm)]
  · show (w.heap.setIfInBounds b o)[b]? = _
    rw [Array.getElem?_setIfInBounds_self_of_lt hl, ho]
theorem MD.put {T t e : TypeId} (hT : P.underlying T = some (.map t e)) (ht : P.underlying t = some (.array 3 e)) (he : P.underlying e = some (.int .i64)) (hc : P.cellsOf e = 1)
    (h : MD w b Q) {p q r y : Int} {K : World → Prop} (hy : Q p q r y) (hK : ∀ w', Gr (fun j => j = b) w w' → MD w' b Q → K w') : VU P (Instr.mapUpdate T (.map (some b)) (KV p q r) (.int .i64 y)) w K := by
  simp only [VU]
  intro w1 hw1
  have h' := h.ext hw1
  have hl := h'.lt
  obtain ⟨es, clock, hb, hq⟩ := h'
  obtain ⟨rr, hr1, hr2⟩ := findKey_arr3 ht he hc p q r es.toList (fun j x hx => by obtain ⟨p, q, r, y, h1, _, _⟩ := hq j x hx; exact ⟨p, q, r, h1⟩)
  have hck : ∀ w1, (Instr.checkKey false 10000 t (KV p q r)).run P w1 = .ok () w1 := fun w1 => checkKey_arr3 (d := 9998) false ht he hc p q r w1
  rcases hr2 with rfl | ⟨j, x, rfl, hx, hk⟩
  · obtain ⟨g1, g2⟩ := MD.set (w := w1) (Q := Q) (o := .map (es.push { key := KV p q r, val := .int .i64 y, born := clock }) (clock + 1)) hl rfl (fun j x hx => by
      rw [Array.toList_push, List.getElem?_append] at hx
      split at hx
      · exact hq j x hx
      · rename_i hj
        have : j - es.toList.length = 0 := by
          refine Classical.byContradiction fun hne => ?_
          rw [List.getElem?_eq_none (by simp only [List.length_singleton]; omega)] at hx; cases hx
        rw [this] at hx
        simp at hx
        subst hx
        exact ⟨p, q, r, y, rfl, rfl, hy⟩)
    refine ⟨_, ?_, _, Ext.refl _, hK _ ((Gr.ofExt hw1).trans g1) g2⟩
    simp [Instr.mapUpdate, run_underlying hT, MapKept.run_getObj_map hb, hck, hr1, MapKept.run_setObj_map _ hb, Result.andThen]
  · have hx2 : es[j]? = some x := by rw [← Array.getElem?_toList]; exact hx
    obtain ⟨g1, g2⟩ := MD.set (w := w1) (Q := Q) (o := .map (es.modify j fun e => { e with key := KV p q r, val := .int .i64 y }) clock) hl rfl (fun i z hz => by
      rw [Array.getElem?_toList, Array.getElem?_modify] at hz
      split at hz
      · rename_i e; subst e
        rw [hx2] at hz
        simp at hz
        subst hz
        exact ⟨p, q, r, y, rfl, rfl, hy⟩
      · exact hq i z (by rw [Array.getElem?_toList]; exact hz))
    refine ⟨_, ?_, _, Ext.refl _, hK _ ((Gr.ofExt hw1).trans g1) g2⟩
    simp [Instr.mapUpdate, run_underlying hT, MapKept.run_getObj_map hb, hck, hr1, MapKept.run_setObj_map _ hb, Result.andThen, hx2, hk, Instr.keyThatStays, sameBits_KV]
theorem VX.makeMap {T : TypeId} {K : Value → World → Prop} (Q : Int → Int → Int → Int → Prop) (hk : ∀ b w', Ext w w' → w.heap.size ≤ b → MD w' b Q → K (.map (some b)) w') : VX P (Instr.makeMap T none) w K := by
  refine VX.mk fun w1 hw1 => ?_
  refine ⟨_, _, ?_, (Ext.refl w1).alloc _, hk w1.heap.size (w1.alloc (.map #[] 0)) (hw1.alloc _) hw1.size ⟨#[], 0, heap_alloc_new w1 _, fun j x hx => by simp at hx⟩⟩
  simp [Instr.makeMap]
theorem VE.makeMap {T : TypeId} {K : Value → World → Prop} (Q : Int → Int → Int → Int → Prop) (hk : ∀ b w', Ext w w' → w.heap.size ≤ b → MD w' b Q → K (.map (some b)) w') : VE P (Instr.makeMap T none) w K := VX.toVE (VX.makeMap Q hk)
end
end Go.Eng
