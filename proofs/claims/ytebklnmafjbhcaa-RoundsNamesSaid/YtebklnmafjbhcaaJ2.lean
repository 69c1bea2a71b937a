/- Joined texts: Slc2 Goods1 Goods2 Pass3 L16a L16b NKit Near5 Near7 L17a Enum RoundsPl RoundsCl EngR EngS Kit2 EngU. -/
import Derived.Test.YtebklnmafjbhcaaJ1
import Derived.Deep.Strs
import Derived.WalkSpells
set_option linter.unusedVariables false
set_option linter.unusedSimpArgs false
namespace Go.Proofs.Ytebklnmafjbhcaa
open Go.Eng
set_option maxRecDepth 100000
set_option maxHeartbeats 4000000

theorem index_pc {w : World} {sv : Value} {l : List Int} {x : Int} (Hs : Ints w sv l) : PC Try.prog 93 [sv, .int .i64 x] w (.int .i64 (firstFrom (fun k => decide (x = l.getD k 0)) l.length 0)) := by
  refine PC.mk tyOk Try.func93 rfl (by kernel_rfl) fun w1 E1 => ?_
  replace Hs := Hs.ext E1
  have hle := Hs.le
  repeat' ((conv => whnf); first | (refine Dr.quiet tyOk (by kernel_rfl) ?_) | (refine Rng.mk (by omega) ?_) | (refine Split.pos (by omega) ?_) | (refine Split.neg (by omega) ?_) | (refine Split.mk (fun h => ?_) (fun h => ?_)) | (refine Need.mk (by omega) ?_) | (refine Ints.ln (by assumption) ?_) | (refine Mat.ln (by assumption) ?_) | (refine Ints.ln (Mat.row (by assumption) _ (by omega)) ?_) | (refine Ints.ix (by assumption) (by omega) ?_) | (refine Mat.ix (by assumption) (by omega) ?_) | (refine Ints.ix (Mat.row (by assumption) _ (by omega)) (by omega) ?_) | (refine Ints.ix (c := 0) (by assumption) (by omega) ?_) | (refine Mat.ix (c := 0) (by assumption) (by omega) ?_) | (refine Ints.ix (c := 0) (Mat.row (by assumption) _ (by omega)) (by omega) ?_) | (refine Ints.ixI (by assumption) (by omega) ?_) | (refine Mat.ixI (by assumption) (by omega) ?_) | (refine Ints.ixI (Mat.row (by assumption) _ (by omega)) (by omega) ?_) | (refine Ints.ld (by assumption) (by omega) ?_) | (refine Mat.ld (by assumption) (by omega) ?_) | (refine Ints.ld (Mat.row (by assumption) _ (by omega)) (by omega) ?_) | (refine At.ld (by assumption) rfl ?_) | (refine At.ldN (by assumption) rfl ?_))
  refine Lp.mk tyOk [false, false, false, false, true, true, false, false, true, true, true, true, true, true, true, true, true, true, true] (fun m fr wr => getK fr 8 fun j => ∃ c : Nat, c ≤ l.length ∧ m = l.length - c ∧ j = .int .i64 (c : Int) ∧ firstFrom (fun k => decide (x = l.getD k 0)) l.length 0 = firstFrom (fun k => decide (x = l.getD k 0)) (l.length - c) c ∧ wr = w1) l.length ?_ ?_
  · exact ⟨0, Nat.zero_le _, rfl, rfl, rfl, rfl⟩
  · intro m w3 u4 u5 u8 u9 u10 u11 u12 u13 u14 u15 u16 u17 u18 hR
    obtain ⟨c, hc, rfl, rfl, he, rfl⟩ := hR
    by_cases hlt : c < l.length
    · have hs : firstFrom (fun k => decide (x = l.getD k 0)) (l.length - c) c = if decide (x = l.getD c 0) = true then (c : Int) else firstFrom (fun k => decide (x = l.getD k 0)) (l.length - (c + 1)) (c + 1) := by rw [show l.length - c = (l.length - (c + 1)) + 1 by omega]; rfl
      by_cases hx : x = l.getD c 0
      · rw [if_pos (by simpa using hx)] at hs
        repeat' ((conv => whnf); first | (refine Dr.quiet tyOk (by kernel_rfl) ?_) | (refine Rng.mk (by omega) ?_) | (refine Split.pos (by omega) ?_) | (refine Split.neg (by omega) ?_) | (refine Split.mk (fun h => ?_) (fun h => ?_)) | (refine Need.mk (by omega) ?_) | (refine Ints.ln (by assumption) ?_) | (refine Mat.ln (by assumption) ?_) | (refine Ints.ln (Mat.row (by assumption) _ (by omega)) ?_) | (refine Ints.ix (by assumption) (by omega) ?_) | (refine Mat.ix (by assumption) (by omega) ?_) | (refine Ints.ix (Mat.row (by assumption) _ (by omega)) (by omega) ?_) | (refine Ints.ix (c := 0) (by assumption) (by omega) ?_) | (refine Mat.ix (c := 0) (by assumption) (by omega) ?_) | (refine Ints.ix (c := 0) (Mat.row (by assumption) _ (by omega)) (by omega) ?_) | (refine Ints.ixI (by assumption) (by omega) ?_) | (refine Mat.ixI (by assumption) (by omega) ?_) | (refine Ints.ixI (Mat.row (by assumption) _ (by omega)) (by omega) ?_) | (refine Ints.ld (by assumption) (by omega) ?_) | (refine Mat.ld (by assumption) (by omega) ?_) | (refine Ints.ld (Mat.row (by assumption) _ (by omega)) (by omega) ?_) | (refine At.ld (by assumption) rfl ?_) | (refine At.ldN (by assumption) rfl ?_))
        rw [he, hs]; exact ⟨rfl, Ext.refl _⟩
      · rw [if_neg (by simpa using hx)] at hs
        repeat' ((conv => whnf); first | (refine Dr.quiet tyOk (by kernel_rfl) ?_) | (refine Rng.mk (by omega) ?_) | (refine Split.pos (by omega) ?_) | (refine Split.neg (by omega) ?_) | (refine Split.mk (fun h => ?_) (fun h => ?_)) | (refine Need.mk (by omega) ?_) | (refine Ints.ln (by assumption) ?_) | (refine Mat.ln (by assumption) ?_) | (refine Ints.ln (Mat.row (by assumption) _ (by omega)) ?_) | (refine Ints.ix (by assumption) (by omega) ?_) | (refine Mat.ix (by assumption) (by omega) ?_) | (refine Ints.ix (Mat.row (by assumption) _ (by omega)) (by omega) ?_) | (refine Ints.ix (c := 0) (by assumption) (by omega) ?_) | (refine Mat.ix (c := 0) (by assumption) (by omega) ?_) | (refine Ints.ix (c := 0) (Mat.row (by assumption) _ (by omega)) (by omega) ?_) | (refine Ints.ixI (by assumption) (by omega) ?_) | (refine Mat.ixI (by assumption) (by omega) ?_) | (refine Ints.ixI (Mat.row (by assumption) _ (by omega)) (by omega) ?_) | (refine Ints.ld (by assumption) (by omega) ?_) | (refine Mat.ld (by assumption) (by omega) ?_) | (refine Ints.ld (Mat.row (by assumption) _ (by omega)) (by omega) ?_) | (refine At.ld (by assumption) rfl ?_) | (refine At.ldN (by assumption) rfl ?_))
        exact ⟨_, (by omega : l.length - (c + 1) < l.length - c), rfl, c + 1, by omega, rfl, rfl, by rw [he, hs], rfl⟩
    · obtain rfl : c = l.length := by omega
      repeat' ((conv => whnf); first | (refine Dr.quiet tyOk (by kernel_rfl) ?_) | (refine Rng.mk (by omega) ?_) | (refine Split.pos (by omega) ?_) | (refine Split.neg (by omega) ?_) | (refine Split.mk (fun h => ?_) (fun h => ?_)) | (refine Need.mk (by omega) ?_) | (refine Ints.ln (by assumption) ?_) | (refine Mat.ln (by assumption) ?_) | (refine Ints.ln (Mat.row (by assumption) _ (by omega)) ?_) | (refine Ints.ix (by assumption) (by omega) ?_) | (refine Mat.ix (by assumption) (by omega) ?_) | (refine Ints.ix (Mat.row (by assumption) _ (by omega)) (by omega) ?_) | (refine Ints.ix (c := 0) (by assumption) (by omega) ?_) | (refine Mat.ix (c := 0) (by assumption) (by omega) ?_) | (refine Ints.ix (c := 0) (Mat.row (by assumption) _ (by omega)) (by omega) ?_) | (refine Ints.ixI (by assumption) (by omega) ?_) | (refine Mat.ixI (by assumption) (by omega) ?_) | (refine Ints.ixI (Mat.row (by assumption) _ (by omega)) (by omega) ?_) | (refine Ints.ld (by assumption) (by omega) ?_) | (refine Mat.ld (by assumption) (by omega) ?_) | (refine Ints.ld (Mat.row (by assumption) _ (by omega)) (by omega) ?_) | (refine At.ld (by assumption) rfl ?_) | (refine At.ldN (by assumption) rfl ?_))
      rw [he, Nat.sub_self]; exact ⟨rfl, Ext.refl _⟩

theorem mem_getD {l : List Int} {x : Int} : x ∈ l ↔ ∃ i, i < l.length ∧ l.getD i 0 = x := by
  constructor
  · intro h
    obtain ⟨i, hi, e⟩ := List.getElem_of_mem h
    exact ⟨i, hi, by rw [List.getD, List.getElem?_eq_getElem hi]; exact e⟩
  · rintro ⟨i, hi, rfl⟩
    rw [List.getD, List.getElem?_eq_getElem hi]; exact List.getElem_mem hi

theorem contains_pc {w : World} {sv : Value} {l : List Int} {x : Int} (Hs : Ints w sv l) : PC Try.prog 62 [sv, .int .i64 x] w (.bool (tf (x ∈ l))) := by
  refine PC.mk tyOk Try.func62 rfl (by kernel_rfl) fun w1 E1 => ?_
  replace Hs := Hs.ext E1
  have hs := firstFrom_spec (fun k => decide (x = l.getD k 0)) l.length 0
  repeat' ((conv => whnf); first | (refine Dr.quiet tyOk (by kernel_rfl) ?_) | (refine VC.pure (index_pc Hs) ?_) | (refine Rng.mk (by omega) ?_) | (refine Split.pos (by omega) ?_) | (refine Split.neg (by omega) ?_) | (refine Split.mk (fun h => ?_) (fun h => ?_)) | (refine Need.mk (by omega) ?_) | (refine Ints.ln (by assumption) ?_) | (refine Mat.ln (by assumption) ?_) | (refine Ints.ln (Mat.row (by assumption) _ (by omega)) ?_) | (refine Ints.ix (by assumption) (by omega) ?_) | (refine Mat.ix (by assumption) (by omega) ?_) | (refine Ints.ix (Mat.row (by assumption) _ (by omega)) (by omega) ?_) | (refine Ints.ix (c := 0) (by assumption) (by omega) ?_) | (refine Mat.ix (c := 0) (by assumption) (by omega) ?_) | (refine Ints.ix (c := 0) (Mat.row (by assumption) _ (by omega)) (by omega) ?_) | (refine Ints.ixI (by assumption) (by omega) ?_) | (refine Mat.ixI (by assumption) (by omega) ?_) | (refine Ints.ixI (Mat.row (by assumption) _ (by omega)) (by omega) ?_) | (refine Ints.ld (by assumption) (by omega) ?_) | (refine Mat.ld (by assumption) (by omega) ?_) | (refine Ints.ld (Mat.row (by assumption) _ (by omega)) (by omega) ?_) | (refine At.ld (by assumption) rfl ?_) | (refine At.ldN (by assumption) rfl ?_))
  · rw [tf_t (p := x ∈ l) (by
      rcases hs with ⟨j, h1, h2, h3, _⟩ | ⟨h1, _⟩
      · exact mem_getD.2 ⟨j, by omega, by simp at h3; exact h3.symm⟩
      · omega)]; exact ⟨rfl, Ext.refl _⟩
  · rw [tf_f (p := x ∈ l) (by
      intro hm
      obtain ⟨i, hi, e⟩ := mem_getD.1 hm
      rcases hs with ⟨j, h1, h2, h3, h4, _⟩ | ⟨_, h2⟩
      · omega
      · have := h2 i (by omega) (by omega); simp at this; exact this e.symm)]; exact ⟨rfl, Ext.refl _⟩

theorem clone_rc {w : World} {sv : Value} {l : List Int} (Hs : Ints w sv l) (hl : l.length ≤ 1000) : RC Try.prog 87 [sv] w NoB (fun u w' => OI w' u l ∧ Go.Eng.Own w.heap.size 3 1 w' u l.length (l.map i64v)) := by
  obtain ⟨a, cap, rfl, h1, h2, h3, h4⟩ := id Hs
  cases a with
  | none =>
    have hl0 : l = [] := by
      rcases h4 with h4 | ⟨p, h4, _⟩
      · exact List.length_eq_zero_iff.1 h4
      · cases h4
    subst hl0
    refine RC.mk tyOk Try.func87 rfl (by kernel_rfl) fun w1 E1 => ?_
    replace Hs := Hs.ext E1
    repeat' ((conv => whnf); first | (refine Dr.quiet tyOk (by kernel_rfl) ?_) | (refine VS.mk (v := .bool true) (fun _ _ => rfl) ?_) | (refine Rng.mk (by omega) ?_) | (refine Split.pos (by omega) ?_) | (refine Split.neg (by omega) ?_) | (refine Split.mk (fun h => ?_) (fun h => ?_)) | (refine Need.mk (by omega) ?_) | (refine Ints.ln (by assumption) ?_) | (refine Mat.ln (by assumption) ?_) | (refine Ints.ln (Mat.row (by assumption) _ (by omega)) ?_) | (refine Ints.ix (by assumption) (by omega) ?_) | (refine Mat.ix (by assumption) (by omega) ?_) | (refine Ints.ix (Mat.row (by assumption) _ (by omega)) (by omega) ?_) | (refine Ints.ix (c := 0) (by assumption) (by omega) ?_) | (refine Mat.ix (c := 0) (by assumption) (by omega) ?_) | (refine Ints.ix (c := 0) (Mat.row (by assumption) _ (by omega)) (by omega) ?_) | (refine Ints.ixI (by assumption) (by omega) ?_) | (refine Mat.ixI (by assumption) (by omega) ?_) | (refine Ints.ixI (Mat.row (by assumption) _ (by omega)) (by omega) ?_) | (refine Ints.ld (by assumption) (by omega) ?_) | (refine Mat.ld (by assumption) (by omega) ?_) | (refine Ints.ld (Mat.row (by assumption) _ (by omega)) (by omega) ?_) | (refine At.ld (by assumption) rfl ?_) | (refine At.ldN (by assumption) rfl ?_))
    exact ⟨Ext.refl _, Own.nil, Own.nil⟩
  | some p =>
    refine RC.mk tyOk Try.func87 rfl (by kernel_rfl) fun w1 E1 => ?_
    replace Hs := Hs.ext E1
    repeat' ((conv => whnf); first | (refine Dr.quiet tyOk (by kernel_rfl) ?_) | (refine VS.mk (v := .bool false) (fun _ _ => rfl) ?_) | (refine Rng.mk (by omega) ?_) | (refine Split.pos (by omega) ?_) | (refine Split.neg (by omega) ?_) | (refine Split.mk (fun h => ?_) (fun h => ?_)) | (refine Need.mk (by omega) ?_) | (refine Ints.ln (by assumption) ?_) | (refine Mat.ln (by assumption) ?_) | (refine Ints.ln (Mat.row (by assumption) _ (by omega)) ?_) | (refine Ints.ix (by assumption) (by omega) ?_) | (refine Mat.ix (by assumption) (by omega) ?_) | (refine Ints.ix (Mat.row (by assumption) _ (by omega)) (by omega) ?_) | (refine Ints.ix (c := 0) (by assumption) (by omega) ?_) | (refine Mat.ix (c := 0) (by assumption) (by omega) ?_) | (refine Ints.ix (c := 0) (Mat.row (by assumption) _ (by omega)) (by omega) ?_) | (refine Ints.ixI (by assumption) (by omega) ?_) | (refine Mat.ixI (by assumption) (by omega) ?_) | (refine Ints.ixI (Mat.row (by assumption) _ (by omega)) (by omega) ?_) | (refine Ints.ld (by assumption) (by omega) ?_) | (refine Mat.ld (by assumption) (by omega) ?_) | (refine Ints.ld (Mat.row (by assumption) _ (by omega)) (by omega) ?_) | (refine At.ld (by assumption) rfl ?_) | (refine At.ldN (by assumption) rfl ?_))
    refine VE.lit0 Try.underlying25 eInt fun l0 w4 E4 Hl0 => ?_
    have Ha4 := Hs.ext E4
    conv => whnf
    refine VE.app Try.underlying25 eInt rfl (by omega) (Hl0 _ (Nat.le_refl _)) E4 rfl Ha4 (one_ints l) (by first | omega | (simp only [List.length_map, List.length_range]; omega)) (by first | omega | (simp only [List.length_map, List.length_range]; omega)) fun v5 w5 E5 G5 H5 => ?_
    repeat' ((conv => whnf); first | (refine Dr.quiet tyOk (by kernel_rfl) ?_) | (refine Rng.mk (by omega) ?_) | (refine Split.pos (by omega) ?_) | (refine Split.neg (by omega) ?_) | (refine Split.mk (fun h => ?_) (fun h => ?_)) | (refine Need.mk (by omega) ?_) | (refine Ints.ln (by assumption) ?_) | (refine Mat.ln (by assumption) ?_) | (refine Ints.ln (Mat.row (by assumption) _ (by omega)) ?_) | (refine Ints.ix (by assumption) (by omega) ?_) | (refine Mat.ix (by assumption) (by omega) ?_) | (refine Ints.ix (Mat.row (by assumption) _ (by omega)) (by omega) ?_) | (refine Ints.ix (c := 0) (by assumption) (by omega) ?_) | (refine Mat.ix (c := 0) (by assumption) (by omega) ?_) | (refine Ints.ix (c := 0) (Mat.row (by assumption) _ (by omega)) (by omega) ?_) | (refine Ints.ixI (by assumption) (by omega) ?_) | (refine Mat.ixI (by assumption) (by omega) ?_) | (refine Ints.ixI (Mat.row (by assumption) _ (by omega)) (by omega) ?_) | (refine Ints.ld (by assumption) (by omega) ?_) | (refine Mat.ld (by assumption) (by omega) ?_) | (refine Ints.ld (Mat.row (by assumption) _ (by omega)) (by omega) ?_) | (refine At.ld (by assumption) rfl ?_) | (refine At.ldN (by assumption) rfl ?_))
    have e0 : 0 + l.length = l.length := by omega
    rw [e0, List.nil_append] at H5
    exact ⟨E5, OI.of H5, Own.base H5 E1.size⟩
end Go.Proofs.Ytebklnmafjbhcaa
set_option linter.unusedVariables false
set_option linter.unusedSimpArgs false
namespace Go.Proofs.Ytebklnmafjbhcaa
open Go.Eng
set_option maxRecDepth 100000

theorem indexfuncR_pc {w : World} {sv : Value} {n : Nat} {xs : List Value} {g : FuncId} {cap : List Value} {p : Nat → Bool} (Hs : Sl 1 w sv n xs) (hf : ∀ i, i < n → PC Try.prog g (xs.getD i undef :: cap) w (.bool (p i))) :
    PC Try.prog 103 [sv, .func (.func g) #[] cap.toArray] w (.int .i64 (firstFrom p n 0)) := by
  refine PC.mk tyOk Try.func103 rfl (by kernel_rfl) fun w1 E1 => ?_
  replace Hs := Hs.ext E1
  replace hf := fun i hi => (hf i hi).ext E1
  have hle := Hs.le
  repeat' ((conv => whnf); first | (refine Dr.quiet tyOk (by kernel_rfl) ?_) | (refine Sl.ln (by assumption) ?_) | (refine Rng.mk (by omega) ?_) | (refine Split.pos (by omega) ?_) | (refine Split.neg (by omega) ?_) | (refine Split.mk (fun h => ?_) (fun h => ?_)) | (refine Need.mk (by omega) ?_) | (refine Ints.ln (by assumption) ?_) | (refine Mat.ln (by assumption) ?_) | (refine Ints.ln (Mat.row (by assumption) _ (by omega)) ?_) | (refine Ints.ix (by assumption) (by omega) ?_) | (refine Mat.ix (by assumption) (by omega) ?_) | (refine Ints.ix (Mat.row (by assumption) _ (by omega)) (by omega) ?_) | (refine Ints.ix (c := 0) (by assumption) (by omega) ?_) | (refine Mat.ix (c := 0) (by assumption) (by omega) ?_) | (refine Ints.ix (c := 0) (Mat.row (by assumption) _ (by omega)) (by omega) ?_) | (refine Ints.ixI (by assumption) (by omega) ?_) | (refine Mat.ixI (by assumption) (by omega) ?_) | (refine Ints.ixI (Mat.row (by assumption) _ (by omega)) (by omega) ?_) | (refine Ints.ld (by assumption) (by omega) ?_) | (refine Mat.ld (by assumption) (by omega) ?_) | (refine Ints.ld (Mat.row (by assumption) _ (by omega)) (by omega) ?_) | (refine At.ld (by assumption) rfl ?_) | (refine At.ldN (by assumption) rfl ?_))
  refine Lp.mk tyOk [false, false, false, false, true, true, false, false, true, true, true, true, true, true, true, true, true, true, true] (fun m fr wr => getK fr 8 fun j => ∃ c : Nat, c ≤ n ∧ m = n - c ∧ j = .int .i64 (c : Int) ∧ firstFrom p n 0 = firstFrom p (n - c) c ∧ wr = w1) n ?_ ?_
  · exact ⟨0, Nat.zero_le _, rfl, rfl, rfl, rfl⟩
  · intro m w3 u4 u5 u8 u9 u10 u11 u12 u13 u14 u15 u16 u17 u18 hR
    obtain ⟨c, hc, rfl, rfl, he, rfl⟩ := hR
    by_cases hlt : c < n
    · have hs : firstFrom p (n - c) c = if p c = true then (c : Int) else firstFrom p (n - (c + 1)) (c + 1) := by rw [show n - c = (n - (c + 1)) + 1 by omega]; rfl
      have hfc := hf c hlt
      cases hp : p c with
      | true =>
        rw [hp] at hfc hs
        repeat' ((conv => whnf); first | (refine Dr.quiet tyOk (by kernel_rfl) ?_) | (refine Sl.ix (by assumption) (by omega) ?_) | (refine Sl.ld1 (by assumption) (by omega) ?_) | (refine VC.pure hfc ?_) | (refine Rng.mk (by omega) ?_) | (refine Split.pos (by omega) ?_) | (refine Split.neg (by omega) ?_) | (refine Split.mk (fun h => ?_) (fun h => ?_)) | (refine Need.mk (by omega) ?_) | (refine Ints.ln (by assumption) ?_) | (refine Mat.ln (by assumption) ?_) | (refine Ints.ln (Mat.row (by assumption) _ (by omega)) ?_) | (refine Ints.ix (by assumption) (by omega) ?_) | (refine Mat.ix (by assumption) (by omega) ?_) | (refine Ints.ix (Mat.row (by assumption) _ (by omega)) (by omega) ?_) | (refine Ints.ix (c := 0) (by assumption) (by omega) ?_) | (refine Mat.ix (c := 0) (by assumption) (by omega) ?_) | (refine Ints.ix (c := 0) (Mat.row (by assumption) _ (by omega)) (by omega) ?_) | (refine Ints.ixI (by assumption) (by omega) ?_) | (refine Mat.ixI (by assumption) (by omega) ?_) | (refine Ints.ixI (Mat.row (by assumption) _ (by omega)) (by omega) ?_) | (refine Ints.ld (by assumption) (by omega) ?_) | (refine Mat.ld (by assumption) (by omega) ?_) | (refine Ints.ld (Mat.row (by assumption) _ (by omega)) (by omega) ?_) | (refine At.ld (by assumption) rfl ?_) | (refine At.ldN (by assumption) rfl ?_))
        rw [he, hs]; exact ⟨rfl, Ext.refl _⟩
      | false =>
        rw [hp] at hfc hs
        repeat' ((conv => whnf); first | (refine Dr.quiet tyOk (by kernel_rfl) ?_) | (refine Sl.ix (by assumption) (by omega) ?_) | (refine Sl.ld1 (by assumption) (by omega) ?_) | (refine VC.pure hfc ?_) | (refine Rng.mk (by omega) ?_) | (refine Split.pos (by omega) ?_) | (refine Split.neg (by omega) ?_) | (refine Split.mk (fun h => ?_) (fun h => ?_)) | (refine Need.mk (by omega) ?_) | (refine Ints.ln (by assumption) ?_) | (refine Mat.ln (by assumption) ?_) | (refine Ints.ln (Mat.row (by assumption) _ (by omega)) ?_) | (refine Ints.ix (by assumption) (by omega) ?_) | (refine Mat.ix (by assumption) (by omega) ?_) | (refine Ints.ix (Mat.row (by assumption) _ (by omega)) (by omega) ?_) | (refine Ints.ix (c := 0) (by assumption) (by omega) ?_) | (refine Mat.ix (c := 0) (by assumption) (by omega) ?_) | (refine Ints.ix (c := 0) (Mat.row (by assumption) _ (by omega)) (by omega) ?_) | (refine Ints.ixI (by assumption) (by omega) ?_) | (refine Mat.ixI (by assumption) (by omega) ?_) | (refine Ints.ixI (Mat.row (by assumption) _ (by omega)) (by omega) ?_) | (refine Ints.ld (by assumption) (by omega) ?_) | (refine Mat.ld (by assumption) (by omega) ?_) | (refine Ints.ld (Mat.row (by assumption) _ (by omega)) (by omega) ?_) | (refine At.ld (by assumption) rfl ?_) | (refine At.ldN (by assumption) rfl ?_))
        exact ⟨_, (by omega : n - (c + 1) < n - c), rfl, c + 1, by omega, rfl, rfl, by rw [he, hs]; rfl, rfl⟩
    · obtain rfl : c = n := by omega
      repeat' ((conv => whnf); first | (refine Dr.quiet tyOk (by kernel_rfl) ?_) | (refine Rng.mk (by omega) ?_) | (refine Split.pos (by omega) ?_) | (refine Split.neg (by omega) ?_) | (refine Split.mk (fun h => ?_) (fun h => ?_)) | (refine Need.mk (by omega) ?_) | (refine Ints.ln (by assumption) ?_) | (refine Mat.ln (by assumption) ?_) | (refine Ints.ln (Mat.row (by assumption) _ (by omega)) ?_) | (refine Ints.ix (by assumption) (by omega) ?_) | (refine Mat.ix (by assumption) (by omega) ?_) | (refine Ints.ix (Mat.row (by assumption) _ (by omega)) (by omega) ?_) | (refine Ints.ix (c := 0) (by assumption) (by omega) ?_) | (refine Mat.ix (c := 0) (by assumption) (by omega) ?_) | (refine Ints.ix (c := 0) (Mat.row (by assumption) _ (by omega)) (by omega) ?_) | (refine Ints.ixI (by assumption) (by omega) ?_) | (refine Mat.ixI (by assumption) (by omega) ?_) | (refine Ints.ixI (Mat.row (by assumption) _ (by omega)) (by omega) ?_) | (refine Ints.ld (by assumption) (by omega) ?_) | (refine Mat.ld (by assumption) (by omega) ?_) | (refine Ints.ld (Mat.row (by assumption) _ (by omega)) (by omega) ?_) | (refine At.ld (by assumption) rfl ?_) | (refine At.ldN (by assumption) rfl ?_))
      rw [he, Nat.sub_self]; exact ⟨rfl, Ext.refl _⟩

theorem containsfuncR_pc {w : World} {sv : Value} {n : Nat} {xs : List Value} {g : FuncId} {cap : List Value} {p : Nat → Bool} (Hs : Sl 1 w sv n xs) (hf : ∀ i, i < n → PC Try.prog g (xs.getD i undef :: cap) w (.bool (p i))) :
    PC Try.prog 79 [sv, .func (.func g) #[] cap.toArray] w (.bool (tf (∃ i, i < n ∧ p i = true))) := by
  refine PC.mk tyOk Try.func79 rfl (by kernel_rfl) fun w1 E1 => ?_
  replace Hs := Hs.ext E1
  replace hf := fun i hi => (hf i hi).ext E1
  have hs := firstFrom_spec p n 0
  repeat' ((conv => whnf); first | (refine Dr.quiet tyOk (by kernel_rfl) ?_) | (refine VC.pure (indexfuncR_pc Hs hf) ?_) | (refine Rng.mk (by omega) ?_) | (refine Split.pos (by omega) ?_) | (refine Split.neg (by omega) ?_) | (refine Split.mk (fun h => ?_) (fun h => ?_)) | (refine Need.mk (by omega) ?_) | (refine Ints.ln (by assumption) ?_) | (refine Mat.ln (by assumption) ?_) | (refine Ints.ln (Mat.row (by assumption) _ (by omega)) ?_) | (refine Ints.ix (by assumption) (by omega) ?_) | (refine Mat.ix (by assumption) (by omega) ?_) | (refine Ints.ix (Mat.row (by assumption) _ (by omega)) (by omega) ?_) | (refine Ints.ix (c := 0) (by assumption) (by omega) ?_) | (refine Mat.ix (c := 0) (by assumption) (by omega) ?_) | (refine Ints.ix (c := 0) (Mat.row (by assumption) _ (by omega)) (by omega) ?_) | (refine Ints.ixI (by assumption) (by omega) ?_) | (refine Mat.ixI (by assumption) (by omega) ?_) | (refine Ints.ixI (Mat.row (by assumption) _ (by omega)) (by omega) ?_) | (refine Ints.ld (by assumption) (by omega) ?_) | (refine Mat.ld (by assumption) (by omega) ?_) | (refine Ints.ld (Mat.row (by assumption) _ (by omega)) (by omega) ?_) | (refine At.ld (by assumption) rfl ?_) | (refine At.ldN (by assumption) rfl ?_))
  · rw [tf_t (p := ∃ i, i < n ∧ p i = true) (by
      rcases hs with ⟨j, h1, h2, h3, _⟩ | ⟨h1, _⟩
      · exact ⟨j, by omega, h3⟩
      · omega)]; exact ⟨rfl, Ext.refl _⟩
  · rw [tf_f (p := ∃ i, i < n ∧ p i = true) (by
      rintro ⟨i, hi, hp⟩
      rcases hs with ⟨j, h1, h2, h3, h4, _⟩ | ⟨_, h2⟩
      · omega
      · have := h2 i (by omega) (by omega); rw [hp] at this; cases this)]; exact ⟨rfl, Ext.refl _⟩
theorem indexfuncI_pc {w : World} {sv : Value} {n : Nat} {xs : List Value} {g : FuncId} {cap : List Value} {p : Nat → Bool} (Hs : Sl 1 w sv n xs) (hf : ∀ i, i < n → PC Try.prog g (xs.getD i undef :: cap) w (.bool (p i))) :
    PC Try.prog 94 [sv, .func (.func g) #[] cap.toArray] w (.int .i64 (firstFrom p n 0)) := by
  refine PC.mk tyOk Try.func94 rfl (by kernel_rfl) fun w1 E1 => ?_
  replace Hs := Hs.ext E1
  replace hf := fun i hi => (hf i hi).ext E1
  have hle := Hs.le
  repeat' ((conv => whnf); first | (refine Dr.quiet tyOk (by kernel_rfl) ?_) | (refine Sl.ln (by assumption) ?_) | (refine Rng.mk (by omega) ?_) | (refine Split.pos (by omega) ?_) | (refine Split.neg (by omega) ?_) | (refine Split.mk (fun h => ?_) (fun h => ?_)) | (refine Need.mk (by omega) ?_) | (refine Ints.ln (by assumption) ?_) | (refine Mat.ln (by assumption) ?_) | (refine Ints.ln (Mat.row (by assumption) _ (by omega)) ?_) | (refine Ints.ix (by assumption) (by omega) ?_) | (refine Mat.ix (by assumption) (by omega) ?_) | (refine Ints.ix (Mat.row (by assumption) _ (by omega)) (by omega) ?_) | (refine Ints.ix (c := 0) (by assumption) (by omega) ?_) | (refine Mat.ix (c := 0) (by assumption) (by omega) ?_) | (refine Ints.ix (c := 0) (Mat.row (by assumption) _ (by omega)) (by omega) ?_) | (refine Ints.ixI (by assumption) (by omega) ?_) | (refine Mat.ixI (by assumption) (by omega) ?_) | (refine Ints.ixI (Mat.row (by assumption) _ (by omega)) (by omega) ?_) | (refine Ints.ld (by assumption) (by omega) ?_) | (refine Mat.ld (by assumption) (by omega) ?_) | (refine Ints.ld (Mat.row (by assumption) _ (by omega)) (by omega) ?_) | (refine At.ld (by assumption) rfl ?_) | (refine At.ldN (by assumption) rfl ?_))
  refine Lp.mk tyOk [false, false, false, false, true, true, false, false, true, true, true, true, true, true, true, true, true, true, true] (fun m fr wr => getK fr 8 fun j => ∃ c : Nat, c ≤ n ∧ m = n - c ∧ j = .int .i64 (c : Int) ∧ firstFrom p n 0 = firstFrom p (n - c) c ∧ wr = w1) n ?_ ?_
  · exact ⟨0, Nat.zero_le _, rfl, rfl, rfl, rfl⟩
  · intro m w3 u4 u5 u8 u9 u10 u11 u12 u13 u14 u15 u16 u17 u18 hR
    obtain ⟨c, hc, rfl, rfl, he, rfl⟩ := hR
    by_cases hlt : c < n
    · have hs : firstFrom p (n - c) c = if p c = true then (c : Int) else firstFrom p (n - (c + 1)) (c + 1) := by rw [show n - c = (n - (c + 1)) + 1 by omega]; rfl
      have hfc := hf c hlt
      cases hp : p c with
      | true =>
        rw [hp] at hfc hs
        repeat' ((conv => whnf); first | (refine Dr.quiet tyOk (by kernel_rfl) ?_) | (refine Sl.ix (by assumption) (by omega) ?_) | (refine Sl.ld1 (by assumption) (by omega) ?_) | (refine VC.pure hfc ?_) | (refine Rng.mk (by omega) ?_) | (refine Split.pos (by omega) ?_) | (refine Split.neg (by omega) ?_) | (refine Split.mk (fun h => ?_) (fun h => ?_)) | (refine Need.mk (by omega) ?_) | (refine Ints.ln (by assumption) ?_) | (refine Mat.ln (by assumption) ?_) | (refine Ints.ln (Mat.row (by assumption) _ (by omega)) ?_) | (refine Ints.ix (by assumption) (by omega) ?_) | (refine Mat.ix (by assumption) (by omega) ?_) | (refine Ints.ix (Mat.row (by assumption) _ (by omega)) (by omega) ?_) | (refine Ints.ix (c := 0) (by assumption) (by omega) ?_) | (refine Mat.ix (c := 0) (by assumption) (by omega) ?_) | (refine Ints.ix (c := 0) (Mat.row (by assumption) _ (by omega)) (by omega) ?_) | (refine Ints.ixI (by assumption) (by omega) ?_) | (refine Mat.ixI (by assumption) (by omega) ?_) | (refine Ints.ixI (Mat.row (by assumption) _ (by omega)) (by omega) ?_) | (refine Ints.ld (by assumption) (by omega) ?_) | (refine Mat.ld (by assumption) (by omega) ?_) | (refine Ints.ld (Mat.row (by assumption) _ (by omega)) (by omega) ?_) | (refine At.ld (by assumption) rfl ?_) | (refine At.ldN (by assumption) rfl ?_))
        rw [he, hs]; exact ⟨rfl, Ext.refl _⟩
      | false =>
        rw [hp] at hfc hs
        repeat' ((conv => whnf); first | (refine Dr.quiet tyOk (by kernel_rfl) ?_) | (refine Sl.ix (by assumption) (by omega) ?_) | (refine Sl.ld1 (by assumption) (by omega) ?_) | (refine VC.pure hfc ?_) | (refine Rng.mk (by omega) ?_) | (refine Split.pos (by omega) ?_) | (refine Split.neg (by omega) ?_) | (refine Split.mk (fun h => ?_) (fun h => ?_)) | (refine Need.mk (by omega) ?_) | (refine Ints.ln (by assumption) ?_) | (refine Mat.ln (by assumption) ?_) | (refine Ints.ln (Mat.row (by assumption) _ (by omega)) ?_) | (refine Ints.ix (by assumption) (by omega) ?_) | (refine Mat.ix (by assumption) (by omega) ?_) | (refine Ints.ix (Mat.row (by assumption) _ (by omega)) (by omega) ?_) | (refine Ints.ix (c := 0) (by assumption) (by omega) ?_) | (refine Mat.ix (c := 0) (by assumption) (by omega) ?_) | (refine Ints.ix (c := 0) (Mat.row (by assumption) _ (by omega)) (by omega) ?_) | (refine Ints.ixI (by assumption) (by omega) ?_) | (refine Mat.ixI (by assumption) (by omega) ?_) | (refine Ints.ixI (Mat.row (by assumption) _ (by omega)) (by omega) ?_) | (refine Ints.ld (by assumption) (by omega) ?_) | (refine Mat.ld (by assumption) (by omega) ?_) | (refine Ints.ld (Mat.row (by assumption) _ (by omega)) (by omega) ?_) | (refine At.ld (by assumption) rfl ?_) | (refine At.ldN (by assumption) rfl ?_))
        exact ⟨_, (by omega : n - (c + 1) < n - c), rfl, c + 1, by omega, rfl, rfl, by rw [he, hs]; rfl, rfl⟩
    · obtain rfl : c = n := by omega
      repeat' ((conv => whnf); first | (refine Dr.quiet tyOk (by kernel_rfl) ?_) | (refine Rng.mk (by omega) ?_) | (refine Split.pos (by omega) ?_) | (refine Split.neg (by omega) ?_) | (refine Split.mk (fun h => ?_) (fun h => ?_)) | (refine Need.mk (by omega) ?_) | (refine Ints.ln (by assumption) ?_) | (refine Mat.ln (by assumption) ?_) | (refine Ints.ln (Mat.row (by assumption) _ (by omega)) ?_) | (refine Ints.ix (by assumption) (by omega) ?_) | (refine Mat.ix (by assumption) (by omega) ?_) | (refine Ints.ix (Mat.row (by assumption) _ (by omega)) (by omega) ?_) | (refine Ints.ix (c := 0) (by assumption) (by omega) ?_) | (refine Mat.ix (c := 0) (by assumption) (by omega) ?_) | (refine Ints.ix (c := 0) (Mat.row (by assumption) _ (by omega)) (by omega) ?_) | (refine Ints.ixI (by assumption) (by omega) ?_) | (refine Mat.ixI (by assumption) (by omega) ?_) | (refine Ints.ixI (Mat.row (by assumption) _ (by omega)) (by omega) ?_) | (refine Ints.ld (by assumption) (by omega) ?_) | (refine Mat.ld (by assumption) (by omega) ?_) | (refine Ints.ld (Mat.row (by assumption) _ (by omega)) (by omega) ?_) | (refine At.ld (by assumption) rfl ?_) | (refine At.ldN (by assumption) rfl ?_))
      rw [he, Nat.sub_self]; exact ⟨rfl, Ext.refl _⟩

theorem containsfuncI_pc {w : World} {sv : Value} {n : Nat} {xs : List Value} {g : FuncId} {cap : List Value} {p : Nat → Bool} (Hs : Sl 1 w sv n xs) (hf : ∀ i, i < n → PC Try.prog g (xs.getD i undef :: cap) w (.bool (p i))) :
    PC Try.prog 63 [sv, .func (.func g) #[] cap.toArray] w (.bool (tf (∃ i, i < n ∧ p i = true))) := by
  refine PC.mk tyOk Try.func63 rfl (by kernel_rfl) fun w1 E1 => ?_
  replace Hs := Hs.ext E1
  replace hf := fun i hi => (hf i hi).ext E1
  have hs := firstFrom_spec p n 0
  repeat' ((conv => whnf); first | (refine Dr.quiet tyOk (by kernel_rfl) ?_) | (refine VC.pure (indexfuncI_pc Hs hf) ?_) | (refine Rng.mk (by omega) ?_) | (refine Split.pos (by omega) ?_) | (refine Split.neg (by omega) ?_) | (refine Split.mk (fun h => ?_) (fun h => ?_)) | (refine Need.mk (by omega) ?_) | (refine Ints.ln (by assumption) ?_) | (refine Mat.ln (by assumption) ?_) | (refine Ints.ln (Mat.row (by assumption) _ (by omega)) ?_) | (refine Ints.ix (by assumption) (by omega) ?_) | (refine Mat.ix (by assumption) (by omega) ?_) | (refine Ints.ix (Mat.row (by assumption) _ (by omega)) (by omega) ?_) | (refine Ints.ix (c := 0) (by assumption) (by omega) ?_) | (refine Mat.ix (c := 0) (by assumption) (by omega) ?_) | (refine Ints.ix (c := 0) (Mat.row (by assumption) _ (by omega)) (by omega) ?_) | (refine Ints.ixI (by assumption) (by omega) ?_) | (refine Mat.ixI (by assumption) (by omega) ?_) | (refine Ints.ixI (Mat.row (by assumption) _ (by omega)) (by omega) ?_) | (refine Ints.ld (by assumption) (by omega) ?_) | (refine Mat.ld (by assumption) (by omega) ?_) | (refine Ints.ld (Mat.row (by assumption) _ (by omega)) (by omega) ?_) | (refine At.ld (by assumption) rfl ?_) | (refine At.ldN (by assumption) rfl ?_))
  · rw [tf_t (p := ∃ i, i < n ∧ p i = true) (by
      rcases hs with ⟨j, h1, h2, h3, _⟩ | ⟨h1, _⟩
      · exact ⟨j, by omega, h3⟩
      · omega)]; exact ⟨rfl, Ext.refl _⟩
  · rw [tf_f (p := ∃ i, i < n ∧ p i = true) (by
      rintro ⟨i, hi, hp⟩
      rcases hs with ⟨j, h1, h2, h3, h4, _⟩ | ⟨_, h2⟩
      · omega
      · have := h2 i (by omega) (by omega); rw [hp] at this; cases this)]; exact ⟨rfl, Ext.refl _⟩

theorem check1_pc {w : World} {rv : Value} {l : List Int} (Hr : Ints w rv l) : PC Try.prog 95 [rv] w (.bool (decide (10 < l.length))) := by
  refine PC.mk tyOk Try.func95 rfl (by kernel_rfl) fun w1 E1 => ?_
  replace Hr := Hr.ext E1
  repeat' ((conv => whnf); first | (refine Dr.quiet tyOk (by kernel_rfl) ?_) | (refine Rng.mk (by omega) ?_) | (refine Split.pos (by omega) ?_) | (refine Split.neg (by omega) ?_) | (refine Split.mk (fun h => ?_) (fun h => ?_)) | (refine Need.mk (by omega) ?_) | (refine Ints.ln (by assumption) ?_) | (refine Mat.ln (by assumption) ?_) | (refine Ints.ln (Mat.row (by assumption) _ (by omega)) ?_) | (refine Ints.ix (by assumption) (by omega) ?_) | (refine Mat.ix (by assumption) (by omega) ?_) | (refine Ints.ix (Mat.row (by assumption) _ (by omega)) (by omega) ?_) | (refine Ints.ix (c := 0) (by assumption) (by omega) ?_) | (refine Mat.ix (c := 0) (by assumption) (by omega) ?_) | (refine Ints.ix (c := 0) (Mat.row (by assumption) _ (by omega)) (by omega) ?_) | (refine Ints.ixI (by assumption) (by omega) ?_) | (refine Mat.ixI (by assumption) (by omega) ?_) | (refine Ints.ixI (Mat.row (by assumption) _ (by omega)) (by omega) ?_) | (refine Ints.ld (by assumption) (by omega) ?_) | (refine Mat.ld (by assumption) (by omega) ?_) | (refine Ints.ld (Mat.row (by assumption) _ (by omega)) (by omega) ?_) | (refine At.ld (by assumption) rfl ?_) | (refine At.ldN (by assumption) rfl ?_))
  · rw [decide_eq_true (by omega)]; exact ⟨rfl, Ext.refl _⟩
  · rw [decide_eq_false (by omega)]; exact ⟨rfl, Ext.refl _⟩

def odd (x : Int) : Bool := decide (x < 0) || decide (1000 < x)
theorem check2_pc {w : World} {x : Int} : PC Try.prog 96 [.int .i64 x] w (.bool (odd x)) := by
  refine PC.mk tyOk Try.func96 rfl (by kernel_rfl) fun w1 E1 => ?_
  unfold odd
  repeat' ((conv => whnf); first | (refine Dr.quiet tyOk (by kernel_rfl) ?_) | (refine Rng.mk (by omega) ?_) | (refine Split.pos (by omega) ?_) | (refine Split.neg (by omega) ?_) | (refine Split.mk (fun h => ?_) (fun h => ?_)) | (refine Need.mk (by omega) ?_) | (refine Ints.ln (by assumption) ?_) | (refine Mat.ln (by assumption) ?_) | (refine Ints.ln (Mat.row (by assumption) _ (by omega)) ?_) | (refine Ints.ix (by assumption) (by omega) ?_) | (refine Mat.ix (by assumption) (by omega) ?_) | (refine Ints.ix (Mat.row (by assumption) _ (by omega)) (by omega) ?_) | (refine Ints.ix (c := 0) (by assumption) (by omega) ?_) | (refine Mat.ix (c := 0) (by assumption) (by omega) ?_) | (refine Ints.ix (c := 0) (Mat.row (by assumption) _ (by omega)) (by omega) ?_) | (refine Ints.ixI (by assumption) (by omega) ?_) | (refine Mat.ixI (by assumption) (by omega) ?_) | (refine Ints.ixI (Mat.row (by assumption) _ (by omega)) (by omega) ?_) | (refine Ints.ld (by assumption) (by omega) ?_) | (refine Mat.ld (by assumption) (by omega) ?_) | (refine Ints.ld (Mat.row (by assumption) _ (by omega)) (by omega) ?_) | (refine At.ld (by assumption) rfl ?_) | (refine At.ldN (by assumption) rfl ?_))
  · rw [decide_eq_true (by omega)]; exact ⟨rfl, Ext.refl _⟩
  · rw [decide_eq_false (by omega), decide_eq_true (by omega)]; exact ⟨rfl, Ext.refl _⟩
  · rw [decide_eq_false (by omega), decide_eq_false (by omega)]; exact ⟨rfl, Ext.refl _⟩

theorem Ints.elem {w : World} {v : Value} {l : List Int} {i : Nat} (h : i < l.length) : (l.map i64v).getD i undef = .int .i64 (l.getD i 0) := by simp [List.getD, h, i64v]

theorem gcheck_pc {w : World} {gv : Value} {vs : List Value} {rr : List (List Int)} (Hg : Mat w gv vs rr) :
    PC Try.prog 65 [.agg #[gv]] w (.int .i64 (chk rr)) := by
  refine PC.mk tyOk Try.func65 rfl (by kernel_rfl) fun w1 E1 => ?_
  replace Hg := Hg.ext E1
  have hle := Hg.top.le
  refine Bx.agg fun b w2 E2 _ Hb _ => ?_
  replace Hg := Hg.ext E2
  have hbig := containsfuncR_pc (g := 95) (cap := []) (p := fun i => decide (10 < (rr.getD i []).length)) Hg.top (fun i hi => check1_pc (Hg.row i hi))
  by_cases h6 : 6 < rr.length
  · repeat' ((conv => whnf); first | (refine Dr.quiet tyOk (by kernel_rfl) ?_) | (refine Rng.mk (by omega) ?_) | (refine Split.pos (by omega) ?_) | (refine Split.neg (by omega) ?_) | (refine Split.mk (fun h => ?_) (fun h => ?_)) | (refine Need.mk (by omega) ?_) | (refine Ints.ln (by assumption) ?_) | (refine Mat.ln (by assumption) ?_) | (refine Ints.ln (Mat.row (by assumption) _ (by omega)) ?_) | (refine Ints.ix (by assumption) (by omega) ?_) | (refine Mat.ix (by assumption) (by omega) ?_) | (refine Ints.ix (Mat.row (by assumption) _ (by omega)) (by omega) ?_) | (refine Ints.ix (c := 0) (by assumption) (by omega) ?_) | (refine Mat.ix (c := 0) (by assumption) (by omega) ?_) | (refine Ints.ix (c := 0) (Mat.row (by assumption) _ (by omega)) (by omega) ?_) | (refine Ints.ixI (by assumption) (by omega) ?_) | (refine Mat.ixI (by assumption) (by omega) ?_) | (refine Ints.ixI (Mat.row (by assumption) _ (by omega)) (by omega) ?_) | (refine Ints.ld (by assumption) (by omega) ?_) | (refine Mat.ld (by assumption) (by omega) ?_) | (refine Ints.ld (Mat.row (by assumption) _ (by omega)) (by omega) ?_) | (refine At.ld (by assumption) rfl ?_) | (refine At.ldN (by assumption) rfl ?_))
    rw [chk_big (.inl h6)]; exact ⟨rfl, E2⟩
  · by_cases h10 : ∃ i, i < rr.length ∧ decide (10 < (rr.getD i []).length) = true
    · rw [tf_t h10] at hbig
      repeat' ((conv => whnf); first | (refine Dr.quiet tyOk (by kernel_rfl) ?_) | (refine VC.pure hbig ?_) | (refine Rng.mk (by omega) ?_) | (refine Split.pos (by omega) ?_) | (refine Split.neg (by omega) ?_) | (refine Split.mk (fun h => ?_) (fun h => ?_)) | (refine Need.mk (by omega) ?_) | (refine Ints.ln (by assumption) ?_) | (refine Mat.ln (by assumption) ?_) | (refine Ints.ln (Mat.row (by assumption) _ (by omega)) ?_) | (refine Ints.ix (by assumption) (by omega) ?_) | (refine Mat.ix (by assumption) (by omega) ?_) | (refine Ints.ix (Mat.row (by assumption) _ (by omega)) (by omega) ?_) | (refine Ints.ix (c := 0) (by assumption) (by omega) ?_) | (refine Mat.ix (c := 0) (by assumption) (by omega) ?_) | (refine Ints.ix (c := 0) (Mat.row (by assumption) _ (by omega)) (by omega) ?_) | (refine Ints.ixI (by assumption) (by omega) ?_) | (refine Mat.ixI (by assumption) (by omega) ?_) | (refine Ints.ixI (Mat.row (by assumption) _ (by omega)) (by omega) ?_) | (refine Ints.ld (by assumption) (by omega) ?_) | (refine Mat.ld (by assumption) (by omega) ?_) | (refine Ints.ld (Mat.row (by assumption) _ (by omega)) (by omega) ?_) | (refine At.ld (by assumption) rfl ?_) | (refine At.ldN (by assumption) rfl ?_))
      obtain ⟨i, hi, hh⟩ := h10
      rw [chk_big (.inr ⟨i, hi, by simpa using hh⟩)]; exact ⟨rfl, E2⟩
    · rw [tf_f h10] at hbig
      have hnb : ¬ bigP rr := by
        rintro (h1 | ⟨i, hi, h1⟩)
        · omega
        · exact h10 ⟨i, hi, by simpa using h1⟩
      repeat' ((conv => whnf); first | (refine Dr.quiet tyOk (by kernel_rfl) ?_) | (refine VC.pure hbig ?_) | (refine Rng.mk (by omega) ?_) | (refine Split.pos (by omega) ?_) | (refine Split.neg (by omega) ?_) | (refine Split.mk (fun h => ?_) (fun h => ?_)) | (refine Need.mk (by omega) ?_) | (refine Ints.ln (by assumption) ?_) | (refine Mat.ln (by assumption) ?_) | (refine Ints.ln (Mat.row (by assumption) _ (by omega)) ?_) | (refine Ints.ix (by assumption) (by omega) ?_) | (refine Mat.ix (by assumption) (by omega) ?_) | (refine Ints.ix (Mat.row (by assumption) _ (by omega)) (by omega) ?_) | (refine Ints.ix (c := 0) (by assumption) (by omega) ?_) | (refine Mat.ix (c := 0) (by assumption) (by omega) ?_) | (refine Ints.ix (c := 0) (Mat.row (by assumption) _ (by omega)) (by omega) ?_) | (refine Ints.ixI (by assumption) (by omega) ?_) | (refine Mat.ixI (by assumption) (by omega) ?_) | (refine Ints.ixI (Mat.row (by assumption) _ (by omega)) (by omega) ?_) | (refine Ints.ld (by assumption) (by omega) ?_) | (refine Mat.ld (by assumption) (by omega) ?_) | (refine Ints.ld (Mat.row (by assumption) _ (by omega)) (by omega) ?_) | (refine At.ld (by assumption) rfl ?_) | (refine At.ldN (by assumption) rfl ?_))
      · rw [chk_bad hnb (.inl (by omega))]; exact ⟨rfl, E2⟩
      · refine Lp.mk tyOk [false, false, true, false, false, true, false, false, false, false, false, false, false, false, false, false, false, false, false, false, false, false, true, true, true, true, true, true, true, true, true, true, true, true, true, true, true, true, true, true] (fun m fr wr => getK fr 22 fun j => ∃ c : Nat, c ≤ rr.length ∧ m = rr.length - c ∧ j = .int .i64 (c : Int) ∧ (∀ i, i < c → (rr.getD i []).length = (rr.getD 0 []).length ∧ ∀ j, j < (rr.getD i []).length → 0 ≤ val rr i j ∧ val rr i j ≤ 1000) ∧ wr = w2) rr.length ?_ ?_
        · exact ⟨0, Nat.zero_le _, rfl, rfl, fun i hi => absurd hi (Nat.not_lt_zero _), rfl⟩
        · intro m w3 u2 u5 u22 u23 u24 u25 u26 u27 u28 u29 u30 u31 u32 u33 u34 u35 u36 u37 u38 u39 hR
          obtain ⟨c, hc, rfl, rfl, hok, rfl⟩ := hR
          by_cases hlt : c < rr.length
          · have hodd := containsfuncI_pc (g := 96) (cap := []) (p := fun j => odd (val rr c j)) (Hg.row c hlt) (fun j hj => by rw [Ints.elem (w := w3) (v := gv) hj]; exact check2_pc)
            by_cases ho : ∃ j, j < (rr.getD c []).length ∧ odd (val rr c j) = true
            · rw [tf_t ho] at hodd
              repeat' ((conv => whnf); first | (refine Dr.quiet tyOk (by kernel_rfl) ?_) | (refine VC.pure hodd ?_) | (refine Rng.mk (by omega) ?_) | (refine Split.pos (by omega) ?_) | (refine Split.neg (by omega) ?_) | (refine Split.mk (fun h => ?_) (fun h => ?_)) | (refine Need.mk (by omega) ?_) | (refine Ints.ln (by assumption) ?_) | (refine Mat.ln (by assumption) ?_) | (refine Ints.ln (Mat.row (by assumption) _ (by omega)) ?_) | (refine Ints.ix (by assumption) (by omega) ?_) | (refine Mat.ix (by assumption) (by omega) ?_) | (refine Ints.ix (Mat.row (by assumption) _ (by omega)) (by omega) ?_) | (refine Ints.ix (c := 0) (by assumption) (by omega) ?_) | (refine Mat.ix (c := 0) (by assumption) (by omega) ?_) | (refine Ints.ix (c := 0) (Mat.row (by assumption) _ (by omega)) (by omega) ?_) | (refine Ints.ixI (by assumption) (by omega) ?_) | (refine Mat.ixI (by assumption) (by omega) ?_) | (refine Ints.ixI (Mat.row (by assumption) _ (by omega)) (by omega) ?_) | (refine Ints.ld (by assumption) (by omega) ?_) | (refine Mat.ld (by assumption) (by omega) ?_) | (refine Ints.ld (Mat.row (by assumption) _ (by omega)) (by omega) ?_) | (refine At.ld (by assumption) rfl ?_) | (refine At.ldN (by assumption) rfl ?_))
              · obtain ⟨j, hj, hh⟩ := ho
                simp only [odd, Bool.or_eq_true, decide_eq_true_eq] at hh
                rw [chk_bad hnb (.inr ⟨c, hlt, .inr ⟨j, hj, hh⟩⟩)]; exact ⟨rfl, E2⟩
              · rw [chk_bad hnb (.inr ⟨c, hlt, .inl (by omega)⟩)]; exact ⟨rfl, E2⟩
            · rw [tf_f ho] at hodd
              repeat' ((conv => whnf); first | (refine Dr.quiet tyOk (by kernel_rfl) ?_) | (refine VC.pure hodd ?_) | (refine Rng.mk (by omega) ?_) | (refine Split.pos (by omega) ?_) | (refine Split.neg (by omega) ?_) | (refine Split.mk (fun h => ?_) (fun h => ?_)) | (refine Need.mk (by omega) ?_) | (refine Ints.ln (by assumption) ?_) | (refine Mat.ln (by assumption) ?_) | (refine Ints.ln (Mat.row (by assumption) _ (by omega)) ?_) | (refine Ints.ix (by assumption) (by omega) ?_) | (refine Mat.ix (by assumption) (by omega) ?_) | (refine Ints.ix (Mat.row (by assumption) _ (by omega)) (by omega) ?_) | (refine Ints.ix (c := 0) (by assumption) (by omega) ?_) | (refine Mat.ix (c := 0) (by assumption) (by omega) ?_) | (refine Ints.ix (c := 0) (Mat.row (by assumption) _ (by omega)) (by omega) ?_) | (refine Ints.ixI (by assumption) (by omega) ?_) | (refine Mat.ixI (by assumption) (by omega) ?_) | (refine Ints.ixI (Mat.row (by assumption) _ (by omega)) (by omega) ?_) | (refine Ints.ld (by assumption) (by omega) ?_) | (refine Mat.ld (by assumption) (by omega) ?_) | (refine Ints.ld (Mat.row (by assumption) _ (by omega)) (by omega) ?_) | (refine At.ld (by assumption) rfl ?_) | (refine At.ldN (by assumption) rfl ?_))
              · refine ⟨_, (by omega : rr.length - (c + 1) < rr.length - c), rfl, c + 1, by omega, rfl, rfl, fun i hi => ?_, rfl⟩
                by_cases e : i = c
                · subst e
                  refine ⟨by omega, fun j hj => ?_⟩
                  have hh : ¬ odd (val rr i j) = true := fun hh => ho ⟨j, hj, hh⟩
                  simp only [odd, Bool.or_eq_true, decide_eq_true_eq] at hh
                  omega
                · exact hok i (by omega)
              · rw [chk_bad hnb (.inr ⟨c, hlt, .inl (by omega)⟩)]; exact ⟨rfl, E2⟩
          · repeat' ((conv => whnf); first | (refine Dr.quiet tyOk (by kernel_rfl) ?_) | (refine Rng.mk (by omega) ?_) | (refine Split.pos (by omega) ?_) | (refine Split.neg (by omega) ?_) | (refine Split.mk (fun h => ?_) (fun h => ?_)) | (refine Need.mk (by omega) ?_) | (refine Ints.ln (by assumption) ?_) | (refine Mat.ln (by assumption) ?_) | (refine Ints.ln (Mat.row (by assumption) _ (by omega)) ?_) | (refine Ints.ix (by assumption) (by omega) ?_) | (refine Mat.ix (by assumption) (by omega) ?_) | (refine Ints.ix (Mat.row (by assumption) _ (by omega)) (by omega) ?_) | (refine Ints.ix (c := 0) (by assumption) (by omega) ?_) | (refine Mat.ix (c := 0) (by assumption) (by omega) ?_) | (refine Ints.ix (c := 0) (Mat.row (by assumption) _ (by omega)) (by omega) ?_) | (refine Ints.ixI (by assumption) (by omega) ?_) | (refine Mat.ixI (by assumption) (by omega) ?_) | (refine Ints.ixI (Mat.row (by assumption) _ (by omega)) (by omega) ?_) | (refine Ints.ld (by assumption) (by omega) ?_) | (refine Mat.ld (by assumption) (by omega) ?_) | (refine Ints.ld (Mat.row (by assumption) _ (by omega)) (by omega) ?_) | (refine At.ld (by assumption) rfl ?_) | (refine At.ldN (by assumption) rfl ?_))
            have hnb2 : ¬ badP rr := by
              rintro (h1 | ⟨i, hi, h1 | ⟨j, hj, h1⟩⟩)
              · omega
              · exact h1 (hok i (by omega)).1
              · have := (hok i (by omega)).2 j hj; omega
            rw [chk_ok hnb hnb2]; exact ⟨rfl, E2⟩

theorem within1_pc {w : World} {b1 b2 : Nat} {lo hi x : Int} (H1 : At w ⟨b1, 0, none⟩ [.int .i64 lo]) (H2 : At w ⟨b2, 0, none⟩ [.int .i64 hi]) :
    PC Try.prog 104 [.int .i64 x, .pointer (some ⟨b1, 0, none⟩), .pointer (some ⟨b2, 0, none⟩)] w (.bool (decide (x < lo) || decide (hi ≤ x))) := by
  refine PC.mk tyOk Try.func104 rfl (by kernel_rfl) fun w1 E1 => ?_
  replace H1 := H1.ext E1
  replace H2 := H2.ext E1
  repeat' ((conv => whnf); first | (refine Dr.quiet tyOk (by kernel_rfl) ?_) | (refine At.ld (i := 0) H1 rfl ?_) | (refine At.ld (i := 0) H2 rfl ?_) | (refine Rng.mk (by omega) ?_) | (refine Split.pos (by omega) ?_) | (refine Split.neg (by omega) ?_) | (refine Split.mk (fun h => ?_) (fun h => ?_)) | (refine Need.mk (by omega) ?_) | (refine Ints.ln (by assumption) ?_) | (refine Mat.ln (by assumption) ?_) | (refine Ints.ln (Mat.row (by assumption) _ (by omega)) ?_) | (refine Ints.ix (by assumption) (by omega) ?_) | (refine Mat.ix (by assumption) (by omega) ?_) | (refine Ints.ix (Mat.row (by assumption) _ (by omega)) (by omega) ?_) | (refine Ints.ix (c := 0) (by assumption) (by omega) ?_) | (refine Mat.ix (c := 0) (by assumption) (by omega) ?_) | (refine Ints.ix (c := 0) (Mat.row (by assumption) _ (by omega)) (by omega) ?_) | (refine Ints.ixI (by assumption) (by omega) ?_) | (refine Mat.ixI (by assumption) (by omega) ?_) | (refine Ints.ixI (Mat.row (by assumption) _ (by omega)) (by omega) ?_) | (refine Ints.ld (by assumption) (by omega) ?_) | (refine Mat.ld (by assumption) (by omega) ?_) | (refine Ints.ld (Mat.row (by assumption) _ (by omega)) (by omega) ?_) | (refine At.ld (by assumption) rfl ?_) | (refine At.ldN (by assumption) rfl ?_))
  · rw [decide_eq_true (by omega)]; exact ⟨rfl, Ext.refl _⟩
  · rw [decide_eq_false (by omega), decide_eq_true (by omega)]; exact ⟨rfl, Ext.refl _⟩
  · rw [decide_eq_false (by omega), decide_eq_false (by omega)]; exact ⟨rfl, Ext.refl _⟩

theorem within_pc {w : World} {sv : Value} {l : List Int} {lo hi : Int} (Hs : Ints w sv l) :
    PC Try.prog 92 [.int .i64 lo, .int .i64 hi, sv] w (.bool (tf (∀ i, i < l.length → lo ≤ l.getD i 0 ∧ l.getD i 0 < hi))) := by
  refine PC.mk tyOk Try.func92 rfl (by kernel_rfl) fun w1 E1 => ?_
  replace Hs := Hs.ext E1
  refine Bx.one rfl fun b1 w2 E2 _ H1 _ => ?_
  replace Hs := Hs.ext E2
  refine Bx.one rfl fun b2 w3 E3 _ H2 _ => ?_
  replace Hs := Hs.ext E3
  replace H1 := H1.ext E3
  have hc := containsfuncI_pc (g := 104) (cap := [.pointer (some ⟨b1, 0, none⟩), .pointer (some ⟨b2, 0, none⟩)]) (p := fun j => decide (l.getD j 0 < lo) || decide (hi ≤ l.getD j 0)) Hs (fun j hj => by rw [Ints.elem (w := w3) (v := sv) hj]; exact within1_pc H1 H2)
  by_cases ho : ∃ j, j < l.length ∧ (decide (l.getD j 0 < lo) || decide (hi ≤ l.getD j 0)) = true
  · rw [tf_t ho] at hc
    repeat' ((conv => whnf); first | (refine Dr.quiet tyOk (by kernel_rfl) ?_) | (refine VC.pure hc ?_) | (refine Rng.mk (by omega) ?_) | (refine Split.pos (by omega) ?_) | (refine Split.neg (by omega) ?_) | (refine Split.mk (fun h => ?_) (fun h => ?_)) | (refine Need.mk (by omega) ?_) | (refine Ints.ln (by assumption) ?_) | (refine Mat.ln (by assumption) ?_) | (refine Ints.ln (Mat.row (by assumption) _ (by omega)) ?_) | (refine Ints.ix (by assumption) (by omega) ?_) | (refine Mat.ix (by assumption) (by omega) ?_) | (refine Ints.ix (Mat.row (by assumption) _ (by omega)) (by omega) ?_) | (refine Ints.ix (c := 0) (by assumption) (by omega) ?_) | (refine Mat.ix (c := 0) (by assumption) (by omega) ?_) | (refine Ints.ix (c := 0) (Mat.row (by assumption) _ (by omega)) (by omega) ?_) | (refine Ints.ixI (by assumption) (by omega) ?_) | (refine Mat.ixI (by assumption) (by omega) ?_) | (refine Ints.ixI (Mat.row (by assumption) _ (by omega)) (by omega) ?_) | (refine Ints.ld (by assumption) (by omega) ?_) | (refine Mat.ld (by assumption) (by omega) ?_) | (refine Ints.ld (Mat.row (by assumption) _ (by omega)) (by omega) ?_) | (refine At.ld (by assumption) rfl ?_) | (refine At.ldN (by assumption) rfl ?_))
    rw [tf_f (p := ∀ i, i < l.length → lo ≤ l.getD i 0 ∧ l.getD i 0 < hi) (fun h => by
      obtain ⟨j, hj, hh⟩ := ho
      have := h j hj
      simp only [Bool.or_eq_true, decide_eq_true_eq] at hh
      omega)]
    exact ⟨rfl, E2.trans E3⟩
  · rw [tf_f ho] at hc
    repeat' ((conv => whnf); first | (refine Dr.quiet tyOk (by kernel_rfl) ?_) | (refine VC.pure hc ?_) | (refine Rng.mk (by omega) ?_) | (refine Split.pos (by omega) ?_) | (refine Split.neg (by omega) ?_) | (refine Split.mk (fun h => ?_) (fun h => ?_)) | (refine Need.mk (by omega) ?_) | (refine Ints.ln (by assumption) ?_) | (refine Mat.ln (by assumption) ?_) | (refine Ints.ln (Mat.row (by assumption) _ (by omega)) ?_) | (refine Ints.ix (by assumption) (by omega) ?_) | (refine Mat.ix (by assumption) (by omega) ?_) | (refine Ints.ix (Mat.row (by assumption) _ (by omega)) (by omega) ?_) | (refine Ints.ix (c := 0) (by assumption) (by omega) ?_) | (refine Mat.ix (c := 0) (by assumption) (by omega) ?_) | (refine Ints.ix (c := 0) (Mat.row (by assumption) _ (by omega)) (by omega) ?_) | (refine Ints.ixI (by assumption) (by omega) ?_) | (refine Mat.ixI (by assumption) (by omega) ?_) | (refine Ints.ixI (Mat.row (by assumption) _ (by omega)) (by omega) ?_) | (refine Ints.ld (by assumption) (by omega) ?_) | (refine Mat.ld (by assumption) (by omega) ?_) | (refine Ints.ld (Mat.row (by assumption) _ (by omega)) (by omega) ?_) | (refine At.ld (by assumption) rfl ?_) | (refine At.ldN (by assumption) rfl ?_))
    rw [tf_t (p := ∀ i, i < l.length → lo ≤ l.getD i 0 ∧ l.getD i 0 < hi) (fun i hi' => by
      have hh : ¬ (decide (l.getD i 0 < lo) || decide (hi ≤ l.getD i 0)) = true := fun hh => ho ⟨i, hi', hh⟩
      simp only [Bool.or_eq_true, decide_eq_true_eq] at hh
      omega)]
    exact ⟨rfl, E2.trans E3⟩

theorem gvalid_pc {w : World} {gv av : Value} {vs : List Value} {rr : List (List Int)} {a : List Int} (Hg : Mat w gv vs rr) (Ha : Ints w av a) :
    PC Try.prog 58 [.agg #[gv], av] w (.int .i64 (vld rr a)) := by
  refine PC.mk tyOk Try.func58 rfl (by kernel_rfl) fun w1 E1 => ?_
  replace Hg := Hg.ext E1
  replace Ha := Ha.ext E1
  have hle := Hg.top.le
  refine Bx.agg fun b w2 E2 _ Hb _ => ?_
  replace Hg := Hg.ext E2
  replace Ha := Ha.ext E2
  have hw := within_pc (lo := -1) (hi := (rr.length : Int)) Ha
  by_cases hck : chk rr = 0
  · have hgd := gd_of_chk hck
    have hn1 := hgd.n1
    by_cases hin : ∀ i, i < a.length → -1 ≤ a.getD i 0 ∧ a.getD i 0 < rr.length
    · rw [tf_t hin] at hw
      repeat' ((conv => whnf); first | (refine Dr.quiet tyOk (by kernel_rfl) ?_) | (refine VC.pure (gcheck_pc Hg) ?_) | (refine VC.pure hw ?_) | (refine Rng.mk (by omega) ?_) | (refine Split.pos (by omega) ?_) | (refine Split.neg (by omega) ?_) | (refine Split.mk (fun h => ?_) (fun h => ?_)) | (refine Need.mk (by omega) ?_) | (refine Ints.ln (by assumption) ?_) | (refine Mat.ln (by assumption) ?_) | (refine Ints.ln (Mat.row (by assumption) _ (by omega)) ?_) | (refine Ints.ix (by assumption) (by omega) ?_) | (refine Mat.ix (by assumption) (by omega) ?_) | (refine Ints.ix (Mat.row (by assumption) _ (by omega)) (by omega) ?_) | (refine Ints.ix (c := 0) (by assumption) (by omega) ?_) | (refine Mat.ix (c := 0) (by assumption) (by omega) ?_) | (refine Ints.ix (c := 0) (Mat.row (by assumption) _ (by omega)) (by omega) ?_) | (refine Ints.ixI (by assumption) (by omega) ?_) | (refine Mat.ixI (by assumption) (by omega) ?_) | (refine Ints.ixI (Mat.row (by assumption) _ (by omega)) (by omega) ?_) | (refine Ints.ld (by assumption) (by omega) ?_) | (refine Mat.ld (by assumption) (by omega) ?_) | (refine Ints.ld (Mat.row (by assumption) _ (by omega)) (by omega) ?_) | (refine At.ld (by assumption) rfl ?_) | (refine At.ldN (by assumption) rfl ?_))
      · have hnb : ¬ badA rr a := by
          rintro (h1 | ⟨k, hk, h1⟩)
          · omega
          · have := hin k hk; omega
        rw [vld_ok hck hnb]; exact ⟨rfl, E2⟩
      · rw [vld_bad hck (.inl (by omega))]; exact ⟨rfl, E2⟩
    · rw [tf_f hin] at hw
      repeat' ((conv => whnf); first | (refine Dr.quiet tyOk (by kernel_rfl) ?_) | (refine VC.pure (gcheck_pc Hg) ?_) | (refine VC.pure hw ?_) | (refine Rng.mk (by omega) ?_) | (refine Split.pos (by omega) ?_) | (refine Split.neg (by omega) ?_) | (refine Split.mk (fun h => ?_) (fun h => ?_)) | (refine Need.mk (by omega) ?_) | (refine Ints.ln (by assumption) ?_) | (refine Mat.ln (by assumption) ?_) | (refine Ints.ln (Mat.row (by assumption) _ (by omega)) ?_) | (refine Ints.ix (by assumption) (by omega) ?_) | (refine Mat.ix (by assumption) (by omega) ?_) | (refine Ints.ix (Mat.row (by assumption) _ (by omega)) (by omega) ?_) | (refine Ints.ix (c := 0) (by assumption) (by omega) ?_) | (refine Mat.ix (c := 0) (by assumption) (by omega) ?_) | (refine Ints.ix (c := 0) (Mat.row (by assumption) _ (by omega)) (by omega) ?_) | (refine Ints.ixI (by assumption) (by omega) ?_) | (refine Mat.ixI (by assumption) (by omega) ?_) | (refine Ints.ixI (Mat.row (by assumption) _ (by omega)) (by omega) ?_) | (refine Ints.ld (by assumption) (by omega) ?_) | (refine Mat.ld (by assumption) (by omega) ?_) | (refine Ints.ld (Mat.row (by assumption) _ (by omega)) (by omega) ?_) | (refine At.ld (by assumption) rfl ?_) | (refine At.ldN (by assumption) rfl ?_))
      · have hbd : badA rr a := Classical.byContradiction fun h => hin fun i hi => ⟨Classical.byContradiction fun h1 => h (.inr ⟨i, hi, .inl (by omega)⟩), Classical.byContradiction fun h1 => h (.inr ⟨i, hi, .inr (by omega)⟩)⟩
        rw [vld_bad hck hbd]; exact ⟨rfl, E2⟩
      · rw [vld_bad hck (.inl (by omega))]; exact ⟨rfl, E2⟩
  · repeat' ((conv => whnf); first | (refine Dr.quiet tyOk (by kernel_rfl) ?_) | (refine VC.pure (gcheck_pc Hg) ?_) | (refine Rng.mk (by omega) ?_) | (refine Split.pos (by omega) ?_) | (refine Split.neg (by omega) ?_) | (refine Split.mk (fun h => ?_) (fun h => ?_)) | (refine Need.mk (by omega) ?_) | (refine Ints.ln (by assumption) ?_) | (refine Mat.ln (by assumption) ?_) | (refine Ints.ln (Mat.row (by assumption) _ (by omega)) ?_) | (refine Ints.ix (by assumption) (by omega) ?_) | (refine Mat.ix (by assumption) (by omega) ?_) | (refine Ints.ix (Mat.row (by assumption) _ (by omega)) (by omega) ?_) | (refine Ints.ix (c := 0) (by assumption) (by omega) ?_) | (refine Mat.ix (c := 0) (by assumption) (by omega) ?_) | (refine Ints.ix (c := 0) (Mat.row (by assumption) _ (by omega)) (by omega) ?_) | (refine Ints.ixI (by assumption) (by omega) ?_) | (refine Mat.ixI (by assumption) (by omega) ?_) | (refine Ints.ixI (Mat.row (by assumption) _ (by omega)) (by omega) ?_) | (refine Ints.ld (by assumption) (by omega) ?_) | (refine Mat.ld (by assumption) (by omega) ?_) | (refine Ints.ld (Mat.row (by assumption) _ (by omega)) (by omega) ?_) | (refine At.ld (by assumption) rfl ?_) | (refine At.ldN (by assumption) rfl ?_))
    rw [vld_chk hck]; exact ⟨rfl, E2⟩
end Go.Proofs.Ytebklnmafjbhcaa
set_option linter.unusedVariables false
set_option linter.unusedSimpArgs false
namespace Go.Proofs.Ytebklnmafjbhcaa
open Go.Eng
set_option maxRecDepth 100000

/-- the row of values when c goods are counted -/
def rowTo (a r : List Int) (n c : Nat) : List Int := (List.range n).map fun (k : Nat) => worth a r k c
theorem rowTo_len (a r : List Int) (n c : Nat) : (rowTo a r n c).length = n := by simp [rowTo]
theorem rowTo_get {a r : List Int} {n c k : Nat} (h : k < n) : (rowTo a r n c).getD k 0 = worth a r k c := by simp [rowTo, List.getD, h]
theorem rowTo_set {a r : List Int} {n c : Nat} {k : Int} (hk : a.getD c 0 = k) (h0 : 0 ≤ k) (h : k < n) : (rowTo a r n c).set k.toNat ((rowTo a r n c).getD k.toNat 0 + r.getD c 0) = rowTo a r n (c + 1) := by
  apply ext_getD 0
  · simp [rowTo]
  · intro i hi
    have hi' : i < n := by simpa [rowTo] using hi
    rw [rowTo_get hi', rowTo_get (by omega : k.toNat < n)]
    by_cases e : i = k.toNat
    · subst e
      have e2 : ((k.toNat : Nat) : Int) = k := by omega
      rw [List.getD, List.getElem?_set_self (by rw [rowTo_len]; exact hi')]
      simp only [Option.getD_some, worth, e2, if_pos hk]
    · rw [List.getD, List.getElem?_set_ne (fun h => e h.symm)]
      have : (rowTo a r n c)[i]?.getD 0 = worth a r i c := by have := rowTo_get (a := a) (r := r) (c := c) hi'; simpa [List.getD] using this
      rw [this]
      simp only [worth]
      rw [if_neg (by omega)]; omega
theorem rowTo_skip {a r : List Int} {n c : Nat} (h : a.getD c 0 < 0) : rowTo a r n (c + 1) = rowTo a r n c := by
  apply ext_getD 0
  · simp [rowTo]
  · intro i hi
    have hi' : i < n := by simpa [rowTo] using hi
    rw [rowTo_get hi', rowTo_get hi']
    simp only [worth]
    rw [if_neg (by omega)]; omega
theorem rowTo_zero (a r : List Int) (n : Nat) : (rowTo a r n 0).map i64v = List.replicate n (.int .i64 0) := by
  rw [List.eq_replicate_iff]; simp [rowTo, worth, i64v]

theorem set_map (l : List Int) (k : Nat) (x : Int) : (l.map i64v).set k (.int .i64 x) = (l.set k x).map i64v := by rw [List.map_set]; rfl

theorem gvalues_rc {w : World} {gv av : Value} {vs : List Value} {rr : List (List Int)} {a : List Int} (Hg : Mat w gv vs rr) (Ha : Ints w av a) :
    RC Try.prog 52 [.agg #[gv], av] w NoB (fun u w' => ∃ v us, u = .tuple #[v, .int .i64 (vld rr a)] ∧ OM w.heap.size w' v us (valsR rr a)) := by
  refine RC.mk tyOk Try.func52 rfl (by kernel_rfl) fun w1 E1 => ?_
  replace Hg := Hg.ext E1
  replace Ha := Ha.ext E1
  refine Bx.agg fun b w2 E2 _ Hb _ => ?_
  replace Hg := Hg.ext E2
  replace Ha := Ha.ext E2
  by_cases hv : vld rr a = 0
  · have hal := al_of_vld hv
    have hn := hal.n6
    have hm := hal.m10
    have hlen := hal.len
    repeat' ((conv => whnf); first | (refine Dr.quiet tyOk (by kernel_rfl) ?_) | (refine VC.pure (gvalid_pc Hg Ha) ?_) | (refine Rng.mk (by omega) ?_) | (refine Split.pos (by omega) ?_) | (refine Split.neg (by omega) ?_) | (refine Split.mk (fun h => ?_) (fun h => ?_)) | (refine Need.mk (by omega) ?_) | (refine Ints.ln (by assumption) ?_) | (refine Mat.ln (by assumption) ?_) | (refine Ints.ln (Mat.row (by assumption) _ (by omega)) ?_) | (refine Ints.ix (by assumption) (by omega) ?_) | (refine Mat.ix (by assumption) (by omega) ?_) | (refine Ints.ix (Mat.row (by assumption) _ (by omega)) (by omega) ?_) | (refine Ints.ix (c := 0) (by assumption) (by omega) ?_) | (refine Mat.ix (c := 0) (by assumption) (by omega) ?_) | (refine Ints.ix (c := 0) (Mat.row (by assumption) _ (by omega)) (by omega) ?_) | (refine Ints.ixI (by assumption) (by omega) ?_) | (refine Mat.ixI (by assumption) (by omega) ?_) | (refine Ints.ixI (Mat.row (by assumption) _ (by omega)) (by omega) ?_) | (refine Ints.ld (by assumption) (by omega) ?_) | (refine Mat.ld (by assumption) (by omega) ?_) | (refine Ints.ld (Mat.row (by assumption) _ (by omega)) (by omega) ?_) | (refine At.ld (by assumption) rfl ?_) | (refine At.ldN (by assumption) rfl ?_))
    refine Lp.mk tyOk [false, false, false, false, false, false, false, true, false, true, true, true, true, false, false, false, false, false, false, false, false, false, true, true, true, true, true, true, true, true, true, true, true, true, true, true, true, true, true, true, true, true, true, true, true, true, true, true, true, true, true, true, true, true, true] (fun m fr wr => getK fr 7 fun v => getK fr 22 fun j => ∃ (c : Nat) (us : List Value), c ≤ rr.length ∧ m = rr.length - c ∧ j = .int .i64 (c : Int) ∧ Ext w2 wr ∧ OM w2.heap.size wr v us ((List.range c).map fun i => (List.range rr.length).map fun (k : Nat) => wth rr a i k)) rr.length ?_ ?_
    · exact ⟨0, [], Nat.zero_le _, rfl, rfl, Ext.refl _, OM.nil⟩
    · intro m w3 u7 u9 u10 u11 u12 u22 u23 u24 u25 u26 u27 u28 u29 u30 u31 u32 u33 u34 u35 u36 u37 u38 u39 u40 u41 u42 u43 u44 u45 u46 u47 u48 u49 u50 u51 u52 u53 u54 hR
      obtain ⟨c, us, hc, rfl, rfl, EE, Ho⟩ := hR
      replace Hg := Hg.ext EE
      replace Ha := Ha.ext EE
      replace Hb := Hb.ext EE
      repeat' ((conv => whnf); first | (refine Dr.quiet tyOk (by kernel_rfl) ?_) | (refine Rng.mk (by omega) ?_) | (refine Split.pos (by omega) ?_) | (refine Split.neg (by omega) ?_) | (refine Split.mk (fun h => ?_) (fun h => ?_)) | (refine Need.mk (by omega) ?_) | (refine Ints.ln (by assumption) ?_) | (refine Mat.ln (by assumption) ?_) | (refine Ints.ln (Mat.row (by assumption) _ (by omega)) ?_) | (refine Ints.ix (by assumption) (by omega) ?_) | (refine Mat.ix (by assumption) (by omega) ?_) | (refine Ints.ix (Mat.row (by assumption) _ (by omega)) (by omega) ?_) | (refine Ints.ix (c := 0) (by assumption) (by omega) ?_) | (refine Mat.ix (c := 0) (by assumption) (by omega) ?_) | (refine Ints.ix (c := 0) (Mat.row (by assumption) _ (by omega)) (by omega) ?_) | (refine Ints.ixI (by assumption) (by omega) ?_) | (refine Mat.ixI (by assumption) (by omega) ?_) | (refine Ints.ixI (Mat.row (by assumption) _ (by omega)) (by omega) ?_) | (refine Ints.ld (by assumption) (by omega) ?_) | (refine Mat.ld (by assumption) (by omega) ?_) | (refine Ints.ld (Mat.row (by assumption) _ (by omega)) (by omega) ?_) | (refine At.ld (by assumption) rfl ?_) | (refine At.ldN (by assumption) rfl ?_))
      · have hrc := hal.row c (by omega)
        refine VE.made Try.underlying25 eInt rfl (by omega) (by omega) fun rv w4 E4 Hmk _ => ?_
        have Hr0 := Hmk _ (Nat.le_refl _)
        rw [← rowTo_zero a (rr.getD c [])] at Hr0
        have Hg3 := Hg
        have Ha3 := Ha
        have Hb3 := Hb
        have Ho3 := Ho
        repeat' ((conv => whnf); first | (refine Dr.quiet tyOk (by kernel_rfl) ?_) | (refine Rng.mk (by omega) ?_) | (refine Split.pos (by omega) ?_) | (refine Split.neg (by omega) ?_) | (refine Split.mk (fun h => ?_) (fun h => ?_)) | (refine Need.mk (by omega) ?_) | (refine Ints.ln (by assumption) ?_) | (refine Mat.ln (by assumption) ?_) | (refine Ints.ln (Mat.row (by assumption) _ (by omega)) ?_) | (refine Ints.ix (by assumption) (by omega) ?_) | (refine Mat.ix (by assumption) (by omega) ?_) | (refine Ints.ix (Mat.row (by assumption) _ (by omega)) (by omega) ?_) | (refine Ints.ix (c := 0) (by assumption) (by omega) ?_) | (refine Mat.ix (c := 0) (by assumption) (by omega) ?_) | (refine Ints.ix (c := 0) (Mat.row (by assumption) _ (by omega)) (by omega) ?_) | (refine Ints.ixI (by assumption) (by omega) ?_) | (refine Mat.ixI (by assumption) (by omega) ?_) | (refine Ints.ixI (Mat.row (by assumption) _ (by omega)) (by omega) ?_) | (refine Ints.ld (by assumption) (by omega) ?_) | (refine Mat.ld (by assumption) (by omega) ?_) | (refine Ints.ld (Mat.row (by assumption) _ (by omega)) (by omega) ?_) | (refine At.ld (by assumption) rfl ?_) | (refine At.ldN (by assumption) rfl ?_))
        refine Lp.mk tyOk [false, false, false, false, false, false, false, false, false, false, false, true, true, false, false, false, false, false, false, false, false, false, false, false, false, false, false, false, false, false, false, false, true, true, true, true, true, true, true, true, true, true, true, true, true, true, true, true, true, true] (fun m fr wr => getK fr 32 fun j => ∃ c2 : Nat, c2 ≤ a.length ∧ m = a.length - c2 ∧ j = .int .i64 (c2 : Int) ∧ Ext w3 wr ∧ Go.Eng.Own w3.heap.size 3 1 wr rv rr.length ((rowTo a (rr.getD c []) rr.length c2).map i64v)) a.length ?_ ?_
        · exact ⟨0, Nat.zero_le _, rfl, rfl, E4, Hr0⟩
        · intro m w4 u11 u12 u32 u33 u34 u35 u36 u37 u38 u39 u40 u41 u42 u43 u44 u45 u46 u47 u48 u49 hR
          obtain ⟨c2, hc2, rfl, rfl, E5, Hr⟩ := hR
          have hchk := hal.rng c2
          have hrc := hal.row c (by omega)
          have hval := hal.val c c2
          have hrl := rowTo_len a (rr.getD c []) rr.length c2
          replace Hg := Hg3.ext E5
          replace Ha := Ha3.ext E5
          replace Hb := Hb3.ext E5
          replace Ho := Ho3.ext E5
          have HrI : Ints w4 rv (rowTo a (rr.getD c []) rr.length c2) := by
            have := Own.sl Hr
            unfold Ints; rw [rowTo_len]; exact this
          have hbv : c2 < a.length → 0 ≤ a.getD c2 0 → 0 ≤ (rowTo a (rr.getD c []) rr.length c2).getD (a.getD c2 0).toNat 0 ∧ (rowTo a (rr.getD c []) rr.length c2).getD (a.getD c2 0).toNat 0 ≤ 10000 := by
            intro h1 h2
            rw [rowTo_get (by omega)]
            have := worth_bd (a := a) (k := ((a.getD c2 0).toNat : Int)) (fun j => hal.val c j) c2
            omega
          have hvd : (rr.getD c []).getD c2 0 = val rr c c2 := rfl
          repeat' ((conv => whnf); first | (refine Dr.tail 10 tyOk (by kernel_rfl) ?_) | (refine Rng.mk (by omega) ?_) | (refine Split.pos (by omega) ?_) | (refine Split.neg (by omega) ?_) | (refine Split.mk (fun h => ?_) (fun h => ?_)) | (refine Need.mk (by omega) ?_) | (refine Ints.ln (by assumption) ?_) | (refine Mat.ln (by assumption) ?_) | (refine Ints.ln (Mat.row (by assumption) _ (by omega)) ?_) | (refine Ints.ix (by assumption) (by omega) ?_) | (refine Mat.ix (by assumption) (by omega) ?_) | (refine Ints.ix (Mat.row (by assumption) _ (by omega)) (by omega) ?_) | (refine Ints.ix (c := 0) (by assumption) (by omega) ?_) | (refine Mat.ix (c := 0) (by assumption) (by omega) ?_) | (refine Ints.ix (c := 0) (Mat.row (by assumption) _ (by omega)) (by omega) ?_) | (refine Ints.ixI (by assumption) (by omega) ?_) | (refine Mat.ixI (by assumption) (by omega) ?_) | (refine Ints.ixI (Mat.row (by assumption) _ (by omega)) (by omega) ?_) | (refine Ints.ld (by assumption) (by omega) ?_) | (refine Mat.ld (by assumption) (by omega) ?_) | (refine Ints.ld (Mat.row (by assumption) _ (by omega)) (by omega) ?_) | (refine At.ld (by assumption) rfl ?_) | (refine At.ldN (by assumption) rfl ?_))
          · refine Own.set Hr (by rw [List.length_map, hrl]; omega) rfl fun w5 G5 H5 => ?_
            repeat' ((conv => whnf); first | (refine Dr.quiet tyOk (by kernel_rfl) ?_) | (refine Rng.mk (by omega) ?_) | (refine Split.pos (by omega) ?_) | (refine Split.neg (by omega) ?_) | (refine Split.mk (fun h => ?_) (fun h => ?_)) | (refine Need.mk (by omega) ?_) | (refine Ints.ln (by assumption) ?_) | (refine Mat.ln (by assumption) ?_) | (refine Ints.ln (Mat.row (by assumption) _ (by omega)) ?_) | (refine Ints.ix (by assumption) (by omega) ?_) | (refine Mat.ix (by assumption) (by omega) ?_) | (refine Ints.ix (Mat.row (by assumption) _ (by omega)) (by omega) ?_) | (refine Ints.ix (c := 0) (by assumption) (by omega) ?_) | (refine Mat.ix (c := 0) (by assumption) (by omega) ?_) | (refine Ints.ix (c := 0) (Mat.row (by assumption) _ (by omega)) (by omega) ?_) | (refine Ints.ixI (by assumption) (by omega) ?_) | (refine Mat.ixI (by assumption) (by omega) ?_) | (refine Ints.ixI (Mat.row (by assumption) _ (by omega)) (by omega) ?_) | (refine Ints.ld (by assumption) (by omega) ?_) | (refine Mat.ld (by assumption) (by omega) ?_) | (refine Ints.ld (Mat.row (by assumption) _ (by omega)) (by omega) ?_) | (refine At.ld (by assumption) rfl ?_) | (refine At.ldN (by assumption) rfl ?_))
            refine ⟨_, (by omega : a.length - (c2 + 1) < a.length - c2), rfl, c2 + 1, by omega, rfl, rfl, ?_, ?_⟩
            · exact Own.keep Hr E5 (Nat.le_refl _) G5
            · rw [set_map, rowTo_set rfl (by omega) (by omega)] at H5
              exact H5
          · refine ⟨_, (by omega : a.length - (c2 + 1) < a.length - c2), rfl, c2 + 1, by omega, rfl, rfl, E5, ?_⟩
            rw [rowTo_skip (by omega)]
            exact Hr
          · obtain rfl : c2 = a.length := by omega
            have Hr0 : OI w4 rv ((List.range rr.length).map fun (k : Nat) => wth rr a c k) := OI.of Hr
            refine VE.lit1 Try.underlying22 eRow ((Sl.cells (Own.sl Hr0)).1) fun lv w5 E6 Hl => ?_
            replace Ho := Ho.ext E6
            replace Hr0 := Hr0.ext E6
            conv => whnf
            refine VE.app Try.underlying22 eRow rfl (by omega) Ho.top (EE.trans (E5.trans E6)) rfl Hl (by intro u hu; simp only [List.mem_singleton] at hu; subst hu; exact (Sl.cells (Own.sl Hr0)).2) (by first | omega | (simp only [List.length_map, List.length_range]; omega)) (by first | omega | (simp only [List.length_map, List.length_range]; omega)) fun v6 w6 E7 G7 H7 => ?_
            repeat' ((conv => whnf); first | (refine Dr.quiet tyOk (by kernel_rfl) ?_) | (refine Rng.mk (by omega) ?_) | (refine Split.pos (by omega) ?_) | (refine Split.neg (by omega) ?_) | (refine Split.mk (fun h => ?_) (fun h => ?_)) | (refine Need.mk (by omega) ?_) | (refine Ints.ln (by assumption) ?_) | (refine Mat.ln (by assumption) ?_) | (refine Ints.ln (Mat.row (by assumption) _ (by omega)) ?_) | (refine Ints.ix (by assumption) (by omega) ?_) | (refine Mat.ix (by assumption) (by omega) ?_) | (refine Ints.ix (Mat.row (by assumption) _ (by omega)) (by omega) ?_) | (refine Ints.ix (c := 0) (by assumption) (by omega) ?_) | (refine Mat.ix (c := 0) (by assumption) (by omega) ?_) | (refine Ints.ix (c := 0) (Mat.row (by assumption) _ (by omega)) (by omega) ?_) | (refine Ints.ixI (by assumption) (by omega) ?_) | (refine Mat.ixI (by assumption) (by omega) ?_) | (refine Ints.ixI (Mat.row (by assumption) _ (by omega)) (by omega) ?_) | (refine Ints.ld (by assumption) (by omega) ?_) | (refine Mat.ld (by assumption) (by omega) ?_) | (refine Ints.ld (Mat.row (by assumption) _ (by omega)) (by omega) ?_) | (refine At.ld (by assumption) rfl ?_) | (refine At.ldN (by assumption) rfl ?_))
            refine ⟨_, (by omega : rr.length - (c + 1) < rr.length - c), rfl, c + 1, us ++ [rv], by omega, rfl, rfl, E7, ?_⟩
            rw [map_range_succ]
            exact Ho.push Hr0 G7 H7
      · obtain rfl : c = rr.length := by omega
        refine ⟨E2.trans EE, _, us, by rw [hv], ?_⟩
        rw [valsR, if_pos hv]
        exact Ho.base (Nat.le_trans E1.size E2.size)
  · repeat' ((conv => whnf); first | (refine Dr.quiet tyOk (by kernel_rfl) ?_) | (refine VC.pure (gvalid_pc Hg Ha) ?_) | (refine Rng.mk (by omega) ?_) | (refine Split.pos (by omega) ?_) | (refine Split.neg (by omega) ?_) | (refine Split.mk (fun h => ?_) (fun h => ?_)) | (refine Need.mk (by omega) ?_) | (refine Ints.ln (by assumption) ?_) | (refine Mat.ln (by assumption) ?_) | (refine Ints.ln (Mat.row (by assumption) _ (by omega)) ?_) | (refine Ints.ix (by assumption) (by omega) ?_) | (refine Mat.ix (by assumption) (by omega) ?_) | (refine Ints.ix (Mat.row (by assumption) _ (by omega)) (by omega) ?_) | (refine Ints.ix (c := 0) (by assumption) (by omega) ?_) | (refine Mat.ix (c := 0) (by assumption) (by omega) ?_) | (refine Ints.ix (c := 0) (Mat.row (by assumption) _ (by omega)) (by omega) ?_) | (refine Ints.ixI (by assumption) (by omega) ?_) | (refine Mat.ixI (by assumption) (by omega) ?_) | (refine Ints.ixI (Mat.row (by assumption) _ (by omega)) (by omega) ?_) | (refine Ints.ld (by assumption) (by omega) ?_) | (refine Mat.ld (by assumption) (by omega) ?_) | (refine Ints.ld (Mat.row (by assumption) _ (by omega)) (by omega) ?_) | (refine At.ld (by assumption) rfl ?_) | (refine At.ldN (by assumption) rfl ?_))
    refine ⟨E2, _, [], rfl, ?_⟩
    rw [valsR, if_neg hv]
    exact OM.nil

theorem vals_len (rr : List (List Int)) (a : List Int) : (vals rr a).length = rr.length := by simp [vals]
theorem vals_row {rr : List (List Int)} {a : List Int} {i : Nat} (h : i < rr.length) : (vals rr a).getD i [] = (List.range rr.length).map fun (k : Nat) => wth rr a i k := by simp [vals, List.getD, h]
theorem vals_rlen {rr : List (List Int)} {a : List Int} {i : Nat} (h : i < rr.length) : ((vals rr a).getD i []).length = rr.length := by rw [vals_row h]; simp
theorem vals_get {rr : List (List Int)} {a : List Int} {i k : Nat} (h : i < rr.length) (hk : k < rr.length) : ((vals rr a).getD i []).getD k 0 = wth rr a i k := by rw [vals_row h]; simp [List.getD, hk]

theorem genvies_rc {w : World} {gv av : Value} {vs : List Value} {rr : List (List Int)} {a : List Int} (Hg : Mat w gv vs rr) (Ha : Ints w av a) :
    RC Try.prog 98 [.agg #[gv], av] w NoB (fun u w' => ∃ v, u = .tuple #[v, .int .i64 (vld rr a)] ∧ OP w.heap.size w' v (envsR rr a)) := by
  refine RC.mk tyOk Try.func98 rfl (by kernel_rfl) fun w1 E1 => ?_
  replace Hg := Hg.ext E1
  replace Ha := Ha.ext E1
  refine Bx.agg fun b w2 E2 _ Hb _ => ?_
  replace Hg := Hg.ext E2
  replace Ha := Ha.ext E2
  by_cases hv : vld rr a = 0
  · have hal := al_of_vld hv
    have hn := hal.n6
    have hm := hal.m10
    have hlen := hal.len
    conv => whnf
    refine At.ldN Hb rfl ?_
    conv => whnf
    refine VC.rc (gvalues_rc Hg Ha) ?_
    rintro _ w3 E3 ⟨v, us, rfl, HO⟩
    rw [valsR, if_pos hv] at HO
    have HV := HO.mat
    have hvl := vals_len rr a
    replace Hg := Hg.ext E3
    replace Ha := Ha.ext E3
    replace Hb := Hb.ext E3
    repeat' ((conv => whnf); first | (refine Dr.quiet tyOk (by kernel_rfl) ?_) | (refine Rng.mk (by omega) ?_) | (refine Split.pos (by omega) ?_) | (refine Split.neg (by omega) ?_) | (refine Split.mk (fun h => ?_) (fun h => ?_)) | (refine Need.mk (by omega) ?_) | (refine Ints.ln (by assumption) ?_) | (refine Mat.ln (by assumption) ?_) | (refine Ints.ln (Mat.row (by assumption) _ (by omega)) ?_) | (refine Ints.ix (by assumption) (by omega) ?_) | (refine Mat.ix (by assumption) (by omega) ?_) | (refine Ints.ix (Mat.row (by assumption) _ (by omega)) (by omega) ?_) | (refine Ints.ix (c := 0) (by assumption) (by omega) ?_) | (refine Mat.ix (c := 0) (by assumption) (by omega) ?_) | (refine Ints.ix (c := 0) (Mat.row (by assumption) _ (by omega)) (by omega) ?_) | (refine Ints.ixI (by assumption) (by omega) ?_) | (refine Mat.ixI (by assumption) (by omega) ?_) | (refine Ints.ixI (Mat.row (by assumption) _ (by omega)) (by omega) ?_) | (refine Ints.ld (by assumption) (by omega) ?_) | (refine Mat.ld (by assumption) (by omega) ?_) | (refine Ints.ld (Mat.row (by assumption) _ (by omega)) (by omega) ?_) | (refine At.ld (by assumption) rfl ?_) | (refine At.ldN (by assumption) rfl ?_))
    refine Lp.mk tyOk [false, false, false, false, false, false, false, false, true, true, true, true, true, false, false, false, false, false, false, false, false, false, false, false, true, true, true, true, true, true, true, true, true, true, true, true, true, true, true, true, true, true, true, true, true, true, true, true, true, true] (fun m fr wr => getK fr 8 fun v => getK fr 24 fun j => ∃ (c : Nat), c ≤ rr.length ∧ m = rr.length - c ∧ j = .int .i64 (c : Int) ∧ Ext w3 wr ∧ OP w3.heap.size wr v (envTo (fun i (k : Nat) => wth rr a i k) rr.length c)) rr.length ?_ ?_
    · exact ⟨0, Nat.zero_le _, rfl, rfl, Ext.refl _, Own.nil⟩
    · intro m w4 u8 u9 u10 u11 u12 u24 u25 u26 u27 u28 u29 u30 u31 u32 u33 u34 u35 u36 u37 u38 u39 u40 u41 u42 u43 u44 u45 u46 u47 u48 u49 hR
      obtain ⟨c, hc, rfl, rfl, EE, Ho⟩ := hR
      have hT := envTo_len (fun i (k : Nat) => wth rr a i k) rr.length c
      have hTc := Nat.mul_le_mul hc hn
      have HV3 := HV
      have hrl := vals_rlen (rr := rr) (a := a) (i := c)
      replace HV := HV.ext EE
      repeat' ((conv => whnf); first | (refine Dr.quiet tyOk (by kernel_rfl) ?_) | (refine Rng.mk (by omega) ?_) | (refine Split.pos (by omega) ?_) | (refine Split.neg (by omega) ?_) | (refine Split.mk (fun h => ?_) (fun h => ?_)) | (refine Need.mk (by omega) ?_) | (refine Ints.ln (by assumption) ?_) | (refine Mat.ln (by assumption) ?_) | (refine Ints.ln (Mat.row (by assumption) _ (by omega)) ?_) | (refine Ints.ix (by assumption) (by omega) ?_) | (refine Mat.ix (by assumption) (by omega) ?_) | (refine Ints.ix (Mat.row (by assumption) _ (by omega)) (by omega) ?_) | (refine Ints.ix (c := 0) (by assumption) (by omega) ?_) | (refine Mat.ix (c := 0) (by assumption) (by omega) ?_) | (refine Ints.ix (c := 0) (Mat.row (by assumption) _ (by omega)) (by omega) ?_) | (refine Ints.ixI (by assumption) (by omega) ?_) | (refine Mat.ixI (by assumption) (by omega) ?_) | (refine Ints.ixI (Mat.row (by assumption) _ (by omega)) (by omega) ?_) | (refine Ints.ld (by assumption) (by omega) ?_) | (refine Mat.ld (by assumption) (by omega) ?_) | (refine Ints.ld (Mat.row (by assumption) _ (by omega)) (by omega) ?_) | (refine At.ld (by assumption) rfl ?_) | (refine At.ldN (by assumption) rfl ?_))
      · refine Lp.mk tyOk [false, false, false, false, false, false, false, false, true, false, false, true, true, false, false, false, false, false, false, false, false, false, false, false, false, false, false, false, false, false, false, true, true, true, true, true, true, true, true, true, true, true, true, true, true, true, true, true, true] (fun m fr wr => getK fr 8 fun v => getK fr 31 fun j => ∃ c2 : Nat, c2 ≤ rr.length ∧ m = rr.length - c2 ∧ j = .int .i64 (c2 : Int) ∧ Ext w3 wr ∧ OP w3.heap.size wr v (envTo (fun i (k : Nat) => wth rr a i k) rr.length c ++ envRow (fun (k : Nat) => wth rr a c k) c c2)) rr.length ?_ ?_
        · exact ⟨0, Nat.zero_le _, rfl, rfl, EE, by simpa [envRow] using Ho⟩
        · intro m w5 u8 u11 u12 u31 u32 u33 u34 u35 u36 u37 u38 u39 u40 u41 u42 u43 u44 u45 u46 u47 u48 hR
          obtain ⟨c2, hc2, rfl, rfl, E4, Hr⟩ := hR
          have hL := envRow_len (fun (k : Nat) => wth rr a c k) c c2
          have hLA : (envTo (fun i (k : Nat) => wth rr a i k) rr.length c ++ envRow (fun (k : Nat) => wth rr a c k) c c2).length = (envTo (fun i (k : Nat) => wth rr a i k) rr.length c).length + (envRow (fun (k : Nat) => wth rr a c k) c c2).length := List.length_append
          replace HV := HV3.ext E4
          have e1 := vals_get (rr := rr) (a := a) (i := c) (k := c2)
          have e2 := vals_get (rr := rr) (a := a) (i := c) (k := c)
          repeat' ((conv => whnf); first | (refine Dr.quiet tyOk (by kernel_rfl) ?_) | (refine Rng.mk (by omega) ?_) | (refine Split.pos (by omega) ?_) | (refine Split.neg (by omega) ?_) | (refine Split.mk (fun h => ?_) (fun h => ?_)) | (refine Need.mk (by omega) ?_) | (refine Ints.ln (by assumption) ?_) | (refine Mat.ln (by assumption) ?_) | (refine Ints.ln (Mat.row (by assumption) _ (by omega)) ?_) | (refine Ints.ix (by assumption) (by omega) ?_) | (refine Mat.ix (by assumption) (by omega) ?_) | (refine Ints.ix (Mat.row (by assumption) _ (by omega)) (by omega) ?_) | (refine Ints.ix (c := 0) (by assumption) (by omega) ?_) | (refine Mat.ix (c := 0) (by assumption) (by omega) ?_) | (refine Ints.ix (c := 0) (Mat.row (by assumption) _ (by omega)) (by omega) ?_) | (refine Ints.ixI (by assumption) (by omega) ?_) | (refine Mat.ixI (by assumption) (by omega) ?_) | (refine Ints.ixI (Mat.row (by assumption) _ (by omega)) (by omega) ?_) | (refine Ints.ld (by assumption) (by omega) ?_) | (refine Mat.ld (by assumption) (by omega) ?_) | (refine Ints.ld (Mat.row (by assumption) _ (by omega)) (by omega) ?_) | (refine At.ld (by assumption) rfl ?_) | (refine At.ldN (by assumption) rfl ?_))
          · refine VS.arr2 Try.underlying97 ePair cells3 ?_
            repeat' ((conv => whnf); first | (refine Dr.quiet tyOk (by kernel_rfl) ?_) | (refine Rng.mk (by omega) ?_) | (refine Split.pos (by omega) ?_) | (refine Split.neg (by omega) ?_) | (refine Split.mk (fun h => ?_) (fun h => ?_)) | (refine Need.mk (by omega) ?_) | (refine Ints.ln (by assumption) ?_) | (refine Mat.ln (by assumption) ?_) | (refine Ints.ln (Mat.row (by assumption) _ (by omega)) ?_) | (refine Ints.ix (by assumption) (by omega) ?_) | (refine Mat.ix (by assumption) (by omega) ?_) | (refine Ints.ix (Mat.row (by assumption) _ (by omega)) (by omega) ?_) | (refine Ints.ix (c := 0) (by assumption) (by omega) ?_) | (refine Mat.ix (c := 0) (by assumption) (by omega) ?_) | (refine Ints.ix (c := 0) (Mat.row (by assumption) _ (by omega)) (by omega) ?_) | (refine Ints.ixI (by assumption) (by omega) ?_) | (refine Mat.ixI (by assumption) (by omega) ?_) | (refine Ints.ixI (Mat.row (by assumption) _ (by omega)) (by omega) ?_) | (refine Ints.ld (by assumption) (by omega) ?_) | (refine Mat.ld (by assumption) (by omega) ?_) | (refine Ints.ld (Mat.row (by assumption) _ (by omega)) (by omega) ?_) | (refine At.ld (by assumption) rfl ?_) | (refine At.ldN (by assumption) rfl ?_))
            refine VE.lit1A Try.underlying48 ePair rfl (by decide) fun lv w6 E5 Hl => ?_
            replace Hr := Hr.ext E5
            conv => whnf
            refine VE.app Try.underlying48 ePair rfl (by omega) Hr (E4.trans E5) rfl Hl (by simp [Value.oneCell']) (by first | omega | (simp only [List.length_map, List.length_range]; omega)) (by first | omega | (simp only [List.length_map, List.length_range]; omega)) fun v6 w7 E6 G6 H6 => ?_
            repeat' ((conv => whnf); first | (refine Dr.quiet tyOk (by kernel_rfl) ?_) | (refine Rng.mk (by omega) ?_) | (refine Split.pos (by omega) ?_) | (refine Split.neg (by omega) ?_) | (refine Split.mk (fun h => ?_) (fun h => ?_)) | (refine Need.mk (by omega) ?_) | (refine Ints.ln (by assumption) ?_) | (refine Mat.ln (by assumption) ?_) | (refine Ints.ln (Mat.row (by assumption) _ (by omega)) ?_) | (refine Ints.ix (by assumption) (by omega) ?_) | (refine Mat.ix (by assumption) (by omega) ?_) | (refine Ints.ix (Mat.row (by assumption) _ (by omega)) (by omega) ?_) | (refine Ints.ix (c := 0) (by assumption) (by omega) ?_) | (refine Mat.ix (c := 0) (by assumption) (by omega) ?_) | (refine Ints.ix (c := 0) (Mat.row (by assumption) _ (by omega)) (by omega) ?_) | (refine Ints.ixI (by assumption) (by omega) ?_) | (refine Mat.ixI (by assumption) (by omega) ?_) | (refine Ints.ixI (Mat.row (by assumption) _ (by omega)) (by omega) ?_) | (refine Ints.ld (by assumption) (by omega) ?_) | (refine Mat.ld (by assumption) (by omega) ?_) | (refine Ints.ld (Mat.row (by assumption) _ (by omega)) (by omega) ?_) | (refine At.ld (by assumption) rfl ?_) | (refine At.ldN (by assumption) rfl ?_))
            refine ⟨_, (by omega : rr.length - (c2 + 1) < rr.length - c2), rfl, c2 + 1, by omega, rfl, rfl, E6, ?_⟩
            rw [flatP_snoc] at H6
            simp only [envRow, if_pos (by omega : wth rr a c c < wth rr a c c2), ← List.append_assoc]
            exact OP.of H6
          · refine ⟨_, (by omega : rr.length - (c2 + 1) < rr.length - c2), rfl, c2 + 1, by omega, rfl, rfl, E4, ?_⟩
            simp only [envRow, if_neg (by omega : ¬ wth rr a c c < wth rr a c c2), List.append_nil]
            exact Hr
          · obtain rfl : c2 = rr.length := by omega
            exact ⟨_, (by omega : rr.length - (c + 1) < rr.length - c), rfl, c + 1, by omega, rfl, rfl, E4, Hr⟩
      · obtain rfl : c = rr.length := by omega
        refine ⟨(E2.trans E3).trans EE, _, by rw [hv], ?_⟩
        rw [envsR, if_pos hv]
        exact Own.base Ho (Nat.le_trans (Nat.le_trans E1.size E2.size) E3.size)
  · conv => whnf
    refine At.ldN Hb rfl ?_
    conv => whnf
    refine VC.rc (gvalues_rc Hg Ha) ?_
    rintro _ w3 E3 ⟨v, us, rfl, HO⟩
    repeat' ((conv => whnf); first | (refine Dr.quiet tyOk (by kernel_rfl) ?_) | (refine Rng.mk (by omega) ?_) | (refine Split.pos (by omega) ?_) | (refine Split.neg (by omega) ?_) | (refine Split.mk (fun h => ?_) (fun h => ?_)) | (refine Need.mk (by omega) ?_) | (refine Ints.ln (by assumption) ?_) | (refine Mat.ln (by assumption) ?_) | (refine Ints.ln (Mat.row (by assumption) _ (by omega)) ?_) | (refine Ints.ix (by assumption) (by omega) ?_) | (refine Mat.ix (by assumption) (by omega) ?_) | (refine Ints.ix (Mat.row (by assumption) _ (by omega)) (by omega) ?_) | (refine Ints.ix (c := 0) (by assumption) (by omega) ?_) | (refine Mat.ix (c := 0) (by assumption) (by omega) ?_) | (refine Ints.ix (c := 0) (Mat.row (by assumption) _ (by omega)) (by omega) ?_) | (refine Ints.ixI (by assumption) (by omega) ?_) | (refine Mat.ixI (by assumption) (by omega) ?_) | (refine Ints.ixI (Mat.row (by assumption) _ (by omega)) (by omega) ?_) | (refine Ints.ld (by assumption) (by omega) ?_) | (refine Mat.ld (by assumption) (by omega) ?_) | (refine Ints.ld (Mat.row (by assumption) _ (by omega)) (by omega) ?_) | (refine At.ld (by assumption) rfl ?_) | (refine At.ldN (by assumption) rfl ?_))
    refine ⟨E2.trans E3, _, rfl, ?_⟩
    rw [envsR, if_neg hv]
    exact Own.nil

end Go.Proofs.Ytebklnmafjbhcaa
set_option linter.unusedVariables false
set_option linter.unusedSimpArgs false
namespace Go.Proofs.Ytebklnmafjbhcaa
open Go.Eng
set_option maxRecDepth 100000
set_option maxHeartbeats 4000000

/-- the places of the agents in the first c of an order -/
def toTo (o : List Int) (n c : Nat) : List Int := (List.range n).map fun k : Nat => lastTo o k c
theorem toTo_len (o : List Int) (n c : Nat) : (toTo o n c).length = n := by simp [toTo]
theorem toTo_zero (o : List Int) (n : Nat) : toTo o n 0 = List.replicate n (-1) := by rw [List.eq_replicate_iff]; simp [toTo, lastTo]
theorem toTo_get {o : List Int} {n c k : Nat} (h : k < n) : (toTo o n c).getD k 0 = lastTo o k c := by simp [toTo, List.getD, h]
theorem toTo_set {o : List Int} {n c : Nat} (h0 : 0 ≤ o.getD c 0) : (toTo o n c).set (o.getD c 0).toNat (c : Int) = toTo o n (c + 1) := by
  apply List.ext_getElem
  · simp [toTo]
  · intro i h1 h2
    rw [List.getElem_set]
    simp only [toTo, List.getElem_map, List.getElem_range, lastTo]
    by_cases e : o.getD c 0 = (i : Int)
    · rw [if_pos e, if_pos (by omega)]
    · rw [if_neg e, if_neg (by omega)]
theorem asg_to {o : List Int} {n : Nat} (hl : o.length = n) (hw : ∀ i, i < o.length → 0 ≤ o.getD i 0 ∧ o.getD i 0 < n) : asg o n ↔ ¬ (-1 : Int) ∈ toTo o n o.length := by
  rw [asg_iff hl, mem_getD]
  constructor
  · rintro ⟨_, h2⟩ ⟨k, hk, e⟩
    rw [toTo_len] at hk
    rw [toTo_get hk, lastTo_neg] at e
    obtain ⟨i, hi, e2⟩ := h2 k hk
    exact e i (by omega) e2
  · intro h
    refine ⟨fun i hi => hw i (by omega), fun j hj => Classical.byContradiction fun hn => h ⟨j, by rw [toTo_len]; exact hj, ?_⟩⟩
    rw [toTo_get hj, lastTo_neg]
    exact fun i hi e => hn ⟨i, by omega, e⟩

theorem gpass_rc {w : World} {gv av ov : Value} {vs : List Value} {rr : List (List Int)} {a o : List Int} (Hg : Mat w gv vs rr) (Ha : Ints w av a) (Ho : Ints w ov o) :
    RC Try.prog 100 [.agg #[gv], av, ov] w NoB (fun u w' => ∃ v, u = .tuple #[v, .int .i64 (passE rr a o)] ∧ Go.Eng.Own w.heap.size 3 1 w' v (passR rr a o).length ((passR rr a o).map i64v)) := by
  refine RC.mk tyOk Try.func100 rfl (by kernel_rfl) fun w1 E1 => ?_
  replace Hg := Hg.ext E1
  replace Ha := Ha.ext E1
  replace Ho := Ho.ext E1
  refine Bx.agg fun b w2 E2 _ Hb _ => ?_
  replace Hg := Hg.ext E2
  replace Ha := Ha.ext E2
  replace Ho := Ho.ext E2
  by_cases hv : vld rr a = 0
  · have hal := al_of_vld hv
    have hn := hal.n6
    have hm := hal.m10
    have hlen := hal.len
    repeat' ((conv => whnf); first | (refine Dr.quiet tyOk (by kernel_rfl) ?_) | (refine VC.pure (gvalid_pc Hg Ha) ?_) | (refine Rng.mk (by omega) ?_) | (refine Split.pos (by omega) ?_) | (refine Split.neg (by omega) ?_) | (refine Split.mk (fun h => ?_) (fun h => ?_)) | (refine Need.mk (by omega) ?_) | (refine Ints.ln (by assumption) ?_) | (refine Mat.ln (by assumption) ?_) | (refine Ints.ln (Mat.row (by assumption) _ (by omega)) ?_) | (refine Ints.ix (by assumption) (by omega) ?_) | (refine Mat.ix (by assumption) (by omega) ?_) | (refine Ints.ix (Mat.row (by assumption) _ (by omega)) (by omega) ?_) | (refine Ints.ix (c := 0) (by assumption) (by omega) ?_) | (refine Mat.ix (c := 0) (by assumption) (by omega) ?_) | (refine Ints.ix (c := 0) (Mat.row (by assumption) _ (by omega)) (by omega) ?_) | (refine Ints.ixI (by assumption) (by omega) ?_) | (refine Mat.ixI (by assumption) (by omega) ?_) | (refine Ints.ixI (Mat.row (by assumption) _ (by omega)) (by omega) ?_) | (refine Ints.ld (by assumption) (by omega) ?_) | (refine Mat.ld (by assumption) (by omega) ?_) | (refine Ints.ld (Mat.row (by assumption) _ (by omega)) (by omega) ?_) | (refine At.ld (by assumption) rfl ?_) | (refine At.ldN (by assumption) rfl ?_))
    conv => whnf
    refine VE.litI [-1] Try.underlying25 eInt (by simp) fun l1 w3 E3 H1 _ => ?_
    replace H1 := H1 0 (Nat.zero_le _)
    replace Hg := Hg.ext E3
    replace Ha := Ha.ext E3
    replace Ho := Ho.ext E3
    replace Hb := Hb.ext E3
    repeat' ((conv => whnf); first | (refine Dr.quiet tyOk (by kernel_rfl) ?_) | (refine Rng.mk (by omega) ?_) | (refine Split.pos (by omega) ?_) | (refine Split.neg (by omega) ?_) | (refine Split.mk (fun h => ?_) (fun h => ?_)) | (refine Need.mk (by omega) ?_) | (refine Ints.ln (by assumption) ?_) | (refine Mat.ln (by assumption) ?_) | (refine Ints.ln (Mat.row (by assumption) _ (by omega)) ?_) | (refine Ints.ix (by assumption) (by omega) ?_) | (refine Mat.ix (by assumption) (by omega) ?_) | (refine Ints.ix (Mat.row (by assumption) _ (by omega)) (by omega) ?_) | (refine Ints.ix (c := 0) (by assumption) (by omega) ?_) | (refine Mat.ix (c := 0) (by assumption) (by omega) ?_) | (refine Ints.ix (c := 0) (Mat.row (by assumption) _ (by omega)) (by omega) ?_) | (refine Ints.ixI (by assumption) (by omega) ?_) | (refine Mat.ixI (by assumption) (by omega) ?_) | (refine Ints.ixI (Mat.row (by assumption) _ (by omega)) (by omega) ?_) | (refine Ints.ld (by assumption) (by omega) ?_) | (refine Mat.ld (by assumption) (by omega) ?_) | (refine Ints.ld (Mat.row (by assumption) _ (by omega)) (by omega) ?_) | (refine At.ld (by assumption) rfl ?_) | (refine At.ldN (by assumption) rfl ?_))
    refine VC.rc (repeat_rc (Own.sl H1) (by omega)) ?_
    rintro tv w4 E4 ⟨_, Ht⟩
    replace Ht := Ht _ (Nat.le_refl _)
    rw [← toTo_zero o] at Ht
    have Ho3 := Ho
    have Ha3 := Ha
    replace Hg := Hg.ext E4
    replace Ha := Ha.ext E4
    replace Ho := Ho.ext E4
    replace Hb := Hb.ext E4
    have HtI : Ints w4 tv (toTo o rr.length 0) := by unfold Ints; rw [toTo_len]; exact Own.sl Ht
    have htl := toTo_len o rr.length 0
    have c1 := within_pc (lo := 0) (hi := ((toTo o rr.length 0).length : Int)) Ho
    have eN : ¬ asg o rr.length → passE rr a o = 2 ∧ passR rr a o = [] := fun h => ⟨by unfold passE; rw [if_neg (by omega), if_neg h], by unfold passR; rw [if_neg (fun hh => h hh.2)]⟩
    by_cases hl : o.length = rr.length
    · by_cases hw : ∀ i, i < o.length → 0 ≤ o.getD i 0 ∧ o.getD i 0 < ((toTo o rr.length 0).length : Int)
      · rw [tf_t hw] at c1
        have hw2 : ∀ i, i < o.length → 0 ≤ o.getD i 0 ∧ o.getD i 0 < (rr.length : Int) := by rw [htl] at hw; exact hw
        repeat' ((conv => whnf); first | (refine Dr.quiet tyOk (by kernel_rfl) ?_) | (refine VC.pure c1 ?_) | (refine Rng.mk (by omega) ?_) | (refine Split.pos (by omega) ?_) | (refine Split.neg (by omega) ?_) | (refine Split.mk (fun h => ?_) (fun h => ?_)) | (refine Need.mk (by omega) ?_) | (refine Ints.ln (by assumption) ?_) | (refine Mat.ln (by assumption) ?_) | (refine Ints.ln (Mat.row (by assumption) _ (by omega)) ?_) | (refine Ints.ix (by assumption) (by omega) ?_) | (refine Mat.ix (by assumption) (by omega) ?_) | (refine Ints.ix (Mat.row (by assumption) _ (by omega)) (by omega) ?_) | (refine Ints.ix (c := 0) (by assumption) (by omega) ?_) | (refine Mat.ix (c := 0) (by assumption) (by omega) ?_) | (refine Ints.ix (c := 0) (Mat.row (by assumption) _ (by omega)) (by omega) ?_) | (refine Ints.ixI (by assumption) (by omega) ?_) | (refine Mat.ixI (by assumption) (by omega) ?_) | (refine Ints.ixI (Mat.row (by assumption) _ (by omega)) (by omega) ?_) | (refine Ints.ld (by assumption) (by omega) ?_) | (refine Mat.ld (by assumption) (by omega) ?_) | (refine Ints.ld (Mat.row (by assumption) _ (by omega)) (by omega) ?_) | (refine At.ld (by assumption) rfl ?_) | (refine At.ldN (by assumption) rfl ?_))
        have Ho4 := Ho
        have Ha4 := Ha
        refine Lp.mk tyOk [false, false, false, false, false, false, false, false, false, false, true, true, false, false, false, false, false, false, false, false, false, false, false, false, false, false, false, false, false, false, false, false, false, false, false, false, false, false, false, false, true, true, true, true, true, true, true, true, true, true] (fun m fr wr => getK fr 40 fun j => ∃ c : Nat, c ≤ o.length ∧ m = o.length - c ∧ j = .int .i64 (c : Int) ∧ Ext w3 wr ∧ Go.Eng.Own w3.heap.size 3 1 wr tv rr.length ((toTo o rr.length c).map i64v)) o.length ?_ ?_
        · exact ⟨0, Nat.zero_le _, rfl, rfl, E4, Ht⟩
        · intro m w5 u10 u11 u40 u41 u42 u43 u44 u45 u46 u47 u48 u49 hR
          obtain ⟨c, hc, rfl, rfl, E5, Hr⟩ := hR
          have hwc := hw2 c
          have E45 : Ext w3 w5 := E5
          replace Ho := Ho3.ext E5
          replace Ha := Ha3.ext E5
          have hrl := toTo_len o rr.length c
          have HrI : Ints w5 tv (toTo o rr.length c) := by unfold Ints; rw [hrl]; exact Own.sl Hr
          repeat' ((conv => whnf); first | (refine Dr.quiet tyOk (by kernel_rfl) ?_) | (refine Rng.mk (by omega) ?_) | (refine Split.pos (by omega) ?_) | (refine Split.neg (by omega) ?_) | (refine Split.mk (fun h => ?_) (fun h => ?_)) | (refine Need.mk (by omega) ?_) | (refine Ints.ln (by assumption) ?_) | (refine Mat.ln (by assumption) ?_) | (refine Ints.ln (Mat.row (by assumption) _ (by omega)) ?_) | (refine Ints.ix (by assumption) (by omega) ?_) | (refine Mat.ix (by assumption) (by omega) ?_) | (refine Ints.ix (Mat.row (by assumption) _ (by omega)) (by omega) ?_) | (refine Ints.ix (c := 0) (by assumption) (by omega) ?_) | (refine Mat.ix (c := 0) (by assumption) (by omega) ?_) | (refine Ints.ix (c := 0) (Mat.row (by assumption) _ (by omega)) (by omega) ?_) | (refine Ints.ixI (by assumption) (by omega) ?_) | (refine Mat.ixI (by assumption) (by omega) ?_) | (refine Ints.ixI (Mat.row (by assumption) _ (by omega)) (by omega) ?_) | (refine Ints.ld (by assumption) (by omega) ?_) | (refine Mat.ld (by assumption) (by omega) ?_) | (refine Ints.ld (Mat.row (by assumption) _ (by omega)) (by omega) ?_) | (refine At.ld (by assumption) rfl ?_) | (refine At.ldN (by assumption) rfl ?_))
          · refine Own.set Hr (by rw [List.length_map, hrl]; omega) rfl fun w6 G6 H6 => ?_
            have E6 := Own.keep Hr E5 (Nat.le_refl _) G6
            rw [set_map, toTo_set (by omega)] at H6
            repeat' ((conv => whnf); first | (refine Dr.quiet tyOk (by kernel_rfl) ?_) | (refine Rng.mk (by omega) ?_) | (refine Split.pos (by omega) ?_) | (refine Split.neg (by omega) ?_) | (refine Split.mk (fun h => ?_) (fun h => ?_)) | (refine Need.mk (by omega) ?_) | (refine Ints.ln (by assumption) ?_) | (refine Mat.ln (by assumption) ?_) | (refine Ints.ln (Mat.row (by assumption) _ (by omega)) ?_) | (refine Ints.ix (by assumption) (by omega) ?_) | (refine Mat.ix (by assumption) (by omega) ?_) | (refine Ints.ix (Mat.row (by assumption) _ (by omega)) (by omega) ?_) | (refine Ints.ix (c := 0) (by assumption) (by omega) ?_) | (refine Mat.ix (c := 0) (by assumption) (by omega) ?_) | (refine Ints.ix (c := 0) (Mat.row (by assumption) _ (by omega)) (by omega) ?_) | (refine Ints.ixI (by assumption) (by omega) ?_) | (refine Mat.ixI (by assumption) (by omega) ?_) | (refine Ints.ixI (Mat.row (by assumption) _ (by omega)) (by omega) ?_) | (refine Ints.ld (by assumption) (by omega) ?_) | (refine Mat.ld (by assumption) (by omega) ?_) | (refine Ints.ld (Mat.row (by assumption) _ (by omega)) (by omega) ?_) | (refine At.ld (by assumption) rfl ?_) | (refine At.ldN (by assumption) rfl ?_))
            exact ⟨_, (by omega : o.length - (c + 1) < o.length - c), rfl, c + 1, by omega, rfl, rfl, E6, H6⟩
          · obtain rfl : c = o.length := by omega
            have cC := contains_pc (x := -1) HrI
            by_cases hmem : (-1 : Int) ∈ toTo o rr.length o.length
            · rw [tf_t hmem] at cC
              have hna : ¬ asg o rr.length := fun h => (asg_to hl hw2).1 h hmem
              rw [(eN hna).1, (eN hna).2]
              refine VC.pure cC ?_
              repeat' ((conv => whnf); first | (refine Dr.quiet tyOk (by kernel_rfl) ?_) | (refine Rng.mk (by omega) ?_) | (refine Split.pos (by omega) ?_) | (refine Split.neg (by omega) ?_) | (refine Split.mk (fun h => ?_) (fun h => ?_)) | (refine Need.mk (by omega) ?_) | (refine Ints.ln (by assumption) ?_) | (refine Mat.ln (by assumption) ?_) | (refine Ints.ln (Mat.row (by assumption) _ (by omega)) ?_) | (refine Ints.ix (by assumption) (by omega) ?_) | (refine Mat.ix (by assumption) (by omega) ?_) | (refine Ints.ix (Mat.row (by assumption) _ (by omega)) (by omega) ?_) | (refine Ints.ix (c := 0) (by assumption) (by omega) ?_) | (refine Mat.ix (c := 0) (by assumption) (by omega) ?_) | (refine Ints.ix (c := 0) (Mat.row (by assumption) _ (by omega)) (by omega) ?_) | (refine Ints.ixI (by assumption) (by omega) ?_) | (refine Mat.ixI (by assumption) (by omega) ?_) | (refine Ints.ixI (Mat.row (by assumption) _ (by omega)) (by omega) ?_) | (refine Ints.ld (by assumption) (by omega) ?_) | (refine Mat.ld (by assumption) (by omega) ?_) | (refine Ints.ld (Mat.row (by assumption) _ (by omega)) (by omega) ?_) | (refine At.ld (by assumption) rfl ?_) | (refine At.ldN (by assumption) rfl ?_))
              exact ⟨E2.trans (E3.trans E5), _, rfl, Own.nil⟩
            · rw [tf_f hmem] at cC
              have hasg : asg o rr.length := (asg_to hl hw2).2 hmem
              have eE : passE rr a o = 0 := by unfold passE; rw [if_neg (by omega), if_pos hasg]
              have eR : passR rr a o = passV a o := by unfold passR; rw [if_pos ⟨hv, hasg⟩]
              rw [eE, eR]
              refine VC.pure cC ?_
              repeat' ((conv => whnf); first | (refine Dr.quiet tyOk (by kernel_rfl) ?_) | (refine Rng.mk (by omega) ?_) | (refine Split.pos (by omega) ?_) | (refine Split.neg (by omega) ?_) | (refine Split.mk (fun h => ?_) (fun h => ?_)) | (refine Need.mk (by omega) ?_) | (refine Ints.ln (by assumption) ?_) | (refine Mat.ln (by assumption) ?_) | (refine Ints.ln (Mat.row (by assumption) _ (by omega)) ?_) | (refine Ints.ix (by assumption) (by omega) ?_) | (refine Mat.ix (by assumption) (by omega) ?_) | (refine Ints.ix (Mat.row (by assumption) _ (by omega)) (by omega) ?_) | (refine Ints.ix (c := 0) (by assumption) (by omega) ?_) | (refine Mat.ix (c := 0) (by assumption) (by omega) ?_) | (refine Ints.ix (c := 0) (Mat.row (by assumption) _ (by omega)) (by omega) ?_) | (refine Ints.ixI (by assumption) (by omega) ?_) | (refine Mat.ixI (by assumption) (by omega) ?_) | (refine Ints.ixI (Mat.row (by assumption) _ (by omega)) (by omega) ?_) | (refine Ints.ld (by assumption) (by omega) ?_) | (refine Mat.ld (by assumption) (by omega) ?_) | (refine Ints.ld (Mat.row (by assumption) _ (by omega)) (by omega) ?_) | (refine At.ld (by assumption) rfl ?_) | (refine At.ldN (by assumption) rfl ?_))
              have Ha5 := Ha
              have HrI5 := HrI
              refine Lp.mk tyOk [false, false, false, false, false, false, false, false, false, false, false, false, true, false, true, false, false, false, false, false, false, false, false, false, false, false, false, false, false, false, false, false, false, false, false, false, false, false, false, false, false, false, false, false, false, false, false, false, false, false, false, false, false, false, true, true, true, true, true, true, true, true, true, true, true, true, true, true, true] (fun m fr wr => getK fr 54 fun k => getK fr 12 fun v => ∃ c : Nat, c ≤ a.length ∧ m = a.length - c ∧ k = .int .i64 (c : Int) ∧ Ext w5 wr ∧ Go.Eng.Own w5.heap.size 3 1 wr v c (((List.range c).map fun k => lastTo o (a.getD k 0) o.length).map i64v)) a.length ?_ ?_
              · exact ⟨0, Nat.zero_le _, rfl, rfl, Ext.refl _, Own.nil⟩
              · intro m w6 u12 u14 u54 u55 u56 u57 u58 u59 u60 u61 u62 u63 u64 u65 u66 u67 u68 hR
                obtain ⟨c, hc, rfl, rfl, E6, Hv⟩ := hR
                replace Ha := Ha5.ext E6
                replace HrI := HrI5.ext E6
                have hrg := hal.rng c
                have hget : ∀ x : Int, 0 ≤ x → x < rr.length → (toTo o rr.length o.length).getD x.toNat 0 = lastTo o x o.length := fun x h0 h1 => by
                  rw [toTo_get (by omega)]; congr 1; omega
                have hneg : a.getD c 0 < 0 → lastTo o (a.getD c 0) o.length = -1 := fun h => lastTo_neg.2 fun i hi e => by have := hw2 i hi; omega
                repeat' ((conv => whnf); first | (refine Dr.quiet tyOk (by kernel_rfl) ?_) | (refine Rng.mk (by omega) ?_) | (refine Split.pos (by omega) ?_) | (refine Split.neg (by omega) ?_) | (refine Split.mk (fun h => ?_) (fun h => ?_)) | (refine Need.mk (by omega) ?_) | (refine Ints.ln (by assumption) ?_) | (refine Mat.ln (by assumption) ?_) | (refine Ints.ln (Mat.row (by assumption) _ (by omega)) ?_) | (refine Ints.ix (by assumption) (by omega) ?_) | (refine Mat.ix (by assumption) (by omega) ?_) | (refine Ints.ix (Mat.row (by assumption) _ (by omega)) (by omega) ?_) | (refine Ints.ix (c := 0) (by assumption) (by omega) ?_) | (refine Mat.ix (c := 0) (by assumption) (by omega) ?_) | (refine Ints.ix (c := 0) (Mat.row (by assumption) _ (by omega)) (by omega) ?_) | (refine Ints.ixI (by assumption) (by omega) ?_) | (refine Mat.ixI (by assumption) (by omega) ?_) | (refine Ints.ixI (Mat.row (by assumption) _ (by omega)) (by omega) ?_) | (refine Ints.ld (by assumption) (by omega) ?_) | (refine Mat.ld (by assumption) (by omega) ?_) | (refine Ints.ld (Mat.row (by assumption) _ (by omega)) (by omega) ?_) | (refine At.ld (by assumption) rfl ?_) | (refine At.ldN (by assumption) rfl ?_))
                · refine VE.lit1 Try.underlying25 eInt (rfl) fun lv w7 E7 Hl => ?_
                  replace Hv := Hv.ext E7
                  conv => whnf
                  refine VE.app Try.underlying25 eInt rfl (by omega) Hv (E6.trans E7) rfl Hl (by simp [Value.oneCell']) (by first | omega | (simp only [List.length_map, List.length_range]; omega)) (by first | omega | (simp only [List.length_map, List.length_range]; omega)) fun v8 w8 E8 G8 H8 => ?_
                  repeat' ((conv => whnf); first | (refine Dr.quiet tyOk (by kernel_rfl) ?_) | (refine Rng.mk (by omega) ?_) | (refine Split.pos (by omega) ?_) | (refine Split.neg (by omega) ?_) | (refine Split.mk (fun h => ?_) (fun h => ?_)) | (refine Need.mk (by omega) ?_) | (refine Ints.ln (by assumption) ?_) | (refine Mat.ln (by assumption) ?_) | (refine Ints.ln (Mat.row (by assumption) _ (by omega)) ?_) | (refine Ints.ix (by assumption) (by omega) ?_) | (refine Mat.ix (by assumption) (by omega) ?_) | (refine Ints.ix (Mat.row (by assumption) _ (by omega)) (by omega) ?_) | (refine Ints.ix (c := 0) (by assumption) (by omega) ?_) | (refine Mat.ix (c := 0) (by assumption) (by omega) ?_) | (refine Ints.ix (c := 0) (Mat.row (by assumption) _ (by omega)) (by omega) ?_) | (refine Ints.ixI (by assumption) (by omega) ?_) | (refine Mat.ixI (by assumption) (by omega) ?_) | (refine Ints.ixI (Mat.row (by assumption) _ (by omega)) (by omega) ?_) | (refine Ints.ld (by assumption) (by omega) ?_) | (refine Mat.ld (by assumption) (by omega) ?_) | (refine Ints.ld (Mat.row (by assumption) _ (by omega)) (by omega) ?_) | (refine At.ld (by assumption) rfl ?_) | (refine At.ldN (by assumption) rfl ?_))
                  refine ⟨_, (by omega : a.length - (c + 1) < a.length - c), rfl, c + 1, by omega, rfl, rfl, E8, ?_⟩
                  rw [map_range_succ, List.map_append, ← hget (a.getD c 0) (by omega) (by omega)]
                  exact H8
                · refine VE.lit1 Try.underlying25 eInt (rfl) fun lv w7 E7 Hl => ?_
                  replace Hv := Hv.ext E7
                  conv => whnf
                  refine VE.app Try.underlying25 eInt rfl (by omega) Hv (E6.trans E7) rfl Hl (by simp [Value.oneCell']) (by first | omega | (simp only [List.length_map, List.length_range]; omega)) (by first | omega | (simp only [List.length_map, List.length_range]; omega)) fun v8 w8 E8 G8 H8 => ?_
                  repeat' ((conv => whnf); first | (refine Dr.quiet tyOk (by kernel_rfl) ?_) | (refine Rng.mk (by omega) ?_) | (refine Split.pos (by omega) ?_) | (refine Split.neg (by omega) ?_) | (refine Split.mk (fun h => ?_) (fun h => ?_)) | (refine Need.mk (by omega) ?_) | (refine Ints.ln (by assumption) ?_) | (refine Mat.ln (by assumption) ?_) | (refine Ints.ln (Mat.row (by assumption) _ (by omega)) ?_) | (refine Ints.ix (by assumption) (by omega) ?_) | (refine Mat.ix (by assumption) (by omega) ?_) | (refine Ints.ix (Mat.row (by assumption) _ (by omega)) (by omega) ?_) | (refine Ints.ix (c := 0) (by assumption) (by omega) ?_) | (refine Mat.ix (c := 0) (by assumption) (by omega) ?_) | (refine Ints.ix (c := 0) (Mat.row (by assumption) _ (by omega)) (by omega) ?_) | (refine Ints.ixI (by assumption) (by omega) ?_) | (refine Mat.ixI (by assumption) (by omega) ?_) | (refine Ints.ixI (Mat.row (by assumption) _ (by omega)) (by omega) ?_) | (refine Ints.ld (by assumption) (by omega) ?_) | (refine Mat.ld (by assumption) (by omega) ?_) | (refine Ints.ld (Mat.row (by assumption) _ (by omega)) (by omega) ?_) | (refine At.ld (by assumption) rfl ?_) | (refine At.ldN (by assumption) rfl ?_))
                  refine ⟨_, (by omega : a.length - (c + 1) < a.length - c), rfl, c + 1, by omega, rfl, rfl, E8, ?_⟩
                  have e1 : lastTo o (a.getD c 0) o.length = a.getD c 0 := by rw [hneg (by omega)]; omega
                  rw [map_range_succ, List.map_append, e1]
                  exact H8
                · obtain rfl : c = a.length := by omega
                  refine ⟨E2.trans (E3.trans (E5.trans E6)), _, rfl, ?_⟩
                  have h3 := Own.len Hv
                  rw [List.length_map, Nat.mul_one] at h3
                  rw [show (passV a o).length = a.length from h3]
                  exact Own.base Hv (Nat.le_trans E1.size (Nat.le_trans E2.size (Nat.le_trans E3.size E5.size)))
      · rw [tf_f hw] at c1
        rw [htl] at hw
        have hna : ¬ asg o rr.length := fun h => hw (by rw [hl]; exact ((asg_iff hl).1 h).1)
        rw [(eN hna).1, (eN hna).2]
        repeat' ((conv => whnf); first | (refine Dr.quiet tyOk (by kernel_rfl) ?_) | (refine VC.pure c1 ?_) | (refine Rng.mk (by omega) ?_) | (refine Split.pos (by omega) ?_) | (refine Split.neg (by omega) ?_) | (refine Split.mk (fun h => ?_) (fun h => ?_)) | (refine Need.mk (by omega) ?_) | (refine Ints.ln (by assumption) ?_) | (refine Mat.ln (by assumption) ?_) | (refine Ints.ln (Mat.row (by assumption) _ (by omega)) ?_) | (refine Ints.ix (by assumption) (by omega) ?_) | (refine Mat.ix (by assumption) (by omega) ?_) | (refine Ints.ix (Mat.row (by assumption) _ (by omega)) (by omega) ?_) | (refine Ints.ix (c := 0) (by assumption) (by omega) ?_) | (refine Mat.ix (c := 0) (by assumption) (by omega) ?_) | (refine Ints.ix (c := 0) (Mat.row (by assumption) _ (by omega)) (by omega) ?_) | (refine Ints.ixI (by assumption) (by omega) ?_) | (refine Mat.ixI (by assumption) (by omega) ?_) | (refine Ints.ixI (Mat.row (by assumption) _ (by omega)) (by omega) ?_) | (refine Ints.ld (by assumption) (by omega) ?_) | (refine Mat.ld (by assumption) (by omega) ?_) | (refine Ints.ld (Mat.row (by assumption) _ (by omega)) (by omega) ?_) | (refine At.ld (by assumption) rfl ?_) | (refine At.ldN (by assumption) rfl ?_))
        exact ⟨E2.trans (E3.trans E4), _, rfl, Own.nil⟩
    · have hna : ¬ asg o rr.length := fun h => hl h.1
      rw [(eN hna).1, (eN hna).2]
      repeat' ((conv => whnf); first | (refine Dr.quiet tyOk (by kernel_rfl) ?_) | (refine Rng.mk (by omega) ?_) | (refine Split.pos (by omega) ?_) | (refine Split.neg (by omega) ?_) | (refine Split.mk (fun h => ?_) (fun h => ?_)) | (refine Need.mk (by omega) ?_) | (refine Ints.ln (by assumption) ?_) | (refine Mat.ln (by assumption) ?_) | (refine Ints.ln (Mat.row (by assumption) _ (by omega)) ?_) | (refine Ints.ix (by assumption) (by omega) ?_) | (refine Mat.ix (by assumption) (by omega) ?_) | (refine Ints.ix (Mat.row (by assumption) _ (by omega)) (by omega) ?_) | (refine Ints.ix (c := 0) (by assumption) (by omega) ?_) | (refine Mat.ix (c := 0) (by assumption) (by omega) ?_) | (refine Ints.ix (c := 0) (Mat.row (by assumption) _ (by omega)) (by omega) ?_) | (refine Ints.ixI (by assumption) (by omega) ?_) | (refine Mat.ixI (by assumption) (by omega) ?_) | (refine Ints.ixI (Mat.row (by assumption) _ (by omega)) (by omega) ?_) | (refine Ints.ld (by assumption) (by omega) ?_) | (refine Mat.ld (by assumption) (by omega) ?_) | (refine Ints.ld (Mat.row (by assumption) _ (by omega)) (by omega) ?_) | (refine At.ld (by assumption) rfl ?_) | (refine At.ldN (by assumption) rfl ?_))
      exact ⟨E2.trans (E3.trans E4), _, rfl, Own.nil⟩
  · have eE : passE rr a o = vld rr a := by unfold passE; rw [if_pos hv]
    have eR : passR rr a o = [] := by unfold passR; rw [if_neg (fun h => hv h.1)]
    rw [eE, eR]
    repeat' ((conv => whnf); first | (refine Dr.quiet tyOk (by kernel_rfl) ?_) | (refine VC.pure (gvalid_pc Hg Ha) ?_) | (refine Rng.mk (by omega) ?_) | (refine Split.pos (by omega) ?_) | (refine Split.neg (by omega) ?_) | (refine Split.mk (fun h => ?_) (fun h => ?_)) | (refine Need.mk (by omega) ?_) | (refine Ints.ln (by assumption) ?_) | (refine Mat.ln (by assumption) ?_) | (refine Ints.ln (Mat.row (by assumption) _ (by omega)) ?_) | (refine Ints.ix (by assumption) (by omega) ?_) | (refine Mat.ix (by assumption) (by omega) ?_) | (refine Ints.ix (Mat.row (by assumption) _ (by omega)) (by omega) ?_) | (refine Ints.ix (c := 0) (by assumption) (by omega) ?_) | (refine Mat.ix (c := 0) (by assumption) (by omega) ?_) | (refine Ints.ix (c := 0) (Mat.row (by assumption) _ (by omega)) (by omega) ?_) | (refine Ints.ixI (by assumption) (by omega) ?_) | (refine Mat.ixI (by assumption) (by omega) ?_) | (refine Ints.ixI (Mat.row (by assumption) _ (by omega)) (by omega) ?_) | (refine Ints.ld (by assumption) (by omega) ?_) | (refine Mat.ld (by assumption) (by omega) ?_) | (refine Ints.ld (Mat.row (by assumption) _ (by omega)) (by omega) ?_) | (refine At.ld (by assumption) rfl ?_) | (refine At.ldN (by assumption) rfl ?_))
    exact ⟨E2, _, rfl, Own.nil⟩
end Go.Proofs.Ytebklnmafjbhcaa
set_option linter.unusedVariables false
set_option linter.unusedSimpArgs false
namespace Go.Proofs.Ytebklnmafjbhcaa
open Go.Eng
set_option maxRecDepth 100000

theorem eGoods : Elem Try.prog 24 (.agg #[.slice none 0 0]) 1 24 := by unfold Elem; kernel_rfl

theorem own : ownKnob Try.prog.godebug = none := by kernel_rfl
theorem laidOut : laidOutB Try.prog = true := by kernel_rfl
end Go.Proofs.Ytebklnmafjbhcaa
set_option linter.unusedVariables false
set_option linter.unusedSimpArgs false
namespace Go.Proofs.Ytebklnmafjbhcaa
open Go.Eng
set_option maxRecDepth 100000

def gvn : List (List Int) := [[5, 3, 1], [2, 2, 2]]

theorem gvn_chk : chk gvn = 0 := by
  refine chk_ok ?_ ?_
  · rintro (h | ⟨i, hi, h⟩)
    · exact absurd h (by decide)
    · match i, hi with
      | 0, _ => exact absurd h (by decide)
      | 1, _ => exact absurd h (by decide)
  · rintro (h | ⟨i, hi, h | ⟨j, hj, h⟩⟩)
    · exact absurd h (by decide)
    · match i, hi with
      | 0, _ => exact absurd h (by decide)
      | 1, _ => exact absurd h (by decide)
    · match i, hi, j, hj with
      | 0, _, 0, _ => exact absurd h (by decide)
      | 0, _, 1, _ => exact absurd h (by decide)
      | 0, _, 2, _ => exact absurd h (by decide)
      | 1, _, 0, _ => exact absurd h (by decide)
      | 1, _, 1, _ => exact absurd h (by decide)
      | 1, _, 2, _ => exact absurd h (by decide)
theorem gvn_vld {x y z : Int} (hx : -1 ≤ x ∧ x < 2) (hy : -1 ≤ y ∧ y < 2) (hz : -1 ≤ z ∧ z < 2) : vld gvn [x, y, z] = 0 := by
  refine vld_ok gvn_chk ?_
  rintro (h | ⟨k, hk, h⟩)
  · exact absurd rfl h
  · match k, hk with
    | 0, _ => simp [gvn] at h; omega
    | 1, _ => simp [gvn] at h; omega
    | 2, _ => simp [gvn] at h; omega

end Go.Proofs.Ytebklnmafjbhcaa
set_option linter.unusedVariables false
set_option linter.unusedSimpArgs false
namespace Go.Eng
theorem Gr.ext {a b c : World} (h : Ext a b) (k : Ext b c) : Ext a c := Gr.trans h k
theorem all_succ {p : Nat → Prop} {c : Nat} (h : ∀ i, i < c → p i) (h1 : p c) : ∀ i, i < c + 1 → p i := fun i hi => by
  by_cases e : i = c
  · subst e; exact h1
  · exact h i (by omega)
theorem VS.b3 {P : Program} {w : World} {t : TypeId} {f0 f1 f2 : Field} {N b : Nat} {z0 z1 z2 : Value} {x y z : Int} {K : Value → Prop} (ht : P.underlying t = some (.struct #[f0, f1, f2])) (hz : Elem P t (.agg #[z0, z1, z2]) N b)
    (hg : P.cellsOf f0.type = 1 ∧ P.cellsOf f1.type = 1 ∧ P.cellsOf f2.type = 1) (ho : f0.offset = 0 ∧ f1.offset = 1 ∧ f2.offset = 2) (hk : K (.agg #[.int .i64 x, .int .i64 y, .int .i64 z])) :
    VS P (Instr.build t [(0, .int .i64 x), (1, .int .i64 y), (2, .int .i64 z)].toArray) w K :=
  VS.fields (l := [f0, f1, f2]) (ps := [(0, .int .i64 x), (1, .int .i64 y), (2, .int .i64 z)]) ht hz (by simp [hg.1, hg.2.1, hg.2.2]) (by simp [ho.1, ho.2.1, ho.2.2, List.range, List.range.loop]) rfl rfl rfl (by simp [Value.cells]) hk
end Go.Eng
namespace Go.Proofs.Ytebklnmafjbhcaa
open Go.Eng
/-- A list of records that the call has made. -/
abbrev OT (B : Nat) (w : World) (v : Value) (l : List T3) : Prop := Own B 96 3 w v l.length (flat3 l)
theorem OT.of {B n : Nat} {w : World} {v : Value} {l : List T3} (h : Own B 96 3 w v n (flat3 l)) : OT B w v l := by
  have e := Own.len h
  rw [flat3_len] at e
  have : n = l.length := by omega
  subst this; exact h
abbrev OE (B : Nat) (w : World) (v : Value) (l : List T3) : Prop := Own B 93 3 w v l.length (flat3 l)
theorem OE.of {B n : Nat} {w : World} {v : Value} {l : List T3} (h : Own B 93 3 w v n (flat3 l)) : OE B w v l := by
  have e := Own.len h
  rw [flat3_len] at e
  have : n = l.length := by omega
  subst this; exact h
end Go.Proofs.Ytebklnmafjbhcaa
set_option linter.unusedVariables false
set_option linter.unusedSimpArgs false
namespace Go.Proofs.Ytebklnmafjbhcaa
open Go.Eng
set_option maxRecDepth 100000
set_option maxHeartbeats 4000000

def hX (rr : List (List Int)) (a : List Int) (i k : Nat) : List (Int × Int) := if wth rr a i i < wth rr a i k then missOf rr a (i, k, moreV rr a i k) else []
end Go.Proofs.Ytebklnmafjbhcaa
set_option linter.unusedVariables false
set_option linter.unusedSimpArgs false
namespace Go.Proofs.Ytebklnmafjbhcaa
open Go.Eng
set_option maxRecDepth 100000
set_option maxHeartbeats 4000000

theorem worth_set {a r : List Int} {k x : Int} {q : Nat} (hq : q < a.length) : ∀ c : Nat, worth (a.set q x) r k c = worth a r k c + if q < c then ((if x = k then r.getD q 0 else 0) - (if a.getD q 0 = k then r.getD q 0 else 0)) else 0
  | 0 => by simp [worth]
  | c + 1 => by
    have ih := worth_set (r := r) (k := k) (x := x) hq c
    have hs := set_get (x := x) (k := c) hq
    simp only [worth, ih, hs]
    by_cases h1 : c = q
    · subst h1
      rw [if_pos rfl, if_neg (by omega : ¬ c < c), if_pos (by omega : c < c + 1)]
      omega
    · rw [if_neg h1]
      by_cases h2 : q < c
      · rw [if_pos h2, if_pos (by omega : q < c + 1)]; omega
      · rw [if_neg h2, if_neg (by omega : ¬ q < c + 1)]; omega
theorem wth_set {rr : List (List Int)} {a : List Int} {i q : Nat} {k x : Int} (hq : q < a.length) : wth rr (a.set q x) i k = wth rr a i k + ((if x = k then val rr i q else 0) - (if a.getD q 0 = k then val rr i q else 0)) := by
  unfold wth
  rw [worth_set (by simpa using hq), List.length_set, if_pos hq]
  rfl
end Go.Proofs.Ytebklnmafjbhcaa
set_option linter.unusedVariables false
set_option linter.unusedSimpArgs false
namespace Go.Proofs.Ytebklnmafjbhcaa
open Go.Eng
set_option maxRecDepth 100000
set_option maxHeartbeats 4000000

theorem OM.blk {B : Nat} {T : TypeId} {b : Nat} {w w' : World} {v : Value} {vs ys : List Value} {rr : List (List Int)} (h : OM B w v vs rr) (hk : Blk w b T ys) (h1 : 25 ≠ T) (h2 : 3 ≠ T) (hg : Gr (fun j => j = b) w w') : OM B w' v vs rr :=
  ⟨Own.blk h.top hk h1 hg, fun i hi => Own.blk (h.row i hi) hk h2 hg⟩

end Go.Proofs.Ytebklnmafjbhcaa
set_option linter.unusedVariables false
set_option linter.unusedSimpArgs false
namespace Go.Proofs.Ytebklnmafjbhcaa
open Go.Eng

/-- the digits of k to the base n, the first one first -/
def digs (n : Nat) : Nat → Nat → List Int
  | 0, _ => []
  | j + 1, k => ((k / n ^ j : Nat) : Int) :: digs n j (k % n ^ j)
theorem digs_len (n : Nat) : ∀ j k, (digs n j k).length = j
  | 0, _ => rfl
  | j + 1, k => by simp [digs, digs_len n j]
theorem digs_at {n j i r : Nat} (hr : r < n ^ j) : digs n (j + 1) (i * n ^ j + r) = (i : Int) :: digs n j r := by
  have hp : 0 < n ^ j := by omega
  have e1 : (i * n ^ j + r) / n ^ j = i := by
    rw [Nat.mul_comm, Nat.mul_add_div hp, Nat.div_eq_of_lt hr]; rfl
  have e2 : (i * n ^ j + r) % n ^ j = r := by
    rw [Nat.mul_comm, Nat.mul_add_mod]; exact Nat.mod_eq_of_lt hr
  simp only [digs, e1, e2]
/-- every list of numbers below n has its place -/
theorem digs_all {n : Nat} (hn : 1 ≤ n) : ∀ {l : List Int}, (∀ i, i < l.length → 0 ≤ l.getD i 0 ∧ l.getD i 0 < n) → ∃ k, k < n ^ l.length ∧ digs n l.length k = l
  | [], _ => ⟨0, by simp, rfl⟩
  | x :: l, h => by
    obtain ⟨k, hk, e⟩ := digs_all hn (l := l) (fun i hi => by have := h (i + 1) (by simpa using hi); simpa using this)
    have h0 : 0 ≤ x ∧ x < n := by have := h 0 (by simp); simpa using this
    have hx : ((x.toNat : Nat) : Int) = x := by omega
    refine ⟨x.toNat * n ^ l.length + k, ?_, ?_⟩
    · show _ < n ^ (l.length + 1)
      have h1 : x.toNat + 1 ≤ n := by omega
      have h2 := Nat.mul_le_mul_right (n ^ l.length) h1
      rw [Nat.add_mul, Nat.one_mul] at h2
      rw [Nat.pow_succ, Nat.mul_comm (n ^ l.length) n]; omega
    · show digs n (l.length + 1) _ = x :: l
      rw [digs_at hk, e, hx]
/-- lists in the order of their places -/
def lexlt : List Int → List Int → Prop
  | [], _ => False
  | _, [] => False
  | x :: l, y :: m => x < y ∨ (x = y ∧ lexlt l m)
theorem digs_lt {n : Nat} (hn : 1 ≤ n) : ∀ {j a b : Nat}, a < n ^ j → b < n ^ j → a < b → lexlt (digs n j a) (digs n j b)
  | 0, a, b, ha, hb, h => by simp at ha hb; omega
  | j + 1, a, b, ha, hb, h => by
    have hp : 0 < n ^ j := Nat.pow_pos (by omega)
    have ea := Nat.div_add_mod a (n ^ j)
    have eb := Nat.div_add_mod b (n ^ j)
    have ma := Nat.mod_lt a hp
    have mb := Nat.mod_lt b hp
    simp only [digs, lexlt]
    by_cases e : a / n ^ j = b / n ^ j
    · refine .inr ⟨by rw [e], digs_lt hn ma mb ?_⟩
      rw [e] at ea; omega
    · refine .inl ?_
      have hle : a / n ^ j ≤ b / n ^ j := Nat.div_le_div_right (by omega)
      omega
theorem lexlt_irrefl : ∀ l, ¬ lexlt l l
  | [], h => h
  | x :: l, h => by
    rcases h with h | ⟨_, h⟩
    · omega
    · exact lexlt_irrefl l h
theorem lexlt_asymm : ∀ {l m}, lexlt l m → ¬ lexlt m l
  | [], _, h, _ => h
  | _ :: _, [], h, _ => h
  | x :: l, y :: m, h, h2 => by
    rcases h with h | ⟨e, h⟩ <;> rcases h2 with h2 | ⟨e2, h2⟩
    · omega
    · omega
    · omega
    · exact lexlt_asymm h h2
/-- at the first place where they differ -/
theorem lexlt_at {l m : List Int} (h : lexlt l m) : ∃ k, k < l.length ∧ k < m.length ∧ (∀ i, i < k → l.getD i 0 = m.getD i 0) ∧ l.getD k 0 < m.getD k 0 := by
  induction l generalizing m with
  | nil => exact h.elim
  | cons x l ih =>
    cases m with
    | nil => exact h.elim
    | cons y m =>
      rcases h with h | ⟨e, h⟩
      · exact ⟨0, by simp, by simp, fun i hi => absurd hi (Nat.not_lt_zero _), by simpa using h⟩
      · obtain ⟨k, h1, h2, h3, h4⟩ := ih h
        refine ⟨k + 1, by simp; omega, by simp; omega, fun i hi => ?_, by simpa using h4⟩
        cases i with
        | zero => simpa using e
        | succ i => simpa using h3 i (by omega)

end Go.Proofs.Ytebklnmafjbhcaa
set_option linter.unusedVariables false
set_option linter.unusedSimpArgs false
namespace Go.Proofs.Ytebklnmafjbhcaa
open Go.Eng

theorem lex_tri : ∀ {a b : List Int}, a.length = b.length → a = b ∨ lexlt a b ∨ lexlt b a
  | [], [], _ => .inl rfl
  | [], _ :: _, h => by simp at h
  | _ :: _, [], h => by simp at h
  | x :: a, y :: b, h => by
    rcases Int.lt_trichotomy x y with e | e | e
    · exact .inr (.inl (.inl e))
    · subst e
      rcases lex_tri (a := a) (b := b) (by simpa using h) with e | e | e
      · subst e; exact .inl rfl
      · exact .inr (.inl (.inr ⟨rfl, e⟩))
      · exact .inr (.inr (.inr ⟨rfl, e⟩))
    · exact .inr (.inr (.inl e))
theorem php : ∀ (n : Nat) (F : Nat → Nat), (∀ i, i ≤ n → F i < n) → ∃ i j, i < j ∧ j ≤ n ∧ F i = F j
  | 0, F, h => absurd (h 0 (Nat.le_refl _)) (Nat.not_lt_zero _)
  | n + 1, F, h => by
    by_cases hc : ∃ i, i ≤ n ∧ F i = F (n + 1)
    · obtain ⟨i, hi, e⟩ := hc
      exact ⟨i, n + 1, by omega, Nat.le_refl _, e⟩
    · have hne : ∀ i, i ≤ n → F i ≠ F (n + 1) := fun i hi e => hc ⟨i, hi, e⟩
      have hl := h (n + 1) (Nat.le_refl _)
      obtain ⟨i, j, hij, hj, e⟩ := php n (fun i => if F (n + 1) < F i then F i - 1 else F i) (fun i hi => by
        have h1 := hne i hi
        have h2 := h i (by omega)
        show (if F (n + 1) < F i then F i - 1 else F i) < n
        split <;> omega)
      refine ⟨i, j, hij, by omega, ?_⟩
      have h1 := hne i (by omega)
      have h2 := hne j hj
      split at e <;> split at e <;> omega

/-- agent i envies agent k -/
def En (rr : List (List Int)) (a : List Int) (i k : Int) : Prop := wth rr a i.toNat i < wth rr a i.toNat k
structure isC (rr : List (List Int)) (a l : List Int) : Prop where
  len : 1 < l.length
  rng : ∀ t, t < l.length → 0 ≤ l.getD t 0 ∧ l.getD t 0 < rr.length
  low : ∀ t, 0 < t → t < l.length → l.getD 0 0 < l.getD t 0
  dis : ∀ s t, s < t → t < l.length → l.getD s 0 ≠ l.getD t 0
  edg : ∀ t, t < l.length → En rr a (l.getD t 0) (l.getD ((t + 1) % l.length) 0)
theorem dis_le {l : List Int} {n : Nat} (h : ∀ t, t < l.length → 0 ≤ l.getD t 0 ∧ l.getD t 0 < n) (hd : ∀ s t, s < t → t < l.length → l.getD s 0 ≠ l.getD t 0) : l.length ≤ n := by
  refine Classical.byContradiction fun hn => ?_
  obtain ⟨i, j, h1, h2, e⟩ := php n (fun i => (l.getD i 0).toNat) (fun i hi => by have := h i (by omega); show (l.getD i 0).toNat < n; omega)
  have h3 := h i (by omega)
  have h4 := h j (by omega)
  exact hd i j h1 (by omega) (by omega)
theorem isC.le {rr : List (List Int)} {a l : List Int} (h : isC rr a l) : l.length ≤ rr.length := dis_le h.rng h.dis

/-- the circle: the first of the shortest ones, or nothing -/
def IsCirc (rr : List (List Int)) (a c : List Int) : Prop := (c = [] ∧ ∀ l, ¬ isC rr a l) ∨ (isC rr a c ∧ ∀ l, isC rr a l → c.length ≤ l.length ∧ (l.length = c.length → ¬ lexlt l c))
theorem IsCirc.one {rr : List (List Int)} {a b c : List Int} (hb : IsCirc rr a b) (hc : IsCirc rr a c) : b = c := by
  rcases hb with ⟨rfl, h1⟩ | ⟨h1, h2⟩ <;> rcases hc with ⟨rfl, h3⟩ | ⟨h3, h4⟩
  · rfl
  · exact absurd h3 (h1 _)
  · exact absurd h1 (h3 _)
  · have h5 := h2 c h3
    have h6 := h4 b h1
    have e : b.length = c.length := by omega
    rcases lex_tri e with h | h | h
    · exact h
    · exact absurd h (h6.2 e)
    · exact absurd h (h5.2 e.symm)
open Classical in
noncomputable def circ (rr : List (List Int)) (a : List Int) : List Int := if h : ∃ c, IsCirc rr a c then h.choose else []
theorem circ_is {rr : List (List Int)} {a c : List Int} (h : IsCirc rr a c) : circ rr a = c := by
  have hex : ∃ c, IsCirc rr a c := ⟨c, h⟩
  unfold circ
  rw [dif_pos hex]
  exact hex.choose_spec.one h

/-- nobody is free of envy: there is a circle -/
def frees (rr : List (List Int)) (a : List Int) (i : Nat) : Prop := ∀ k : Nat, k < rr.length → ¬ En rr a k i
theorem has_circle {rr : List (List Int)} {a : List Int} (hn : 1 ≤ rr.length) (h : ∀ i, i < rr.length → ¬ frees rr a i) : ∃ l, isC rr a l := by
  have hex : ∀ i : Nat, ∃ k : Nat, i < rr.length → k < rr.length ∧ En rr a k i := fun i => by
    by_cases hi : i < rr.length
    · refine Classical.byContradiction fun hno => h i hi fun k hk he => hno ⟨k, fun _ => ⟨hk, he⟩⟩
    · exact ⟨0, fun h => absurd h hi⟩
  obtain ⟨f, hf⟩ : ∃ f : Nat → Nat, ∀ i, i < rr.length → f i < rr.length ∧ En rr a (f i : Nat) i := ⟨fun i => (hex i).choose, fun i => (hex i).choose_spec⟩
  -- the t-th one before i
  obtain ⟨P, P0, PS⟩ : ∃ P : Nat → Nat → Nat, (∀ i, P 0 i = i) ∧ ∀ t i, P (t + 1) i = f (P t i) := ⟨fun t i => Nat.rec i (fun _ x => f x) t, fun _ => rfl, fun _ _ => rfl⟩
  have Padd : ∀ s t i, P (s + t) i = P s (P t i) := fun s t i => by
    induction s with
    | zero => rw [Nat.zero_add, P0]
    | succ s ih => rw [show s + 1 + t = (s + t) + 1 by omega, PS, PS, ih]
  have Plt : ∀ t i, i < rr.length → P t i < rr.length := fun t i hi => by
    induction t with
    | zero => rw [P0]; exact hi
    | succ t ih => rw [PS]; exact (hf _ ih).1
  -- someone comes back
  have hper : ∃ m, m < rr.length ∧ ∃ j, 0 < j ∧ P j m = m := by
    obtain ⟨s, t, h1, _, e⟩ := php rr.length (fun t => P t 0) (fun t _ => Plt t 0 (by omega))
    refine ⟨P s 0, Plt s 0 (by omega), t - s, by omega, ?_⟩
    rw [← Padd, show t - s + s = t by omega]; exact e.symm
  obtain ⟨m, ⟨hm, j0, hj0, ej0⟩, hmin⟩ := least_nat hper
  obtain ⟨j, ⟨hj, ej⟩, hjm⟩ := least_nat (p := fun j => 0 < j ∧ P j m = m) ⟨j0, hj0, ej0⟩
  have hinj : ∀ s t, s < t → t < j → P s m ≠ P t m := fun s t hst ht e => by
    refine hjm (j - (t - s)) (by omega) ⟨by omega, ?_⟩
    have e1 : P (j - t) (P s m) = P (j - t) (P t m) := by rw [e]
    rw [← Padd, ← Padd, show j - t + t = j by omega, ej] at e1
    rw [show j - (t - s) = j - t + s by omega]; exact e1
  have hge : ∀ t, t < j → 0 < t → m < P t m := fun t ht h0 => by
    have h1 : ¬ P t m < m := fun hlt => hmin (P t m) hlt ⟨Plt t m hm, j, hj, by rw [← Padd, show j + t = t + j by omega, Padd, ej]⟩
    have h2 := hinj 0 t h0 ht
    rw [P0] at h2
    omega
  have hjne : j ≠ 1 := fun e => by
    subst e
    have h1 := (hf m hm).2
    rw [show (1 : Nat) = 0 + 1 from rfl, PS, P0] at ej
    rw [ej] at h1
    unfold En at h1
    omega
  refine ⟨(List.range j).map fun t => ((P (j - t) m : Nat) : Int), ?_⟩
  have hg : ∀ t, t < j → ((List.range j).map fun t => ((P (j - t) m : Nat) : Int)).getD t 0 = ((P (j - t) m : Nat) : Int) := fun t ht => by simp [List.getD, ht]
  refine ⟨by simp; omega, fun t ht => ?_, fun t h0 ht => ?_, fun s t hst ht => ?_, fun t ht => ?_⟩
  · simp at ht; rw [hg t ht]; have := Plt (j - t) m hm; omega
  · simp at ht; rw [hg t ht, hg 0 (by omega), Nat.sub_zero, ej]; have := hge (j - t) (by omega) (by omega); omega
  · simp at ht
    rw [hg t ht, hg s (by omega)]
    intro e
    by_cases hs : s = 0
    · subst hs
      have := hge (j - t) (by omega) (by omega)
      rw [Nat.sub_zero, ej] at e; omega
    · exact hinj (j - t) (j - s) (by omega) (by omega) (by omega)
  · simp at ht
    simp only [List.length_map, List.length_range]
    rw [hg t ht]
    by_cases e : t + 1 = j
    · rw [e, Nat.mod_self, hg 0 (by omega), Nat.sub_zero, ej, show j - t = 0 + 1 by omega, PS, P0]
      exact (hf m hm).2
    · rw [Nat.mod_eq_of_lt (by omega), hg (t + 1) (by omega), show j - t = (j - (t + 1)) + 1 by omega, PS]
      exact (hf _ (Plt _ m hm)).2
/-- there is a first of the shortest ones -/
theorem circ_ex (rr : List (List Int)) (a : List Int) (hn : 1 ≤ rr.length) : IsCirc rr a (circ rr a) := by
  by_cases h : ∃ l, isC rr a l
  · obtain ⟨l, hl⟩ := h
    obtain ⟨N, ⟨l1, hl1, e1⟩, hN⟩ := least_nat (p := fun N => ∃ l, isC rr a l ∧ l.length = N) ⟨_, l, hl, rfl⟩
    have hd : ∀ l, isC rr a l → ∃ k, k < rr.length ^ l.length ∧ digs rr.length l.length k = l := fun l h => digs_all hn h.rng
    obtain ⟨k1, hk1, ek1⟩ := hd l1 hl1
    obtain ⟨k, ⟨hk, hC⟩, hkm⟩ := least_nat (p := fun k => k < rr.length ^ N ∧ isC rr a (digs rr.length N k)) ⟨k1, by rw [← e1]; exact hk1, by rw [← e1, ek1]; exact hl1⟩
    have hX : IsCirc rr a (digs rr.length N k) := .inr ⟨hC, fun l2 hl2 => ⟨by rw [digs_len]; exact Nat.le_of_not_lt fun h => hN _ h ⟨l2, hl2, rfl⟩, fun e hx => by
      obtain ⟨q, hq, eq⟩ := hd l2 hl2
      rw [digs_len] at e
      rw [e] at hq eq
      rw [← eq] at hx hl2
      have hkq : k ≤ q := Nat.le_of_not_lt fun h => hkm q h ⟨hq, hl2⟩
      by_cases e2 : k = q
      · subst e2; exact lexlt_irrefl _ hx
      · exact lexlt_asymm hx (digs_lt hn hk hq (by omega))⟩⟩
    rw [circ_is hX]; exact hX
  · have hX : IsCirc rr a [] := .inl ⟨rfl, fun l hl => h ⟨l, hl⟩⟩
    rw [circ_is hX]; exact hX

/-! ### passing along a circle -/
def idL (n : Nat) : List Int := (List.range n).map fun k : Nat => (k : Int)
theorem idL_len (n : Nat) : (idL n).length = n := by simp [idL]
theorem idL_get {n k : Nat} (h : k < n) : (idL n).getD k 0 = (k : Int) := by simp [idL, List.getD, h]
/-- the order after the first q of the circle -/
def ordTo (c : List Int) (n : Nat) : Nat → List Int
  | 0 => idL n
  | q + 1 => (ordTo c n q).set (c.getD q 0).toNat (c.getD ((q + 1) % c.length) 0)
theorem ordTo_len (c : List Int) (n : Nat) : ∀ q, (ordTo c n q).length = n
  | 0 => idL_len n
  | q + 1 => by simp only [ordTo]; rw [List.length_set]; exact ordTo_len c n q
/-- a list of some agents, each at most once -/
structure Ags (c : List Int) (n : Nat) : Prop where
  rng : ∀ t, t < c.length → 0 ≤ c.getD t 0 ∧ c.getD t 0 < n
  dis : ∀ s t, s < t → t < c.length → c.getD s 0 ≠ c.getD t 0
theorem isC.ags {rr : List (List Int)} {a l : List Int} (h : isC rr a l) : Ags l rr.length := ⟨h.rng, h.dis⟩
theorem ord_at {c : List Int} {n : Nat} (h : Ags c n) : ∀ {q : Nat}, q ≤ c.length → (∀ t, t < q → (ordTo c n q).getD (c.getD t 0).toNat 0 = c.getD ((t + 1) % c.length) 0) ∧ ∀ x : Nat, x < n → (∀ t, t < q → c.getD t 0 ≠ x) → (ordTo c n q).getD x 0 = x
  | 0, _ => ⟨fun t ht => absurd ht (Nat.not_lt_zero _), fun x hx _ => idL_get hx⟩
  | q + 1, hq => by
    have ih := ord_at h (q := q) (by omega)
    have hr := h.rng q (by omega)
    refine ⟨fun t ht => ?_, fun x hx hno => ?_⟩
    · simp only [ordTo]
      rw [set_get (by rw [ordTo_len]; omega)]
      by_cases e : t = q
      · subst e; rw [if_pos rfl]
      · have h1 := h.dis t q (by omega) (by omega)
        have h2 := h.rng t (by omega)
        rw [if_neg (by omega)]
        exact ih.1 t (by omega)
    · simp only [ordTo]
      have h1 := hno q (by omega)
      rw [set_get (by rw [ordTo_len]; omega), if_neg (by omega)]
      exact ih.2 x hx fun t ht => hno t (by omega)
def ordL (c : List Int) (n : Nat) : List Int := ordTo c n c.length
theorem ordL_len (c : List Int) (n : Nat) : (ordL c n).length = n := ordTo_len c n _
theorem ordL_in {c : List Int} {n t : Nat} (h : Ags c n) (ht : t < c.length) : (ordL c n).getD (c.getD t 0).toNat 0 = c.getD ((t + 1) % c.length) 0 := (ord_at h (Nat.le_refl _)).1 t ht
theorem ordL_out {c : List Int} {n x : Nat} (h : Ags c n) (hx : x < n) (hno : ∀ t, t < c.length → c.getD t 0 ≠ x) : (ordL c n).getD x 0 = x := (ord_at h (Nat.le_refl _)).2 x hx hno
theorem ordL_asg {c : List Int} {n : Nat} (h : Ags c n) : asg (ordL c n) n := by
  refine (asg_iff (ordL_len c n)).2 ⟨fun i hi => ?_, fun j hj => ?_⟩
  · by_cases hin : ∃ t, t < c.length ∧ c.getD t 0 = (i : Int)
    · obtain ⟨t, ht, e⟩ := hin
      have := ordL_in h ht
      rw [e, Int.toNat_natCast] at this
      rw [this]
      exact h.rng _ (Nat.mod_lt _ (by omega))
    · rw [ordL_out h hi fun t ht e => hin ⟨t, ht, e⟩]; omega
  · by_cases hin : ∃ t, t < c.length ∧ c.getD t 0 = (j : Int)
    · obtain ⟨t, ht, e⟩ := hin
      by_cases h0 : t = 0
      · subst h0
        refine ⟨(c.getD (c.length - 1) 0).toNat, by have := h.rng (c.length - 1) (by omega); omega, ?_⟩
        rw [ordL_in h (by omega), show c.length - 1 + 1 = c.length by omega, Nat.mod_self, e]
      · refine ⟨(c.getD (t - 1) 0).toNat, by have := h.rng (t - 1) (by omega); omega, ?_⟩
        rw [ordL_in h (by omega), show t - 1 + 1 = t by omega, Nat.mod_eq_of_lt ht, e]
    · exact ⟨j, hj, ordL_out h hj fun t ht e => hin ⟨t, ht, e⟩⟩
/-- after passing along a circle -/
def pas (n : Nat) (a c : List Int) : List Int := passV a (ordL c n)
theorem pas_len (n : Nat) (a c : List Int) : (pas n a c).length = a.length := passV_len _ _
theorem vld_pas {rr : List (List Int)} {a c : List Int} (h : vld rr a = 0) (hc : Ags c rr.length) : vld rr (pas rr.length a c) = 0 := vld_pass h (ordL_asg hc)
theorem wth_pas {rr : List (List Int)} {a c : List Int} (h : vld rr a = 0) (hc : Ags c rr.length) {i k : Nat} (hk : k < rr.length) : wth rr (pas rr.length a c) i k = wth rr a i ((ordL c rr.length).getD k 0) := by
  unfold wth pas; rw [passV_len]; exact worth_pass h (ordL_asg hc) hk _ (Nat.le_refl _)
/-- of the agents of the circle each one has more, the others have as much -/
theorem own_in {rr : List (List Int)} {a c : List Int} (h : vld rr a = 0) (hc : isC rr a c) {t : Nat} (ht : t < c.length) : wth rr a (c.getD t 0).toNat (c.getD t 0) < wth rr (pas rr.length a c) (c.getD t 0).toNat (c.getD t 0) := by
  have h1 := hc.rng t ht
  have h2 := wth_pas h hc.ags (i := (c.getD t 0).toNat) (k := (c.getD t 0).toNat) (by omega)
  rw [ordL_in hc.ags ht, Int.toNat_of_nonneg h1.1] at h2
  rw [h2]; exact hc.edg t ht
theorem own_out {rr : List (List Int)} {a c : List Int} (h : vld rr a = 0) (hc : Ags c rr.length) {i : Nat} (hi : i < rr.length) (hno : ∀ t, t < c.length → c.getD t 0 ≠ i) : wth rr (pas rr.length a c) i i = wth rr a i i := by
  rw [wth_pas h hc hi, ordL_out hc hi hno]
theorem own_le {rr : List (List Int)} {a c : List Int} (h : vld rr a = 0) (hc : isC rr a c) {i : Nat} (hi : i < rr.length) : wth rr a i i ≤ wth rr (pas rr.length a c) i i := by
  by_cases hin : ∃ t, t < c.length ∧ c.getD t 0 = (i : Int)
  · obtain ⟨t, ht, e⟩ := hin
    have := own_in h hc ht
    rw [e, Int.toNat_natCast] at this
    omega
  · rw [own_out h hc.ags hi fun t ht e => hin ⟨t, ht, e⟩]; exact Int.le_refl _
/-- the sum of all own values -/
def pot (rr : List (List Int)) (a : List Int) : Int := sumK (fun i : Nat => wth rr a i i) rr.length
theorem sumK_lt {f g : Nat → Int} : ∀ {n : Nat}, (∀ k, k < n → f k ≤ g k) → (∃ k, k < n ∧ f k < g k) → sumK f n < sumK g n
  | 0, _, ⟨k, hk, _⟩ => absurd hk (Nat.not_lt_zero _)
  | n + 1, h, ⟨k, hk, hl⟩ => by
    have h1 := h n (by omega)
    simp only [sumK]
    by_cases e : k = n
    · subst e
      have := sumK_le (f := f) (g := g) (n := k) (fun q hq => h q (by omega))
      omega
    · have := sumK_lt (f := f) (g := g) (n := n) (fun q hq => h q (by omega)) ⟨k, by omega, hl⟩
      omega
theorem pot_up {rr : List (List Int)} {a c : List Int} (h : vld rr a = 0) (hc : isC rr a c) : pot rr a < pot rr (pas rr.length a c) := by
  have hl := hc.len
  have h0 := hc.rng 0 (by omega)
  refine sumK_lt (fun k hk => own_le h hc hk) ⟨(c.getD 0 0).toNat, by omega, ?_⟩
  have := own_in h hc (t := 0) (by omega)
  rw [show (((c.getD 0 0).toNat : Nat) : Int) = c.getD 0 0 by omega]; exact this
theorem pot_bd {rr : List (List Int)} {a : List Int} (h : vld rr a = 0) : 0 ≤ pot rr a ∧ pot rr a ≤ 60000 := by
  have hal := al_of_vld h
  have hn := hal.n6
  have hm := hal.m10
  have hl := hal.len
  have := sumK_bd (f := fun i : Nat => wth rr a i i) (X := 10000) (fun i => by have := wth_bd hal.toGd (a := a) i (i : Int); omega) rr.length
  unfold pot
  omega

/-- passing along circles until there is none -/
inductive Und (rr : List (List Int)) : List Int → List Int → Prop
  | stop {a : List Int} : circ rr a = [] → Und rr a a
  | go {a b : List Int} : circ rr a ≠ [] → Und rr (pas rr.length a (circ rr a)) b → Und rr a b
theorem Und.one {rr : List (List Int)} {a b c : List Int} (h : Und rr a b) (k : Und rr a c) : b = c := by
  induction h with
  | stop h => cases k with
    | stop _ => rfl
    | go k1 _ => exact absurd h k1
  | go h1 _ ih => cases k with
    | stop k => exact absurd k h1
    | go _ k2 => exact ih k2
theorem circ_isC {rr : List (List Int)} {a : List Int} (hn : 1 ≤ rr.length) (h : circ rr a ≠ []) : isC rr a (circ rr a) := by
  rcases circ_ex rr a hn with ⟨h1, _⟩ | ⟨h1, _⟩
  · exact absurd h1 h
  · exact h1
theorem circ_none {rr : List (List Int)} {a : List Int} (hn : 1 ≤ rr.length) (h : circ rr a = []) : ∀ l, ¬ isC rr a l := by
  rcases circ_ex rr a hn with ⟨_, h1⟩ | ⟨h1, _⟩
  · exact h1
  · have := h1.len
    rw [h] at this
    simp at this

/-! ### who is free -/
noncomputable def fre (rr : List (List Int)) (a : List Int) : Int := firstFrom (fun i => tf (frees rr a i)) rr.length 0
theorem fre_cases (rr : List (List Int)) (a : List Int) : (∃ i : Nat, i < rr.length ∧ fre rr a = (i : Int) ∧ frees rr a i ∧ ∀ k, k < i → ¬ frees rr a k) ∨ (fre rr a = -1 ∧ ∀ i, i < rr.length → ¬ frees rr a i) := by
  rcases firstFrom_spec (fun i => tf (frees rr a i)) rr.length 0 with ⟨j, _, h2, h3, h4, h5⟩ | ⟨h, h2⟩
  · refine .inl ⟨j, by omega, h4, Classical.byContradiction fun hn => ?_, fun k hk hf => ?_⟩
    · rw [tf_f hn] at h3; cases h3
    · have := h5 k (Nat.zero_le _) hk
      rw [tf_t hf] at this; cases this
  · refine .inr ⟨h, fun i hi hf => ?_⟩
    have := h2 i (Nat.zero_le _) (by omega)
    rw [tf_t hf] at this; cases this
theorem fre_neg {rr : List (List Int)} {a : List Int} (hn : 1 ≤ rr.length) (h : fre rr a < 0) : isC rr a (circ rr a) := by
  rcases fre_cases rr a with ⟨i, _, e, _⟩ | ⟨_, h1⟩
  · omega
  · obtain ⟨l, hl⟩ := has_circle hn h1
    refine circ_isC hn fun e => circ_none hn e l hl

/-! ### Run -/
abbrev Stp := List Int × Int × Int
/-- what the rest of the order leads to, by which steps -/
inductive RunS (rr : List (List Int)) : List Int → List Int → List Stp → List Int → Prop
  | nil {a : List Int} : RunS rr [] a [] a
  | circ {g : Int} {o a : List Int} {S : List Stp} {b : List Int} : fre rr a < 0 → RunS rr (g :: o) (pas rr.length a (circ rr a)) S b → RunS rr (g :: o) a ((Go.Proofs.Ytebklnmafjbhcaa.circ rr a, -1, -1) :: S) b
  | give {g : Int} {o a : List Int} {S : List Stp} {b : List Int} : 0 ≤ fre rr a → RunS rr o (a.set g.toNat (fre rr a)) S b → RunS rr (g :: o) a (([], fre rr a, g) :: S) b
theorem RunS.one {rr : List (List Int)} {o a b b' : List Int} {S S' : List Stp} (h : RunS rr o a S b) (k : RunS rr o a S' b') : S = S' ∧ b = b' := by
  induction h generalizing S' b' with
  | nil => cases k; exact ⟨rfl, rfl⟩
  | circ h1 _ ih => cases k with
    | circ _ k2 => obtain ⟨rfl, rfl⟩ := ih k2; exact ⟨rfl, rfl⟩
    | give k1 _ => omega
  | give h1 _ ih => cases k with
    | circ k1 _ => omega
    | give _ k2 => obtain ⟨rfl, rfl⟩ := ih k2; exact ⟨rfl, rfl⟩
end Go.Proofs.Ytebklnmafjbhcaa
set_option linter.unusedVariables false
set_option linter.unusedSimpArgs false
namespace Go.Proofs.Ytebklnmafjbhcaa
open Go.Eng

/-- envy between agents -/
def EnG (rr : List (List Int)) (a : List Int) (i k : Int) : Prop := i < rr.length ∧ k < rr.length ∧ En rr a i k
/-- a way that may become a circle -/
structure Pth (rr : List (List Int)) (a l : List Int) : Prop where
  ne : 1 ≤ l.length
  rng : ∀ t, t < l.length → 0 ≤ l.getD t 0 ∧ l.getD t 0 < 6
  low : ∀ t, 0 < t → t < l.length → l.getD 0 0 < l.getD t 0
  dis : ∀ s t, s < t → t < l.length → l.getD s 0 ≠ l.getD t 0
  edg : ∀ t, t + 1 < l.length → EnG rr a (l.getD t 0) (l.getD (t + 1) 0)
theorem snoc_lt {l : List Int} {k : Int} {t : Nat} (h : t < l.length) : (l ++ [k]).getD t 0 = l.getD t 0 := by
  simp only [List.getD]; rw [List.getElem?_append_left h]
theorem snoc_at (l : List Int) (k : Int) : (l ++ [k]).getD l.length 0 = k := by simp [List.getD]
theorem snoc_len (l : List Int) (k : Int) : (l ++ [k]).length = l.length + 1 := by simp
section
variable {rr : List (List Int)} {a l r : List Int} {k : Int} {m : Nat}
theorem Pth.one (h : 0 ≤ k ∧ k < 6) : Pth rr a [k] := by
  refine ⟨by simp, fun t ht => ?_, fun t h0 ht => ?_, fun s t hst ht => ?_, fun t ht => ?_⟩
  · simp at ht; subst ht; exact h
  · simp at ht; omega
  · simp at ht; omega
  · simp at ht
theorem Pth.snoc (h : Pth rr a l) (h0 : l.getD 0 0 < k) (h6 : k < 6) (hn : ∀ t, t < l.length → l.getD t 0 ≠ k) (he : EnG rr a (l.getD (l.length - 1) 0) k) : Pth rr a (l ++ [k]) := by
  have hne := h.ne
  have hl := snoc_len l k
  have h00 := h.rng 0 (by omega)
  have hat := snoc_at l k
  refine ⟨by omega, fun t ht => ?_, fun t h1 ht => ?_, fun s t hst ht => ?_, fun t ht => ?_⟩
  · by_cases e : t = l.length
    · subst e; rw [hat]; omega
    · rw [snoc_lt (by omega)]; exact h.rng t (by omega)
  · rw [snoc_lt (t := 0) (by omega)]
    by_cases e : t = l.length
    · subst e; rw [hat]; exact h0
    · rw [snoc_lt (by omega)]; exact h.low t h1 (by omega)
  · rw [snoc_lt (t := s) (by omega)]
    by_cases e : t = l.length
    · subst e; rw [hat]; exact hn s hst
    · rw [snoc_lt (by omega)]; exact h.dis s t hst (by omega)
  · rw [snoc_lt (t := t) (by omega)]
    by_cases e : t + 1 = l.length
    · rw [e, hat, show t = l.length - 1 by omega]; exact he
    · rw [snoc_lt (by omega)]; exact h.edg t (by omega)
/-- circles that begin with a list and have so many more agents -/
def Dl (rr : List (List Int)) (a l : List Int) (m : Nat) (r : List Int) : Prop := isC rr a r ∧ r.length = l.length + m ∧ ∀ i, i < l.length → r.getD i 0 = l.getD i 0
def Non (rr : List (List Int)) (a l : List Int) (m : Nat) : Prop := ∀ r, ¬ Dl rr a l m r
def Fst (rr : List (List Int)) (a l : List Int) (m : Nat) (r : List Int) : Prop := Dl rr a l m r ∧ ∀ r', Dl rr a l m r' → ¬ lexlt r' r
theorem Dl.zero (h : Dl rr a l 0 r) (h2 : 1 ≤ l.length) : r = l ∧ EnG rr a (l.getD (l.length - 1) 0) (l.getD 0 0) := by
  obtain ⟨h3, h4, h5⟩ := h
  obtain rfl : r = l := ext_getD 0 (by omega) fun i hi => h5 i (by omega)
  refine ⟨rfl, (h3.rng _ (by omega)).2, (h3.rng 0 (by omega)).2, ?_⟩
  have := h3.edg (r.length - 1) (by omega)
  rwa [show r.length - 1 + 1 = r.length by omega, Nat.mod_self] at this
theorem Fst.zero (h : Pth rr a l) (h2 : 2 ≤ l.length) (he : EnG rr a (l.getD (l.length - 1) 0) (l.getD 0 0)) : Fst rr a l 0 l := by
  refine ⟨⟨⟨by omega, fun t ht => ⟨(h.rng t ht).1, ?_⟩, h.low, h.dis, fun t ht => ?_⟩, rfl, fun _ _ => rfl⟩, fun r' hr => ?_⟩
  · by_cases e : t + 1 < l.length
    · exact (h.edg t e).1
    · rw [show t = l.length - 1 by omega]; exact he.1
  · by_cases e : t + 1 < l.length
    · rw [Nat.mod_eq_of_lt e]; exact (h.edg t e).2.2
    · rw [show t + 1 = l.length by omega, Nat.mod_self, show t = l.length - 1 by omega]; exact he.2.2
  · obtain ⟨rfl, _⟩ := hr.zero (by omega)
    exact lexlt_irrefl _
theorem Non.zero (h2 : 1 ≤ l.length) (he : ¬ EnG rr a (l.getD (l.length - 1) 0) (l.getD 0 0)) : Non rr a l 0 := fun _ hr => he (hr.zero h2).2
theorem Dl.step (h : Dl rr a l (m + 1) r) (h2 : 1 ≤ l.length) : Dl rr a (l ++ [r.getD l.length 0]) m r ∧ l.getD 0 0 < r.getD l.length 0 ∧ r.getD l.length 0 < rr.length := by
  obtain ⟨h3, h4, h5⟩ := h
  refine ⟨⟨h3, by rw [snoc_len]; omega, fun i hi => ?_⟩, ?_, (h3.rng _ (by omega)).2⟩
  · rw [snoc_len] at hi
    by_cases e : i = l.length
    · subst e; rw [snoc_at]
    · rw [snoc_lt (by omega)]; exact h5 i (by omega)
  · rw [← h5 0 (by omega)]; exact h3.low _ (by omega) (by omega)
theorem Dl.up (h : Dl rr a (l ++ [k]) m r) : Dl rr a l (m + 1) r ∧ r.getD l.length 0 = k := by
  obtain ⟨h3, h4, h5⟩ := h
  rw [snoc_len] at h4 h5
  refine ⟨⟨h3, by omega, fun i hi => ?_⟩, ?_⟩
  · rw [h5 i (by omega), snoc_lt hi]
  · rw [h5 l.length (by omega), snoc_at]
theorem Non.bad (h2 : 1 ≤ l.length) (h : ¬ EnG rr a (l.getD (l.length - 1) 0) k ∨ ∃ t, t < l.length ∧ l.getD t 0 = k) : Non rr a (l ++ [k]) m := fun r hr => by
  obtain ⟨h3, h4, h5⟩ := hr
  rw [snoc_len] at h4 h5
  have e1 := h5 l.length (by omega)
  rw [snoc_at] at e1
  rcases h with h | ⟨t, ht, e⟩
  · have e2 := h5 (l.length - 1) (by omega)
    rw [snoc_lt (by omega)] at e2
    have := h3.edg (l.length - 1) (by omega)
    rw [Nat.mod_eq_of_lt (by omega), show l.length - 1 + 1 = l.length by omega, e1, e2] at this
    exact h ⟨by rw [← e2]; exact (h3.rng _ (by omega)).2, by rw [← e1]; exact (h3.rng _ (by omega)).2, this⟩
  · have e2 := h5 t (by omega)
    rw [snoc_lt ht] at e2
    exact h3.dis t l.length ht (by omega) (by rw [e1, e2, e])
theorem Non.up (hn : rr.length ≤ 6) (h2 : 1 ≤ l.length) (h : ∀ k, l.getD 0 0 < k → k < 6 → Non rr a (l ++ [k]) m) : Non rr a l (m + 1) := fun r hr => by
  obtain ⟨h3, h4, h5⟩ := hr.step h2
  exact h _ h4 (by omega) r h3
theorem Fst.up (h2 : 1 ≤ l.length) (hf : Fst rr a (l ++ [k]) m r) (h : ∀ q, l.getD 0 0 < q → q < k → Non rr a (l ++ [q]) m) : Fst rr a l (m + 1) r := by
  obtain ⟨h3, h4⟩ := hf.1.up
  refine ⟨h3, fun r' hr hl => ?_⟩
  obtain ⟨h5, h6, h7⟩ := hr.step h2
  rcases Int.lt_trichotomy (r'.getD l.length 0) k with e | e | e
  · exact h _ h6 e r' h5
  · rw [e] at h5; exact hf.2 r' h5 hl
  · obtain ⟨j, j1, j2, j3, j4⟩ := lexlt_at hl
    have e1 := hr.2.2
    have e2 := h3.2.2
    rcases Nat.lt_trichotomy j l.length with e3 | e3 | e3
    · rw [e1 j e3, e2 j e3] at j4; omega
    · subst e3; omega
    · have := j3 l.length e3; omega
theorem circ_some {more : Nat} {i : Int} (hn : rr.length ≤ 6) (hf : Fst rr a [i] more r) (h1 : ∀ q, 1 ≤ q → q < more → ∀ x : Int, 0 ≤ x → x < 6 → Non rr a [x] q) (h2 : ∀ x : Int, 0 ≤ x → x < i → Non rr a [x] more) : circ rr a = r := by
  have hlr := hf.1.2.1
  simp only [List.length_singleton] at hlr
  have hD : ∀ r', isC rr a r' → Dl rr a [r'.getD 0 0] (r'.length - 1) r' := fun r' h => ⟨h, by have := h.len; simp; omega, fun j hj => by simp at hj; subst hj; rfl⟩
  refine circ_is (.inr ⟨hf.1.1, fun r' hr => ⟨Classical.byContradiction fun hlt => ?_, fun e hl => ?_⟩⟩)
  · have h3 := hr.len
    have h4 := hr.rng 0 (by omega)
    exact h1 (r'.length - 1) (by omega) (by omega) _ h4.1 (by omega) r' (hD r' hr)
  · have h3 := hr.len
    have h4 := hr.rng 0 (by omega)
    have h5 := hD r' hr
    rw [show r'.length - 1 = more by omega] at h5
    have e0 : r.getD 0 0 = i := hf.1.2.2 0 (by simp)
    rcases Int.lt_trichotomy (r'.getD 0 0) i with e1 | e1 | e1
    · exact h2 _ h4.1 e1 r' h5
    · rw [e1] at h5; exact hf.2 r' h5 hl
    · obtain ⟨j, j1, j2, j3, j4⟩ := lexlt_at hl
      by_cases ej : j = 0
      · subst ej; omega
      · have := j3 0 (by omega); omega
theorem circ_nil (hn : rr.length ≤ 6) (h1 : ∀ q, 1 ≤ q → q < 6 → ∀ x : Int, 0 ≤ x → x < 6 → Non rr a [x] q) : circ rr a = [] := by
  refine circ_is (.inl ⟨rfl, fun r' hr => ?_⟩)
  have h3 := hr.len
  have h4 := hr.rng 0 (by omega)
  have h5 := hr.le
  exact h1 (r'.length - 1) (by omega) (by omega) _ h4.1 (by omega) r' ⟨hr, by simp; omega, fun j hj => by simp at hj; subst hj; rfl⟩
end
end Go.Proofs.Ytebklnmafjbhcaa
set_option linter.unusedVariables false
set_option linter.unusedSimpArgs false
namespace Go.Eng
open Go.RowKit

theorem fill_one (n : Nat) : ∀ (ps : List (Nat × Value)) (zc : Array Value), (∀ p ∈ ps, p.1 < n ∧ p.2.cells = #[p.2]) → zc.size = n →
    Instr.fill ((((List.range n).map fun i => (i, 1)).toArray)[·]?) zc ps = some (ps.foldl (fun c p => c.setIfInBounds p.1 p.2) zc)
  | [], zc, _, _ => rfl
  | (i, v) :: ps, zc, h, hz => by
    obtain ⟨h1, h2⟩ := h (i, v) (by simp)
    have h1 : i < n := h1
    have h2 : v.cells = #[v] := h2
    have e2 : (((List.range n).map fun i => (i, 1)).toArray)[i]? = some (i, 1) := by simp [h1]
    have e3 : ¬ (decide (#[v].size ≠ 1) || decide (i + #[v].size > zc.size)) = true := by simp; omega
    have e4 : Array.foldl (fun (cs : Array Value) (x : Value × Nat) => cs.setIfInBounds (i + x.snd) x.fst) zc #[v].zipIdx = zc.setIfInBounds i v := by simp [Array.zipIdx]
    simp only [Instr.fill, e2, h2, List.foldl_cons]
    rw [if_neg e3, e4]
    exact fill_one n ps _ (fun p hp => h p (by simp [hp])) (by simpa using hz)

/-- 'T{F: x, ..}': the other fields are zero. -/
theorem VS.sparse {P : Program} {w : World} {t : TypeId} {zc : Array Value} {N b : Nat} {l : List Field} {ps : List (Nat × Value)} {K : Value → Prop} (ht : P.underlying t = some (.struct l.toArray)) (hz : Elem P t (.agg zc) N b)
    (hg : ∀ f ∈ l, P.cellsOf f.type = 1) (ho : l.map (·.offset) = List.range l.length) (hv : ∀ p ∈ ps, p.1 < l.length ∧ p.2.cells = #[p.2]) (hs : zc.size = l.length)
    (hk : K (.agg (ps.foldl (fun c p => c.setIfInBounds p.1 p.2) zc))) : VS P (Instr.build t ps.toArray) w K := by
  refine VS.mk (v := .agg (ps.foldl (fun c p => c.setIfInBounds p.1 p.2) zc)) (fun w1 _ => ?_) hk
  obtain ⟨i, hi, hz1, _, _⟩ := hz.info
  have hfill := fill_one l.length ps zc hv hs
  simp only [Instr.build, Sem.run_bind, zeroValue, typeInfo, run_program, Result.andThen_ok, hi, hz1, Sem.run_pure, run_underlying ht, fields_run hg ho, Value.cells, hfill]
end Go.Eng
set_option linter.unusedVariables false
set_option linter.unusedSimpArgs false
namespace Go.Eng
open Go.RowKit

section
variable {P : Program} {w w' : World} {b : Nat} {T : TypeId} {xs : List Value}

theorem Blk.row {B n s : Nat} {e : TypeId} {v : Value} {ys : List Value} (h : Blk w b T xs) (ho : Own B e s w v n ys) (he : e ≠ T) (hg : Gr (fun k => v.ownBlock = some k) w w') : Blk w' b T xs :=
  h.gr hg fun hb => by
    have hb : v.ownBlock = some b := hb
    rcases ho.2 with ⟨rfl, _⟩ | ⟨g, cap, cur, rfl, _, hgg, _⟩
    · simp [Value.ownBlock] at hb
    · simp [Value.ownBlock] at hb
      subst hb
      unfold Blk at h
      rw [h] at hgg
      simp at hgg
      exact he hgg.2.symm
theorem Blk.two {b' : Nat} {T' : TypeId} {ys : List Value} (h : Blk w b T xs) (_h' : Blk w b' T' ys) (he : b ≠ b') (hg : Gr (fun k => k = b') w w') : Blk w' b T xs := h.gr hg he
theorem Own.row {B n s B' n' s' : Nat} {e e' : TypeId} {v v' : Value} {ys ys' : List Value} (h : Own B e s w v n ys) (h' : Own B' e' s' w v' n' ys') (he : e ≠ e') (hg : Gr (fun k => v'.ownBlock = some k) w w') : Own B e s w' v n ys :=
  Own.gr h hg fun k hk hS => Own.ne h h' he k hk hS

theorem Blk.ldA {k : Nat} {x : Value} {K : Value → Prop} (h : Blk w b T xs) (hx : xs[k]? = some x) (hk : K x) : Ld w ((⟨b, 0, none⟩ : Addr).add k) K := At.ld h.at hx hk
theorem At.sub {p : Addr} (h : At w p xs) (k : Nat) : At w (p.add k) (xs.drop k) := fun i x hx => by
  rw [add_add]
  exact h (k + i) x (by rw [← hx, List.getElem?_drop])
theorem Blk.setA {i : Nat} {x : Value} {K : World → Prop} (h : Blk w b T xs) (hi : i < xs.length) (hx : x.oneCell' = true)
    (hK : ∀ w', Gr (fun j => j = b) w w' → Blk w' b T (xs.set i x) → K w') : St w ((⟨b, 0, none⟩ : Addr).add i) x K := by
  rw [add0]; exact h.set hi hx hK

end
end Go.Eng
set_option linter.unusedVariables false
set_option linter.unusedSimpArgs false
namespace Go.Proofs.Ytebklnmafjbhcaa
open Go.Eng
abbrev OB (B : Nat) (w : World) (v : Value) (l : List Int) : Prop := Own B 3 1 w v l.length (l.map i64v)
theorem OB.set {B k : Nat} {x : Int} {w : World} {v : Value} {l : List Int} {K : World → Prop} (h : OB B w v l) (hk : k < l.length) (hK : ∀ w', Gr (fun j => v.ownBlock = some j) w w' → OB B w' v (l.set k x) → K w') : St w (ea v k) (.int .i64 x) K :=
  Own.set h (by rw [List.length_map]; exact hk) rfl fun w' hg h' => hK w' hg (by
    rw [set_map] at h'
    show Own B 3 1 w' v (l.set k x).length _
    rw [List.length_set]; exact h')
theorem OB.made {B n : Nat} {w : World} {v : Value} (h : Own B 3 1 w v n (List.replicate n (.int .i64 0))) : OB B w v (List.replicate n 0) := by
  show Own B 3 1 w v (List.replicate n (0 : Int)).length ((List.replicate n (0 : Int)).map i64v)
  rw [List.length_replicate, List.map_replicate]; exact h
end Go.Proofs.Ytebklnmafjbhcaa
set_option linter.unusedVariables false
set_option linter.unusedSimpArgs false
namespace Go.Eng
open Go.RowKit

section
variable {P : Program} {w : World} {t e : TypeId} {x y : Operand} {v : Value} {K : Value → Prop}
theorem VS.nenil (b : Bool) (ht : P.underlying t = some (.slice e)) (h : ∃ a n c, v = .slice a n c ∧ a.isNone = b) (hk : K (.bool (!b))) : VS P (binSem .neq t x y v (.slice none 0 0)) w K := by
  obtain ⟨a, n, c, rfl, rfl⟩ := h
  refine VS.mk (fun w1 _ => ?_) hk
  have h := run_neq_slice_nil_any w1 t e a n c 0 0 ht
  simp only [binSem, eqGuard, Sem.run_bind]
  simpa using h
theorem Own.some_of {B s n : Nat} {e : TypeId} {xs : List Value} (h : Own B e s w v n xs) (hn : n ≠ 0) : ∃ a m c, v = .slice a m c ∧ a.isNone = false := by
  rcases h.2 with ⟨_, h0⟩ | ⟨g, cap, cur, rfl, _⟩
  · exact absurd h0 hn
  · exact ⟨_, _, _, rfl, rfl⟩
end

/-- A new box, as a block. -/
theorem Bx.blk {T : TypeId} {l : List Value} {w : World} {K : Value → World → Prop} (h : ∀ (b : Nat) w', Ext w w' → w.heap.size ≤ b → Blk w' b T l → K (.pointer (some ⟨b, 0, none⟩)) w') : Bx T (.agg l.toArray) w K := by
  simp only [Bx]
  intro w1 hw1
  exact h w1.heap.size _ (hw1.alloc _) hw1.size (Blk.new w1 T l)

theorem places_run {P : Program} {w : World} : ∀ {l : List Field}, (∀ f ∈ l, P.cellsOf f.type ≠ 0) →
    ((l.toArray).mapM (m := Sem) fun f => do pure (f.offset, ← Go.sizeOf f.type)).run P w = .ok (l.map fun f => (f.offset, P.cellsOf f.type)).toArray w := by
  intro l hl
  rw [List.mapM_toArray]
  have h := mapM_run (P := P) (w := w) (fun f : Field => (do pure (f.offset, ← Go.sizeOf f.type) : Sem (Nat × Nat))) (fun f => (f.offset, P.cellsOf f.type)) l (fun f hf => by
    simp only [Sem.run_bind, sizeOf_run rfl (hl f hf), Result.andThen_ok, Sem.run_pure])
  simp only [Sem.run_bind, Sem.run_map, h, Result.andThen_ok, Sem.run_pure]
  try rfl
theorem fill_at (pl : Array (Nat × Nat)) (n : Nat) : ∀ (ps : List (Nat × Value)) (zc : Array Value), (∀ p ∈ ps, pl[p.1]? = some (p.1, 1) ∧ p.1 < n ∧ p.2.cells = #[p.2]) → zc.size = n →
    Instr.fill (pl[·]?) zc ps = some (ps.foldl (fun c p => c.setIfInBounds p.1 p.2) zc)
  | [], zc, _, _ => rfl
  | (i, v) :: ps, zc, h, hz => by
    obtain ⟨e2, h1, h2⟩ := h (i, v) (by simp)
    have h1 : i < n := h1
    have h2 : v.cells = #[v] := h2
    have e2 : pl[i]? = some (i, 1) := e2
    have e3 : ¬ (decide (#[v].size ≠ 1) || decide (i + #[v].size > zc.size)) = true := by simp; omega
    have e4 : Array.foldl (fun (cs : Array Value) (x : Value × Nat) => cs.setIfInBounds (i + x.snd) x.fst) zc #[v].zipIdx = zc.setIfInBounds i v := by simp [Array.zipIdx]
    simp only [Instr.fill, e2, h2, List.foldl_cons]
    rw [if_neg e3, e4]
    exact fill_at pl n ps _ (fun p hp => h p (by simp [hp])) (by simpa using hz)
/-- 'T{F: x, ..}', fields of several cells among the others. -/
theorem VS.sparse2 {P : Program} {w : World} {t : TypeId} {zc : Array Value} {N b : Nat} {l : List Field} {ps : List (Nat × Value)} {K : Value → Prop} (ht : P.underlying t = some (.struct l.toArray)) (hz : Elem P t (.agg zc) N b)
    (hg : ∀ f ∈ l, P.cellsOf f.type ≠ 0) (hv : ∀ p ∈ ps, (l.map fun f => (f.offset, P.cellsOf f.type)).toArray[p.1]? = some (p.1, 1) ∧ p.1 < zc.size ∧ p.2.cells = #[p.2])
    (hk : K (.agg (ps.foldl (fun c p => c.setIfInBounds p.1 p.2) zc))) : VS P (Instr.build t ps.toArray) w K := by
  refine VS.mk (v := .agg (ps.foldl (fun c p => c.setIfInBounds p.1 p.2) zc)) (fun w1 _ => ?_) hk
  obtain ⟨i, hi, hz1, _, _⟩ := hz.info
  have hfill := fill_at _ zc.size ps zc hv rfl
  simp only [Instr.build, Sem.run_bind, zeroValue, typeInfo, run_program, Result.andThen_ok, hi, hz1, Sem.run_pure, run_underlying ht, places_run hg, Value.cells, hfill]
theorem VS.sparseR {P : Program} {w : World} {t : TypeId} {zc : Array Value} {N b : Nat} {l : List Field} {ps : List (Nat × Value)} {K : Value → Prop} (r : Array Value) (ht : P.underlying t = some (.struct l.toArray)) (hz : Elem P t (.agg zc) N b)
    (hg : ∀ f ∈ l, P.cellsOf f.type ≠ 0) (hv : ∀ p ∈ ps, (l.map fun f => (f.offset, P.cellsOf f.type)).toArray[p.1]? = some (p.1, 1) ∧ p.1 < zc.size ∧ p.2.cells = #[p.2]) (hr : ps.foldl (fun c p => c.setIfInBounds p.1 p.2) zc = r)
    (hk : K (.agg r)) : VS P (Instr.build t ps.toArray) w K := VS.sparse2 ht hz hg hv (by rw [hr]; exact hk)
end Go.Eng
