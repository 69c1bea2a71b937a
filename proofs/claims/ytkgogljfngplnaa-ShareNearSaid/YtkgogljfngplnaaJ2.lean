/- Joined texts: R16a R16b R16c R16d Slc Slc2 Goods1 Goods2 L16a L16b NKit Near2 Near3 Near4 Near5 PlainN NashPlain EngS Kit2 EngL EngU NashF NashH L17a LEval NashB EngAA. -/
import Derived.Test.YtkgogljfngplnaaJ1
import Derived.Test.YtkgogljfngplnaaChecked
import Derived.Deep.Strs
import Derived.WalkSpells
set_option linter.unusedVariables false
set_option linter.unusedSimpArgs false
namespace Go.Proofs.Ytkgogljfngplnaa
open Go.Eng
set_option maxRecDepth 100000

def tys : List Ty := [.no, .one, .i64, .i64, .bo, .one, .one, .st 4 [(0, none), (1, none), (2, none), (3, none)], .st 4 [(0, none), (1, none), (2, none), (3, none)], .one, .one, .one, .one, .st 2 [(0, none), (1, none)], .st 2 [(0, none), (1, none)], .one, .one, .one, .st 1 [(0, none)], .st 1 [(0, none)], .no, .one, .sl 1, .st 1 [(0, none)], .st 1 [(0, none)], .one, .one, .sl 1, .i64, .no, .one, .no, .one, .no, .one, .no, .one, .one, .one, .one, .st 3 [(0, none), (1, none), (2, none)], .st 3 [(0, none), (1, none), (2, none)], .no, .one, .no, .one, .one, .one, .one, .one, .one, .one, .one, .one, .no, .one, .no, .one, .one, .one, .one, .one, .one, .one, .one, .one, .one, .sl 3, .sl 2, .no, .one, .one, .one, .no, .st 2 [(0, none), (1, none)], .st 2 [(0, none), (1, none)], .one, .one, .no, .one, .one, .one, .one, .one, .one, .st 7 [(0, none), (1, none), (2, none), (3, none), (4, some 3)], .st 7 [(0, none), (1, none), (2, none), (3, none), (4, some 3)], .one, .one, .one, .one, .one, .st 3 [(0, none), (1, none), (2, none)], .st 3 [(0, none), (1, none), (2, none)], .one, .sl 3, .no, .one, .st 3 [(0, none), (1, none), (2, none)], .st 3 [(0, none), (1, none), (2, none)], .one, .st 3 [(0, none), (1, none), (2, none)], .st 3 [(0, none), (1, none), (2, none)], .ar 2 2 1, .one, .one, .one, .one, .one, .one, .one, .one, .no, .one, .one, .one, .ar 6 6 1, .one, .one, .st 4 [(0, none), (1, none), (2, none), (3, none)], .st 4 [(0, none), (1, none), (2, none), (3, none)], .no, .no, .no, .one, .one, .one, .one, .one, .one, .one, .one, .st 11 [(0, none), (1, none), (2, none), (3, none), (4, none), (5, none), (6, none), (7, none), (8, none), (9, none), (10, none)], .st 11 [(0, none), (1, none), (2, none), (3, none), (4, none), (5, none), (6, none), (7, none), (8, none), (9, none), (10, none)], .no]
theorem tyOk : TyOk Try.prog tys := ⟨by kernel_rfl, by kernel_rfl⟩

theorem worth_pc {w : World} {gv av : Value} {vs : List Value} {rr : List (List Int)} {a : List Int} {i : Nat} {k : Int} (Hg : Mat w gv vs rr) (Ha : Ints w av a) (hi : i < rr.length) (hr : a.length ≤ (rr.getD i []).length)
    (hb : ∀ i j, 0 ≤ val rr i j ∧ val rr i j ≤ 1000) (ha : a.length ≤ 10) :
    PC Try.prog 53 [.agg #[gv], av, .int .i64 (i : Int), .int .i64 k] w (.int .i64 (wth rr a i k)) := by
  refine PC.mk tyOk Try.func53 rfl (by kernel_rfl) fun w1 E1 => ?_
  replace Hg := Hg.ext E1
  replace Ha := Ha.ext E1
  refine Bx.agg fun b w2 E2 _ Hb _ => ?_
  replace Hg := Hg.ext E2
  replace Ha := Ha.ext E2
  refine Lp.mk tyOk [false, false, false, false, false, false, false, false, false, true, true, true, true, true, true, true, true, true, true, true, true, true, true, true, true, true, true, true, true, true, true, true, true] (fun m fr wr => getK fr 9 fun s => getK fr 10 fun j => ∃ c : Nat, c ≤ a.length ∧ m = a.length - c ∧ s = .int .i64 (worth a (rr.getD i []) k c) ∧ j = .int .i64 (c : Int) ∧ wr = w2) a.length ?_ ?_
  · exact ⟨0, Nat.zero_le _, rfl, rfl, rfl, rfl⟩
  · intro m w3 u9 u10 u11 u12 u13 u14 u15 u16 u17 u18 u19 u20 u21 u22 u23 u24 u25 u26 u27 u28 u29 u30 u31 u32 hR
    obtain ⟨c, hc, rfl, rfl, rfl, rfl⟩ := hR
    have hbd := worth_bd (a := a) (k := k) (hb i) c
    have hbc := hb i c
    unfold val at hbc
    repeat' ((conv => whnf); first | (refine Dr.quiet tyOk (by kernel_rfl) ?_) | (refine Rng.mk (by omega) ?_) | (refine Split.pos (by omega) ?_) | (refine Split.neg (by omega) ?_) | (refine Split.mk (fun h => ?_) (fun h => ?_)) | (refine Need.mk (by omega) ?_) | (refine Ints.ln (by assumption) ?_) | (refine Mat.ln (by assumption) ?_) | (refine Ints.ln (Mat.row (by assumption) _ (by omega)) ?_) | (refine Ints.ix (by assumption) (by omega) ?_) | (refine Mat.ix (by assumption) (by omega) ?_) | (refine Ints.ix (Mat.row (by assumption) _ (by omega)) (by omega) ?_) | (refine Ints.ix (c := 0) (by assumption) (by omega) ?_) | (refine Mat.ix (c := 0) (by assumption) (by omega) ?_) | (refine Ints.ix (c := 0) (Mat.row (by assumption) _ (by omega)) (by omega) ?_) | (refine Ints.ixI (by assumption) (by omega) ?_) | (refine Mat.ixI (by assumption) (by omega) ?_) | (refine Ints.ixI (Mat.row (by assumption) _ (by omega)) (by omega) ?_) | (refine Ints.ld (by assumption) (by omega) ?_) | (refine Mat.ld (by assumption) (by omega) ?_) | (refine Ints.ld (Mat.row (by assumption) _ (by omega)) (by omega) ?_) | (refine At.ld (by assumption) rfl ?_) | (refine At.ldN (by assumption) rfl ?_))
    · refine ⟨_, (by omega : a.length - (c + 1) < a.length - c), rfl, c + 1, by omega, rfl, ?_, rfl, rfl⟩
      simp only [worth, if_pos ‹a.getD c 0 = k›]
    · refine ⟨_, (by omega : a.length - (c + 1) < a.length - c), rfl, c + 1, by omega, rfl, ?_, rfl, rfl⟩
      simp only [worth, if_neg ‹¬ a.getD c 0 = k›, Int.add_zero]
    · obtain rfl : c = a.length := by omega
      exact ⟨rfl, E2⟩

theorem rcheck_pc {w : World} {gv : Value} {vs : List Value} {rr : List (List Int)} (Hg : Mat w gv vs rr) :
    PC Try.prog 45 [.agg #[gv]] w (.int .i64 (chk rr)) := by
  refine PC.mk tyOk Try.func45 rfl (by kernel_rfl) fun w1 E1 => ?_
  replace Hg := Hg.ext E1
  have hle := Hg.top.le
  refine Bx.agg fun b w2 E2 _ Hb _ => ?_
  replace Hg := Hg.ext E2
  repeat' ((conv => whnf); first | (refine Dr.quiet tyOk (by kernel_rfl) ?_) | (refine Rng.mk (by omega) ?_) | (refine Split.pos (by omega) ?_) | (refine Split.neg (by omega) ?_) | (refine Split.mk (fun h => ?_) (fun h => ?_)) | (refine Need.mk (by omega) ?_) | (refine Ints.ln (by assumption) ?_) | (refine Mat.ln (by assumption) ?_) | (refine Ints.ln (Mat.row (by assumption) _ (by omega)) ?_) | (refine Ints.ix (by assumption) (by omega) ?_) | (refine Mat.ix (by assumption) (by omega) ?_) | (refine Ints.ix (Mat.row (by assumption) _ (by omega)) (by omega) ?_) | (refine Ints.ix (c := 0) (by assumption) (by omega) ?_) | (refine Mat.ix (c := 0) (by assumption) (by omega) ?_) | (refine Ints.ix (c := 0) (Mat.row (by assumption) _ (by omega)) (by omega) ?_) | (refine Ints.ixI (by assumption) (by omega) ?_) | (refine Mat.ixI (by assumption) (by omega) ?_) | (refine Ints.ixI (Mat.row (by assumption) _ (by omega)) (by omega) ?_) | (refine Ints.ld (by assumption) (by omega) ?_) | (refine Mat.ld (by assumption) (by omega) ?_) | (refine Ints.ld (Mat.row (by assumption) _ (by omega)) (by omega) ?_) | (refine At.ld (by assumption) rfl ?_) | (refine At.ldN (by assumption) rfl ?_))
  · rw [chk_big (.inl (by omega))]; exact ⟨rfl, E2⟩
  refine Lp.mk tyOk [false, false, true, false, true, false, false, false, false, false, false, false, true, true, true, true, true, true, true, true, true, true, true, true] (fun m fr wr => getK fr 4 fun j => ∃ c : Nat, c ≤ rr.length ∧ m = rr.length - c ∧ j = .int .i64 (c : Int) ∧ (∀ i, i < c → (rr.getD i []).length ≤ 10) ∧ wr = w2) rr.length ?_ ?_
  · exact ⟨0, Nat.zero_le _, rfl, rfl, fun i hi => absurd hi (Nat.not_lt_zero _), rfl⟩
  · intro m w3 u2 u4 u12 u13 u14 u15 u16 u17 u18 u19 u20 u21 u22 u23 hR
    obtain ⟨c, hc, rfl, rfl, hlt, rfl⟩ := hR
    repeat' ((conv => whnf); first | (refine Dr.quiet tyOk (by kernel_rfl) ?_) | (refine Rng.mk (by omega) ?_) | (refine Split.pos (by omega) ?_) | (refine Split.neg (by omega) ?_) | (refine Split.mk (fun h => ?_) (fun h => ?_)) | (refine Need.mk (by omega) ?_) | (refine Ints.ln (by assumption) ?_) | (refine Mat.ln (by assumption) ?_) | (refine Ints.ln (Mat.row (by assumption) _ (by omega)) ?_) | (refine Ints.ix (by assumption) (by omega) ?_) | (refine Mat.ix (by assumption) (by omega) ?_) | (refine Ints.ix (Mat.row (by assumption) _ (by omega)) (by omega) ?_) | (refine Ints.ix (c := 0) (by assumption) (by omega) ?_) | (refine Mat.ix (c := 0) (by assumption) (by omega) ?_) | (refine Ints.ix (c := 0) (Mat.row (by assumption) _ (by omega)) (by omega) ?_) | (refine Ints.ixI (by assumption) (by omega) ?_) | (refine Mat.ixI (by assumption) (by omega) ?_) | (refine Ints.ixI (Mat.row (by assumption) _ (by omega)) (by omega) ?_) | (refine Ints.ld (by assumption) (by omega) ?_) | (refine Mat.ld (by assumption) (by omega) ?_) | (refine Ints.ld (Mat.row (by assumption) _ (by omega)) (by omega) ?_) | (refine At.ld (by assumption) rfl ?_) | (refine At.ldN (by assumption) rfl ?_))
    · rw [chk_big (.inr ⟨c, by omega, by omega⟩)]; exact ⟨rfl, E2⟩
    · refine ⟨_, (by omega : rr.length - (c + 1) < rr.length - c), rfl, c + 1, by omega, rfl, rfl, fun i hi => ?_, rfl⟩
      by_cases e : i = c
      · subst e; omega
      · exact hlt i (by omega)
    · have hnb : ¬ bigP rr := by
        rintro (h1 | ⟨i, hi, h1⟩)
        · omega
        · have := hlt i (by omega); omega
      refine Lp.mk tyOk [false, false, true, false, false, true, true, false, false, false, false, false, false, false, false, false, false, false, false, false, false, false, false, false, true, true, true, true, true, true, true, true, true, true, true, true, true, true, true, true, true, true, true, true, true, true, true, true, true, true, true, true, true, true, true, true, true, true, true, true, true, true, true, true, true, true, true, true, true, true, true] (fun m fr wr => getK fr 5 fun j => ∃ c : Nat, c ≤ rr.length ∧ m = rr.length - c ∧ j = .int .i64 (c : Int) ∧ (∀ i, i < c → (rr.getD i []).length = (rr.getD 0 []).length ∧ ∀ j, j < (rr.getD i []).length → 0 ≤ val rr i j ∧ val rr i j ≤ 1000) ∧ wr = w3) rr.length ?_ ?_
      · exact ⟨0, Nat.zero_le _, rfl, rfl, fun i hi => absurd hi (Nat.not_lt_zero _), rfl⟩
      · intro m w4 u2 u5 u6 u24 u25 u26 u27 u28 u29 u30 u31 u32 u33 u34 u35 u36 u37 u38 u39 u40 u41 u42 u43 u44 u45 u46 u47 u48 u49 u50 u51 u52 u53 u54 u55 u56 u57 u58 u59 u60 u61 u62 u63 u64 u65 u66 u67 u68 u69 u70 hR
        obtain ⟨c2, hc2, rfl, rfl, hok, rfl⟩ := hR
        repeat' ((conv => whnf); first | (refine Dr.quiet tyOk (by kernel_rfl) ?_) | (refine Rng.mk (by omega) ?_) | (refine Split.pos (by omega) ?_) | (refine Split.neg (by omega) ?_) | (refine Split.mk (fun h => ?_) (fun h => ?_)) | (refine Need.mk (by omega) ?_) | (refine Ints.ln (by assumption) ?_) | (refine Mat.ln (by assumption) ?_) | (refine Ints.ln (Mat.row (by assumption) _ (by omega)) ?_) | (refine Ints.ix (by assumption) (by omega) ?_) | (refine Mat.ix (by assumption) (by omega) ?_) | (refine Ints.ix (Mat.row (by assumption) _ (by omega)) (by omega) ?_) | (refine Ints.ix (c := 0) (by assumption) (by omega) ?_) | (refine Mat.ix (c := 0) (by assumption) (by omega) ?_) | (refine Ints.ix (c := 0) (Mat.row (by assumption) _ (by omega)) (by omega) ?_) | (refine Ints.ixI (by assumption) (by omega) ?_) | (refine Mat.ixI (by assumption) (by omega) ?_) | (refine Ints.ixI (Mat.row (by assumption) _ (by omega)) (by omega) ?_) | (refine Ints.ld (by assumption) (by omega) ?_) | (refine Mat.ld (by assumption) (by omega) ?_) | (refine Ints.ld (Mat.row (by assumption) _ (by omega)) (by omega) ?_) | (refine At.ld (by assumption) rfl ?_) | (refine At.ldN (by assumption) rfl ?_))
        · have hI := (Hg.row c2 (by omega)).le
          refine Lp.mk tyOk [false, false, true, false, false, false, true, false, false, false, false, false, false, false, false, false, false, false, false, false, false, false, false, false, false, false, false, false, false, false, false, false, false, false, false, false, false, false, false, false, false, true, true, true, true, true, true, true, true, true, true, true, true, true, true, true, true, true, true, true, true, true, true, true, true, true, true, true, true, true, true] (fun m fr wr => getK fr 6 fun j => ∃ c3 : Nat, c3 ≤ (rr.getD c2 []).length ∧ m = (rr.getD c2 []).length - c3 ∧ j = .int .i64 (c3 : Int) ∧ (∀ j, j < c3 → 0 ≤ val rr c2 j ∧ val rr c2 j ≤ 1000) ∧ wr = w4) (rr.getD c2 []).length ?_ ?_
          · exact ⟨0, Nat.zero_le _, rfl, rfl, fun i hi => absurd hi (Nat.not_lt_zero _), rfl⟩
          · intro m w5 u2 u6 u41 u42 u43 u44 u45 u46 u47 u48 u49 u50 u51 u52 u53 u54 u55 u56 u57 u58 u59 u60 u61 u62 u63 u64 u65 u66 u67 u68 u69 u70 hR
            obtain ⟨c3, hc3, rfl, rfl, hv, rfl⟩ := hR
            repeat' ((conv => whnf); first | (refine Dr.quiet tyOk (by kernel_rfl) ?_) | (refine Rng.mk (by omega) ?_) | (refine Split.pos (by omega) ?_) | (refine Split.neg (by omega) ?_) | (refine Split.mk (fun h => ?_) (fun h => ?_)) | (refine Need.mk (by omega) ?_) | (refine Ints.ln (by assumption) ?_) | (refine Mat.ln (by assumption) ?_) | (refine Ints.ln (Mat.row (by assumption) _ (by omega)) ?_) | (refine Ints.ix (by assumption) (by omega) ?_) | (refine Mat.ix (by assumption) (by omega) ?_) | (refine Ints.ix (Mat.row (by assumption) _ (by omega)) (by omega) ?_) | (refine Ints.ix (c := 0) (by assumption) (by omega) ?_) | (refine Mat.ix (c := 0) (by assumption) (by omega) ?_) | (refine Ints.ix (c := 0) (Mat.row (by assumption) _ (by omega)) (by omega) ?_) | (refine Ints.ixI (by assumption) (by omega) ?_) | (refine Mat.ixI (by assumption) (by omega) ?_) | (refine Ints.ixI (Mat.row (by assumption) _ (by omega)) (by omega) ?_) | (refine Ints.ld (by assumption) (by omega) ?_) | (refine Mat.ld (by assumption) (by omega) ?_) | (refine Ints.ld (Mat.row (by assumption) _ (by omega)) (by omega) ?_) | (refine At.ld (by assumption) rfl ?_) | (refine At.ldN (by assumption) rfl ?_))
            · rw [chk_bad hnb (.inr ⟨c2, by omega, .inr ⟨c3, by omega, .inl (by unfold val; omega)⟩⟩)]; exact ⟨rfl, E2⟩
            · rw [chk_bad hnb (.inr ⟨c2, by omega, .inr ⟨c3, by omega, .inr (by unfold val; omega)⟩⟩)]; exact ⟨rfl, E2⟩
            · refine ⟨_, (by omega : (rr.getD c2 []).length - (c3 + 1) < (rr.getD c2 []).length - c3), rfl, c3 + 1, by omega, rfl, rfl, fun i hi => ?_, rfl⟩
              by_cases e : i = c3
              · subst e; unfold val; omega
              · exact hv i (by omega)
            · refine ⟨_, (by omega : rr.length - (c2 + 1) < rr.length - c2), rfl, c2 + 1, by omega, rfl, rfl, fun i hi => ?_, rfl⟩
              by_cases e : i = c2
              · subst e; exact ⟨by omega, fun j hj => hv j (by omega)⟩
              · exact hok i (by omega)
        · rw [chk_bad hnb (.inr ⟨c2, by omega, .inl (by omega)⟩)]; exact ⟨rfl, E2⟩
        · rw [chk_bad hnb (.inl (by omega))]; exact ⟨rfl, E2⟩
        · have hnb2 : ¬ badP rr := by
            rintro (h1 | ⟨i, hi, h1 | ⟨j, hj, h1⟩⟩)
            · omega
            · exact h1 (hok i (by omega)).1
            · have := (hok i (by omega)).2 j hj; omega
          rw [chk_ok hnb hnb2]; exact ⟨rfl, E2⟩

theorem rvalid_pc {w : World} {gv av : Value} {vs : List Value} {rr : List (List Int)} {a : List Int} (Hg : Mat w gv vs rr) (Ha : Ints w av a) :
    PC Try.prog 42 [.agg #[gv], av] w (.int .i64 (vld rr a)) := by
  refine PC.mk tyOk Try.func42 rfl (by kernel_rfl) fun w1 E1 => ?_
  replace Hg := Hg.ext E1
  replace Ha := Ha.ext E1
  have hle := Hg.top.le
  have hla := Ha.le
  refine Bx.agg fun b w2 E2 _ Hb _ => ?_
  replace Hg := Hg.ext E2
  replace Ha := Ha.ext E2
  by_cases hck : chk rr = 0
  · have hgd := gd_of_chk hck
    have hn1 := hgd.n1
    repeat' ((conv => whnf); first | (refine Dr.quiet tyOk (by kernel_rfl) ?_) | (refine VC.pure (rcheck_pc Hg) ?_) | (refine Rng.mk (by omega) ?_) | (refine Split.pos (by omega) ?_) | (refine Split.neg (by omega) ?_) | (refine Split.mk (fun h => ?_) (fun h => ?_)) | (refine Need.mk (by omega) ?_) | (refine Ints.ln (by assumption) ?_) | (refine Mat.ln (by assumption) ?_) | (refine Ints.ln (Mat.row (by assumption) _ (by omega)) ?_) | (refine Ints.ix (by assumption) (by omega) ?_) | (refine Mat.ix (by assumption) (by omega) ?_) | (refine Ints.ix (Mat.row (by assumption) _ (by omega)) (by omega) ?_) | (refine Ints.ix (c := 0) (by assumption) (by omega) ?_) | (refine Mat.ix (c := 0) (by assumption) (by omega) ?_) | (refine Ints.ix (c := 0) (Mat.row (by assumption) _ (by omega)) (by omega) ?_) | (refine Ints.ixI (by assumption) (by omega) ?_) | (refine Mat.ixI (by assumption) (by omega) ?_) | (refine Ints.ixI (Mat.row (by assumption) _ (by omega)) (by omega) ?_) | (refine Ints.ld (by assumption) (by omega) ?_) | (refine Mat.ld (by assumption) (by omega) ?_) | (refine Ints.ld (Mat.row (by assumption) _ (by omega)) (by omega) ?_) | (refine At.ld (by assumption) rfl ?_) | (refine At.ldN (by assumption) rfl ?_))
    · refine Lp.mk tyOk [false, false, false, false, true, true, false, false, false, false, false, false, false, false, false, false, false, false, false, true, true, true, true, true, true, true, true, true, true, true, true, true, true, true, true, true, true, true, true, true] (fun m fr wr => getK fr 5 fun j => ∃ c : Nat, c ≤ a.length ∧ m = a.length - c ∧ j = .int .i64 (c : Int) ∧ (∀ i, i < c → -1 ≤ a.getD i 0 ∧ a.getD i 0 < rr.length) ∧ wr = w2) a.length ?_ ?_
      · exact ⟨0, Nat.zero_le _, rfl, rfl, fun i hi => absurd hi (Nat.not_lt_zero _), rfl⟩
      · intro m w3 u4 u5 u19 u20 u21 u22 u23 u24 u25 u26 u27 u28 u29 u30 u31 u32 u33 u34 u35 u36 u37 u38 u39 hR
        obtain ⟨c, hc, rfl, rfl, hv, rfl⟩ := hR
        repeat' ((conv => whnf); first | (refine Dr.quiet tyOk (by kernel_rfl) ?_) | (refine Rng.mk (by omega) ?_) | (refine Split.pos (by omega) ?_) | (refine Split.neg (by omega) ?_) | (refine Split.mk (fun h => ?_) (fun h => ?_)) | (refine Need.mk (by omega) ?_) | (refine Ints.ln (by assumption) ?_) | (refine Mat.ln (by assumption) ?_) | (refine Ints.ln (Mat.row (by assumption) _ (by omega)) ?_) | (refine Ints.ix (by assumption) (by omega) ?_) | (refine Mat.ix (by assumption) (by omega) ?_) | (refine Ints.ix (Mat.row (by assumption) _ (by omega)) (by omega) ?_) | (refine Ints.ix (c := 0) (by assumption) (by omega) ?_) | (refine Mat.ix (c := 0) (by assumption) (by omega) ?_) | (refine Ints.ix (c := 0) (Mat.row (by assumption) _ (by omega)) (by omega) ?_) | (refine Ints.ixI (by assumption) (by omega) ?_) | (refine Mat.ixI (by assumption) (by omega) ?_) | (refine Ints.ixI (Mat.row (by assumption) _ (by omega)) (by omega) ?_) | (refine Ints.ld (by assumption) (by omega) ?_) | (refine Mat.ld (by assumption) (by omega) ?_) | (refine Ints.ld (Mat.row (by assumption) _ (by omega)) (by omega) ?_) | (refine At.ld (by assumption) rfl ?_) | (refine At.ldN (by assumption) rfl ?_))
        · rw [vld_bad hck (.inr ⟨c, by omega, .inl (by omega)⟩)]; exact ⟨rfl, E2⟩
        · rw [vld_bad hck (.inr ⟨c, by omega, .inr (by omega)⟩)]; exact ⟨rfl, E2⟩
        · refine ⟨_, (by omega : a.length - (c + 1) < a.length - c), rfl, c + 1, by omega, rfl, rfl, fun i hi => ?_, rfl⟩
          by_cases e : i = c
          · subst e; omega
          · exact hv i (by omega)
        · have hnb : ¬ badA rr a := by
            rintro (h1 | ⟨k, hk, h1⟩)
            · omega
            · have := hv k (by omega); omega
          rw [vld_ok hck hnb]; exact ⟨rfl, E2⟩
    · rw [vld_bad hck (.inl (by omega))]; exact ⟨rfl, E2⟩
  · repeat' ((conv => whnf); first | (refine Dr.quiet tyOk (by kernel_rfl) ?_) | (refine VC.pure (rcheck_pc Hg) ?_) | (refine Rng.mk (by omega) ?_) | (refine Split.pos (by omega) ?_) | (refine Split.neg (by omega) ?_) | (refine Split.mk (fun h => ?_) (fun h => ?_)) | (refine Need.mk (by omega) ?_) | (refine Ints.ln (by assumption) ?_) | (refine Mat.ln (by assumption) ?_) | (refine Ints.ln (Mat.row (by assumption) _ (by omega)) ?_) | (refine Ints.ix (by assumption) (by omega) ?_) | (refine Mat.ix (by assumption) (by omega) ?_) | (refine Ints.ix (Mat.row (by assumption) _ (by omega)) (by omega) ?_) | (refine Ints.ix (c := 0) (by assumption) (by omega) ?_) | (refine Mat.ix (c := 0) (by assumption) (by omega) ?_) | (refine Ints.ix (c := 0) (Mat.row (by assumption) _ (by omega)) (by omega) ?_) | (refine Ints.ixI (by assumption) (by omega) ?_) | (refine Mat.ixI (by assumption) (by omega) ?_) | (refine Ints.ixI (Mat.row (by assumption) _ (by omega)) (by omega) ?_) | (refine Ints.ld (by assumption) (by omega) ?_) | (refine Mat.ld (by assumption) (by omega) ?_) | (refine Ints.ld (Mat.row (by assumption) _ (by omega)) (by omega) ?_) | (refine At.ld (by assumption) rfl ?_) | (refine At.ldN (by assumption) rfl ?_))
    rw [vld_chk hck]; exact ⟨rfl, E2⟩

def compl (a : List Int) : Prop := ∀ k, k < a.length → 0 ≤ a.getD k 0
theorem complete_pc {w : World} {av : Value} {a : List Int} (Ha : Ints w av a) : PC Try.prog 43 [av] w (.bool (tf (compl a))) := by
  refine PC.mk tyOk Try.func43 rfl (by kernel_rfl) fun w1 E1 => ?_
  replace Ha := Ha.ext E1
  have hla := Ha.le
  refine Lp.mk tyOk [false, false, true, true, true, true, true, true, true, true, true, true, true, true, true] (fun m fr wr => getK fr 3 fun j => ∃ c : Nat, c ≤ a.length ∧ m = a.length - c ∧ j = .int .i64 (c : Int) ∧ (∀ k, k < c → 0 ≤ a.getD k 0) ∧ wr = w1) a.length ?_ ?_
  · exact ⟨0, Nat.zero_le _, rfl, rfl, fun i hi => absurd hi (Nat.not_lt_zero _), rfl⟩
  · intro m w3 u2 u3 u4 u5 u6 u7 u8 u9 u10 u11 u12 u13 u14 hR
    obtain ⟨c, hc, rfl, rfl, hv, rfl⟩ := hR
    repeat' ((conv => whnf); first | (refine Dr.quiet tyOk (by kernel_rfl) ?_) | (refine Rng.mk (by omega) ?_) | (refine Split.pos (by omega) ?_) | (refine Split.neg (by omega) ?_) | (refine Split.mk (fun h => ?_) (fun h => ?_)) | (refine Need.mk (by omega) ?_) | (refine Ints.ln (by assumption) ?_) | (refine Mat.ln (by assumption) ?_) | (refine Ints.ln (Mat.row (by assumption) _ (by omega)) ?_) | (refine Ints.ix (by assumption) (by omega) ?_) | (refine Mat.ix (by assumption) (by omega) ?_) | (refine Ints.ix (Mat.row (by assumption) _ (by omega)) (by omega) ?_) | (refine Ints.ix (c := 0) (by assumption) (by omega) ?_) | (refine Mat.ix (c := 0) (by assumption) (by omega) ?_) | (refine Ints.ix (c := 0) (Mat.row (by assumption) _ (by omega)) (by omega) ?_) | (refine Ints.ixI (by assumption) (by omega) ?_) | (refine Mat.ixI (by assumption) (by omega) ?_) | (refine Ints.ixI (Mat.row (by assumption) _ (by omega)) (by omega) ?_) | (refine Ints.ld (by assumption) (by omega) ?_) | (refine Mat.ld (by assumption) (by omega) ?_) | (refine Ints.ld (Mat.row (by assumption) _ (by omega)) (by omega) ?_) | (refine At.ld (by assumption) rfl ?_) | (refine At.ldN (by assumption) rfl ?_))
    · rw [tf_f (p := compl a) (fun h => by have := h c (by omega); omega)]; exact ⟨rfl, Ext.refl _⟩
    · refine ⟨_, (by omega : a.length - (c + 1) < a.length - c), rfl, c + 1, by omega, rfl, rfl, fun i hi => ?_, rfl⟩
      by_cases e : i = c
      · subst e; omega
      · exact hv i (by omega)
    · rw [tf_t (p := compl a) (fun k hk => hv k (by omega))]; exact ⟨rfl, Ext.refl _⟩

def great (rr : List (List Int)) (a : List Int) : Prop := (∃ i, i < rr.length ∧ i < 20 ∧ 50 < (rr.getD i []).length) ∨ 20 < rr.length ∨ 50 < a.length
theorem great_pc {w : World} {gv av : Value} {vs : List Value} {rr : List (List Int)} {a : List Int} (Hg : Mat w gv vs rr) (Ha : Ints w av a) :
    PC Try.prog 24 [.agg #[gv], av] w (.bool (tf (great rr a))) := by
  refine PC.mk tyOk Try.func24 rfl (by kernel_rfl) fun w1 E1 => ?_
  replace Hg := Hg.ext E1
  replace Ha := Ha.ext E1
  have hle := Hg.top.le
  refine Bx.agg fun b w2 E2 _ Hb _ => ?_
  replace Hg := Hg.ext E2
  replace Ha := Ha.ext E2
  refine Lp.mk tyOk [false, false, false, false, true, true, true, true, true, true, true, true, true, true, true, true, true, true, true, true, true, true, true, true] (fun m fr wr => getK fr 5 fun j => ∃ c : Nat, c ≤ rr.length ∧ m = rr.length - c ∧ j = .int .i64 (c : Int) ∧ (∀ k, k < c → (rr.getD k []).length ≤ 50) ∧ wr = w2) rr.length ?_ ?_
  · exact ⟨0, Nat.zero_le _, rfl, rfl, fun i hi => absurd hi (Nat.not_lt_zero _), rfl⟩
  · intro m w3 u4 u5 u6 u7 u8 u9 u10 u11 u12 u13 u14 u15 u16 u17 u18 u19 u20 u21 u22 u23 hR
    obtain ⟨c, hc, rfl, rfl, hv, rfl⟩ := hR
    repeat' ((conv => whnf); first | (refine Dr.quiet tyOk (by kernel_rfl) ?_) | (refine Rng.mk (by omega) ?_) | (refine Split.pos (by omega) ?_) | (refine Split.neg (by omega) ?_) | (refine Split.mk (fun h => ?_) (fun h => ?_)) | (refine Need.mk (by omega) ?_) | (refine Ints.ln (by assumption) ?_) | (refine Mat.ln (by assumption) ?_) | (refine Ints.ln (Mat.row (by assumption) _ (by omega)) ?_) | (refine Ints.ix (by assumption) (by omega) ?_) | (refine Mat.ix (by assumption) (by omega) ?_) | (refine Ints.ix (Mat.row (by assumption) _ (by omega)) (by omega) ?_) | (refine Ints.ix (c := 0) (by assumption) (by omega) ?_) | (refine Mat.ix (c := 0) (by assumption) (by omega) ?_) | (refine Ints.ix (c := 0) (Mat.row (by assumption) _ (by omega)) (by omega) ?_) | (refine Ints.ixI (by assumption) (by omega) ?_) | (refine Mat.ixI (by assumption) (by omega) ?_) | (refine Ints.ixI (Mat.row (by assumption) _ (by omega)) (by omega) ?_) | (refine Ints.ld (by assumption) (by omega) ?_) | (refine Mat.ld (by assumption) (by omega) ?_) | (refine Ints.ld (Mat.row (by assumption) _ (by omega)) (by omega) ?_) | (refine At.ld (by assumption) rfl ?_) | (refine At.ldN (by assumption) rfl ?_))
    · rw [tf_t (p := great rr a) (.inl ⟨c, by omega, by omega, by omega⟩)]; exact ⟨rfl, E2⟩
    · refine ⟨_, (by omega : rr.length - (c + 1) < rr.length - c), rfl, c + 1, by omega, rfl, rfl, fun i hi => ?_, rfl⟩
      by_cases e : i = c
      · subst e; omega
      · exact hv i (by omega)
    · rw [tf_t (p := great rr a) (.inr (.inl (by omega)))]; exact ⟨rfl, E2⟩
    · rw [tf_t (p := great rr a) (.inr (.inl (by omega)))]; exact ⟨rfl, E2⟩
    · rw [tf_t (p := great rr a) (.inr (.inr (by omega)))]; exact ⟨rfl, E2⟩
    · rw [tf_f (p := great rr a) (by
        rintro (⟨i, h1, h2, h3⟩ | h1 | h1)
        · have := hv i (by omega); omega
        · omega
        · omega)]; exact ⟨rfl, E2⟩
end Go.Proofs.Ytkgogljfngplnaa
set_option linter.unusedVariables false
set_option linter.unusedSimpArgs false
namespace Go.Proofs.Ytkgogljfngplnaa
open Go.Eng
set_option maxRecDepth 100000

theorem eInt : Elem Try.prog 3 (.int .i64 0) 1 8 := by unfold Elem; kernel_rfl
theorem eRow : Elem Try.prog 27 (.slice none 0 0) 1 24 := by unfold Elem; kernel_rfl
theorem ePair : Elem Try.prog 103 (.agg #[.int .i64 0, .int .i64 0]) 2 16 := by unfold Elem; kernel_rfl

/-- A row of ints, and a matrix, that the call has made. -/
abbrev OI (w : World) (v : Value) (l : List Int) : Prop := Own 0 3 1 w v l.length (l.map i64v)
theorem OI.of {B n : Nat} {w : World} {v : Value} {l : List Int} (h : Own B 3 1 w v n (l.map i64v)) : OI w v l := by
  have e : n = l.length := by have := Own.len h; simpa using this.symm
  subst e; exact Own.base h (Nat.zero_le _)
structure OM (B : Nat) (w : World) (v : Value) (vs : List Value) (rr : List (List Int)) : Prop where
  top : Own B 27 1 w v rr.length vs
  row : ∀ i, i < rr.length → OI w (vs.getD i undef) (rr.getD i [])
theorem OM.mat {B : Nat} {w : World} {v : Value} {vs : List Value} {rr : List (List Int)} (h : OM B w v vs rr) : Mat w v vs rr := ⟨h.top.sl, fun i hi => (h.row i hi).sl⟩
theorem OM.ext {B : Nat} {w w' : World} {v : Value} {vs : List Value} {rr : List (List Int)} (h : OM B w v vs rr) (hg : Ext w w') : OM B w' v vs rr := ⟨Own.ext h.top hg, fun i hi => Own.ext (h.row i hi) hg⟩
theorem OM.base {B B' : Nat} {w : World} {v : Value} {vs : List Value} {rr : List (List Int)} (h : OM B w v vs rr) (hB : B' ≤ B) : OM B' w v vs rr := ⟨Own.base h.top hB, h.row⟩
theorem OM.nil {B : Nat} {w : World} : OM B w (.slice none 0 0) [] [] := ⟨Own.nil, fun _ hi => absurd hi (Nat.not_lt_zero _)⟩
theorem OM.push {B B' : Nat} {w w' : World} {v v' x : Value} {vs : List Value} {rr : List (List Int)} {l : List Int} (h : OM B w v vs rr) (hr : OI w x l) (hg : Gr (fun k => v.ownBlock = some k) w w') (ho : Own B' 27 1 w' v' (rr.length + 1) (vs ++ [x])) :
    OM B' w' v' (vs ++ [x]) (rr ++ [l]) := by
  have hl : vs.length = rr.length := by have := h.top.len; omega
  refine ⟨by simpa using ho, fun i hi => ?_⟩
  have keep : ∀ {y : Value} {m : List Int}, OI w y m → OI w' y m := fun {y m} hy => Own.gr hy hg fun k hk hk' => Own.ne hy h.top (by decide) k hk hk'
  by_cases e : i < rr.length
  · have := keep (h.row i e)
    simpa [List.getD, List.getElem?_append_left, hl, e] using this
  · have e2 : i = rr.length := by simp at hi; omega
    subst e2
    have := keep hr
    simpa [List.getD, hl] using this

theorem same_pc {w : World} {av bv : Value} {a b : List Int} (Ha : Ints w av a) (Hb : Ints w bv b) : PC Try.prog 22 [av, bv] w (.bool (tf (a = b))) := by
  refine PC.mk tyOk Try.func22 rfl (by kernel_rfl) fun w1 E1 => ?_
  replace Ha := Ha.ext E1
  replace Hb := Hb.ext E1
  have hla := Ha.le
  repeat' ((conv => whnf); first | (refine Dr.quiet tyOk (by kernel_rfl) ?_) | (refine Rng.mk (by omega) ?_) | (refine Split.pos (by omega) ?_) | (refine Split.neg (by omega) ?_) | (refine Split.mk (fun h => ?_) (fun h => ?_)) | (refine Need.mk (by omega) ?_) | (refine Ints.ln (by assumption) ?_) | (refine Mat.ln (by assumption) ?_) | (refine Ints.ln (Mat.row (by assumption) _ (by omega)) ?_) | (refine Ints.ix (by assumption) (by omega) ?_) | (refine Mat.ix (by assumption) (by omega) ?_) | (refine Ints.ix (Mat.row (by assumption) _ (by omega)) (by omega) ?_) | (refine Ints.ix (c := 0) (by assumption) (by omega) ?_) | (refine Mat.ix (c := 0) (by assumption) (by omega) ?_) | (refine Ints.ix (c := 0) (Mat.row (by assumption) _ (by omega)) (by omega) ?_) | (refine Ints.ixI (by assumption) (by omega) ?_) | (refine Mat.ixI (by assumption) (by omega) ?_) | (refine Ints.ixI (Mat.row (by assumption) _ (by omega)) (by omega) ?_) | (refine Ints.ld (by assumption) (by omega) ?_) | (refine Mat.ld (by assumption) (by omega) ?_) | (refine Ints.ld (Mat.row (by assumption) _ (by omega)) (by omega) ?_) | (refine At.ld (by assumption) rfl ?_) | (refine At.ldN (by assumption) rfl ?_))
  · refine Lp.mk tyOk [false, false, false, false, true, true, false, false, false, false, false, true, true, true, true, true, true, true, true, true, true, true, true, true, true, true] (fun m fr wr => getK fr 5 fun j => ∃ c : Nat, c ≤ a.length ∧ m = a.length - c ∧ j = .int .i64 (c : Int) ∧ (∀ k, k < c → a.getD k 0 = b.getD k 0) ∧ wr = w1) a.length ?_ ?_
    · exact ⟨0, Nat.zero_le _, rfl, rfl, fun i hi => absurd hi (Nat.not_lt_zero _), rfl⟩
    · intro m w3 u4 u5 u11 u12 u13 u14 u15 u16 u17 u18 u19 u20 u21 u22 u23 u24 u25 hR
      obtain ⟨c, hc, rfl, rfl, hv, rfl⟩ := hR
      repeat' ((conv => whnf); first | (refine Dr.quiet tyOk (by kernel_rfl) ?_) | (refine Rng.mk (by omega) ?_) | (refine Split.pos (by omega) ?_) | (refine Split.neg (by omega) ?_) | (refine Split.mk (fun h => ?_) (fun h => ?_)) | (refine Need.mk (by omega) ?_) | (refine Ints.ln (by assumption) ?_) | (refine Mat.ln (by assumption) ?_) | (refine Ints.ln (Mat.row (by assumption) _ (by omega)) ?_) | (refine Ints.ix (by assumption) (by omega) ?_) | (refine Mat.ix (by assumption) (by omega) ?_) | (refine Ints.ix (Mat.row (by assumption) _ (by omega)) (by omega) ?_) | (refine Ints.ix (c := 0) (by assumption) (by omega) ?_) | (refine Mat.ix (c := 0) (by assumption) (by omega) ?_) | (refine Ints.ix (c := 0) (Mat.row (by assumption) _ (by omega)) (by omega) ?_) | (refine Ints.ixI (by assumption) (by omega) ?_) | (refine Mat.ixI (by assumption) (by omega) ?_) | (refine Ints.ixI (Mat.row (by assumption) _ (by omega)) (by omega) ?_) | (refine Ints.ld (by assumption) (by omega) ?_) | (refine Mat.ld (by assumption) (by omega) ?_) | (refine Ints.ld (Mat.row (by assumption) _ (by omega)) (by omega) ?_) | (refine At.ld (by assumption) rfl ?_) | (refine At.ldN (by assumption) rfl ?_))
      · refine ⟨_, (by omega : a.length - (c + 1) < a.length - c), rfl, c + 1, by omega, rfl, rfl, fun i hi => ?_, rfl⟩
        by_cases e : i = c
        · subst e; assumption
        · exact hv i (by omega)
      · rw [tf_f (p := a = b) (by rintro rfl; exact absurd rfl ‹_›)]; exact ⟨rfl, Ext.refl _⟩
      · rw [tf_t (p := a = b) (ext_getD 0 (by omega) fun i hi => hv i (by omega))]; exact ⟨rfl, Ext.refl _⟩
  · rw [tf_f (p := a = b) (by rintro rfl; omega)]; exact ⟨rfl, Ext.refl _⟩

end Go.Proofs.Ytkgogljfngplnaa
set_option linter.unusedVariables false
set_option linter.unusedSimpArgs false
namespace Go.Proofs.Ytkgogljfngplnaa
open Go.Eng
set_option maxRecDepth 100000

theorem cells3 : Try.prog.cellsOf 3 = 1 := by kernel_rfl

theorem take_snoc {α : Type} (d : α) (l : List α) (c : Nat) (h : c < l.length) : l.take (c + 1) = l.take c ++ [l.getD c d] := by
  rw [List.take_succ_eq_append_getElem h]
  simp [List.getD, h]

end Go.Proofs.Ytkgogljfngplnaa
set_option linter.unusedVariables false
set_option linter.unusedSimpArgs false
namespace Go.Proofs.Ytkgogljfngplnaa
open Go.Eng
set_option maxRecDepth 100000

theorem map_range_succ {α : Type} (f : Nat → α) (c : Nat) : (List.range (c + 1)).map f = (List.range c).map f ++ [f c] := by simp [List.range_succ]

theorem flatP_snoc (l : List (Int × Int)) (x y : Int) : flatP l ++ [.int .i64 x, .int .i64 y] = flatP (l ++ [(x, y)]) := by rw [flatP_app]; rfl

/-- A row of pairs that the call has made. -/
abbrev OP (B : Nat) (w : World) (v : Value) (l : List (Int × Int)) : Prop := Own B 103 2 w v l.length (flatP l)

theorem OP.of {B n : Nat} {w : World} {v : Value} {l : List (Int × Int)} (h : Own B 103 2 w v n (flatP l)) : OP B w v l := by
  have e : n = l.length := by have := Own.len h; rw [flatP_len] at this; omega
  subst e; exact h

end Go.Proofs.Ytkgogljfngplnaa
set_option linter.unusedVariables false
set_option linter.unusedSimpArgs false
namespace Go.Proofs.Ytkgogljfngplnaa
open Go.Eng
set_option maxRecDepth 100000
set_option maxHeartbeats 4000000

theorem VS.conv {src dst : TypeId} {d : TypeDesc} {k q : IntKind} {n : Int} {w : World} {K : Value → Prop} (hs : Try.prog.underlying src = some d) (hd : Try.prog.underlying dst = some (.int k)) (hn : k.wrap n = n) (hk : K (.int k n)) : VS Try.prog (convert src dst (.int q n)) w K :=
  VS.mk (fun w1 _ => by
    simp only [convert, Sem.run_bind, run_underlying hs, run_underlying hd, Result.andThen_ok]
    show Result.ok (Value.int k (k.wrap n)) w1 = _
    rw [hn]) hk

theorem VS.gtr {T : TypeId} {x y : Operand} {k : IntKind} {a b : Int} {w : World} {K : Value → Prop} (h : Split (b < a) (K (.bool true)) (K (.bool false))) : VS Try.prog (binSem .gtr T x y (.int k a) (.int k b)) w K := by
  simp only [Split] at h
  have hg : eqGuard .gtr T x y (.int k a) (.int k b) = pure () := rfl
  have hb : binSem .gtr T x y (.int k a) (.int k b) = binOp .gtr T (.int k a) (.int k b) := by unfold binSem; rw [hg]; rfl
  by_cases hab : b < a
  · exact VS.mk (v := .bool true) (fun w1 _ => by rw [hb]; simp [binOp, Op.intCmp, hab]) (h.1 hab)
  · exact VS.mk (v := .bool false) (fun w1 _ => by rw [hb]; simp [binOp, Op.intCmp, hab]) (h.2 hab)

end Go.Proofs.Ytkgogljfngplnaa
set_option linter.unusedVariables false
set_option linter.unusedSimpArgs false
namespace Go.Proofs.Ytkgogljfngplnaa
open Go.Eng
set_option maxRecDepth 100000
set_option maxHeartbeats 4000000

theorem clone_rc {w : World} {sv : Value} {l : List Int} (Hs : Ints w sv l) (hl : l.length ≤ 1000) : RC Try.prog 64 [sv] w NoB (fun u w' => OI w' u l ∧ Go.Eng.Own w.heap.size 3 1 w' u l.length (l.map i64v)) := by
  obtain ⟨a, cap, rfl, h1, h2, h3, h4⟩ := id Hs
  cases a with
  | none =>
    have hl0 : l = [] := by
      rcases h4 with h4 | ⟨p, h4, _⟩
      · exact List.length_eq_zero_iff.1 h4
      · cases h4
    subst hl0
    refine RC.mk tyOk Try.func64 rfl (by kernel_rfl) fun w1 E1 => ?_
    replace Hs := Hs.ext E1
    repeat' ((conv => whnf); first | (refine Dr.quiet tyOk (by kernel_rfl) ?_) | (refine VS.mk (v := .bool true) (fun _ _ => rfl) ?_) | (refine Rng.mk (by omega) ?_) | (refine Split.pos (by omega) ?_) | (refine Split.neg (by omega) ?_) | (refine Split.mk (fun h => ?_) (fun h => ?_)) | (refine Need.mk (by omega) ?_) | (refine Ints.ln (by assumption) ?_) | (refine Mat.ln (by assumption) ?_) | (refine Ints.ln (Mat.row (by assumption) _ (by omega)) ?_) | (refine Ints.ix (by assumption) (by omega) ?_) | (refine Mat.ix (by assumption) (by omega) ?_) | (refine Ints.ix (Mat.row (by assumption) _ (by omega)) (by omega) ?_) | (refine Ints.ix (c := 0) (by assumption) (by omega) ?_) | (refine Mat.ix (c := 0) (by assumption) (by omega) ?_) | (refine Ints.ix (c := 0) (Mat.row (by assumption) _ (by omega)) (by omega) ?_) | (refine Ints.ixI (by assumption) (by omega) ?_) | (refine Mat.ixI (by assumption) (by omega) ?_) | (refine Ints.ixI (Mat.row (by assumption) _ (by omega)) (by omega) ?_) | (refine Ints.ld (by assumption) (by omega) ?_) | (refine Mat.ld (by assumption) (by omega) ?_) | (refine Ints.ld (Mat.row (by assumption) _ (by omega)) (by omega) ?_) | (refine At.ld (by assumption) rfl ?_) | (refine At.ldN (by assumption) rfl ?_))
    exact ⟨Ext.refl _, Own.nil, Own.nil⟩
  | some p =>
    refine RC.mk tyOk Try.func64 rfl (by kernel_rfl) fun w1 E1 => ?_
    replace Hs := Hs.ext E1
    repeat' ((conv => whnf); first | (refine Dr.quiet tyOk (by kernel_rfl) ?_) | (refine VS.mk (v := .bool false) (fun _ _ => rfl) ?_) | (refine Rng.mk (by omega) ?_) | (refine Split.pos (by omega) ?_) | (refine Split.neg (by omega) ?_) | (refine Split.mk (fun h => ?_) (fun h => ?_)) | (refine Need.mk (by omega) ?_) | (refine Ints.ln (by assumption) ?_) | (refine Mat.ln (by assumption) ?_) | (refine Ints.ln (Mat.row (by assumption) _ (by omega)) ?_) | (refine Ints.ix (by assumption) (by omega) ?_) | (refine Mat.ix (by assumption) (by omega) ?_) | (refine Ints.ix (Mat.row (by assumption) _ (by omega)) (by omega) ?_) | (refine Ints.ix (c := 0) (by assumption) (by omega) ?_) | (refine Mat.ix (c := 0) (by assumption) (by omega) ?_) | (refine Ints.ix (c := 0) (Mat.row (by assumption) _ (by omega)) (by omega) ?_) | (refine Ints.ixI (by assumption) (by omega) ?_) | (refine Mat.ixI (by assumption) (by omega) ?_) | (refine Ints.ixI (Mat.row (by assumption) _ (by omega)) (by omega) ?_) | (refine Ints.ld (by assumption) (by omega) ?_) | (refine Mat.ld (by assumption) (by omega) ?_) | (refine Ints.ld (Mat.row (by assumption) _ (by omega)) (by omega) ?_) | (refine At.ld (by assumption) rfl ?_) | (refine At.ldN (by assumption) rfl ?_))
    refine VE.lit0 Try.underlying27 eInt fun l0 w4 E4 Hl0 => ?_
    have Ha4 := Hs.ext E4
    conv => whnf
    refine VE.app Try.underlying27 eInt rfl (by omega) (Hl0 _ (Nat.le_refl _)) E4 rfl Ha4 (one_ints l) (by first | omega | (simp only [List.length_map, List.length_range]; omega)) (by first | omega | (simp only [List.length_map, List.length_range]; omega)) fun v5 w5 E5 G5 H5 => ?_
    repeat' ((conv => whnf); first | (refine Dr.quiet tyOk (by kernel_rfl) ?_) | (refine Rng.mk (by omega) ?_) | (refine Split.pos (by omega) ?_) | (refine Split.neg (by omega) ?_) | (refine Split.mk (fun h => ?_) (fun h => ?_)) | (refine Need.mk (by omega) ?_) | (refine Ints.ln (by assumption) ?_) | (refine Mat.ln (by assumption) ?_) | (refine Ints.ln (Mat.row (by assumption) _ (by omega)) ?_) | (refine Ints.ix (by assumption) (by omega) ?_) | (refine Mat.ix (by assumption) (by omega) ?_) | (refine Ints.ix (Mat.row (by assumption) _ (by omega)) (by omega) ?_) | (refine Ints.ix (c := 0) (by assumption) (by omega) ?_) | (refine Mat.ix (c := 0) (by assumption) (by omega) ?_) | (refine Ints.ix (c := 0) (Mat.row (by assumption) _ (by omega)) (by omega) ?_) | (refine Ints.ixI (by assumption) (by omega) ?_) | (refine Mat.ixI (by assumption) (by omega) ?_) | (refine Ints.ixI (Mat.row (by assumption) _ (by omega)) (by omega) ?_) | (refine Ints.ld (by assumption) (by omega) ?_) | (refine Mat.ld (by assumption) (by omega) ?_) | (refine Ints.ld (Mat.row (by assumption) _ (by omega)) (by omega) ?_) | (refine At.ld (by assumption) rfl ?_) | (refine At.ldN (by assumption) rfl ?_))
    have e0 : 0 + l.length = l.length := by omega
    rw [e0, List.nil_append] at H5
    exact ⟨E5, OI.of H5, Own.base H5 E1.size⟩
end Go.Proofs.Ytkgogljfngplnaa
set_option linter.unusedVariables false
set_option linter.unusedSimpArgs false
namespace Go.Proofs.Ytkgogljfngplnaa
open Go.Eng
set_option maxRecDepth 100000

theorem indexfuncR_pc {w : World} {sv : Value} {n : Nat} {xs : List Value} {g : FuncId} {cap : List Value} {p : Nat → Bool} (Hs : Sl 1 w sv n xs) (hf : ∀ i, i < n → PC Try.prog g (xs.getD i undef :: cap) w (.bool (p i))) :
    PC Try.prog 83 [sv, .func (.func g) #[] cap.toArray] w (.int .i64 (firstFrom p n 0)) := by
  refine PC.mk tyOk Try.func83 rfl (by kernel_rfl) fun w1 E1 => ?_
  replace Hs := Hs.ext E1
  replace hf := fun i hi => (hf i hi).ext E1
  have hle := Hs.le
  repeat' ((conv => whnf); first | (refine Dr.quiet tyOk (by kernel_rfl) ?_) | (refine Sl.ln (by assumption) ?_) | (refine Rng.mk (by omega) ?_) | (refine Split.pos (by omega) ?_) | (refine Split.neg (by omega) ?_) | (refine Split.mk (fun h => ?_) (fun h => ?_)) | (refine Need.mk (by omega) ?_) | (refine Ints.ln (by assumption) ?_) | (refine Mat.ln (by assumption) ?_) | (refine Ints.ln (Mat.row (by assumption) _ (by omega)) ?_) | (refine Ints.ix (by assumption) (by omega) ?_) | (refine Mat.ix (by assumption) (by omega) ?_) | (refine Ints.ix (Mat.row (by assumption) _ (by omega)) (by omega) ?_) | (refine Ints.ix (c := 0) (by assumption) (by omega) ?_) | (refine Mat.ix (c := 0) (by assumption) (by omega) ?_) | (refine Ints.ix (c := 0) (Mat.row (by assumption) _ (by omega)) (by omega) ?_) | (refine Ints.ixI (by assumption) (by omega) ?_) | (refine Mat.ixI (by assumption) (by omega) ?_) | (refine Ints.ixI (Mat.row (by assumption) _ (by omega)) (by omega) ?_) | (refine Ints.ld (by assumption) (by omega) ?_) | (refine Mat.ld (by assumption) (by omega) ?_) | (refine Ints.ld (Mat.row (by assumption) _ (by omega)) (by omega) ?_) | (refine At.ld (by assumption) rfl ?_) | (refine At.ldN (by assumption) rfl ?_))
  refine Lp.mk tyOk [false, false, false, false, true, true, false, false, true, true, true, true, true, true, true, true, true, true, true] (fun m fr wr => getK fr 8 fun j => ∃ c : Nat, c ≤ n ∧ m = n - c ∧ j = .int .i64 (c : Int) ∧ firstFrom p n 0 = firstFrom p (n - c) c ∧ wr = w1) n ?_ ?_
  · exact ⟨0, Nat.zero_le _, rfl, rfl, rfl, rfl⟩
  · intro m w3 u4 u5 u8 u9 u10 u11 u12 u13 u14 u15 u16 u17 u18 hR
    obtain ⟨c, hc, rfl, rfl, he, rfl⟩ := hR
    by_cases hlt : c < n
    · have hs : firstFrom p (n - c) c = if p c = true then (c : Int) else firstFrom p (n - (c + 1)) (c + 1) := by rw [show n - c = (n - (c + 1)) + 1 by omega]; rfl
      have hfc := hf c hlt
      cases hp : p c with
      | true =>
        rw [hp] at hfc hs
        repeat' ((conv => whnf); first | (refine Dr.quiet tyOk (by kernel_rfl) ?_) | (refine Sl.ix (by assumption) (by omega) ?_) | (refine Sl.ld1 (by assumption) (by omega) ?_) | (refine VC.pure hfc ?_) | (refine Rng.mk (by omega) ?_) | (refine Split.pos (by omega) ?_) | (refine Split.neg (by omega) ?_) | (refine Split.mk (fun h => ?_) (fun h => ?_)) | (refine Need.mk (by omega) ?_) | (refine Ints.ln (by assumption) ?_) | (refine Mat.ln (by assumption) ?_) | (refine Ints.ln (Mat.row (by assumption) _ (by omega)) ?_) | (refine Ints.ix (by assumption) (by omega) ?_) | (refine Mat.ix (by assumption) (by omega) ?_) | (refine Ints.ix (Mat.row (by assumption) _ (by omega)) (by omega) ?_) | (refine Ints.ix (c := 0) (by assumption) (by omega) ?_) | (refine Mat.ix (c := 0) (by assumption) (by omega) ?_) | (refine Ints.ix (c := 0) (Mat.row (by assumption) _ (by omega)) (by omega) ?_) | (refine Ints.ixI (by assumption) (by omega) ?_) | (refine Mat.ixI (by assumption) (by omega) ?_) | (refine Ints.ixI (Mat.row (by assumption) _ (by omega)) (by omega) ?_) | (refine Ints.ld (by assumption) (by omega) ?_) | (refine Mat.ld (by assumption) (by omega) ?_) | (refine Ints.ld (Mat.row (by assumption) _ (by omega)) (by omega) ?_) | (refine At.ld (by assumption) rfl ?_) | (refine At.ldN (by assumption) rfl ?_))
        rw [he, hs]; exact ⟨rfl, Ext.refl _⟩
      | false =>
        rw [hp] at hfc hs
        repeat' ((conv => whnf); first | (refine Dr.quiet tyOk (by kernel_rfl) ?_) | (refine Sl.ix (by assumption) (by omega) ?_) | (refine Sl.ld1 (by assumption) (by omega) ?_) | (refine VC.pure hfc ?_) | (refine Rng.mk (by omega) ?_) | (refine Split.pos (by omega) ?_) | (refine Split.neg (by omega) ?_) | (refine Split.mk (fun h => ?_) (fun h => ?_)) | (refine Need.mk (by omega) ?_) | (refine Ints.ln (by assumption) ?_) | (refine Mat.ln (by assumption) ?_) | (refine Ints.ln (Mat.row (by assumption) _ (by omega)) ?_) | (refine Ints.ix (by assumption) (by omega) ?_) | (refine Mat.ix (by assumption) (by omega) ?_) | (refine Ints.ix (Mat.row (by assumption) _ (by omega)) (by omega) ?_) | (refine Ints.ix (c := 0) (by assumption) (by omega) ?_) | (refine Mat.ix (c := 0) (by assumption) (by omega) ?_) | (refine Ints.ix (c := 0) (Mat.row (by assumption) _ (by omega)) (by omega) ?_) | (refine Ints.ixI (by assumption) (by omega) ?_) | (refine Mat.ixI (by assumption) (by omega) ?_) | (refine Ints.ixI (Mat.row (by assumption) _ (by omega)) (by omega) ?_) | (refine Ints.ld (by assumption) (by omega) ?_) | (refine Mat.ld (by assumption) (by omega) ?_) | (refine Ints.ld (Mat.row (by assumption) _ (by omega)) (by omega) ?_) | (refine At.ld (by assumption) rfl ?_) | (refine At.ldN (by assumption) rfl ?_))
        exact ⟨_, (by omega : n - (c + 1) < n - c), rfl, c + 1, by omega, rfl, rfl, by rw [he, hs]; rfl, rfl⟩
    · obtain rfl : c = n := by omega
      repeat' ((conv => whnf); first | (refine Dr.quiet tyOk (by kernel_rfl) ?_) | (refine Rng.mk (by omega) ?_) | (refine Split.pos (by omega) ?_) | (refine Split.neg (by omega) ?_) | (refine Split.mk (fun h => ?_) (fun h => ?_)) | (refine Need.mk (by omega) ?_) | (refine Ints.ln (by assumption) ?_) | (refine Mat.ln (by assumption) ?_) | (refine Ints.ln (Mat.row (by assumption) _ (by omega)) ?_) | (refine Ints.ix (by assumption) (by omega) ?_) | (refine Mat.ix (by assumption) (by omega) ?_) | (refine Ints.ix (Mat.row (by assumption) _ (by omega)) (by omega) ?_) | (refine Ints.ix (c := 0) (by assumption) (by omega) ?_) | (refine Mat.ix (c := 0) (by assumption) (by omega) ?_) | (refine Ints.ix (c := 0) (Mat.row (by assumption) _ (by omega)) (by omega) ?_) | (refine Ints.ixI (by assumption) (by omega) ?_) | (refine Mat.ixI (by assumption) (by omega) ?_) | (refine Ints.ixI (Mat.row (by assumption) _ (by omega)) (by omega) ?_) | (refine Ints.ld (by assumption) (by omega) ?_) | (refine Mat.ld (by assumption) (by omega) ?_) | (refine Ints.ld (Mat.row (by assumption) _ (by omega)) (by omega) ?_) | (refine At.ld (by assumption) rfl ?_) | (refine At.ldN (by assumption) rfl ?_))
      rw [he, Nat.sub_self]; exact ⟨rfl, Ext.refl _⟩

theorem containsfuncR_pc {w : World} {sv : Value} {n : Nat} {xs : List Value} {g : FuncId} {cap : List Value} {p : Nat → Bool} (Hs : Sl 1 w sv n xs) (hf : ∀ i, i < n → PC Try.prog g (xs.getD i undef :: cap) w (.bool (p i))) :
    PC Try.prog 71 [sv, .func (.func g) #[] cap.toArray] w (.bool (tf (∃ i, i < n ∧ p i = true))) := by
  refine PC.mk tyOk Try.func71 rfl (by kernel_rfl) fun w1 E1 => ?_
  replace Hs := Hs.ext E1
  replace hf := fun i hi => (hf i hi).ext E1
  have hs := firstFrom_spec p n 0
  repeat' ((conv => whnf); first | (refine Dr.quiet tyOk (by kernel_rfl) ?_) | (refine VC.pure (indexfuncR_pc Hs hf) ?_) | (refine Rng.mk (by omega) ?_) | (refine Split.pos (by omega) ?_) | (refine Split.neg (by omega) ?_) | (refine Split.mk (fun h => ?_) (fun h => ?_)) | (refine Need.mk (by omega) ?_) | (refine Ints.ln (by assumption) ?_) | (refine Mat.ln (by assumption) ?_) | (refine Ints.ln (Mat.row (by assumption) _ (by omega)) ?_) | (refine Ints.ix (by assumption) (by omega) ?_) | (refine Mat.ix (by assumption) (by omega) ?_) | (refine Ints.ix (Mat.row (by assumption) _ (by omega)) (by omega) ?_) | (refine Ints.ix (c := 0) (by assumption) (by omega) ?_) | (refine Mat.ix (c := 0) (by assumption) (by omega) ?_) | (refine Ints.ix (c := 0) (Mat.row (by assumption) _ (by omega)) (by omega) ?_) | (refine Ints.ixI (by assumption) (by omega) ?_) | (refine Mat.ixI (by assumption) (by omega) ?_) | (refine Ints.ixI (Mat.row (by assumption) _ (by omega)) (by omega) ?_) | (refine Ints.ld (by assumption) (by omega) ?_) | (refine Mat.ld (by assumption) (by omega) ?_) | (refine Ints.ld (Mat.row (by assumption) _ (by omega)) (by omega) ?_) | (refine At.ld (by assumption) rfl ?_) | (refine At.ldN (by assumption) rfl ?_))
  · rw [tf_t (p := ∃ i, i < n ∧ p i = true) (by
      rcases hs with ⟨j, h1, h2, h3, _⟩ | ⟨h1, _⟩
      · exact ⟨j, by omega, h3⟩
      · omega)]; exact ⟨rfl, Ext.refl _⟩
  · rw [tf_f (p := ∃ i, i < n ∧ p i = true) (by
      rintro ⟨i, hi, hp⟩
      rcases hs with ⟨j, h1, h2, h3, h4, _⟩ | ⟨_, h2⟩
      · omega
      · have := h2 i (by omega) (by omega); rw [hp] at this; cases this)]; exact ⟨rfl, Ext.refl _⟩
theorem indexfuncI_pc {w : World} {sv : Value} {n : Nat} {xs : List Value} {g : FuncId} {cap : List Value} {p : Nat → Bool} (Hs : Sl 1 w sv n xs) (hf : ∀ i, i < n → PC Try.prog g (xs.getD i undef :: cap) w (.bool (p i))) :
    PC Try.prog 84 [sv, .func (.func g) #[] cap.toArray] w (.int .i64 (firstFrom p n 0)) := by
  refine PC.mk tyOk Try.func84 rfl (by kernel_rfl) fun w1 E1 => ?_
  replace Hs := Hs.ext E1
  replace hf := fun i hi => (hf i hi).ext E1
  have hle := Hs.le
  repeat' ((conv => whnf); first | (refine Dr.quiet tyOk (by kernel_rfl) ?_) | (refine Sl.ln (by assumption) ?_) | (refine Rng.mk (by omega) ?_) | (refine Split.pos (by omega) ?_) | (refine Split.neg (by omega) ?_) | (refine Split.mk (fun h => ?_) (fun h => ?_)) | (refine Need.mk (by omega) ?_) | (refine Ints.ln (by assumption) ?_) | (refine Mat.ln (by assumption) ?_) | (refine Ints.ln (Mat.row (by assumption) _ (by omega)) ?_) | (refine Ints.ix (by assumption) (by omega) ?_) | (refine Mat.ix (by assumption) (by omega) ?_) | (refine Ints.ix (Mat.row (by assumption) _ (by omega)) (by omega) ?_) | (refine Ints.ix (c := 0) (by assumption) (by omega) ?_) | (refine Mat.ix (c := 0) (by assumption) (by omega) ?_) | (refine Ints.ix (c := 0) (Mat.row (by assumption) _ (by omega)) (by omega) ?_) | (refine Ints.ixI (by assumption) (by omega) ?_) | (refine Mat.ixI (by assumption) (by omega) ?_) | (refine Ints.ixI (Mat.row (by assumption) _ (by omega)) (by omega) ?_) | (refine Ints.ld (by assumption) (by omega) ?_) | (refine Mat.ld (by assumption) (by omega) ?_) | (refine Ints.ld (Mat.row (by assumption) _ (by omega)) (by omega) ?_) | (refine At.ld (by assumption) rfl ?_) | (refine At.ldN (by assumption) rfl ?_))
  refine Lp.mk tyOk [false, false, false, false, true, true, false, false, true, true, true, true, true, true, true, true, true, true, true] (fun m fr wr => getK fr 8 fun j => ∃ c : Nat, c ≤ n ∧ m = n - c ∧ j = .int .i64 (c : Int) ∧ firstFrom p n 0 = firstFrom p (n - c) c ∧ wr = w1) n ?_ ?_
  · exact ⟨0, Nat.zero_le _, rfl, rfl, rfl, rfl⟩
  · intro m w3 u4 u5 u8 u9 u10 u11 u12 u13 u14 u15 u16 u17 u18 hR
    obtain ⟨c, hc, rfl, rfl, he, rfl⟩ := hR
    by_cases hlt : c < n
    · have hs : firstFrom p (n - c) c = if p c = true then (c : Int) else firstFrom p (n - (c + 1)) (c + 1) := by rw [show n - c = (n - (c + 1)) + 1 by omega]; rfl
      have hfc := hf c hlt
      cases hp : p c with
      | true =>
        rw [hp] at hfc hs
        repeat' ((conv => whnf); first | (refine Dr.quiet tyOk (by kernel_rfl) ?_) | (refine Sl.ix (by assumption) (by omega) ?_) | (refine Sl.ld1 (by assumption) (by omega) ?_) | (refine VC.pure hfc ?_) | (refine Rng.mk (by omega) ?_) | (refine Split.pos (by omega) ?_) | (refine Split.neg (by omega) ?_) | (refine Split.mk (fun h => ?_) (fun h => ?_)) | (refine Need.mk (by omega) ?_) | (refine Ints.ln (by assumption) ?_) | (refine Mat.ln (by assumption) ?_) | (refine Ints.ln (Mat.row (by assumption) _ (by omega)) ?_) | (refine Ints.ix (by assumption) (by omega) ?_) | (refine Mat.ix (by assumption) (by omega) ?_) | (refine Ints.ix (Mat.row (by assumption) _ (by omega)) (by omega) ?_) | (refine Ints.ix (c := 0) (by assumption) (by omega) ?_) | (refine Mat.ix (c := 0) (by assumption) (by omega) ?_) | (refine Ints.ix (c := 0) (Mat.row (by assumption) _ (by omega)) (by omega) ?_) | (refine Ints.ixI (by assumption) (by omega) ?_) | (refine Mat.ixI (by assumption) (by omega) ?_) | (refine Ints.ixI (Mat.row (by assumption) _ (by omega)) (by omega) ?_) | (refine Ints.ld (by assumption) (by omega) ?_) | (refine Mat.ld (by assumption) (by omega) ?_) | (refine Ints.ld (Mat.row (by assumption) _ (by omega)) (by omega) ?_) | (refine At.ld (by assumption) rfl ?_) | (refine At.ldN (by assumption) rfl ?_))
        rw [he, hs]; exact ⟨rfl, Ext.refl _⟩
      | false =>
        rw [hp] at hfc hs
        repeat' ((conv => whnf); first | (refine Dr.quiet tyOk (by kernel_rfl) ?_) | (refine Sl.ix (by assumption) (by omega) ?_) | (refine Sl.ld1 (by assumption) (by omega) ?_) | (refine VC.pure hfc ?_) | (refine Rng.mk (by omega) ?_) | (refine Split.pos (by omega) ?_) | (refine Split.neg (by omega) ?_) | (refine Split.mk (fun h => ?_) (fun h => ?_)) | (refine Need.mk (by omega) ?_) | (refine Ints.ln (by assumption) ?_) | (refine Mat.ln (by assumption) ?_) | (refine Ints.ln (Mat.row (by assumption) _ (by omega)) ?_) | (refine Ints.ix (by assumption) (by omega) ?_) | (refine Mat.ix (by assumption) (by omega) ?_) | (refine Ints.ix (Mat.row (by assumption) _ (by omega)) (by omega) ?_) | (refine Ints.ix (c := 0) (by assumption) (by omega) ?_) | (refine Mat.ix (c := 0) (by assumption) (by omega) ?_) | (refine Ints.ix (c := 0) (Mat.row (by assumption) _ (by omega)) (by omega) ?_) | (refine Ints.ixI (by assumption) (by omega) ?_) | (refine Mat.ixI (by assumption) (by omega) ?_) | (refine Ints.ixI (Mat.row (by assumption) _ (by omega)) (by omega) ?_) | (refine Ints.ld (by assumption) (by omega) ?_) | (refine Mat.ld (by assumption) (by omega) ?_) | (refine Ints.ld (Mat.row (by assumption) _ (by omega)) (by omega) ?_) | (refine At.ld (by assumption) rfl ?_) | (refine At.ldN (by assumption) rfl ?_))
        exact ⟨_, (by omega : n - (c + 1) < n - c), rfl, c + 1, by omega, rfl, rfl, by rw [he, hs]; rfl, rfl⟩
    · obtain rfl : c = n := by omega
      repeat' ((conv => whnf); first | (refine Dr.quiet tyOk (by kernel_rfl) ?_) | (refine Rng.mk (by omega) ?_) | (refine Split.pos (by omega) ?_) | (refine Split.neg (by omega) ?_) | (refine Split.mk (fun h => ?_) (fun h => ?_)) | (refine Need.mk (by omega) ?_) | (refine Ints.ln (by assumption) ?_) | (refine Mat.ln (by assumption) ?_) | (refine Ints.ln (Mat.row (by assumption) _ (by omega)) ?_) | (refine Ints.ix (by assumption) (by omega) ?_) | (refine Mat.ix (by assumption) (by omega) ?_) | (refine Ints.ix (Mat.row (by assumption) _ (by omega)) (by omega) ?_) | (refine Ints.ix (c := 0) (by assumption) (by omega) ?_) | (refine Mat.ix (c := 0) (by assumption) (by omega) ?_) | (refine Ints.ix (c := 0) (Mat.row (by assumption) _ (by omega)) (by omega) ?_) | (refine Ints.ixI (by assumption) (by omega) ?_) | (refine Mat.ixI (by assumption) (by omega) ?_) | (refine Ints.ixI (Mat.row (by assumption) _ (by omega)) (by omega) ?_) | (refine Ints.ld (by assumption) (by omega) ?_) | (refine Mat.ld (by assumption) (by omega) ?_) | (refine Ints.ld (Mat.row (by assumption) _ (by omega)) (by omega) ?_) | (refine At.ld (by assumption) rfl ?_) | (refine At.ldN (by assumption) rfl ?_))
      rw [he, Nat.sub_self]; exact ⟨rfl, Ext.refl _⟩

theorem containsfuncI_pc {w : World} {sv : Value} {n : Nat} {xs : List Value} {g : FuncId} {cap : List Value} {p : Nat → Bool} (Hs : Sl 1 w sv n xs) (hf : ∀ i, i < n → PC Try.prog g (xs.getD i undef :: cap) w (.bool (p i))) :
    PC Try.prog 74 [sv, .func (.func g) #[] cap.toArray] w (.bool (tf (∃ i, i < n ∧ p i = true))) := by
  refine PC.mk tyOk Try.func74 rfl (by kernel_rfl) fun w1 E1 => ?_
  replace Hs := Hs.ext E1
  replace hf := fun i hi => (hf i hi).ext E1
  have hs := firstFrom_spec p n 0
  repeat' ((conv => whnf); first | (refine Dr.quiet tyOk (by kernel_rfl) ?_) | (refine VC.pure (indexfuncI_pc Hs hf) ?_) | (refine Rng.mk (by omega) ?_) | (refine Split.pos (by omega) ?_) | (refine Split.neg (by omega) ?_) | (refine Split.mk (fun h => ?_) (fun h => ?_)) | (refine Need.mk (by omega) ?_) | (refine Ints.ln (by assumption) ?_) | (refine Mat.ln (by assumption) ?_) | (refine Ints.ln (Mat.row (by assumption) _ (by omega)) ?_) | (refine Ints.ix (by assumption) (by omega) ?_) | (refine Mat.ix (by assumption) (by omega) ?_) | (refine Ints.ix (Mat.row (by assumption) _ (by omega)) (by omega) ?_) | (refine Ints.ix (c := 0) (by assumption) (by omega) ?_) | (refine Mat.ix (c := 0) (by assumption) (by omega) ?_) | (refine Ints.ix (c := 0) (Mat.row (by assumption) _ (by omega)) (by omega) ?_) | (refine Ints.ixI (by assumption) (by omega) ?_) | (refine Mat.ixI (by assumption) (by omega) ?_) | (refine Ints.ixI (Mat.row (by assumption) _ (by omega)) (by omega) ?_) | (refine Ints.ld (by assumption) (by omega) ?_) | (refine Mat.ld (by assumption) (by omega) ?_) | (refine Ints.ld (Mat.row (by assumption) _ (by omega)) (by omega) ?_) | (refine At.ld (by assumption) rfl ?_) | (refine At.ldN (by assumption) rfl ?_))
  · rw [tf_t (p := ∃ i, i < n ∧ p i = true) (by
      rcases hs with ⟨j, h1, h2, h3, _⟩ | ⟨h1, _⟩
      · exact ⟨j, by omega, h3⟩
      · omega)]; exact ⟨rfl, Ext.refl _⟩
  · rw [tf_f (p := ∃ i, i < n ∧ p i = true) (by
      rintro ⟨i, hi, hp⟩
      rcases hs with ⟨j, h1, h2, h3, h4, _⟩ | ⟨_, h2⟩
      · omega
      · have := h2 i (by omega) (by omega); rw [hp] at this; cases this)]; exact ⟨rfl, Ext.refl _⟩

theorem check1_pc {w : World} {rv : Value} {l : List Int} (Hr : Ints w rv l) : PC Try.prog 72 [rv] w (.bool (decide (10 < l.length))) := by
  refine PC.mk tyOk Try.func72 rfl (by kernel_rfl) fun w1 E1 => ?_
  replace Hr := Hr.ext E1
  repeat' ((conv => whnf); first | (refine Dr.quiet tyOk (by kernel_rfl) ?_) | (refine Rng.mk (by omega) ?_) | (refine Split.pos (by omega) ?_) | (refine Split.neg (by omega) ?_) | (refine Split.mk (fun h => ?_) (fun h => ?_)) | (refine Need.mk (by omega) ?_) | (refine Ints.ln (by assumption) ?_) | (refine Mat.ln (by assumption) ?_) | (refine Ints.ln (Mat.row (by assumption) _ (by omega)) ?_) | (refine Ints.ix (by assumption) (by omega) ?_) | (refine Mat.ix (by assumption) (by omega) ?_) | (refine Ints.ix (Mat.row (by assumption) _ (by omega)) (by omega) ?_) | (refine Ints.ix (c := 0) (by assumption) (by omega) ?_) | (refine Mat.ix (c := 0) (by assumption) (by omega) ?_) | (refine Ints.ix (c := 0) (Mat.row (by assumption) _ (by omega)) (by omega) ?_) | (refine Ints.ixI (by assumption) (by omega) ?_) | (refine Mat.ixI (by assumption) (by omega) ?_) | (refine Ints.ixI (Mat.row (by assumption) _ (by omega)) (by omega) ?_) | (refine Ints.ld (by assumption) (by omega) ?_) | (refine Mat.ld (by assumption) (by omega) ?_) | (refine Ints.ld (Mat.row (by assumption) _ (by omega)) (by omega) ?_) | (refine At.ld (by assumption) rfl ?_) | (refine At.ldN (by assumption) rfl ?_))
  · rw [decide_eq_true (by omega)]; exact ⟨rfl, Ext.refl _⟩
  · rw [decide_eq_false (by omega)]; exact ⟨rfl, Ext.refl _⟩

def odd (x : Int) : Bool := decide (x < 0) || decide (1000 < x)
theorem check2_pc {w : World} {x : Int} : PC Try.prog 73 [.int .i64 x] w (.bool (odd x)) := by
  refine PC.mk tyOk Try.func73 rfl (by kernel_rfl) fun w1 E1 => ?_
  unfold odd
  repeat' ((conv => whnf); first | (refine Dr.quiet tyOk (by kernel_rfl) ?_) | (refine Rng.mk (by omega) ?_) | (refine Split.pos (by omega) ?_) | (refine Split.neg (by omega) ?_) | (refine Split.mk (fun h => ?_) (fun h => ?_)) | (refine Need.mk (by omega) ?_) | (refine Ints.ln (by assumption) ?_) | (refine Mat.ln (by assumption) ?_) | (refine Ints.ln (Mat.row (by assumption) _ (by omega)) ?_) | (refine Ints.ix (by assumption) (by omega) ?_) | (refine Mat.ix (by assumption) (by omega) ?_) | (refine Ints.ix (Mat.row (by assumption) _ (by omega)) (by omega) ?_) | (refine Ints.ix (c := 0) (by assumption) (by omega) ?_) | (refine Mat.ix (c := 0) (by assumption) (by omega) ?_) | (refine Ints.ix (c := 0) (Mat.row (by assumption) _ (by omega)) (by omega) ?_) | (refine Ints.ixI (by assumption) (by omega) ?_) | (refine Mat.ixI (by assumption) (by omega) ?_) | (refine Ints.ixI (Mat.row (by assumption) _ (by omega)) (by omega) ?_) | (refine Ints.ld (by assumption) (by omega) ?_) | (refine Mat.ld (by assumption) (by omega) ?_) | (refine Ints.ld (Mat.row (by assumption) _ (by omega)) (by omega) ?_) | (refine At.ld (by assumption) rfl ?_) | (refine At.ldN (by assumption) rfl ?_))
  · rw [decide_eq_true (by omega)]; exact ⟨rfl, Ext.refl _⟩
  · rw [decide_eq_false (by omega), decide_eq_true (by omega)]; exact ⟨rfl, Ext.refl _⟩
  · rw [decide_eq_false (by omega), decide_eq_false (by omega)]; exact ⟨rfl, Ext.refl _⟩

theorem Ints.elem {w : World} {v : Value} {l : List Int} {i : Nat} (h : i < l.length) : (l.map i64v).getD i undef = .int .i64 (l.getD i 0) := by simp [List.getD, h, i64v]

theorem gcheck_pc {w : World} {gv : Value} {vs : List Value} {rr : List (List Int)} (Hg : Mat w gv vs rr) :
    PC Try.prog 55 [.agg #[gv]] w (.int .i64 (chk rr)) := by
  refine PC.mk tyOk Try.func55 rfl (by kernel_rfl) fun w1 E1 => ?_
  replace Hg := Hg.ext E1
  have hle := Hg.top.le
  refine Bx.agg fun b w2 E2 _ Hb _ => ?_
  replace Hg := Hg.ext E2
  have hbig := containsfuncR_pc (g := 72) (cap := []) (p := fun i => decide (10 < (rr.getD i []).length)) Hg.top (fun i hi => check1_pc (Hg.row i hi))
  by_cases h6 : 6 < rr.length
  · repeat' ((conv => whnf); first | (refine Dr.quiet tyOk (by kernel_rfl) ?_) | (refine Rng.mk (by omega) ?_) | (refine Split.pos (by omega) ?_) | (refine Split.neg (by omega) ?_) | (refine Split.mk (fun h => ?_) (fun h => ?_)) | (refine Need.mk (by omega) ?_) | (refine Ints.ln (by assumption) ?_) | (refine Mat.ln (by assumption) ?_) | (refine Ints.ln (Mat.row (by assumption) _ (by omega)) ?_) | (refine Ints.ix (by assumption) (by omega) ?_) | (refine Mat.ix (by assumption) (by omega) ?_) | (refine Ints.ix (Mat.row (by assumption) _ (by omega)) (by omega) ?_) | (refine Ints.ix (c := 0) (by assumption) (by omega) ?_) | (refine Mat.ix (c := 0) (by assumption) (by omega) ?_) | (refine Ints.ix (c := 0) (Mat.row (by assumption) _ (by omega)) (by omega) ?_) | (refine Ints.ixI (by assumption) (by omega) ?_) | (refine Mat.ixI (by assumption) (by omega) ?_) | (refine Ints.ixI (Mat.row (by assumption) _ (by omega)) (by omega) ?_) | (refine Ints.ld (by assumption) (by omega) ?_) | (refine Mat.ld (by assumption) (by omega) ?_) | (refine Ints.ld (Mat.row (by assumption) _ (by omega)) (by omega) ?_) | (refine At.ld (by assumption) rfl ?_) | (refine At.ldN (by assumption) rfl ?_))
    rw [chk_big (.inl h6)]; exact ⟨rfl, E2⟩
  · by_cases h10 : ∃ i, i < rr.length ∧ decide (10 < (rr.getD i []).length) = true
    · rw [tf_t h10] at hbig
      repeat' ((conv => whnf); first | (refine Dr.quiet tyOk (by kernel_rfl) ?_) | (refine VC.pure hbig ?_) | (refine Rng.mk (by omega) ?_) | (refine Split.pos (by omega) ?_) | (refine Split.neg (by omega) ?_) | (refine Split.mk (fun h => ?_) (fun h => ?_)) | (refine Need.mk (by omega) ?_) | (refine Ints.ln (by assumption) ?_) | (refine Mat.ln (by assumption) ?_) | (refine Ints.ln (Mat.row (by assumption) _ (by omega)) ?_) | (refine Ints.ix (by assumption) (by omega) ?_) | (refine Mat.ix (by assumption) (by omega) ?_) | (refine Ints.ix (Mat.row (by assumption) _ (by omega)) (by omega) ?_) | (refine Ints.ix (c := 0) (by assumption) (by omega) ?_) | (refine Mat.ix (c := 0) (by assumption) (by omega) ?_) | (refine Ints.ix (c := 0) (Mat.row (by assumption) _ (by omega)) (by omega) ?_) | (refine Ints.ixI (by assumption) (by omega) ?_) | (refine Mat.ixI (by assumption) (by omega) ?_) | (refine Ints.ixI (Mat.row (by assumption) _ (by omega)) (by omega) ?_) | (refine Ints.ld (by assumption) (by omega) ?_) | (refine Mat.ld (by assumption) (by omega) ?_) | (refine Ints.ld (Mat.row (by assumption) _ (by omega)) (by omega) ?_) | (refine At.ld (by assumption) rfl ?_) | (refine At.ldN (by assumption) rfl ?_))
      obtain ⟨i, hi, hh⟩ := h10
      rw [chk_big (.inr ⟨i, hi, by simpa using hh⟩)]; exact ⟨rfl, E2⟩
    · rw [tf_f h10] at hbig
      have hnb : ¬ bigP rr := by
        rintro (h1 | ⟨i, hi, h1⟩)
        · omega
        · exact h10 ⟨i, hi, by simpa using h1⟩
      repeat' ((conv => whnf); first | (refine Dr.quiet tyOk (by kernel_rfl) ?_) | (refine VC.pure hbig ?_) | (refine Rng.mk (by omega) ?_) | (refine Split.pos (by omega) ?_) | (refine Split.neg (by omega) ?_) | (refine Split.mk (fun h => ?_) (fun h => ?_)) | (refine Need.mk (by omega) ?_) | (refine Ints.ln (by assumption) ?_) | (refine Mat.ln (by assumption) ?_) | (refine Ints.ln (Mat.row (by assumption) _ (by omega)) ?_) | (refine Ints.ix (by assumption) (by omega) ?_) | (refine Mat.ix (by assumption) (by omega) ?_) | (refine Ints.ix (Mat.row (by assumption) _ (by omega)) (by omega) ?_) | (refine Ints.ix (c := 0) (by assumption) (by omega) ?_) | (refine Mat.ix (c := 0) (by assumption) (by omega) ?_) | (refine Ints.ix (c := 0) (Mat.row (by assumption) _ (by omega)) (by omega) ?_) | (refine Ints.ixI (by assumption) (by omega) ?_) | (refine Mat.ixI (by assumption) (by omega) ?_) | (refine Ints.ixI (Mat.row (by assumption) _ (by omega)) (by omega) ?_) | (refine Ints.ld (by assumption) (by omega) ?_) | (refine Mat.ld (by assumption) (by omega) ?_) | (refine Ints.ld (Mat.row (by assumption) _ (by omega)) (by omega) ?_) | (refine At.ld (by assumption) rfl ?_) | (refine At.ldN (by assumption) rfl ?_))
      · rw [chk_bad hnb (.inl (by omega))]; exact ⟨rfl, E2⟩
      · refine Lp.mk tyOk [false, false, true, false, false, true, false, false, false, false, false, false, false, false, false, false, false, false, false, false, false, false, true, true, true, true, true, true, true, true, true, true, true, true, true, true, true, true, true, true] (fun m fr wr => getK fr 22 fun j => ∃ c : Nat, c ≤ rr.length ∧ m = rr.length - c ∧ j = .int .i64 (c : Int) ∧ (∀ i, i < c → (rr.getD i []).length = (rr.getD 0 []).length ∧ ∀ j, j < (rr.getD i []).length → 0 ≤ val rr i j ∧ val rr i j ≤ 1000) ∧ wr = w2) rr.length ?_ ?_
        · exact ⟨0, Nat.zero_le _, rfl, rfl, fun i hi => absurd hi (Nat.not_lt_zero _), rfl⟩
        · intro m w3 u2 u5 u22 u23 u24 u25 u26 u27 u28 u29 u30 u31 u32 u33 u34 u35 u36 u37 u38 u39 hR
          obtain ⟨c, hc, rfl, rfl, hok, rfl⟩ := hR
          by_cases hlt : c < rr.length
          · have hodd := containsfuncI_pc (g := 73) (cap := []) (p := fun j => odd (val rr c j)) (Hg.row c hlt) (fun j hj => by rw [Ints.elem (w := w3) (v := gv) hj]; exact check2_pc)
            by_cases ho : ∃ j, j < (rr.getD c []).length ∧ odd (val rr c j) = true
            · rw [tf_t ho] at hodd
              repeat' ((conv => whnf); first | (refine Dr.quiet tyOk (by kernel_rfl) ?_) | (refine VC.pure hodd ?_) | (refine Rng.mk (by omega) ?_) | (refine Split.pos (by omega) ?_) | (refine Split.neg (by omega) ?_) | (refine Split.mk (fun h => ?_) (fun h => ?_)) | (refine Need.mk (by omega) ?_) | (refine Ints.ln (by assumption) ?_) | (refine Mat.ln (by assumption) ?_) | (refine Ints.ln (Mat.row (by assumption) _ (by omega)) ?_) | (refine Ints.ix (by assumption) (by omega) ?_) | (refine Mat.ix (by assumption) (by omega) ?_) | (refine Ints.ix (Mat.row (by assumption) _ (by omega)) (by omega) ?_) | (refine Ints.ix (c := 0) (by assumption) (by omega) ?_) | (refine Mat.ix (c := 0) (by assumption) (by omega) ?_) | (refine Ints.ix (c := 0) (Mat.row (by assumption) _ (by omega)) (by omega) ?_) | (refine Ints.ixI (by assumption) (by omega) ?_) | (refine Mat.ixI (by assumption) (by omega) ?_) | (refine Ints.ixI (Mat.row (by assumption) _ (by omega)) (by omega) ?_) | (refine Ints.ld (by assumption) (by omega) ?_) | (refine Mat.ld (by assumption) (by omega) ?_) | (refine Ints.ld (Mat.row (by assumption) _ (by omega)) (by omega) ?_) | (refine At.ld (by assumption) rfl ?_) | (refine At.ldN (by assumption) rfl ?_))
              · obtain ⟨j, hj, hh⟩ := ho
                simp only [odd, Bool.or_eq_true, decide_eq_true_eq] at hh
                rw [chk_bad hnb (.inr ⟨c, hlt, .inr ⟨j, hj, hh⟩⟩)]; exact ⟨rfl, E2⟩
              · rw [chk_bad hnb (.inr ⟨c, hlt, .inl (by omega)⟩)]; exact ⟨rfl, E2⟩
            · rw [tf_f ho] at hodd
              repeat' ((conv => whnf); first | (refine Dr.quiet tyOk (by kernel_rfl) ?_) | (refine VC.pure hodd ?_) | (refine Rng.mk (by omega) ?_) | (refine Split.pos (by omega) ?_) | (refine Split.neg (by omega) ?_) | (refine Split.mk (fun h => ?_) (fun h => ?_)) | (refine Need.mk (by omega) ?_) | (refine Ints.ln (by assumption) ?_) | (refine Mat.ln (by assumption) ?_) | (refine Ints.ln (Mat.row (by assumption) _ (by omega)) ?_) | (refine Ints.ix (by assumption) (by omega) ?_) | (refine Mat.ix (by assumption) (by omega) ?_) | (refine Ints.ix (Mat.row (by assumption) _ (by omega)) (by omega) ?_) | (refine Ints.ix (c := 0) (by assumption) (by omega) ?_) | (refine Mat.ix (c := 0) (by assumption) (by omega) ?_) | (refine Ints.ix (c := 0) (Mat.row (by assumption) _ (by omega)) (by omega) ?_) | (refine Ints.ixI (by assumption) (by omega) ?_) | (refine Mat.ixI (by assumption) (by omega) ?_) | (refine Ints.ixI (Mat.row (by assumption) _ (by omega)) (by omega) ?_) | (refine Ints.ld (by assumption) (by omega) ?_) | (refine Mat.ld (by assumption) (by omega) ?_) | (refine Ints.ld (Mat.row (by assumption) _ (by omega)) (by omega) ?_) | (refine At.ld (by assumption) rfl ?_) | (refine At.ldN (by assumption) rfl ?_))
              · refine ⟨_, (by omega : rr.length - (c + 1) < rr.length - c), rfl, c + 1, by omega, rfl, rfl, fun i hi => ?_, rfl⟩
                by_cases e : i = c
                · subst e
                  refine ⟨by omega, fun j hj => ?_⟩
                  have hh : ¬ odd (val rr i j) = true := fun hh => ho ⟨j, hj, hh⟩
                  simp only [odd, Bool.or_eq_true, decide_eq_true_eq] at hh
                  omega
                · exact hok i (by omega)
              · rw [chk_bad hnb (.inr ⟨c, hlt, .inl (by omega)⟩)]; exact ⟨rfl, E2⟩
          · repeat' ((conv => whnf); first | (refine Dr.quiet tyOk (by kernel_rfl) ?_) | (refine Rng.mk (by omega) ?_) | (refine Split.pos (by omega) ?_) | (refine Split.neg (by omega) ?_) | (refine Split.mk (fun h => ?_) (fun h => ?_)) | (refine Need.mk (by omega) ?_) | (refine Ints.ln (by assumption) ?_) | (refine Mat.ln (by assumption) ?_) | (refine Ints.ln (Mat.row (by assumption) _ (by omega)) ?_) | (refine Ints.ix (by assumption) (by omega) ?_) | (refine Mat.ix (by assumption) (by omega) ?_) | (refine Ints.ix (Mat.row (by assumption) _ (by omega)) (by omega) ?_) | (refine Ints.ix (c := 0) (by assumption) (by omega) ?_) | (refine Mat.ix (c := 0) (by assumption) (by omega) ?_) | (refine Ints.ix (c := 0) (Mat.row (by assumption) _ (by omega)) (by omega) ?_) | (refine Ints.ixI (by assumption) (by omega) ?_) | (refine Mat.ixI (by assumption) (by omega) ?_) | (refine Ints.ixI (Mat.row (by assumption) _ (by omega)) (by omega) ?_) | (refine Ints.ld (by assumption) (by omega) ?_) | (refine Mat.ld (by assumption) (by omega) ?_) | (refine Ints.ld (Mat.row (by assumption) _ (by omega)) (by omega) ?_) | (refine At.ld (by assumption) rfl ?_) | (refine At.ldN (by assumption) rfl ?_))
            have hnb2 : ¬ badP rr := by
              rintro (h1 | ⟨i, hi, h1 | ⟨j, hj, h1⟩⟩)
              · omega
              · exact h1 (hok i (by omega)).1
              · have := (hok i (by omega)).2 j hj; omega
            rw [chk_ok hnb hnb2]; exact ⟨rfl, E2⟩

theorem within1_pc {w : World} {b1 b2 : Nat} {lo hi x : Int} (H1 : At w ⟨b1, 0, none⟩ [.int .i64 lo]) (H2 : At w ⟨b2, 0, none⟩ [.int .i64 hi]) :
    PC Try.prog 89 [.int .i64 x, .pointer (some ⟨b1, 0, none⟩), .pointer (some ⟨b2, 0, none⟩)] w (.bool (decide (x < lo) || decide (hi ≤ x))) := by
  refine PC.mk tyOk Try.func89 rfl (by kernel_rfl) fun w1 E1 => ?_
  replace H1 := H1.ext E1
  replace H2 := H2.ext E1
  repeat' ((conv => whnf); first | (refine Dr.quiet tyOk (by kernel_rfl) ?_) | (refine At.ld (i := 0) H1 rfl ?_) | (refine At.ld (i := 0) H2 rfl ?_) | (refine Rng.mk (by omega) ?_) | (refine Split.pos (by omega) ?_) | (refine Split.neg (by omega) ?_) | (refine Split.mk (fun h => ?_) (fun h => ?_)) | (refine Need.mk (by omega) ?_) | (refine Ints.ln (by assumption) ?_) | (refine Mat.ln (by assumption) ?_) | (refine Ints.ln (Mat.row (by assumption) _ (by omega)) ?_) | (refine Ints.ix (by assumption) (by omega) ?_) | (refine Mat.ix (by assumption) (by omega) ?_) | (refine Ints.ix (Mat.row (by assumption) _ (by omega)) (by omega) ?_) | (refine Ints.ix (c := 0) (by assumption) (by omega) ?_) | (refine Mat.ix (c := 0) (by assumption) (by omega) ?_) | (refine Ints.ix (c := 0) (Mat.row (by assumption) _ (by omega)) (by omega) ?_) | (refine Ints.ixI (by assumption) (by omega) ?_) | (refine Mat.ixI (by assumption) (by omega) ?_) | (refine Ints.ixI (Mat.row (by assumption) _ (by omega)) (by omega) ?_) | (refine Ints.ld (by assumption) (by omega) ?_) | (refine Mat.ld (by assumption) (by omega) ?_) | (refine Ints.ld (Mat.row (by assumption) _ (by omega)) (by omega) ?_) | (refine At.ld (by assumption) rfl ?_) | (refine At.ldN (by assumption) rfl ?_))
  · rw [decide_eq_true (by omega)]; exact ⟨rfl, Ext.refl _⟩
  · rw [decide_eq_false (by omega), decide_eq_true (by omega)]; exact ⟨rfl, Ext.refl _⟩
  · rw [decide_eq_false (by omega), decide_eq_false (by omega)]; exact ⟨rfl, Ext.refl _⟩

theorem within_pc {w : World} {sv : Value} {l : List Int} {lo hi : Int} (Hs : Ints w sv l) :
    PC Try.prog 88 [.int .i64 lo, .int .i64 hi, sv] w (.bool (tf (∀ i, i < l.length → lo ≤ l.getD i 0 ∧ l.getD i 0 < hi))) := by
  refine PC.mk tyOk Try.func88 rfl (by kernel_rfl) fun w1 E1 => ?_
  replace Hs := Hs.ext E1
  refine Bx.one rfl fun b1 w2 E2 _ H1 _ => ?_
  replace Hs := Hs.ext E2
  refine Bx.one rfl fun b2 w3 E3 _ H2 _ => ?_
  replace Hs := Hs.ext E3
  replace H1 := H1.ext E3
  have hc := containsfuncI_pc (g := 89) (cap := [.pointer (some ⟨b1, 0, none⟩), .pointer (some ⟨b2, 0, none⟩)]) (p := fun j => decide (l.getD j 0 < lo) || decide (hi ≤ l.getD j 0)) Hs (fun j hj => by rw [Ints.elem (w := w3) (v := sv) hj]; exact within1_pc H1 H2)
  by_cases ho : ∃ j, j < l.length ∧ (decide (l.getD j 0 < lo) || decide (hi ≤ l.getD j 0)) = true
  · rw [tf_t ho] at hc
    repeat' ((conv => whnf); first | (refine Dr.quiet tyOk (by kernel_rfl) ?_) | (refine VC.pure hc ?_) | (refine Rng.mk (by omega) ?_) | (refine Split.pos (by omega) ?_) | (refine Split.neg (by omega) ?_) | (refine Split.mk (fun h => ?_) (fun h => ?_)) | (refine Need.mk (by omega) ?_) | (refine Ints.ln (by assumption) ?_) | (refine Mat.ln (by assumption) ?_) | (refine Ints.ln (Mat.row (by assumption) _ (by omega)) ?_) | (refine Ints.ix (by assumption) (by omega) ?_) | (refine Mat.ix (by assumption) (by omega) ?_) | (refine Ints.ix (Mat.row (by assumption) _ (by omega)) (by omega) ?_) | (refine Ints.ix (c := 0) (by assumption) (by omega) ?_) | (refine Mat.ix (c := 0) (by assumption) (by omega) ?_) | (refine Ints.ix (c := 0) (Mat.row (by assumption) _ (by omega)) (by omega) ?_) | (refine Ints.ixI (by assumption) (by omega) ?_) | (refine Mat.ixI (by assumption) (by omega) ?_) | (refine Ints.ixI (Mat.row (by assumption) _ (by omega)) (by omega) ?_) | (refine Ints.ld (by assumption) (by omega) ?_) | (refine Mat.ld (by assumption) (by omega) ?_) | (refine Ints.ld (Mat.row (by assumption) _ (by omega)) (by omega) ?_) | (refine At.ld (by assumption) rfl ?_) | (refine At.ldN (by assumption) rfl ?_))
    rw [tf_f (p := ∀ i, i < l.length → lo ≤ l.getD i 0 ∧ l.getD i 0 < hi) (fun h => by
      obtain ⟨j, hj, hh⟩ := ho
      have := h j hj
      simp only [Bool.or_eq_true, decide_eq_true_eq] at hh
      omega)]
    exact ⟨rfl, E2.trans E3⟩
  · rw [tf_f ho] at hc
    repeat' ((conv => whnf); first | (refine Dr.quiet tyOk (by kernel_rfl) ?_) | (refine VC.pure hc ?_) | (refine Rng.mk (by omega) ?_) | (refine Split.pos (by omega) ?_) | (refine Split.neg (by omega) ?_) | (refine Split.mk (fun h => ?_) (fun h => ?_)) | (refine Need.mk (by omega) ?_) | (refine Ints.ln (by assumption) ?_) | (refine Mat.ln (by assumption) ?_) | (refine Ints.ln (Mat.row (by assumption) _ (by omega)) ?_) | (refine Ints.ix (by assumption) (by omega) ?_) | (refine Mat.ix (by assumption) (by omega) ?_) | (refine Ints.ix (Mat.row (by assumption) _ (by omega)) (by omega) ?_) | (refine Ints.ix (c := 0) (by assumption) (by omega) ?_) | (refine Mat.ix (c := 0) (by assumption) (by omega) ?_) | (refine Ints.ix (c := 0) (Mat.row (by assumption) _ (by omega)) (by omega) ?_) | (refine Ints.ixI (by assumption) (by omega) ?_) | (refine Mat.ixI (by assumption) (by omega) ?_) | (refine Ints.ixI (Mat.row (by assumption) _ (by omega)) (by omega) ?_) | (refine Ints.ld (by assumption) (by omega) ?_) | (refine Mat.ld (by assumption) (by omega) ?_) | (refine Ints.ld (Mat.row (by assumption) _ (by omega)) (by omega) ?_) | (refine At.ld (by assumption) rfl ?_) | (refine At.ldN (by assumption) rfl ?_))
    rw [tf_t (p := ∀ i, i < l.length → lo ≤ l.getD i 0 ∧ l.getD i 0 < hi) (fun i hi' => by
      have hh : ¬ (decide (l.getD i 0 < lo) || decide (hi ≤ l.getD i 0)) = true := fun hh => ho ⟨i, hi', hh⟩
      simp only [Bool.or_eq_true, decide_eq_true_eq] at hh
      omega)]
    exact ⟨rfl, E2.trans E3⟩

theorem gvalid_pc {w : World} {gv av : Value} {vs : List Value} {rr : List (List Int)} {a : List Int} (Hg : Mat w gv vs rr) (Ha : Ints w av a) :
    PC Try.prog 77 [.agg #[gv], av] w (.int .i64 (vld rr a)) := by
  refine PC.mk tyOk Try.func77 rfl (by kernel_rfl) fun w1 E1 => ?_
  replace Hg := Hg.ext E1
  replace Ha := Ha.ext E1
  have hle := Hg.top.le
  refine Bx.agg fun b w2 E2 _ Hb _ => ?_
  replace Hg := Hg.ext E2
  replace Ha := Ha.ext E2
  have hw := within_pc (lo := -1) (hi := (rr.length : Int)) Ha
  by_cases hck : chk rr = 0
  · have hgd := gd_of_chk hck
    have hn1 := hgd.n1
    by_cases hin : ∀ i, i < a.length → -1 ≤ a.getD i 0 ∧ a.getD i 0 < rr.length
    · rw [tf_t hin] at hw
      repeat' ((conv => whnf); first | (refine Dr.quiet tyOk (by kernel_rfl) ?_) | (refine VC.pure (gcheck_pc Hg) ?_) | (refine VC.pure hw ?_) | (refine Rng.mk (by omega) ?_) | (refine Split.pos (by omega) ?_) | (refine Split.neg (by omega) ?_) | (refine Split.mk (fun h => ?_) (fun h => ?_)) | (refine Need.mk (by omega) ?_) | (refine Ints.ln (by assumption) ?_) | (refine Mat.ln (by assumption) ?_) | (refine Ints.ln (Mat.row (by assumption) _ (by omega)) ?_) | (refine Ints.ix (by assumption) (by omega) ?_) | (refine Mat.ix (by assumption) (by omega) ?_) | (refine Ints.ix (Mat.row (by assumption) _ (by omega)) (by omega) ?_) | (refine Ints.ix (c := 0) (by assumption) (by omega) ?_) | (refine Mat.ix (c := 0) (by assumption) (by omega) ?_) | (refine Ints.ix (c := 0) (Mat.row (by assumption) _ (by omega)) (by omega) ?_) | (refine Ints.ixI (by assumption) (by omega) ?_) | (refine Mat.ixI (by assumption) (by omega) ?_) | (refine Ints.ixI (Mat.row (by assumption) _ (by omega)) (by omega) ?_) | (refine Ints.ld (by assumption) (by omega) ?_) | (refine Mat.ld (by assumption) (by omega) ?_) | (refine Ints.ld (Mat.row (by assumption) _ (by omega)) (by omega) ?_) | (refine At.ld (by assumption) rfl ?_) | (refine At.ldN (by assumption) rfl ?_))
      · have hnb : ¬ badA rr a := by
          rintro (h1 | ⟨k, hk, h1⟩)
          · omega
          · have := hin k hk; omega
        rw [vld_ok hck hnb]; exact ⟨rfl, E2⟩
      · rw [vld_bad hck (.inl (by omega))]; exact ⟨rfl, E2⟩
    · rw [tf_f hin] at hw
      repeat' ((conv => whnf); first | (refine Dr.quiet tyOk (by kernel_rfl) ?_) | (refine VC.pure (gcheck_pc Hg) ?_) | (refine VC.pure hw ?_) | (refine Rng.mk (by omega) ?_) | (refine Split.pos (by omega) ?_) | (refine Split.neg (by omega) ?_) | (refine Split.mk (fun h => ?_) (fun h => ?_)) | (refine Need.mk (by omega) ?_) | (refine Ints.ln (by assumption) ?_) | (refine Mat.ln (by assumption) ?_) | (refine Ints.ln (Mat.row (by assumption) _ (by omega)) ?_) | (refine Ints.ix (by assumption) (by omega) ?_) | (refine Mat.ix (by assumption) (by omega) ?_) | (refine Ints.ix (Mat.row (by assumption) _ (by omega)) (by omega) ?_) | (refine Ints.ix (c := 0) (by assumption) (by omega) ?_) | (refine Mat.ix (c := 0) (by assumption) (by omega) ?_) | (refine Ints.ix (c := 0) (Mat.row (by assumption) _ (by omega)) (by omega) ?_) | (refine Ints.ixI (by assumption) (by omega) ?_) | (refine Mat.ixI (by assumption) (by omega) ?_) | (refine Ints.ixI (Mat.row (by assumption) _ (by omega)) (by omega) ?_) | (refine Ints.ld (by assumption) (by omega) ?_) | (refine Mat.ld (by assumption) (by omega) ?_) | (refine Ints.ld (Mat.row (by assumption) _ (by omega)) (by omega) ?_) | (refine At.ld (by assumption) rfl ?_) | (refine At.ldN (by assumption) rfl ?_))
      · have hbd : badA rr a := Classical.byContradiction fun h => hin fun i hi => ⟨Classical.byContradiction fun h1 => h (.inr ⟨i, hi, .inl (by omega)⟩), Classical.byContradiction fun h1 => h (.inr ⟨i, hi, .inr (by omega)⟩)⟩
        rw [vld_bad hck hbd]; exact ⟨rfl, E2⟩
      · rw [vld_bad hck (.inl (by omega))]; exact ⟨rfl, E2⟩
  · repeat' ((conv => whnf); first | (refine Dr.quiet tyOk (by kernel_rfl) ?_) | (refine VC.pure (gcheck_pc Hg) ?_) | (refine Rng.mk (by omega) ?_) | (refine Split.pos (by omega) ?_) | (refine Split.neg (by omega) ?_) | (refine Split.mk (fun h => ?_) (fun h => ?_)) | (refine Need.mk (by omega) ?_) | (refine Ints.ln (by assumption) ?_) | (refine Mat.ln (by assumption) ?_) | (refine Ints.ln (Mat.row (by assumption) _ (by omega)) ?_) | (refine Ints.ix (by assumption) (by omega) ?_) | (refine Mat.ix (by assumption) (by omega) ?_) | (refine Ints.ix (Mat.row (by assumption) _ (by omega)) (by omega) ?_) | (refine Ints.ix (c := 0) (by assumption) (by omega) ?_) | (refine Mat.ix (c := 0) (by assumption) (by omega) ?_) | (refine Ints.ix (c := 0) (Mat.row (by assumption) _ (by omega)) (by omega) ?_) | (refine Ints.ixI (by assumption) (by omega) ?_) | (refine Mat.ixI (by assumption) (by omega) ?_) | (refine Ints.ixI (Mat.row (by assumption) _ (by omega)) (by omega) ?_) | (refine Ints.ld (by assumption) (by omega) ?_) | (refine Mat.ld (by assumption) (by omega) ?_) | (refine Ints.ld (Mat.row (by assumption) _ (by omega)) (by omega) ?_) | (refine At.ld (by assumption) rfl ?_) | (refine At.ldN (by assumption) rfl ?_))
    rw [vld_chk hck]; exact ⟨rfl, E2⟩
end Go.Proofs.Ytkgogljfngplnaa
set_option linter.unusedVariables false
set_option linter.unusedSimpArgs false
namespace Go.Proofs.Ytkgogljfngplnaa
open Go.Eng
set_option maxRecDepth 100000

theorem sum_pc {w : World} {sv : Value} {l : List Int} (Hs : Ints w sv l) (hb : ∀ j, 0 ≤ l.getD j 0 ∧ l.getD j 0 ≤ 1000) (hl : l.length ≤ 10) : PC Try.prog 70 [sv] w (.int .i64 (sumTo l l.length)) := by
  refine PC.mk tyOk Try.func70 rfl (by kernel_rfl) fun w1 E1 => ?_
  replace Hs := Hs.ext E1
  repeat' ((conv => whnf); first | (refine Dr.quiet tyOk (by kernel_rfl) ?_) | (refine Rng.mk (by omega) ?_) | (refine Split.pos (by omega) ?_) | (refine Split.neg (by omega) ?_) | (refine Split.mk (fun h => ?_) (fun h => ?_)) | (refine Need.mk (by omega) ?_) | (refine Ints.ln (by assumption) ?_) | (refine Mat.ln (by assumption) ?_) | (refine Ints.ln (Mat.row (by assumption) _ (by omega)) ?_) | (refine Ints.ix (by assumption) (by omega) ?_) | (refine Mat.ix (by assumption) (by omega) ?_) | (refine Ints.ix (Mat.row (by assumption) _ (by omega)) (by omega) ?_) | (refine Ints.ix (c := 0) (by assumption) (by omega) ?_) | (refine Mat.ix (c := 0) (by assumption) (by omega) ?_) | (refine Ints.ix (c := 0) (Mat.row (by assumption) _ (by omega)) (by omega) ?_) | (refine Ints.ixI (by assumption) (by omega) ?_) | (refine Mat.ixI (by assumption) (by omega) ?_) | (refine Ints.ixI (Mat.row (by assumption) _ (by omega)) (by omega) ?_) | (refine Ints.ld (by assumption) (by omega) ?_) | (refine Mat.ld (by assumption) (by omega) ?_) | (refine Ints.ld (Mat.row (by assumption) _ (by omega)) (by omega) ?_) | (refine At.ld (by assumption) rfl ?_) | (refine At.ldN (by assumption) rfl ?_))
  refine Lp.mk tyOk [false, false, false, true, false, true, false, false, true, true, true, true, true, true, true, true] (fun m fr wr => getK fr 3 fun s => getK fr 8 fun j => ∃ c : Nat, c ≤ l.length ∧ m = l.length - c ∧ s = .int .i64 (sumTo l c) ∧ j = .int .i64 (c : Int) ∧ wr = w1) l.length ?_ ?_
  · exact ⟨0, Nat.zero_le _, rfl, rfl, rfl, rfl⟩
  · intro m w3 u3 u5 u8 u9 u10 u11 u12 u13 u14 u15 hR
    obtain ⟨c, hc, rfl, rfl, rfl, rfl⟩ := hR
    have hbd := sumTo_bd hb c
    have hbc := hb c
    repeat' ((conv => whnf); first | (refine Dr.quiet tyOk (by kernel_rfl) ?_) | (refine Rng.mk (by omega) ?_) | (refine Split.pos (by omega) ?_) | (refine Split.neg (by omega) ?_) | (refine Split.mk (fun h => ?_) (fun h => ?_)) | (refine Need.mk (by omega) ?_) | (refine Ints.ln (by assumption) ?_) | (refine Mat.ln (by assumption) ?_) | (refine Ints.ln (Mat.row (by assumption) _ (by omega)) ?_) | (refine Ints.ix (by assumption) (by omega) ?_) | (refine Mat.ix (by assumption) (by omega) ?_) | (refine Ints.ix (Mat.row (by assumption) _ (by omega)) (by omega) ?_) | (refine Ints.ix (c := 0) (by assumption) (by omega) ?_) | (refine Mat.ix (c := 0) (by assumption) (by omega) ?_) | (refine Ints.ix (c := 0) (Mat.row (by assumption) _ (by omega)) (by omega) ?_) | (refine Ints.ixI (by assumption) (by omega) ?_) | (refine Mat.ixI (by assumption) (by omega) ?_) | (refine Ints.ixI (Mat.row (by assumption) _ (by omega)) (by omega) ?_) | (refine Ints.ld (by assumption) (by omega) ?_) | (refine Mat.ld (by assumption) (by omega) ?_) | (refine Ints.ld (Mat.row (by assumption) _ (by omega)) (by omega) ?_) | (refine At.ld (by assumption) rfl ?_) | (refine At.ldN (by assumption) rfl ?_))
    · exact ⟨_, (by omega : l.length - (c + 1) < l.length - c), rfl, c + 1, by omega, rfl, rfl, rfl, rfl⟩
    · obtain rfl : c = l.length := by omega
      exact ⟨rfl, Ext.refl _⟩

/-- the row of values when c goods are counted -/
def rowTo (a r : List Int) (n c : Nat) : List Int := (List.range n).map fun (k : Nat) => worth a r k c
theorem rowTo_len (a r : List Int) (n c : Nat) : (rowTo a r n c).length = n := by simp [rowTo]
theorem rowTo_get {a r : List Int} {n c k : Nat} (h : k < n) : (rowTo a r n c).getD k 0 = worth a r k c := by simp [rowTo, List.getD, h]
theorem rowTo_set {a r : List Int} {n c : Nat} {k : Int} (hk : a.getD c 0 = k) (h0 : 0 ≤ k) (h : k < n) : (rowTo a r n c).set k.toNat ((rowTo a r n c).getD k.toNat 0 + r.getD c 0) = rowTo a r n (c + 1) := by
  apply ext_getD 0
  · simp [rowTo]
  · intro i hi
    have hi' : i < n := by simpa [rowTo] using hi
    rw [rowTo_get hi', rowTo_get (by omega : k.toNat < n)]
    by_cases e : i = k.toNat
    · subst e
      have e2 : ((k.toNat : Nat) : Int) = k := by omega
      rw [List.getD, List.getElem?_set_self (by rw [rowTo_len]; exact hi')]
      simp only [Option.getD_some, worth, e2, if_pos hk]
    · rw [List.getD, List.getElem?_set_ne (fun h => e h.symm)]
      have : (rowTo a r n c)[i]?.getD 0 = worth a r i c := by have := rowTo_get (a := a) (r := r) (c := c) hi'; simpa [List.getD] using this
      rw [this]
      simp only [worth]
      rw [if_neg (by omega)]; omega
theorem rowTo_skip {a r : List Int} {n c : Nat} (h : a.getD c 0 < 0) : rowTo a r n (c + 1) = rowTo a r n c := by
  apply ext_getD 0
  · simp [rowTo]
  · intro i hi
    have hi' : i < n := by simpa [rowTo] using hi
    rw [rowTo_get hi', rowTo_get hi']
    simp only [worth]
    rw [if_neg (by omega)]; omega
theorem rowTo_zero (a r : List Int) (n : Nat) : (rowTo a r n 0).map i64v = List.replicate n (.int .i64 0) := by
  rw [List.eq_replicate_iff]; simp [rowTo, worth, i64v]

theorem set_map (l : List Int) (k : Nat) (x : Int) : (l.map i64v).set k (.int .i64 x) = (l.set k x).map i64v := by rw [List.map_set]; rfl

theorem gvalues_rc {w : World} {gv av : Value} {vs : List Value} {rr : List (List Int)} {a : List Int} (Hg : Mat w gv vs rr) (Ha : Ints w av a) :
    RC Try.prog 58 [.agg #[gv], av] w NoB (fun u w' => ∃ v us, u = .tuple #[v, .int .i64 (vld rr a)] ∧ OM w.heap.size w' v us (valsR rr a)) := by
  refine RC.mk tyOk Try.func58 rfl (by kernel_rfl) fun w1 E1 => ?_
  replace Hg := Hg.ext E1
  replace Ha := Ha.ext E1
  refine Bx.agg fun b w2 E2 _ Hb _ => ?_
  replace Hg := Hg.ext E2
  replace Ha := Ha.ext E2
  by_cases hv : vld rr a = 0
  · have hal := al_of_vld hv
    have hn := hal.n6
    have hm := hal.m10
    have hlen := hal.len
    repeat' ((conv => whnf); first | (refine Dr.quiet tyOk (by kernel_rfl) ?_) | (refine VC.pure (gvalid_pc Hg Ha) ?_) | (refine Rng.mk (by omega) ?_) | (refine Split.pos (by omega) ?_) | (refine Split.neg (by omega) ?_) | (refine Split.mk (fun h => ?_) (fun h => ?_)) | (refine Need.mk (by omega) ?_) | (refine Ints.ln (by assumption) ?_) | (refine Mat.ln (by assumption) ?_) | (refine Ints.ln (Mat.row (by assumption) _ (by omega)) ?_) | (refine Ints.ix (by assumption) (by omega) ?_) | (refine Mat.ix (by assumption) (by omega) ?_) | (refine Ints.ix (Mat.row (by assumption) _ (by omega)) (by omega) ?_) | (refine Ints.ix (c := 0) (by assumption) (by omega) ?_) | (refine Mat.ix (c := 0) (by assumption) (by omega) ?_) | (refine Ints.ix (c := 0) (Mat.row (by assumption) _ (by omega)) (by omega) ?_) | (refine Ints.ixI (by assumption) (by omega) ?_) | (refine Mat.ixI (by assumption) (by omega) ?_) | (refine Ints.ixI (Mat.row (by assumption) _ (by omega)) (by omega) ?_) | (refine Ints.ld (by assumption) (by omega) ?_) | (refine Mat.ld (by assumption) (by omega) ?_) | (refine Ints.ld (Mat.row (by assumption) _ (by omega)) (by omega) ?_) | (refine At.ld (by assumption) rfl ?_) | (refine At.ldN (by assumption) rfl ?_))
    refine Lp.mk tyOk [false, false, false, false, false, false, false, true, false, true, true, true, true, false, false, false, false, false, false, false, false, false, true, true, true, true, true, true, true, true, true, true, true, true, true, true, true, true, true, true, true, true, true, true, true, true, true, true, true, true, true, true, true, true, true] (fun m fr wr => getK fr 7 fun v => getK fr 22 fun j => ∃ (c : Nat) (us : List Value), c ≤ rr.length ∧ m = rr.length - c ∧ j = .int .i64 (c : Int) ∧ Ext w2 wr ∧ OM w2.heap.size wr v us ((List.range c).map fun i => (List.range rr.length).map fun (k : Nat) => wth rr a i k)) rr.length ?_ ?_
    · exact ⟨0, [], Nat.zero_le _, rfl, rfl, Ext.refl _, OM.nil⟩
    · intro m w3 u7 u9 u10 u11 u12 u22 u23 u24 u25 u26 u27 u28 u29 u30 u31 u32 u33 u34 u35 u36 u37 u38 u39 u40 u41 u42 u43 u44 u45 u46 u47 u48 u49 u50 u51 u52 u53 u54 hR
      obtain ⟨c, us, hc, rfl, rfl, EE, Ho⟩ := hR
      replace Hg := Hg.ext EE
      replace Ha := Ha.ext EE
      replace Hb := Hb.ext EE
      repeat' ((conv => whnf); first | (refine Dr.quiet tyOk (by kernel_rfl) ?_) | (refine Rng.mk (by omega) ?_) | (refine Split.pos (by omega) ?_) | (refine Split.neg (by omega) ?_) | (refine Split.mk (fun h => ?_) (fun h => ?_)) | (refine Need.mk (by omega) ?_) | (refine Ints.ln (by assumption) ?_) | (refine Mat.ln (by assumption) ?_) | (refine Ints.ln (Mat.row (by assumption) _ (by omega)) ?_) | (refine Ints.ix (by assumption) (by omega) ?_) | (refine Mat.ix (by assumption) (by omega) ?_) | (refine Ints.ix (Mat.row (by assumption) _ (by omega)) (by omega) ?_) | (refine Ints.ix (c := 0) (by assumption) (by omega) ?_) | (refine Mat.ix (c := 0) (by assumption) (by omega) ?_) | (refine Ints.ix (c := 0) (Mat.row (by assumption) _ (by omega)) (by omega) ?_) | (refine Ints.ixI (by assumption) (by omega) ?_) | (refine Mat.ixI (by assumption) (by omega) ?_) | (refine Ints.ixI (Mat.row (by assumption) _ (by omega)) (by omega) ?_) | (refine Ints.ld (by assumption) (by omega) ?_) | (refine Mat.ld (by assumption) (by omega) ?_) | (refine Ints.ld (Mat.row (by assumption) _ (by omega)) (by omega) ?_) | (refine At.ld (by assumption) rfl ?_) | (refine At.ldN (by assumption) rfl ?_))
      · have hrc := hal.row c (by omega)
        refine VE.made Try.underlying27 eInt rfl (by omega) (by omega) fun rv w4 E4 Hmk _ => ?_
        have Hr0 := Hmk _ (Nat.le_refl _)
        rw [← rowTo_zero a (rr.getD c [])] at Hr0
        have Hg3 := Hg
        have Ha3 := Ha
        have Hb3 := Hb
        have Ho3 := Ho
        repeat' ((conv => whnf); first | (refine Dr.quiet tyOk (by kernel_rfl) ?_) | (refine Rng.mk (by omega) ?_) | (refine Split.pos (by omega) ?_) | (refine Split.neg (by omega) ?_) | (refine Split.mk (fun h => ?_) (fun h => ?_)) | (refine Need.mk (by omega) ?_) | (refine Ints.ln (by assumption) ?_) | (refine Mat.ln (by assumption) ?_) | (refine Ints.ln (Mat.row (by assumption) _ (by omega)) ?_) | (refine Ints.ix (by assumption) (by omega) ?_) | (refine Mat.ix (by assumption) (by omega) ?_) | (refine Ints.ix (Mat.row (by assumption) _ (by omega)) (by omega) ?_) | (refine Ints.ix (c := 0) (by assumption) (by omega) ?_) | (refine Mat.ix (c := 0) (by assumption) (by omega) ?_) | (refine Ints.ix (c := 0) (Mat.row (by assumption) _ (by omega)) (by omega) ?_) | (refine Ints.ixI (by assumption) (by omega) ?_) | (refine Mat.ixI (by assumption) (by omega) ?_) | (refine Ints.ixI (Mat.row (by assumption) _ (by omega)) (by omega) ?_) | (refine Ints.ld (by assumption) (by omega) ?_) | (refine Mat.ld (by assumption) (by omega) ?_) | (refine Ints.ld (Mat.row (by assumption) _ (by omega)) (by omega) ?_) | (refine At.ld (by assumption) rfl ?_) | (refine At.ldN (by assumption) rfl ?_))
        refine Lp.mk tyOk [false, false, false, false, false, false, false, false, false, false, false, true, true, false, false, false, false, false, false, false, false, false, false, false, false, false, false, false, false, false, false, false, true, true, true, true, true, true, true, true, true, true, true, true, true, true, true, true, true, true] (fun m fr wr => getK fr 32 fun j => ∃ c2 : Nat, c2 ≤ a.length ∧ m = a.length - c2 ∧ j = .int .i64 (c2 : Int) ∧ Ext w3 wr ∧ Go.Eng.Own w3.heap.size 3 1 wr rv rr.length ((rowTo a (rr.getD c []) rr.length c2).map i64v)) a.length ?_ ?_
        · exact ⟨0, Nat.zero_le _, rfl, rfl, E4, Hr0⟩
        · intro m w4 u11 u12 u32 u33 u34 u35 u36 u37 u38 u39 u40 u41 u42 u43 u44 u45 u46 u47 u48 u49 hR
          obtain ⟨c2, hc2, rfl, rfl, E5, Hr⟩ := hR
          have hchk := hal.rng c2
          have hrc := hal.row c (by omega)
          have hval := hal.val c c2
          have hrl := rowTo_len a (rr.getD c []) rr.length c2
          replace Hg := Hg3.ext E5
          replace Ha := Ha3.ext E5
          replace Hb := Hb3.ext E5
          replace Ho := Ho3.ext E5
          have HrI : Ints w4 rv (rowTo a (rr.getD c []) rr.length c2) := by
            have := Own.sl Hr
            unfold Ints; rw [rowTo_len]; exact this
          have hbv : c2 < a.length → 0 ≤ a.getD c2 0 → 0 ≤ (rowTo a (rr.getD c []) rr.length c2).getD (a.getD c2 0).toNat 0 ∧ (rowTo a (rr.getD c []) rr.length c2).getD (a.getD c2 0).toNat 0 ≤ 10000 := by
            intro h1 h2
            rw [rowTo_get (by omega)]
            have := worth_bd (a := a) (k := ((a.getD c2 0).toNat : Int)) (fun j => hal.val c j) c2
            omega
          have hvd : (rr.getD c []).getD c2 0 = val rr c c2 := rfl
          repeat' ((conv => whnf); first | (refine Dr.tail 10 tyOk (by kernel_rfl) ?_) | (refine Rng.mk (by omega) ?_) | (refine Split.pos (by omega) ?_) | (refine Split.neg (by omega) ?_) | (refine Split.mk (fun h => ?_) (fun h => ?_)) | (refine Need.mk (by omega) ?_) | (refine Ints.ln (by assumption) ?_) | (refine Mat.ln (by assumption) ?_) | (refine Ints.ln (Mat.row (by assumption) _ (by omega)) ?_) | (refine Ints.ix (by assumption) (by omega) ?_) | (refine Mat.ix (by assumption) (by omega) ?_) | (refine Ints.ix (Mat.row (by assumption) _ (by omega)) (by omega) ?_) | (refine Ints.ix (c := 0) (by assumption) (by omega) ?_) | (refine Mat.ix (c := 0) (by assumption) (by omega) ?_) | (refine Ints.ix (c := 0) (Mat.row (by assumption) _ (by omega)) (by omega) ?_) | (refine Ints.ixI (by assumption) (by omega) ?_) | (refine Mat.ixI (by assumption) (by omega) ?_) | (refine Ints.ixI (Mat.row (by assumption) _ (by omega)) (by omega) ?_) | (refine Ints.ld (by assumption) (by omega) ?_) | (refine Mat.ld (by assumption) (by omega) ?_) | (refine Ints.ld (Mat.row (by assumption) _ (by omega)) (by omega) ?_) | (refine At.ld (by assumption) rfl ?_) | (refine At.ldN (by assumption) rfl ?_))
          · refine Own.set Hr (by rw [List.length_map, hrl]; omega) rfl fun w5 G5 H5 => ?_
            repeat' ((conv => whnf); first | (refine Dr.quiet tyOk (by kernel_rfl) ?_) | (refine Rng.mk (by omega) ?_) | (refine Split.pos (by omega) ?_) | (refine Split.neg (by omega) ?_) | (refine Split.mk (fun h => ?_) (fun h => ?_)) | (refine Need.mk (by omega) ?_) | (refine Ints.ln (by assumption) ?_) | (refine Mat.ln (by assumption) ?_) | (refine Ints.ln (Mat.row (by assumption) _ (by omega)) ?_) | (refine Ints.ix (by assumption) (by omega) ?_) | (refine Mat.ix (by assumption) (by omega) ?_) | (refine Ints.ix (Mat.row (by assumption) _ (by omega)) (by omega) ?_) | (refine Ints.ix (c := 0) (by assumption) (by omega) ?_) | (refine Mat.ix (c := 0) (by assumption) (by omega) ?_) | (refine Ints.ix (c := 0) (Mat.row (by assumption) _ (by omega)) (by omega) ?_) | (refine Ints.ixI (by assumption) (by omega) ?_) | (refine Mat.ixI (by assumption) (by omega) ?_) | (refine Ints.ixI (Mat.row (by assumption) _ (by omega)) (by omega) ?_) | (refine Ints.ld (by assumption) (by omega) ?_) | (refine Mat.ld (by assumption) (by omega) ?_) | (refine Ints.ld (Mat.row (by assumption) _ (by omega)) (by omega) ?_) | (refine At.ld (by assumption) rfl ?_) | (refine At.ldN (by assumption) rfl ?_))
            refine ⟨_, (by omega : a.length - (c2 + 1) < a.length - c2), rfl, c2 + 1, by omega, rfl, rfl, ?_, ?_⟩
            · exact Own.keep Hr E5 (Nat.le_refl _) G5
            · rw [set_map, rowTo_set rfl (by omega) (by omega)] at H5
              exact H5
          · refine ⟨_, (by omega : a.length - (c2 + 1) < a.length - c2), rfl, c2 + 1, by omega, rfl, rfl, E5, ?_⟩
            rw [rowTo_skip (by omega)]
            exact Hr
          · obtain rfl : c2 = a.length := by omega
            have Hr0 : OI w4 rv ((List.range rr.length).map fun (k : Nat) => wth rr a c k) := OI.of Hr
            refine VE.lit1 Try.underlying22 eRow ((Sl.cells (Own.sl Hr0)).1) fun lv w5 E6 Hl => ?_
            replace Ho := Ho.ext E6
            replace Hr0 := Hr0.ext E6
            conv => whnf
            refine VE.app Try.underlying22 eRow rfl (by omega) Ho.top (EE.trans (E5.trans E6)) rfl Hl (by intro u hu; simp only [List.mem_singleton] at hu; subst hu; exact (Sl.cells (Own.sl Hr0)).2) (by first | omega | (simp only [List.length_map, List.length_range]; omega)) (by first | omega | (simp only [List.length_map, List.length_range]; omega)) fun v6 w6 E7 G7 H7 => ?_
            repeat' ((conv => whnf); first | (refine Dr.quiet tyOk (by kernel_rfl) ?_) | (refine Rng.mk (by omega) ?_) | (refine Split.pos (by omega) ?_) | (refine Split.neg (by omega) ?_) | (refine Split.mk (fun h => ?_) (fun h => ?_)) | (refine Need.mk (by omega) ?_) | (refine Ints.ln (by assumption) ?_) | (refine Mat.ln (by assumption) ?_) | (refine Ints.ln (Mat.row (by assumption) _ (by omega)) ?_) | (refine Ints.ix (by assumption) (by omega) ?_) | (refine Mat.ix (by assumption) (by omega) ?_) | (refine Ints.ix (Mat.row (by assumption) _ (by omega)) (by omega) ?_) | (refine Ints.ix (c := 0) (by assumption) (by omega) ?_) | (refine Mat.ix (c := 0) (by assumption) (by omega) ?_) | (refine Ints.ix (c := 0) (Mat.row (by assumption) _ (by omega)) (by omega) ?_) | (refine Ints.ixI (by assumption) (by omega) ?_) | (refine Mat.ixI (by assumption) (by omega) ?_) | (refine Ints.ixI (Mat.row (by assumption) _ (by omega)) (by omega) ?_) | (refine Ints.ld (by assumption) (by omega) ?_) | (refine Mat.ld (by assumption) (by omega) ?_) | (refine Ints.ld (Mat.row (by assumption) _ (by omega)) (by omega) ?_) | (refine At.ld (by assumption) rfl ?_) | (refine At.ldN (by assumption) rfl ?_))
            refine ⟨_, (by omega : rr.length - (c + 1) < rr.length - c), rfl, c + 1, us ++ [rv], by omega, rfl, rfl, E7, ?_⟩
            rw [map_range_succ]
            exact Ho.push Hr0 G7 H7
      · obtain rfl : c = rr.length := by omega
        refine ⟨E2.trans EE, _, us, by rw [hv], ?_⟩
        rw [valsR, if_pos hv]
        exact Ho.base (Nat.le_trans E1.size E2.size)
  · repeat' ((conv => whnf); first | (refine Dr.quiet tyOk (by kernel_rfl) ?_) | (refine VC.pure (gvalid_pc Hg Ha) ?_) | (refine Rng.mk (by omega) ?_) | (refine Split.pos (by omega) ?_) | (refine Split.neg (by omega) ?_) | (refine Split.mk (fun h => ?_) (fun h => ?_)) | (refine Need.mk (by omega) ?_) | (refine Ints.ln (by assumption) ?_) | (refine Mat.ln (by assumption) ?_) | (refine Ints.ln (Mat.row (by assumption) _ (by omega)) ?_) | (refine Ints.ix (by assumption) (by omega) ?_) | (refine Mat.ix (by assumption) (by omega) ?_) | (refine Ints.ix (Mat.row (by assumption) _ (by omega)) (by omega) ?_) | (refine Ints.ix (c := 0) (by assumption) (by omega) ?_) | (refine Mat.ix (c := 0) (by assumption) (by omega) ?_) | (refine Ints.ix (c := 0) (Mat.row (by assumption) _ (by omega)) (by omega) ?_) | (refine Ints.ixI (by assumption) (by omega) ?_) | (refine Mat.ixI (by assumption) (by omega) ?_) | (refine Ints.ixI (Mat.row (by assumption) _ (by omega)) (by omega) ?_) | (refine Ints.ld (by assumption) (by omega) ?_) | (refine Mat.ld (by assumption) (by omega) ?_) | (refine Ints.ld (Mat.row (by assumption) _ (by omega)) (by omega) ?_) | (refine At.ld (by assumption) rfl ?_) | (refine At.ldN (by assumption) rfl ?_))
    refine ⟨E2, _, [], rfl, ?_⟩
    rw [valsR, if_neg hv]
    exact OM.nil

theorem vals_len (rr : List (List Int)) (a : List Int) : (vals rr a).length = rr.length := by simp [vals]
theorem vals_row {rr : List (List Int)} {a : List Int} {i : Nat} (h : i < rr.length) : (vals rr a).getD i [] = (List.range rr.length).map fun (k : Nat) => wth rr a i k := by simp [vals, List.getD, h]
theorem vals_rlen {rr : List (List Int)} {a : List Int} {i : Nat} (h : i < rr.length) : ((vals rr a).getD i []).length = rr.length := by rw [vals_row h]; simp
theorem vals_get {rr : List (List Int)} {a : List Int} {i k : Nat} (h : i < rr.length) (hk : k < rr.length) : ((vals rr a).getD i []).getD k 0 = wth rr a i k := by rw [vals_row h]; simp [List.getD, hk]

theorem genvies_rc {w : World} {gv av : Value} {vs : List Value} {rr : List (List Int)} {a : List Int} (Hg : Mat w gv vs rr) (Ha : Ints w av a) :
    RC Try.prog 82 [.agg #[gv], av] w NoB (fun u w' => ∃ v, u = .tuple #[v, .int .i64 (vld rr a)] ∧ OP w.heap.size w' v (envsR rr a)) := by
  refine RC.mk tyOk Try.func82 rfl (by kernel_rfl) fun w1 E1 => ?_
  replace Hg := Hg.ext E1
  replace Ha := Ha.ext E1
  refine Bx.agg fun b w2 E2 _ Hb _ => ?_
  replace Hg := Hg.ext E2
  replace Ha := Ha.ext E2
  by_cases hv : vld rr a = 0
  · have hal := al_of_vld hv
    have hn := hal.n6
    have hm := hal.m10
    have hlen := hal.len
    conv => whnf
    refine At.ldN Hb rfl ?_
    conv => whnf
    refine VC.rc (gvalues_rc Hg Ha) ?_
    rintro _ w3 E3 ⟨v, us, rfl, HO⟩
    rw [valsR, if_pos hv] at HO
    have HV := HO.mat
    have hvl := vals_len rr a
    replace Hg := Hg.ext E3
    replace Ha := Ha.ext E3
    replace Hb := Hb.ext E3
    repeat' ((conv => whnf); first | (refine Dr.quiet tyOk (by kernel_rfl) ?_) | (refine Rng.mk (by omega) ?_) | (refine Split.pos (by omega) ?_) | (refine Split.neg (by omega) ?_) | (refine Split.mk (fun h => ?_) (fun h => ?_)) | (refine Need.mk (by omega) ?_) | (refine Ints.ln (by assumption) ?_) | (refine Mat.ln (by assumption) ?_) | (refine Ints.ln (Mat.row (by assumption) _ (by omega)) ?_) | (refine Ints.ix (by assumption) (by omega) ?_) | (refine Mat.ix (by assumption) (by omega) ?_) | (refine Ints.ix (Mat.row (by assumption) _ (by omega)) (by omega) ?_) | (refine Ints.ix (c := 0) (by assumption) (by omega) ?_) | (refine Mat.ix (c := 0) (by assumption) (by omega) ?_) | (refine Ints.ix (c := 0) (Mat.row (by assumption) _ (by omega)) (by omega) ?_) | (refine Ints.ixI (by assumption) (by omega) ?_) | (refine Mat.ixI (by assumption) (by omega) ?_) | (refine Ints.ixI (Mat.row (by assumption) _ (by omega)) (by omega) ?_) | (refine Ints.ld (by assumption) (by omega) ?_) | (refine Mat.ld (by assumption) (by omega) ?_) | (refine Ints.ld (Mat.row (by assumption) _ (by omega)) (by omega) ?_) | (refine At.ld (by assumption) rfl ?_) | (refine At.ldN (by assumption) rfl ?_))
    refine Lp.mk tyOk [false, false, false, false, false, false, false, false, true, true, true, true, true, false, false, false, false, false, false, false, false, false, false, false, true, true, true, true, true, true, true, true, true, true, true, true, true, true, true, true, true, true, true, true, true, true, true, true, true, true] (fun m fr wr => getK fr 8 fun v => getK fr 24 fun j => ∃ (c : Nat), c ≤ rr.length ∧ m = rr.length - c ∧ j = .int .i64 (c : Int) ∧ Ext w3 wr ∧ OP w3.heap.size wr v (envTo (fun i (k : Nat) => wth rr a i k) rr.length c)) rr.length ?_ ?_
    · exact ⟨0, Nat.zero_le _, rfl, rfl, Ext.refl _, Own.nil⟩
    · intro m w4 u8 u9 u10 u11 u12 u24 u25 u26 u27 u28 u29 u30 u31 u32 u33 u34 u35 u36 u37 u38 u39 u40 u41 u42 u43 u44 u45 u46 u47 u48 u49 hR
      obtain ⟨c, hc, rfl, rfl, EE, Ho⟩ := hR
      have hT := envTo_len (fun i (k : Nat) => wth rr a i k) rr.length c
      have hTc := Nat.mul_le_mul hc hn
      have HV3 := HV
      have hrl := vals_rlen (rr := rr) (a := a) (i := c)
      replace HV := HV.ext EE
      repeat' ((conv => whnf); first | (refine Dr.quiet tyOk (by kernel_rfl) ?_) | (refine Rng.mk (by omega) ?_) | (refine Split.pos (by omega) ?_) | (refine Split.neg (by omega) ?_) | (refine Split.mk (fun h => ?_) (fun h => ?_)) | (refine Need.mk (by omega) ?_) | (refine Ints.ln (by assumption) ?_) | (refine Mat.ln (by assumption) ?_) | (refine Ints.ln (Mat.row (by assumption) _ (by omega)) ?_) | (refine Ints.ix (by assumption) (by omega) ?_) | (refine Mat.ix (by assumption) (by omega) ?_) | (refine Ints.ix (Mat.row (by assumption) _ (by omega)) (by omega) ?_) | (refine Ints.ix (c := 0) (by assumption) (by omega) ?_) | (refine Mat.ix (c := 0) (by assumption) (by omega) ?_) | (refine Ints.ix (c := 0) (Mat.row (by assumption) _ (by omega)) (by omega) ?_) | (refine Ints.ixI (by assumption) (by omega) ?_) | (refine Mat.ixI (by assumption) (by omega) ?_) | (refine Ints.ixI (Mat.row (by assumption) _ (by omega)) (by omega) ?_) | (refine Ints.ld (by assumption) (by omega) ?_) | (refine Mat.ld (by assumption) (by omega) ?_) | (refine Ints.ld (Mat.row (by assumption) _ (by omega)) (by omega) ?_) | (refine At.ld (by assumption) rfl ?_) | (refine At.ldN (by assumption) rfl ?_))
      · refine Lp.mk tyOk [false, false, false, false, false, false, false, false, true, false, false, true, true, false, false, false, false, false, false, false, false, false, false, false, false, false, false, false, false, false, false, true, true, true, true, true, true, true, true, true, true, true, true, true, true, true, true, true, true] (fun m fr wr => getK fr 8 fun v => getK fr 31 fun j => ∃ c2 : Nat, c2 ≤ rr.length ∧ m = rr.length - c2 ∧ j = .int .i64 (c2 : Int) ∧ Ext w3 wr ∧ OP w3.heap.size wr v (envTo (fun i (k : Nat) => wth rr a i k) rr.length c ++ envRow (fun (k : Nat) => wth rr a c k) c c2)) rr.length ?_ ?_
        · exact ⟨0, Nat.zero_le _, rfl, rfl, EE, by simpa [envRow] using Ho⟩
        · intro m w5 u8 u11 u12 u31 u32 u33 u34 u35 u36 u37 u38 u39 u40 u41 u42 u43 u44 u45 u46 u47 u48 hR
          obtain ⟨c2, hc2, rfl, rfl, E4, Hr⟩ := hR
          have hL := envRow_len (fun (k : Nat) => wth rr a c k) c c2
          have hLA : (envTo (fun i (k : Nat) => wth rr a i k) rr.length c ++ envRow (fun (k : Nat) => wth rr a c k) c c2).length = (envTo (fun i (k : Nat) => wth rr a i k) rr.length c).length + (envRow (fun (k : Nat) => wth rr a c k) c c2).length := List.length_append
          replace HV := HV3.ext E4
          have e1 := vals_get (rr := rr) (a := a) (i := c) (k := c2)
          have e2 := vals_get (rr := rr) (a := a) (i := c) (k := c)
          repeat' ((conv => whnf); first | (refine Dr.quiet tyOk (by kernel_rfl) ?_) | (refine Rng.mk (by omega) ?_) | (refine Split.pos (by omega) ?_) | (refine Split.neg (by omega) ?_) | (refine Split.mk (fun h => ?_) (fun h => ?_)) | (refine Need.mk (by omega) ?_) | (refine Ints.ln (by assumption) ?_) | (refine Mat.ln (by assumption) ?_) | (refine Ints.ln (Mat.row (by assumption) _ (by omega)) ?_) | (refine Ints.ix (by assumption) (by omega) ?_) | (refine Mat.ix (by assumption) (by omega) ?_) | (refine Ints.ix (Mat.row (by assumption) _ (by omega)) (by omega) ?_) | (refine Ints.ix (c := 0) (by assumption) (by omega) ?_) | (refine Mat.ix (c := 0) (by assumption) (by omega) ?_) | (refine Ints.ix (c := 0) (Mat.row (by assumption) _ (by omega)) (by omega) ?_) | (refine Ints.ixI (by assumption) (by omega) ?_) | (refine Mat.ixI (by assumption) (by omega) ?_) | (refine Ints.ixI (Mat.row (by assumption) _ (by omega)) (by omega) ?_) | (refine Ints.ld (by assumption) (by omega) ?_) | (refine Mat.ld (by assumption) (by omega) ?_) | (refine Ints.ld (Mat.row (by assumption) _ (by omega)) (by omega) ?_) | (refine At.ld (by assumption) rfl ?_) | (refine At.ldN (by assumption) rfl ?_))
          · refine VS.arr2 Try.underlying103 ePair cells3 ?_
            repeat' ((conv => whnf); first | (refine Dr.quiet tyOk (by kernel_rfl) ?_) | (refine Rng.mk (by omega) ?_) | (refine Split.pos (by omega) ?_) | (refine Split.neg (by omega) ?_) | (refine Split.mk (fun h => ?_) (fun h => ?_)) | (refine Need.mk (by omega) ?_) | (refine Ints.ln (by assumption) ?_) | (refine Mat.ln (by assumption) ?_) | (refine Ints.ln (Mat.row (by assumption) _ (by omega)) ?_) | (refine Ints.ix (by assumption) (by omega) ?_) | (refine Mat.ix (by assumption) (by omega) ?_) | (refine Ints.ix (Mat.row (by assumption) _ (by omega)) (by omega) ?_) | (refine Ints.ix (c := 0) (by assumption) (by omega) ?_) | (refine Mat.ix (c := 0) (by assumption) (by omega) ?_) | (refine Ints.ix (c := 0) (Mat.row (by assumption) _ (by omega)) (by omega) ?_) | (refine Ints.ixI (by assumption) (by omega) ?_) | (refine Mat.ixI (by assumption) (by omega) ?_) | (refine Ints.ixI (Mat.row (by assumption) _ (by omega)) (by omega) ?_) | (refine Ints.ld (by assumption) (by omega) ?_) | (refine Mat.ld (by assumption) (by omega) ?_) | (refine Ints.ld (Mat.row (by assumption) _ (by omega)) (by omega) ?_) | (refine At.ld (by assumption) rfl ?_) | (refine At.ldN (by assumption) rfl ?_))
            refine VE.lit1A Try.underlying68 ePair rfl (by decide) fun lv w6 E5 Hl => ?_
            replace Hr := Hr.ext E5
            conv => whnf
            refine VE.app Try.underlying68 ePair rfl (by omega) Hr (E4.trans E5) rfl Hl (by simp [Value.oneCell']) (by first | omega | (simp only [List.length_map, List.length_range]; omega)) (by first | omega | (simp only [List.length_map, List.length_range]; omega)) fun v6 w7 E6 G6 H6 => ?_
            repeat' ((conv => whnf); first | (refine Dr.quiet tyOk (by kernel_rfl) ?_) | (refine Rng.mk (by omega) ?_) | (refine Split.pos (by omega) ?_) | (refine Split.neg (by omega) ?_) | (refine Split.mk (fun h => ?_) (fun h => ?_)) | (refine Need.mk (by omega) ?_) | (refine Ints.ln (by assumption) ?_) | (refine Mat.ln (by assumption) ?_) | (refine Ints.ln (Mat.row (by assumption) _ (by omega)) ?_) | (refine Ints.ix (by assumption) (by omega) ?_) | (refine Mat.ix (by assumption) (by omega) ?_) | (refine Ints.ix (Mat.row (by assumption) _ (by omega)) (by omega) ?_) | (refine Ints.ix (c := 0) (by assumption) (by omega) ?_) | (refine Mat.ix (c := 0) (by assumption) (by omega) ?_) | (refine Ints.ix (c := 0) (Mat.row (by assumption) _ (by omega)) (by omega) ?_) | (refine Ints.ixI (by assumption) (by omega) ?_) | (refine Mat.ixI (by assumption) (by omega) ?_) | (refine Ints.ixI (Mat.row (by assumption) _ (by omega)) (by omega) ?_) | (refine Ints.ld (by assumption) (by omega) ?_) | (refine Mat.ld (by assumption) (by omega) ?_) | (refine Ints.ld (Mat.row (by assumption) _ (by omega)) (by omega) ?_) | (refine At.ld (by assumption) rfl ?_) | (refine At.ldN (by assumption) rfl ?_))
            refine ⟨_, (by omega : rr.length - (c2 + 1) < rr.length - c2), rfl, c2 + 1, by omega, rfl, rfl, E6, ?_⟩
            rw [flatP_snoc] at H6
            simp only [envRow, if_pos (by omega : wth rr a c c < wth rr a c c2), ← List.append_assoc]
            exact OP.of H6
          · refine ⟨_, (by omega : rr.length - (c2 + 1) < rr.length - c2), rfl, c2 + 1, by omega, rfl, rfl, E4, ?_⟩
            simp only [envRow, if_neg (by omega : ¬ wth rr a c c < wth rr a c c2), List.append_nil]
            exact Hr
          · obtain rfl : c2 = rr.length := by omega
            exact ⟨_, (by omega : rr.length - (c + 1) < rr.length - c), rfl, c + 1, by omega, rfl, rfl, E4, Hr⟩
      · obtain rfl : c = rr.length := by omega
        refine ⟨(E2.trans E3).trans EE, _, by rw [hv], ?_⟩
        rw [envsR, if_pos hv]
        exact Own.base Ho (Nat.le_trans (Nat.le_trans E1.size E2.size) E3.size)
  · conv => whnf
    refine At.ldN Hb rfl ?_
    conv => whnf
    refine VC.rc (gvalues_rc Hg Ha) ?_
    rintro _ w3 E3 ⟨v, us, rfl, HO⟩
    repeat' ((conv => whnf); first | (refine Dr.quiet tyOk (by kernel_rfl) ?_) | (refine Rng.mk (by omega) ?_) | (refine Split.pos (by omega) ?_) | (refine Split.neg (by omega) ?_) | (refine Split.mk (fun h => ?_) (fun h => ?_)) | (refine Need.mk (by omega) ?_) | (refine Ints.ln (by assumption) ?_) | (refine Mat.ln (by assumption) ?_) | (refine Ints.ln (Mat.row (by assumption) _ (by omega)) ?_) | (refine Ints.ix (by assumption) (by omega) ?_) | (refine Mat.ix (by assumption) (by omega) ?_) | (refine Ints.ix (Mat.row (by assumption) _ (by omega)) (by omega) ?_) | (refine Ints.ix (c := 0) (by assumption) (by omega) ?_) | (refine Mat.ix (c := 0) (by assumption) (by omega) ?_) | (refine Ints.ix (c := 0) (Mat.row (by assumption) _ (by omega)) (by omega) ?_) | (refine Ints.ixI (by assumption) (by omega) ?_) | (refine Mat.ixI (by assumption) (by omega) ?_) | (refine Ints.ixI (Mat.row (by assumption) _ (by omega)) (by omega) ?_) | (refine Ints.ld (by assumption) (by omega) ?_) | (refine Mat.ld (by assumption) (by omega) ?_) | (refine Ints.ld (Mat.row (by assumption) _ (by omega)) (by omega) ?_) | (refine At.ld (by assumption) rfl ?_) | (refine At.ldN (by assumption) rfl ?_))
    refine ⟨E2.trans E3, _, rfl, ?_⟩
    rw [envsR, if_neg hv]
    exact Own.nil

theorem gpoor_rc {w : World} {gv av : Value} {vs : List Value} {rr : List (List Int)} {a : List Int} (Hg : Mat w gv vs rr) (Ha : Ints w av a) :
    RC Try.prog 54 [.agg #[gv], av] w NoB (fun u w' => ∃ v, u = .tuple #[v, .int .i64 (vld rr a)] ∧ OI w' v (poorR rr a)) := by
  refine RC.mk tyOk Try.func54 rfl (by kernel_rfl) fun w1 E1 => ?_
  replace Hg := Hg.ext E1
  replace Ha := Ha.ext E1
  refine Bx.agg fun b w2 E2 _ Hb _ => ?_
  replace Hg := Hg.ext E2
  replace Ha := Ha.ext E2
  by_cases hv : vld rr a = 0
  · have hal := al_of_vld hv
    have hn := hal.n6
    have hm := hal.m10
    have hlen := hal.len
    conv => whnf
    refine At.ldN Hb rfl ?_
    conv => whnf
    refine VC.rc (gvalues_rc Hg Ha) ?_
    rintro _ w3 E3 ⟨v, us, rfl, HO⟩
    rw [valsR, if_pos hv] at HO
    have HV := HO.mat
    have hvl := vals_len rr a
    replace Hg := Hg.ext E3
    replace Ha := Ha.ext E3
    replace Hb := Hb.ext E3
    repeat' ((conv => whnf); first | (refine Dr.quiet tyOk (by kernel_rfl) ?_) | (refine Rng.mk (by omega) ?_) | (refine Split.pos (by omega) ?_) | (refine Split.neg (by omega) ?_) | (refine Split.mk (fun h => ?_) (fun h => ?_)) | (refine Need.mk (by omega) ?_) | (refine Ints.ln (by assumption) ?_) | (refine Mat.ln (by assumption) ?_) | (refine Ints.ln (Mat.row (by assumption) _ (by omega)) ?_) | (refine Ints.ix (by assumption) (by omega) ?_) | (refine Mat.ix (by assumption) (by omega) ?_) | (refine Ints.ix (Mat.row (by assumption) _ (by omega)) (by omega) ?_) | (refine Ints.ix (c := 0) (by assumption) (by omega) ?_) | (refine Mat.ix (c := 0) (by assumption) (by omega) ?_) | (refine Ints.ix (c := 0) (Mat.row (by assumption) _ (by omega)) (by omega) ?_) | (refine Ints.ixI (by assumption) (by omega) ?_) | (refine Mat.ixI (by assumption) (by omega) ?_) | (refine Ints.ixI (Mat.row (by assumption) _ (by omega)) (by omega) ?_) | (refine Ints.ld (by assumption) (by omega) ?_) | (refine Mat.ld (by assumption) (by omega) ?_) | (refine Ints.ld (Mat.row (by assumption) _ (by omega)) (by omega) ?_) | (refine At.ld (by assumption) rfl ?_) | (refine At.ldN (by assumption) rfl ?_))
    refine Lp.mk tyOk [false, false, false, false, false, false, false, false, true, true, true, false, false, false, false, false, false, false, false, false, false, false, true, true, true, true, true, true, true, true, true, true, true, true, true, true, true, true, true, true, true, true, true, true, true, true] (fun m fr wr => getK fr 8 fun v => getK fr 22 fun j => ∃ (c : Nat), c ≤ rr.length ∧ m = rr.length - c ∧ j = .int .i64 (c : Int) ∧ Ext w3 wr ∧ Go.Eng.Own w3.heap.size 3 1 wr v (filt (isPoor rr a) c).length ((filt (isPoor rr a) c).map i64v)) rr.length ?_ ?_
    · exact ⟨0, Nat.zero_le _, rfl, rfl, Ext.refl _, Own.nil⟩
    · intro m w4 u8 u9 u10 u22 u23 u24 u25 u26 u27 u28 u29 u30 u31 u32 u33 u34 u35 u36 u37 u38 u39 u40 u41 u42 u43 u44 u45 hR
      obtain ⟨c, hc, rfl, rfl, EE, Ho⟩ := hR
      have hT := filt_len (isPoor rr a) c
      have hrl := vals_rlen (rr := rr) (a := a) (i := c)
      have e2 := vals_get (rr := rr) (a := a) (i := c) (k := c)
      replace Hg := Hg.ext EE
      replace Ha := Ha.ext EE
      replace Hb := Hb.ext EE
      replace HV := HV.ext EE
      have hw := wth_bd (a := a) hal.toGd c c
      have hmul := mul_bd (n := (rr.length : Int)) (N := 6) (X := 10000) (by omega) (by omega) hw.1 (by omega)
      have hrow := hal.row c
      have hsum : c < rr.length → PC Try.prog 70 [vs.getD c undef] w4 (.int .i64 (sumTo (rr.getD c []) (rr.getD c []).length)) := fun h => sum_pc (Hg.row c h) (fun j => hal.val c j) (by have := hrow h; omega)
      have hsb := sumTo_bd (fun j => hal.val c j) (rr.getD c []).length
      have hmv : c < rr.length → (0 ≤ ((vals rr a).getD c []).getD c 0 * ((vals rr a).length : Int) ∧ ((vals rr a).getD c []).getD c 0 * ((vals rr a).length : Int) ≤ 60000) ∧ (isPoor rr a c = true ↔ ((vals rr a).getD c []).getD c 0 * ((vals rr a).length : Int) < sumTo (rr.getD c []) (rr.getD c []).length) := by
        intro h
        rw [e2 h h, hvl, Int.mul_comm]
        refine ⟨⟨hmul.1, by omega⟩, ?_⟩
        simp [isPoor, allv]
      by_cases hp : isPoor rr a c = true
      · have hq := fun h => (hmv h).2.1 hp
        repeat' ((conv => whnf); first | (refine Dr.quiet tyOk (by kernel_rfl) ?_) | (refine VCQ.pure (hsum (by omega)) ?_) | (refine Rng.mk (by omega) ?_) | (refine Split.pos (by omega) ?_) | (refine Split.neg (by omega) ?_) | (refine Split.mk (fun h => ?_) (fun h => ?_)) | (refine Need.mk (by omega) ?_) | (refine Ints.ln (by assumption) ?_) | (refine Mat.ln (by assumption) ?_) | (refine Ints.ln (Mat.row (by assumption) _ (by omega)) ?_) | (refine Ints.ix (by assumption) (by omega) ?_) | (refine Mat.ix (by assumption) (by omega) ?_) | (refine Ints.ix (Mat.row (by assumption) _ (by omega)) (by omega) ?_) | (refine Ints.ix (c := 0) (by assumption) (by omega) ?_) | (refine Mat.ix (c := 0) (by assumption) (by omega) ?_) | (refine Ints.ix (c := 0) (Mat.row (by assumption) _ (by omega)) (by omega) ?_) | (refine Ints.ixI (by assumption) (by omega) ?_) | (refine Mat.ixI (by assumption) (by omega) ?_) | (refine Ints.ixI (Mat.row (by assumption) _ (by omega)) (by omega) ?_) | (refine Ints.ld (by assumption) (by omega) ?_) | (refine Mat.ld (by assumption) (by omega) ?_) | (refine Ints.ld (Mat.row (by assumption) _ (by omega)) (by omega) ?_) | (refine At.ld (by assumption) rfl ?_) | (refine At.ldN (by assumption) rfl ?_))
        · refine VE.lit1 Try.underlying27 eInt (rfl) fun lv w5 E5 Hl => ?_
          replace Ho := Ho.ext E5
          conv => whnf
          refine VE.app Try.underlying27 eInt rfl (by omega) Ho (EE.trans E5) rfl Hl (by simp [Value.oneCell']) (by first | omega | (simp only [List.length_map, List.length_range]; omega)) (by first | omega | (simp only [List.length_map, List.length_range]; omega)) fun v6 w6 E6 G6 H6 => ?_
          repeat' ((conv => whnf); first | (refine Dr.quiet tyOk (by kernel_rfl) ?_) | (refine Rng.mk (by omega) ?_) | (refine Split.pos (by omega) ?_) | (refine Split.neg (by omega) ?_) | (refine Split.mk (fun h => ?_) (fun h => ?_)) | (refine Need.mk (by omega) ?_) | (refine Ints.ln (by assumption) ?_) | (refine Mat.ln (by assumption) ?_) | (refine Ints.ln (Mat.row (by assumption) _ (by omega)) ?_) | (refine Ints.ix (by assumption) (by omega) ?_) | (refine Mat.ix (by assumption) (by omega) ?_) | (refine Ints.ix (Mat.row (by assumption) _ (by omega)) (by omega) ?_) | (refine Ints.ix (c := 0) (by assumption) (by omega) ?_) | (refine Mat.ix (c := 0) (by assumption) (by omega) ?_) | (refine Ints.ix (c := 0) (Mat.row (by assumption) _ (by omega)) (by omega) ?_) | (refine Ints.ixI (by assumption) (by omega) ?_) | (refine Mat.ixI (by assumption) (by omega) ?_) | (refine Ints.ixI (Mat.row (by assumption) _ (by omega)) (by omega) ?_) | (refine Ints.ld (by assumption) (by omega) ?_) | (refine Mat.ld (by assumption) (by omega) ?_) | (refine Ints.ld (Mat.row (by assumption) _ (by omega)) (by omega) ?_) | (refine At.ld (by assumption) rfl ?_) | (refine At.ldN (by assumption) rfl ?_))
          refine ⟨_, (by omega : rr.length - (c + 1) < rr.length - c), rfl, c + 1, by omega, rfl, rfl, E6, ?_⟩
          simp only [filt, if_pos hp, List.map_append, List.length_append]
          exact H6
        · obtain rfl : c = rr.length := by omega
          refine ⟨(E2.trans E3).trans EE, _, by rw [hv], ?_⟩
          rw [poorR, if_pos hv]
          exact OI.of Ho
      · have hq := fun h => mt (hmv h).2.2 hp
        repeat' ((conv => whnf); first | (refine Dr.quiet tyOk (by kernel_rfl) ?_) | (refine VCQ.pure (hsum (by omega)) ?_) | (refine Rng.mk (by omega) ?_) | (refine Split.pos (by omega) ?_) | (refine Split.neg (by omega) ?_) | (refine Split.mk (fun h => ?_) (fun h => ?_)) | (refine Need.mk (by omega) ?_) | (refine Ints.ln (by assumption) ?_) | (refine Mat.ln (by assumption) ?_) | (refine Ints.ln (Mat.row (by assumption) _ (by omega)) ?_) | (refine Ints.ix (by assumption) (by omega) ?_) | (refine Mat.ix (by assumption) (by omega) ?_) | (refine Ints.ix (Mat.row (by assumption) _ (by omega)) (by omega) ?_) | (refine Ints.ix (c := 0) (by assumption) (by omega) ?_) | (refine Mat.ix (c := 0) (by assumption) (by omega) ?_) | (refine Ints.ix (c := 0) (Mat.row (by assumption) _ (by omega)) (by omega) ?_) | (refine Ints.ixI (by assumption) (by omega) ?_) | (refine Mat.ixI (by assumption) (by omega) ?_) | (refine Ints.ixI (Mat.row (by assumption) _ (by omega)) (by omega) ?_) | (refine Ints.ld (by assumption) (by omega) ?_) | (refine Mat.ld (by assumption) (by omega) ?_) | (refine Ints.ld (Mat.row (by assumption) _ (by omega)) (by omega) ?_) | (refine At.ld (by assumption) rfl ?_) | (refine At.ldN (by assumption) rfl ?_))
        · refine ⟨_, (by omega : rr.length - (c + 1) < rr.length - c), rfl, c + 1, by omega, rfl, rfl, EE, ?_⟩
          simp only [filt, if_neg hp, List.append_nil]
          exact Ho
        · obtain rfl : c = rr.length := by omega
          refine ⟨(E2.trans E3).trans EE, _, by rw [hv], ?_⟩
          rw [poorR, if_pos hv]
          exact OI.of Ho
  · conv => whnf
    refine At.ldN Hb rfl ?_
    conv => whnf
    refine VC.rc (gvalues_rc Hg Ha) ?_
    rintro _ w3 E3 ⟨v, us, rfl, HO⟩
    repeat' ((conv => whnf); first | (refine Dr.quiet tyOk (by kernel_rfl) ?_) | (refine Rng.mk (by omega) ?_) | (refine Split.pos (by omega) ?_) | (refine Split.neg (by omega) ?_) | (refine Split.mk (fun h => ?_) (fun h => ?_)) | (refine Need.mk (by omega) ?_) | (refine Ints.ln (by assumption) ?_) | (refine Mat.ln (by assumption) ?_) | (refine Ints.ln (Mat.row (by assumption) _ (by omega)) ?_) | (refine Ints.ix (by assumption) (by omega) ?_) | (refine Mat.ix (by assumption) (by omega) ?_) | (refine Ints.ix (Mat.row (by assumption) _ (by omega)) (by omega) ?_) | (refine Ints.ix (c := 0) (by assumption) (by omega) ?_) | (refine Mat.ix (c := 0) (by assumption) (by omega) ?_) | (refine Ints.ix (c := 0) (Mat.row (by assumption) _ (by omega)) (by omega) ?_) | (refine Ints.ixI (by assumption) (by omega) ?_) | (refine Mat.ixI (by assumption) (by omega) ?_) | (refine Ints.ixI (Mat.row (by assumption) _ (by omega)) (by omega) ?_) | (refine Ints.ld (by assumption) (by omega) ?_) | (refine Mat.ld (by assumption) (by omega) ?_) | (refine Ints.ld (Mat.row (by assumption) _ (by omega)) (by omega) ?_) | (refine At.ld (by assumption) rfl ?_) | (refine At.ldN (by assumption) rfl ?_))
    refine ⟨E2.trans E3, _, rfl, ?_⟩
    rw [poorR, if_neg hv]
    exact Own.nil
end Go.Proofs.Ytkgogljfngplnaa
set_option linter.unusedVariables false
set_option linter.unusedSimpArgs false
namespace Go.Proofs.Ytkgogljfngplnaa
open Go.Eng
set_option maxRecDepth 100000

theorem eGoods : Elem Try.prog 24 (.agg #[.slice none 0 0]) 1 24 := by unfold Elem; kernel_rfl

theorem own : ownKnob Try.prog.godebug = none := by kernel_rfl
theorem laidOut : laidOutB Try.prog = true := by kernel_rfl
end Go.Proofs.Ytkgogljfngplnaa
set_option linter.unusedVariables false
set_option linter.unusedSimpArgs false
namespace Go.Proofs.Ytkgogljfngplnaa
open Go.Eng
set_option maxRecDepth 100000

def gvn : List (List Int) := [[5, 3, 1], [2, 2, 2]]

theorem gvn_chk : chk gvn = 0 := by
  refine chk_ok ?_ ?_
  · rintro (h | ⟨i, hi, h⟩)
    · exact absurd h (by decide)
    · match i, hi with
      | 0, _ => exact absurd h (by decide)
      | 1, _ => exact absurd h (by decide)
  · rintro (h | ⟨i, hi, h | ⟨j, hj, h⟩⟩)
    · exact absurd h (by decide)
    · match i, hi with
      | 0, _ => exact absurd h (by decide)
      | 1, _ => exact absurd h (by decide)
    · match i, hi, j, hj with
      | 0, _, 0, _ => exact absurd h (by decide)
      | 0, _, 1, _ => exact absurd h (by decide)
      | 0, _, 2, _ => exact absurd h (by decide)
      | 1, _, 0, _ => exact absurd h (by decide)
      | 1, _, 1, _ => exact absurd h (by decide)
      | 1, _, 2, _ => exact absurd h (by decide)
end Go.Proofs.Ytkgogljfngplnaa
set_option linter.unusedVariables false
set_option linter.unusedSimpArgs false
namespace Go.Eng
theorem Gr.ext {a b c : World} (h : Ext a b) (k : Ext b c) : Ext a c := Gr.trans h k
theorem all_succ {p : Nat → Prop} {c : Nat} (h : ∀ i, i < c → p i) (h1 : p c) : ∀ i, i < c + 1 → p i := fun i hi => by
  by_cases e : i = c
  · subst e; exact h1
  · exact h i (by omega)
theorem VS.b3 {P : Program} {w : World} {t : TypeId} {f0 f1 f2 : Field} {N b : Nat} {z0 z1 z2 : Value} {x y z : Int} {K : Value → Prop} (ht : P.underlying t = some (.struct #[f0, f1, f2])) (hz : Elem P t (.agg #[z0, z1, z2]) N b)
    (hg : P.cellsOf f0.type = 1 ∧ P.cellsOf f1.type = 1 ∧ P.cellsOf f2.type = 1) (ho : f0.offset = 0 ∧ f1.offset = 1 ∧ f2.offset = 2) (hk : K (.agg #[.int .i64 x, .int .i64 y, .int .i64 z])) :
    VS P (Instr.build t [(0, .int .i64 x), (1, .int .i64 y), (2, .int .i64 z)].toArray) w K :=
  VS.fields (l := [f0, f1, f2]) (ps := [(0, .int .i64 x), (1, .int .i64 y), (2, .int .i64 z)]) ht hz (by simp [hg.1, hg.2.1, hg.2.2]) (by simp [ho.1, ho.2.1, ho.2.2, List.range, List.range.loop]) rfl rfl rfl (by simp [Value.cells]) hk
end Go.Eng
namespace Go.Proofs.Ytkgogljfngplnaa
open Go.Eng
theorem eMark : Elem Try.prog 102 (.agg #[.int .i64 0, .int .i64 0, .int .i64 0]) 3 24 := by unfold Elem; kernel_rfl
theorem eEnvy : Elem Try.prog 99 (.agg #[.int .i64 0, .int .i64 0, .int .i64 0]) 3 24 := by unfold Elem; kernel_rfl
/-- A list of records that the call has made. -/
abbrev OT (B : Nat) (w : World) (v : Value) (l : List T3) : Prop := Own B 102 3 w v l.length (flat3 l)
theorem OT.of {B n : Nat} {w : World} {v : Value} {l : List T3} (h : Own B 102 3 w v n (flat3 l)) : OT B w v l := by
  have e := Own.len h
  rw [flat3_len] at e
  have : n = l.length := by omega
  subst this; exact h
abbrev OE (B : Nat) (w : World) (v : Value) (l : List T3) : Prop := Own B 99 3 w v l.length (flat3 l)
theorem OE.of {B n : Nat} {w : World} {v : Value} {l : List T3} (h : Own B 99 3 w v n (flat3 l)) : OE B w v l := by
  have e := Own.len h
  rw [flat3_len] at e
  have : n = l.length := by omega
  subst this; exact h
end Go.Proofs.Ytkgogljfngplnaa
set_option linter.unusedVariables false
set_option linter.unusedSimpArgs false
namespace Go.Proofs.Ytkgogljfngplnaa
open Go.Eng
set_option maxRecDepth 100000
set_option maxHeartbeats 4000000

theorem first_at {p : Nat → Bool} {n c : Nat} (h : ∀ k, k < c → p k = false) (hc : c < n) (hp : p c = true) : firstFrom p n 0 = c := by
  rcases firstFrom_spec p n 0 with ⟨j, _, h2, h3, h4, h5⟩ | ⟨_, h2⟩
  · rw [h4]
    by_cases e : j = c
    · rw [e]
    · exfalso
      by_cases e2 : j < c
      · rw [h j e2] at h3; cases h3
      · rw [h5 c (Nat.zero_le _) (by omega)] at hp; cases hp
  · rw [h2 c (Nat.zero_le _) (by omega)] at hp; cases hp
theorem first_no {p : Nat → Bool} {n : Nat} (h : ∀ k, k < n → p k = false) : firstFrom p n 0 = -1 := by
  rcases firstFrom_spec p n 0 with ⟨j, _, h2, h3, h4, h5⟩ | ⟨h1, _⟩
  · rw [h j (by omega)] at h3; cases h3
  · exact h1

def gP (rr : List (List Int)) (a : List Int) (i : Nat) (k x : Int) (b : Bool) (j : Nat) : Bool := decide (a.getD j 0 = k) && (decide (x ≤ val rr i j) == b)
theorem firstG_eq (rr : List (List Int)) (a : List Int) (i : Nat) (k x : Int) (b : Bool) : firstG rr a i k x b = firstFrom (gP rr a i k x b) a.length 0 := by unfold firstG; simp only [Int.toNat_natCast]; rfl
theorem gP_f {rr : List (List Int)} {a : List Int} {i : Nat} {k x : Int} {j : Nat} : gP rr a i k x false j = true ↔ a.getD j 0 = k ∧ val rr i j < x := by
  unfold gP
  simp only [Bool.and_eq_true, decide_eq_true_eq, beq_iff_eq, decide_eq_false_iff_not, Int.not_le]
theorem gP_t {rr : List (List Int)} {a : List Int} {i : Nat} {k x : Int} {j : Nat} : gP rr a i k x true j = true ↔ a.getD j 0 = k ∧ x ≤ val rr i j := by
  unfold gP
  simp only [Bool.and_eq_true, decide_eq_true_eq, beq_iff_eq]
theorem boolF {b : Bool} (h : ¬ b = true) : b = false := by cases b <;> simp_all

theorem nfirst_pc {w : World} {gv av : Value} {vs : List Value} {rr : List (List Int)} {a : List Int} {i : Nat} {k x : Int} {b : Bool} (Hg : Mat w gv vs rr) (Ha : Ints w av a) (hi : i < rr.length) (hrow : (rr.getD i []).length = a.length) :
    PC Try.prog 69 [.agg #[.int .i64 i, .int .i64 k, .int .i64 x], .agg #[gv], av, .bool b] w (.int .i64 (firstG rr a i k x b)) := by
  rw [firstG_eq]
  refine PC.mk tyOk Try.func69 rfl (by kernel_rfl) fun w1 E1 => ?_
  replace Hg := Hg.ext E1
  replace Ha := Ha.ext E1
  have EE := Ext.refl w1
  have hle := Ha.le
  refine Bx.agg fun b2 w2 E2 hb2 He _ => ?_
  replace Hg := Hg.ext E2
  replace Ha := Ha.ext E2
  replace EE := EE.ext E2
  refine Bx.agg fun b3 w3 E3 hb3 Hb _ => ?_
  replace Hg := Hg.ext E3
  replace Ha := Ha.ext E3
  replace EE := EE.ext E3
  replace He := He.ext E3
  repeat' ((conv => whnf); first | (refine Dr.quiet tyOk (by kernel_rfl) ?_) | (refine Rng.mk (by omega) ?_) | (refine Split.pos (by omega) ?_) | (refine Split.neg (by omega) ?_) | (refine Split.mk (fun h => ?_) (fun h => ?_)) | (refine Need.mk (by omega) ?_) | (refine Ints.ln (by assumption) ?_) | (refine Mat.ln (by assumption) ?_) | (refine Ints.ln (Mat.row (by assumption) _ (by omega)) ?_) | (refine Ints.ix (by assumption) (by omega) ?_) | (refine Mat.ix (by assumption) (by omega) ?_) | (refine Ints.ix (Mat.row (by assumption) _ (by omega)) (by omega) ?_) | (refine Ints.ix (c := 0) (by assumption) (by omega) ?_) | (refine Mat.ix (c := 0) (by assumption) (by omega) ?_) | (refine Ints.ix (c := 0) (Mat.row (by assumption) _ (by omega)) (by omega) ?_) | (refine Ints.ixI (by assumption) (by omega) ?_) | (refine Mat.ixI (by assumption) (by omega) ?_) | (refine Ints.ixI (Mat.row (by assumption) _ (by omega)) (by omega) ?_) | (refine Ints.ld (by assumption) (by omega) ?_) | (refine Mat.ld (by assumption) (by omega) ?_) | (refine Ints.ld (Mat.row (by assumption) _ (by omega)) (by omega) ?_) | (refine At.ld (by assumption) rfl ?_) | (refine At.ldN (by assumption) rfl ?_))
  refine Lp.mk tyOk [false, false, false, false, false, false, false, false, true, true, true, false, false, true, true, true, true, true, true, true, true, true, true, true, true, true, true, true, true, true, true, true, true, true, true, true, true, true, true, true] (fun m fr wr => getK fr 13 fun j => ∃ c : Nat, c ≤ a.length ∧ m = a.length - c ∧ j = .int .i64 (c : Int) ∧ (∀ j, j < c → gP rr a i k x b j = false) ∧ wr = w3) (a.length) ?_ ?_
  · exact ⟨0, Nat.zero_le _, rfl, rfl, (by first | exact fun _ hi => absurd hi (Nat.not_lt_zero _) | exact fun _ _ hi => absurd hi (Nat.not_lt_zero _) | assumption | exact Own.nil | omega | simp), rfl⟩
  · intro m w4 u8 u9 u10 u13 u14 u15 u16 u17 u18 u19 u20 u21 u22 u23 u24 u25 u26 u27 u28 u29 u30 u31 u32 u33 u34 u35 u36 u37 u38 u39 hR
    obtain ⟨c, hc, rfl, rfl, hv, rfl⟩ := hR
    have hvd : (rr.getD i []).getD c 0 = val rr i c := rfl
    cases b
    · repeat' ((conv => whnf); first | (refine Dr.quiet tyOk (by kernel_rfl) ?_) | (refine Rng.mk (by omega) ?_) | (refine Split.pos (by omega) ?_) | (refine Split.neg (by omega) ?_) | (refine Split.mk (fun h => ?_) (fun h => ?_)) | (refine Need.mk (by omega) ?_) | (refine Ints.ln (by assumption) ?_) | (refine Mat.ln (by assumption) ?_) | (refine Ints.ln (Mat.row (by assumption) _ (by omega)) ?_) | (refine Ints.ix (by assumption) (by omega) ?_) | (refine Mat.ix (by assumption) (by omega) ?_) | (refine Ints.ix (Mat.row (by assumption) _ (by omega)) (by omega) ?_) | (refine Ints.ix (c := 0) (by assumption) (by omega) ?_) | (refine Mat.ix (c := 0) (by assumption) (by omega) ?_) | (refine Ints.ix (c := 0) (Mat.row (by assumption) _ (by omega)) (by omega) ?_) | (refine Ints.ixI (by assumption) (by omega) ?_) | (refine Mat.ixI (by assumption) (by omega) ?_) | (refine Ints.ixI (Mat.row (by assumption) _ (by omega)) (by omega) ?_) | (refine Ints.ld (by assumption) (by omega) ?_) | (refine Mat.ld (by assumption) (by omega) ?_) | (refine Ints.ld (Mat.row (by assumption) _ (by omega)) (by omega) ?_) | (refine At.ld (by assumption) rfl ?_) | (refine At.ldN (by assumption) rfl ?_))
      all_goals first
        | (rw [first_at hv (by omega) (gP_f.2 ⟨by omega, by omega⟩)]; exact ⟨rfl, EE⟩) | (refine ⟨_, (by omega : a.length - (c + 1) < a.length - c), rfl, c + 1, by omega, rfl, rfl, all_succ hv (boolF (fun h => by have := gP_f.1 h; omega)), rfl⟩)
        | (obtain rfl : c = a.length := by omega
           rw [first_no hv]; exact ⟨rfl, EE⟩)
    · repeat' ((conv => whnf); first | (refine Dr.quiet tyOk (by kernel_rfl) ?_) | (refine Rng.mk (by omega) ?_) | (refine Split.pos (by omega) ?_) | (refine Split.neg (by omega) ?_) | (refine Split.mk (fun h => ?_) (fun h => ?_)) | (refine Need.mk (by omega) ?_) | (refine Ints.ln (by assumption) ?_) | (refine Mat.ln (by assumption) ?_) | (refine Ints.ln (Mat.row (by assumption) _ (by omega)) ?_) | (refine Ints.ix (by assumption) (by omega) ?_) | (refine Mat.ix (by assumption) (by omega) ?_) | (refine Ints.ix (Mat.row (by assumption) _ (by omega)) (by omega) ?_) | (refine Ints.ix (c := 0) (by assumption) (by omega) ?_) | (refine Mat.ix (c := 0) (by assumption) (by omega) ?_) | (refine Ints.ix (c := 0) (Mat.row (by assumption) _ (by omega)) (by omega) ?_) | (refine Ints.ixI (by assumption) (by omega) ?_) | (refine Mat.ixI (by assumption) (by omega) ?_) | (refine Ints.ixI (Mat.row (by assumption) _ (by omega)) (by omega) ?_) | (refine Ints.ld (by assumption) (by omega) ?_) | (refine Mat.ld (by assumption) (by omega) ?_) | (refine Ints.ld (Mat.row (by assumption) _ (by omega)) (by omega) ?_) | (refine At.ld (by assumption) rfl ?_) | (refine At.ldN (by assumption) rfl ?_))
      all_goals first
        | (rw [first_at hv (by omega) (gP_t.2 ⟨by omega, by omega⟩)]; exact ⟨rfl, EE⟩) | (refine ⟨_, (by omega : a.length - (c + 1) < a.length - c), rfl, c + 1, by omega, rfl, rfl, all_succ hv (boolF (fun h => by have := gP_t.1 h; omega)), rfl⟩)
        | (obtain rfl : c = a.length := by omega
           rw [first_no hv]; exact ⟨rfl, EE⟩)
end Go.Proofs.Ytkgogljfngplnaa
set_option linter.unusedVariables false
set_option linter.unusedSimpArgs false
namespace Go.Proofs.Ytkgogljfngplnaa
open Go.Eng
set_option maxRecDepth 100000
set_option maxHeartbeats 4000000

theorem evs_len (rr : List (List Int)) (a : List Int) : (evs rr a).length = (envs rr a).length := by simp [evs]
theorem evs_get {rr : List (List Int)} {a : List Int} {c : Nat} (h : c < (envs rr a).length) : (evs rr a).getD c (0, 0, 0) = (((envs rr a).getD c (0, 0)).1, ((envs rr a).getD c (0, 0)).2, moreV rr a ((envs rr a).getD c (0, 0)).1.toNat ((envs rr a).getD c (0, 0)).2.toNat) := by
  simp [evs, List.getD, h]
theorem envs_in {rr : List (List Int)} {a : List Int} {c : Nat} (h : c < (envs rr a).length) : ∃ i k : Nat, i < rr.length ∧ k < rr.length ∧ wth rr a i i < wth rr a i k ∧ (envs rr a).getD c (0, 0) = ((i : Int), (k : Int)) := by
  have hm : (envs rr a).getD c (0, 0) ∈ envs rr a := by rw [List.getD, List.getElem?_eq_getElem h]; exact List.getElem_mem h
  obtain ⟨i, k, hi, hk, hl, e⟩ := mem_envTo.1 hm
  exact ⟨i, k, hi, hk, hl, e⟩
theorem envs_le {rr : List (List Int)} {a : List Int} (h : rr.length ≤ 6) : (envs rr a).length ≤ 36 := by
  have := envTo_len (fun i (k : Nat) => wth rr a i k) rr.length rr.length
  have h2 := Nat.mul_le_mul h h
  unfold envs; omega

theorem nenvies_rc {w : World} {gv av : Value} {vs : List Value} {rr : List (List Int)} {a : List Int} (Hg : Mat w gv vs rr) (Ha : Ints w av a) :
    RC Try.prog 68 [.agg #[gv], av] w NoB (fun u w' => ∃ v, u = .tuple #[v, .int .i64 (vld rr a)] ∧ OE w.heap.size w' v (evsR rr a)) := by
  refine RC.mk tyOk Try.func68 rfl (by kernel_rfl) fun w1 E1 => ?_
  replace Hg := Hg.ext E1
  replace Ha := Ha.ext E1
  have EE := Ext.refl w1
  refine Bx.agg fun b2 w2 E2 hb2 Hb _ => ?_
  replace Hg := Hg.ext E2
  replace Ha := Ha.ext E2
  replace EE := EE.ext E2
  conv => whnf
  refine At.ldN Hb rfl ?_
  conv => whnf
  refine VC.rc (gvalues_rc Hg Ha) ?_
  rintro _ w3 E3 ⟨v, us, rfl, HO⟩
  replace Hg := Hg.ext E3
  replace Ha := Ha.ext E3
  replace EE := EE.ext E3
  replace Hb := Hb.ext E3
  by_cases hv : vld rr a = 0
  · have hal := al_of_vld hv
    have hn := hal.n6
    have hm := hal.m10
    have hlen := hal.len
    rw [valsR, if_pos hv] at HO
    have HV := HO.mat
    have hvl := vals_len rr a
    repeat' ((conv => whnf); first | (refine Dr.quiet tyOk (by kernel_rfl) ?_) | (refine Rng.mk (by omega) ?_) | (refine Split.pos (by omega) ?_) | (refine Split.neg (by omega) ?_) | (refine Split.mk (fun h => ?_) (fun h => ?_)) | (refine Need.mk (by omega) ?_) | (refine Ints.ln (by assumption) ?_) | (refine Mat.ln (by assumption) ?_) | (refine Ints.ln (Mat.row (by assumption) _ (by omega)) ?_) | (refine Ints.ix (by assumption) (by omega) ?_) | (refine Mat.ix (by assumption) (by omega) ?_) | (refine Ints.ix (Mat.row (by assumption) _ (by omega)) (by omega) ?_) | (refine Ints.ix (c := 0) (by assumption) (by omega) ?_) | (refine Mat.ix (c := 0) (by assumption) (by omega) ?_) | (refine Ints.ix (c := 0) (Mat.row (by assumption) _ (by omega)) (by omega) ?_) | (refine Ints.ixI (by assumption) (by omega) ?_) | (refine Mat.ixI (by assumption) (by omega) ?_) | (refine Ints.ixI (Mat.row (by assumption) _ (by omega)) (by omega) ?_) | (refine Ints.ld (by assumption) (by omega) ?_) | (refine Mat.ld (by assumption) (by omega) ?_) | (refine Ints.ld (Mat.row (by assumption) _ (by omega)) (by omega) ?_) | (refine At.ld (by assumption) rfl ?_) | (refine At.ldN (by assumption) rfl ?_))
    conv => whnf
    refine VC.rc (genvies_rc Hg Ha) ?_
    rintro _ w4 E4 ⟨pv, rfl, HP⟩
    replace Hg := Hg.ext E4
    replace Ha := Ha.ext E4
    replace EE := EE.ext E4
    replace Hb := Hb.ext E4
    replace HV := HV.ext E4
    rw [envsR, if_pos hv] at HP
    have HPs : Prs _ pv _ := Own.sl HP
    have hel := envs_le (a := a) hn
    repeat' ((conv => whnf); first | (refine Dr.quiet tyOk (by kernel_rfl) ?_) | (refine Rng.mk (by omega) ?_) | (refine Split.pos (by omega) ?_) | (refine Split.neg (by omega) ?_) | (refine Split.mk (fun h => ?_) (fun h => ?_)) | (refine Need.mk (by omega) ?_) | (refine Ints.ln (by assumption) ?_) | (refine Mat.ln (by assumption) ?_) | (refine Ints.ln (Mat.row (by assumption) _ (by omega)) ?_) | (refine Ints.ix (by assumption) (by omega) ?_) | (refine Mat.ix (by assumption) (by omega) ?_) | (refine Ints.ix (Mat.row (by assumption) _ (by omega)) (by omega) ?_) | (refine Ints.ix (c := 0) (by assumption) (by omega) ?_) | (refine Mat.ix (c := 0) (by assumption) (by omega) ?_) | (refine Ints.ix (c := 0) (Mat.row (by assumption) _ (by omega)) (by omega) ?_) | (refine Ints.ixI (by assumption) (by omega) ?_) | (refine Mat.ixI (by assumption) (by omega) ?_) | (refine Ints.ixI (Mat.row (by assumption) _ (by omega)) (by omega) ?_) | (refine Ints.ld (by assumption) (by omega) ?_) | (refine Mat.ld (by assumption) (by omega) ?_) | (refine Ints.ld (Mat.row (by assumption) _ (by omega)) (by omega) ?_) | (refine At.ld (by assumption) rfl ?_) | (refine At.ldN (by assumption) rfl ?_) | (refine Prs.ln (by assumption) ?_) | (refine Trs.ln (by assumption) ?_) | (refine Prs.ix (by assumption) (by omega) ?_) | (refine Trs.ix (by assumption) (by omega) ?_) | (refine Prs.ldN (by assumption) (by omega) ?_) | (refine Trs.ldN (by assumption) (by omega) ?_) | (refine At.ldN (Blk.at (by assumption)) rfl ?_) | (refine At.ld (Blk.at (by assumption)) rfl ?_) | (refine IxA.mk (by omega) ?_) | (refine Sl.ln (Own.sl (by assumption)) ?_) | (refine Ints.ix (Own.sl (by assumption)) (by omega) ?_) | (refine Ints.ixI (Own.sl (by assumption)) (by omega) ?_) | (refine Ints.ld (Own.sl (by assumption)) (by omega) ?_))
    have Hg__1 := Hg
    have Ha__1 := Ha
    have EE__1 := EE
    have Hb__1 := Hb
    have HV__1 := HV
    have HPs__1 := HPs
    have hz1 := Nat.le_trans E1.size EE.size
    refine Lp.mk tyOk [false, false, false, false, false, false, false, false, false, false, true, false, true, false, false, false, false, false, false, false, false, false, false, false, false, false, false, false, false, false, true, true, true, true, true, true, true, true, true, true, true, true, true, true, true, true, true, true, true, true, true, true, true, true, true, true, true, true, true, true, true, true] (fun m fr wr => getK fr 10 fun ov => getK fr 30 fun j => ∃ c : Nat, c ≤ (envs rr a).length ∧ m = (envs rr a).length - c ∧ j = .int .i64 (c : Int) ∧ (OE w4.heap.size wr ov ((evs rr a).take c)) ∧ Ext w4 wr) ((envs rr a).length) ?_ ?_
    · exact ⟨0, Nat.zero_le _, rfl, rfl, Own.nil, Ext.refl _⟩
    · intro m w5 u10 u12 u30 u31 u32 u33 u34 u35 u36 u37 u38 u39 u40 u41 u42 u43 u44 u45 u46 u47 u48 u49 u50 u51 u52 u53 u54 u55 u56 u57 u58 u59 u60 u61 hR
      obtain ⟨c, hc, rfl, rfl, Ho, EL1⟩ := hR
      replace Hg := Hg__1.ext EL1
      replace Ha := Ha__1.ext EL1
      replace EE := EE__1.ext EL1
      replace Hb := Hb__1.ext EL1
      replace HV := HV__1.ext EL1
      replace HPs := HPs__1.ext EL1
      have htk : ((evs rr a).take c).length = c := by rw [List.length_take, evs_len]; omega
      repeat' ((conv => whnf); first | (refine Dr.quiet tyOk (by kernel_rfl) ?_) | (refine Rng.mk (by omega) ?_) | (refine Split.pos (by omega) ?_) | (refine Split.neg (by omega) ?_) | (refine Split.mk (fun h => ?_) (fun h => ?_)) | (refine Need.mk (by omega) ?_) | (refine Ints.ln (by assumption) ?_) | (refine Mat.ln (by assumption) ?_) | (refine Ints.ln (Mat.row (by assumption) _ (by omega)) ?_) | (refine Ints.ix (by assumption) (by omega) ?_) | (refine Mat.ix (by assumption) (by omega) ?_) | (refine Ints.ix (Mat.row (by assumption) _ (by omega)) (by omega) ?_) | (refine Ints.ix (c := 0) (by assumption) (by omega) ?_) | (refine Mat.ix (c := 0) (by assumption) (by omega) ?_) | (refine Ints.ix (c := 0) (Mat.row (by assumption) _ (by omega)) (by omega) ?_) | (refine Ints.ixI (by assumption) (by omega) ?_) | (refine Mat.ixI (by assumption) (by omega) ?_) | (refine Ints.ixI (Mat.row (by assumption) _ (by omega)) (by omega) ?_) | (refine Ints.ld (by assumption) (by omega) ?_) | (refine Mat.ld (by assumption) (by omega) ?_) | (refine Ints.ld (Mat.row (by assumption) _ (by omega)) (by omega) ?_) | (refine At.ld (by assumption) rfl ?_) | (refine At.ldN (by assumption) rfl ?_) | (refine Prs.ln (by assumption) ?_) | (refine Trs.ln (by assumption) ?_) | (refine Prs.ix (by assumption) (by omega) ?_) | (refine Trs.ix (by assumption) (by omega) ?_) | (refine Prs.ldN (by assumption) (by omega) ?_) | (refine Trs.ldN (by assumption) (by omega) ?_) | (refine At.ldN (Blk.at (by assumption)) rfl ?_) | (refine At.ld (Blk.at (by assumption)) rfl ?_) | (refine IxA.mk (by omega) ?_) | (refine Sl.ln (Own.sl (by assumption)) ?_) | (refine Ints.ix (Own.sl (by assumption)) (by omega) ?_) | (refine Ints.ixI (Own.sl (by assumption)) (by omega) ?_) | (refine Ints.ld (Own.sl (by assumption)) (by omega) ?_))
      · obtain ⟨i, k, hi, hk, hlt, hik⟩ := envs_in (rr := rr) (a := a) (c := c) (by omega)
        have e1 := vals_get (rr := rr) (a := a) hi hk
        have e2 := vals_get (rr := rr) (a := a) hi hi
        have hl1 := vals_rlen (rr := rr) (a := a) hi
        have hw1 := wth_bd (a := a) hal.toGd i k
        have hw2 := wth_bd (a := a) hal.toGd i i
        rw [hik]
        have Hg__2 := Hg
        have Ha__2 := Ha
        have EE__2 := EE
        have Hb__2 := Hb
        have HV__2 := HV
        have HPs__2 := HPs
        have EL1__2 := EL1
        have Ho__2 := Ho
        conv => whnf
        refine VE.alloc ePair fun pb w6 E6 hb_pb Hk => ?_
        replace Hg := Hg.ext E6
        replace Ha := Ha.ext E6
        replace EE := EE.ext E6
        replace Hb := Hb.ext E6
        replace HV := HV.ext E6
        replace HPs := HPs.ext E6
        replace EL1 := EL1.ext E6
        replace Ho := Ho.ext E6
        have EL2 := E6
        conv => whnf
        refine Blk.all Hk (by kernel_rfl) (by first | decide | simp) rfl rfl (by intro v hv; simp at hv; rcases hv with rfl | rfl | rfl | rfl | rfl <;> rfl) fun w7 G7 Hk' => ?_
        have E7 : Ext w5 w7 := EL2.new G7 fun i hi hk => by omega
        replace Hk := Hk'
        replace Hg := Hg__2.ext E7
        replace Ha := Ha__2.ext E7
        replace EE := EE__2.ext E7
        replace Hb := Hb__2.ext E7
        replace HV := HV__2.ext E7
        replace HPs := HPs__2.ext E7
        replace EL1 := EL1__2.ext E7
        replace Ho := Ho__2.ext E7
        replace EL2 := E7
        repeat' ((conv => whnf); first | (refine Dr.plan 34 [26] (.q 0 (.q 1 (.q 2 (.q 3 (.q 4 (.q 5 (.q 6 (.q 7 (.q 8 (.q 9 (.q 10 (.q 11 (.q 12 (.q 13 (.q 14 (.q 15 (.q 16 (.q 17 (.q 18 (.q 19 (.q 20 (.q 21 (.q 22 (.q 23 (.q 24 (.e 25 (.e 26 (.q 27 .nil) .nil) .nil)))))))))))))))))))))))))) tyOk rfl (by kernel_rfl) ?_) | (refine Dr.quiet tyOk (by kernel_rfl) ?_) | (refine VS.b3 Try.underlying99 eEnvy (by decide +kernel) ⟨rfl, rfl, rfl⟩ ?_) | (refine Rng.mk (by omega) ?_) | (refine Split.pos (by omega) ?_) | (refine Split.neg (by omega) ?_) | (refine Split.mk (fun h => ?_) (fun h => ?_)) | (refine Need.mk (by omega) ?_) | (refine Ints.ln (by assumption) ?_) | (refine Mat.ln (by assumption) ?_) | (refine Ints.ln (Mat.row (by assumption) _ (by omega)) ?_) | (refine Ints.ix (by assumption) (by omega) ?_) | (refine Mat.ix (by assumption) (by omega) ?_) | (refine Ints.ix (Mat.row (by assumption) _ (by omega)) (by omega) ?_) | (refine Ints.ix (c := 0) (by assumption) (by omega) ?_) | (refine Mat.ix (c := 0) (by assumption) (by omega) ?_) | (refine Ints.ix (c := 0) (Mat.row (by assumption) _ (by omega)) (by omega) ?_) | (refine Ints.ixI (by assumption) (by omega) ?_) | (refine Mat.ixI (by assumption) (by omega) ?_) | (refine Ints.ixI (Mat.row (by assumption) _ (by omega)) (by omega) ?_) | (refine Ints.ld (by assumption) (by omega) ?_) | (refine Mat.ld (by assumption) (by omega) ?_) | (refine Ints.ld (Mat.row (by assumption) _ (by omega)) (by omega) ?_) | (refine At.ld (by assumption) rfl ?_) | (refine At.ldN (by assumption) rfl ?_) | (refine Prs.ln (by assumption) ?_) | (refine Trs.ln (by assumption) ?_) | (refine Prs.ix (by assumption) (by omega) ?_) | (refine Trs.ix (by assumption) (by omega) ?_) | (refine Prs.ldN (by assumption) (by omega) ?_) | (refine Trs.ldN (by assumption) (by omega) ?_) | (refine At.ldN (Blk.at (by assumption)) rfl ?_) | (refine At.ld (Blk.at (by assumption)) rfl ?_) | (refine IxA.mk (by omega) ?_) | (refine Sl.ln (Own.sl (by assumption)) ?_) | (refine Ints.ix (Own.sl (by assumption)) (by omega) ?_) | (refine Ints.ixI (Own.sl (by assumption)) (by omega) ?_) | (refine Ints.ld (Own.sl (by assumption)) (by omega) ?_))
        refine VX.lit1A Try.underlying95 eEnvy rfl (by decide) fun lv w8 E8 Hl => ?_
        replace Hg := Hg.ext E8
        replace Ha := Ha.ext E8
        replace EE := EE.ext E8
        replace Hb := Hb.ext E8
        replace HV := HV.ext E8
        replace HPs := HPs.ext E8
        replace EL1 := EL1.ext E8
        replace Ho := Ho.ext E8
        replace EL2 := EL2.ext E8
        replace Hk := Hk.ext E8
        conv => whnf
        refine VE.app Try.underlying95 eEnvy rfl (by omega) Ho EL1 rfl Hl (by simp [Value.oneCell']) (by first | omega | (simp only [List.length_map, List.length_range]; omega) | (simp; omega)) (by first | omega | (simp only [List.length_map, List.length_range]; omega) | (simp; omega)) fun v8 w9 E9 G9 H8 => ?_
        replace Hg := Hg__1.ext E9
        replace Ha := Ha__1.ext E9
        replace EE := EE__1.ext E9
        replace Hb := Hb__1.ext E9
        replace HV := HV__1.ext E9
        replace HPs := HPs__1.ext E9
        replace EL1 := E9
        repeat' ((conv => whnf); first | (refine Dr.quiet tyOk (by kernel_rfl) ?_) | (refine Rng.mk (by omega) ?_) | (refine Split.pos (by omega) ?_) | (refine Split.neg (by omega) ?_) | (refine Split.mk (fun h => ?_) (fun h => ?_)) | (refine Need.mk (by omega) ?_) | (refine Ints.ln (by assumption) ?_) | (refine Mat.ln (by assumption) ?_) | (refine Ints.ln (Mat.row (by assumption) _ (by omega)) ?_) | (refine Ints.ix (by assumption) (by omega) ?_) | (refine Mat.ix (by assumption) (by omega) ?_) | (refine Ints.ix (Mat.row (by assumption) _ (by omega)) (by omega) ?_) | (refine Ints.ix (c := 0) (by assumption) (by omega) ?_) | (refine Mat.ix (c := 0) (by assumption) (by omega) ?_) | (refine Ints.ix (c := 0) (Mat.row (by assumption) _ (by omega)) (by omega) ?_) | (refine Ints.ixI (by assumption) (by omega) ?_) | (refine Mat.ixI (by assumption) (by omega) ?_) | (refine Ints.ixI (Mat.row (by assumption) _ (by omega)) (by omega) ?_) | (refine Ints.ld (by assumption) (by omega) ?_) | (refine Mat.ld (by assumption) (by omega) ?_) | (refine Ints.ld (Mat.row (by assumption) _ (by omega)) (by omega) ?_) | (refine At.ld (by assumption) rfl ?_) | (refine At.ldN (by assumption) rfl ?_) | (refine Prs.ln (by assumption) ?_) | (refine Trs.ln (by assumption) ?_) | (refine Prs.ix (by assumption) (by omega) ?_) | (refine Trs.ix (by assumption) (by omega) ?_) | (refine Prs.ldN (by assumption) (by omega) ?_) | (refine Trs.ldN (by assumption) (by omega) ?_) | (refine At.ldN (Blk.at (by assumption)) rfl ?_) | (refine At.ld (Blk.at (by assumption)) rfl ?_) | (refine IxA.mk (by omega) ?_) | (refine Sl.ln (Own.sl (by assumption)) ?_) | (refine Ints.ix (Own.sl (by assumption)) (by omega) ?_) | (refine Ints.ixI (Own.sl (by assumption)) (by omega) ?_) | (refine Ints.ld (Own.sl (by assumption)) (by omega) ?_))
        refine ⟨_, (by omega : (envs rr a).length - (c + 1) < (envs rr a).length - c), rfl, c + 1, by omega, rfl, rfl, ?_, EL1⟩
        rw [take_snoc (0, 0, 0) _ _ (by rw [evs_len]; omega), evs_get (by omega), hik]
        rw [e1, e2, flat3_snoc] at H8
        exact OE.of H8
      · obtain rfl : c = (envs rr a).length := by omega
        refine ⟨EE, _, by rw [hv], ?_⟩
        rw [evsR, if_pos hv]
        rw [List.take_of_length_le (by rw [evs_len]; omega)] at Ho
        exact Own.base Ho hz1
  · repeat' ((conv => whnf); first | (refine Dr.quiet tyOk (by kernel_rfl) ?_) | (refine Rng.mk (by omega) ?_) | (refine Split.pos (by omega) ?_) | (refine Split.neg (by omega) ?_) | (refine Split.mk (fun h => ?_) (fun h => ?_)) | (refine Need.mk (by omega) ?_) | (refine Ints.ln (by assumption) ?_) | (refine Mat.ln (by assumption) ?_) | (refine Ints.ln (Mat.row (by assumption) _ (by omega)) ?_) | (refine Ints.ix (by assumption) (by omega) ?_) | (refine Mat.ix (by assumption) (by omega) ?_) | (refine Ints.ix (Mat.row (by assumption) _ (by omega)) (by omega) ?_) | (refine Ints.ix (c := 0) (by assumption) (by omega) ?_) | (refine Mat.ix (c := 0) (by assumption) (by omega) ?_) | (refine Ints.ix (c := 0) (Mat.row (by assumption) _ (by omega)) (by omega) ?_) | (refine Ints.ixI (by assumption) (by omega) ?_) | (refine Mat.ixI (by assumption) (by omega) ?_) | (refine Ints.ixI (Mat.row (by assumption) _ (by omega)) (by omega) ?_) | (refine Ints.ld (by assumption) (by omega) ?_) | (refine Mat.ld (by assumption) (by omega) ?_) | (refine Ints.ld (Mat.row (by assumption) _ (by omega)) (by omega) ?_) | (refine At.ld (by assumption) rfl ?_) | (refine At.ldN (by assumption) rfl ?_))
    refine ⟨EE, _, rfl, ?_⟩
    rw [evsR, if_neg hv]
    exact Own.nil
end Go.Proofs.Ytkgogljfngplnaa
set_option linter.unusedVariables false
set_option linter.unusedSimpArgs false
namespace Go.Proofs.Ytkgogljfngplnaa
open Go.Eng
set_option maxRecDepth 100000
set_option maxHeartbeats 4000000

theorem evs_in {rr : List (List Int)} {a : List Int} {c : Nat} (h : c < (evs rr a).length) : ∃ i k : Nat, i < rr.length ∧ k < rr.length ∧ wth rr a i i < wth rr a i k ∧ (evs rr a).getD c (0, 0, 0) = ((i : Int), (k : Int), moreV rr a i k) := by
  rw [evs_len] at h
  obtain ⟨i, k, hi, hk, hl, e⟩ := envs_in h
  refine ⟨i, k, hi, hk, hl, ?_⟩
  rw [evs_get h, e]
  simp
theorem fm_len {α β : Type} {f : α → List β} (h : ∀ x, (f x).length ≤ 1) : ∀ l : List α, (l.flatMap f).length ≤ l.length
  | [] => by simp
  | x :: l => by have := fm_len h l; have := h x; simp only [List.flatMap_cons, List.length_append, List.length_cons]; omega
theorem fm_snoc {α β : Type} {f : α → List β} {l : List α} {x d : α} {c : Nat} (h : c < l.length) (e : l.getD c d = x) : (l.take (c + 1)).flatMap f = (l.take c).flatMap f ++ f x := by
  rw [take_snoc d l c h, e, List.flatMap_append]; simp
theorem markOf_len (rr : List (List Int)) (a : List Int) (b : Bool) (x : T3) : (markOf rr a b x).length ≤ 1 := by unfold markOf; split <;> simp
theorem missOf_len (rr : List (List Int)) (a : List Int) (x : T3) : (missOf rr a x).length ≤ 1 := by unfold missOf; split <;> simp

theorem none_rc {w : World} {gv av : Value} {vs : List Value} {rr : List (List Int)} {a : List Int} (Hg : Mat w gv vs rr) (Ha : Ints w av a) :
    RC Try.prog 52 [.agg #[gv], av] w NoB (fun u w' => ∃ mv xv, u = .tuple #[mv, xv, .int .i64 (vld rr a)] ∧ OT w.heap.size w' mv (oneM rr a) ∧ OP w.heap.size w' xv (oneX rr a)) := by
  refine RC.mk tyOk Try.func52 rfl (by kernel_rfl) fun w1 E1 => ?_
  replace Hg := Hg.ext E1
  replace Ha := Ha.ext E1
  have EE := Ext.refl w1
  refine Bx.agg fun b2 w2 E2 hb2 Hb _ => ?_
  replace Hg := Hg.ext E2
  replace Ha := Ha.ext E2
  replace EE := EE.ext E2
  conv => whnf
  refine At.ldN Hb rfl ?_
  conv => whnf
  refine VC.rc (nenvies_rc Hg Ha) ?_
  rintro _ w3 E3 ⟨v, rfl, HO⟩
  replace Hg := Hg.ext E3
  replace Ha := Ha.ext E3
  replace EE := EE.ext E3
  replace Hb := Hb.ext E3
  by_cases hv : vld rr a = 0
  · have hal := al_of_vld hv
    have hn := hal.n6
    have hlen := hal.len
    have hrow := hal.row
    rw [evsR, if_pos hv] at HO
    have HT : Trs _ v _ := Own.sl HO
    have hel := envs_le (a := a) hn
    rw [← evs_len] at hel
    repeat' ((conv => whnf); first | (refine Dr.quiet tyOk (by kernel_rfl) ?_) | (refine Rng.mk (by omega) ?_) | (refine Split.pos (by omega) ?_) | (refine Split.neg (by omega) ?_) | (refine Split.mk (fun h => ?_) (fun h => ?_)) | (refine Need.mk (by omega) ?_) | (refine Ints.ln (by assumption) ?_) | (refine Mat.ln (by assumption) ?_) | (refine Ints.ln (Mat.row (by assumption) _ (by omega)) ?_) | (refine Ints.ix (by assumption) (by omega) ?_) | (refine Mat.ix (by assumption) (by omega) ?_) | (refine Ints.ix (Mat.row (by assumption) _ (by omega)) (by omega) ?_) | (refine Ints.ix (c := 0) (by assumption) (by omega) ?_) | (refine Mat.ix (c := 0) (by assumption) (by omega) ?_) | (refine Ints.ix (c := 0) (Mat.row (by assumption) _ (by omega)) (by omega) ?_) | (refine Ints.ixI (by assumption) (by omega) ?_) | (refine Mat.ixI (by assumption) (by omega) ?_) | (refine Ints.ixI (Mat.row (by assumption) _ (by omega)) (by omega) ?_) | (refine Ints.ld (by assumption) (by omega) ?_) | (refine Mat.ld (by assumption) (by omega) ?_) | (refine Ints.ld (Mat.row (by assumption) _ (by omega)) (by omega) ?_) | (refine At.ld (by assumption) rfl ?_) | (refine At.ldN (by assumption) rfl ?_) | (refine Prs.ln (by assumption) ?_) | (refine Trs.ln (by assumption) ?_) | (refine Prs.ix (by assumption) (by omega) ?_) | (refine Trs.ix (by assumption) (by omega) ?_) | (refine Prs.ldN (by assumption) (by omega) ?_) | (refine Trs.ldN (by assumption) (by omega) ?_) | (refine At.ldN (Blk.at (by assumption)) rfl ?_) | (refine At.ld (Blk.at (by assumption)) rfl ?_) | (refine IxA.mk (by omega) ?_) | (refine Sl.ln (Own.sl (by assumption)) ?_) | (refine Ints.ix (Own.sl (by assumption)) (by omega) ?_) | (refine Ints.ixI (Own.sl (by assumption)) (by omega) ?_) | (refine Ints.ld (Own.sl (by assumption)) (by omega) ?_))
    have Hg__1 := Hg
    have Ha__1 := Ha
    have EE__1 := EE
    have Hb__1 := Hb
    have HT__1 := HT
    have hz1 := Nat.le_trans E1.size EE.size
    refine Lp.mk tyOk [false, false, false, false, true, true, false, false, false, true, true, false, false, false, false, false, false, false, false, false, false, false, true, true, true, true, true, true, true, true, true, true, true, true, true, true, true, true, true, true, true, true, true, true, true, true, true, true, true, true] (fun m fr wr => getK fr 4 fun mv => getK fr 5 fun xv => getK fr 22 fun j => ∃ c : Nat, c ≤ (evs rr a).length ∧ m = (evs rr a).length - c ∧ j = .int .i64 (c : Int) ∧ (OT w3.heap.size wr mv (((evs rr a).take c).flatMap (markOf rr a true))) ∧ (OP w3.heap.size wr xv (((evs rr a).take c).flatMap (missOf rr a))) ∧ Ext w3 wr) ((evs rr a).length) ?_ ?_
    · exact ⟨0, Nat.zero_le _, rfl, rfl, Own.nil, Own.nil, Ext.refl _⟩
    · intro m w4 u4 u5 u9 u10 u22 u23 u24 u25 u26 u27 u28 u29 u30 u31 u32 u33 u34 u35 u36 u37 u38 u39 u40 u41 u42 u43 u44 u45 u46 u47 u48 u49 hR
      obtain ⟨c, hc, rfl, rfl, Hm, Hx, EL1⟩ := hR
      replace Hg := Hg__1.ext EL1
      replace Ha := Ha__1.ext EL1
      replace EE := EE__1.ext EL1
      replace Hb := Hb__1.ext EL1
      replace HT := HT__1.ext EL1
      have hml := fm_len (markOf_len rr a true) ((evs rr a).take c)
      have hxl := fm_len (missOf_len rr a) ((evs rr a).take c)
      rw [List.length_take] at hml hxl
      repeat' ((conv => whnf); first | (refine Dr.quiet tyOk (by kernel_rfl) ?_) | (refine Rng.mk (by omega) ?_) | (refine Split.pos (by omega) ?_) | (refine Split.neg (by omega) ?_) | (refine Split.mk (fun h => ?_) (fun h => ?_)) | (refine Need.mk (by omega) ?_) | (refine Ints.ln (by assumption) ?_) | (refine Mat.ln (by assumption) ?_) | (refine Ints.ln (Mat.row (by assumption) _ (by omega)) ?_) | (refine Ints.ix (by assumption) (by omega) ?_) | (refine Mat.ix (by assumption) (by omega) ?_) | (refine Ints.ix (Mat.row (by assumption) _ (by omega)) (by omega) ?_) | (refine Ints.ix (c := 0) (by assumption) (by omega) ?_) | (refine Mat.ix (c := 0) (by assumption) (by omega) ?_) | (refine Ints.ix (c := 0) (Mat.row (by assumption) _ (by omega)) (by omega) ?_) | (refine Ints.ixI (by assumption) (by omega) ?_) | (refine Mat.ixI (by assumption) (by omega) ?_) | (refine Ints.ixI (Mat.row (by assumption) _ (by omega)) (by omega) ?_) | (refine Ints.ld (by assumption) (by omega) ?_) | (refine Mat.ld (by assumption) (by omega) ?_) | (refine Ints.ld (Mat.row (by assumption) _ (by omega)) (by omega) ?_) | (refine At.ld (by assumption) rfl ?_) | (refine At.ldN (by assumption) rfl ?_) | (refine Prs.ln (by assumption) ?_) | (refine Trs.ln (by assumption) ?_) | (refine Prs.ix (by assumption) (by omega) ?_) | (refine Trs.ix (by assumption) (by omega) ?_) | (refine Prs.ldN (by assumption) (by omega) ?_) | (refine Trs.ldN (by assumption) (by omega) ?_) | (refine At.ldN (Blk.at (by assumption)) rfl ?_) | (refine At.ld (Blk.at (by assumption)) rfl ?_) | (refine IxA.mk (by omega) ?_) | (refine Sl.ln (Own.sl (by assumption)) ?_) | (refine Ints.ix (Own.sl (by assumption)) (by omega) ?_) | (refine Ints.ixI (Own.sl (by assumption)) (by omega) ?_) | (refine Ints.ld (Own.sl (by assumption)) (by omega) ?_))
      · obtain ⟨i, k, hi, hk, hlt, hik⟩ := evs_in (rr := rr) (a := a) (c := c) (by omega)
        rw [hik]
        have Hg__2 := Hg
        have Ha__2 := Ha
        have EE__2 := EE
        have Hb__2 := Hb
        have HT__2 := HT
        have EL1__2 := EL1
        have Hm__2 := Hm
        have Hx__2 := Hx
        conv => whnf
        refine VE.alloc eEnvy fun xb w5 E5 hb_xb Hk => ?_
        replace Hg := Hg.ext E5
        replace Ha := Ha.ext E5
        replace EE := EE.ext E5
        replace Hb := Hb.ext E5
        replace HT := HT.ext E5
        replace EL1 := EL1.ext E5
        replace Hm := Hm.ext E5
        replace Hx := Hx.ext E5
        have EL2 := E5
        conv => whnf
        refine Blk.all Hk (by kernel_rfl) (by first | decide | simp) rfl rfl (by intro v hv; simp at hv; rcases hv with rfl | rfl | rfl | rfl | rfl <;> rfl) fun w6 G6 Hk' => ?_
        have E6 : Ext w4 w6 := EL2.new G6 fun i hi hk => by omega
        replace Hk := Hk'
        replace Hg := Hg__2.ext E6
        replace Ha := Ha__2.ext E6
        replace EE := EE__2.ext E6
        replace Hb := Hb__2.ext E6
        replace HT := HT__2.ext E6
        replace EL1 := EL1__2.ext E6
        replace Hm := Hm__2.ext E6
        replace Hx := Hx__2.ext E6
        replace EL2 := E6
        have cf := nfirst_pc (k := (k : Int)) (x := moreV rr a i k) (b := true) Hg Ha hi (by rw [hrow i hi]; omega)
        by_cases hf : 0 ≤ firstG rr a i k (moreV rr a i k) true
        · repeat' ((conv => whnf); first | (refine Dr.quiet tyOk (by kernel_rfl) ?_) | (refine VC.pure cf ?_) | (refine VS.b3 Try.underlying102 eMark (by decide +kernel) ⟨rfl, rfl, rfl⟩ ?_) | (refine Rng.mk (by omega) ?_) | (refine Split.pos (by omega) ?_) | (refine Split.neg (by omega) ?_) | (refine Split.mk (fun h => ?_) (fun h => ?_)) | (refine Need.mk (by omega) ?_) | (refine Ints.ln (by assumption) ?_) | (refine Mat.ln (by assumption) ?_) | (refine Ints.ln (Mat.row (by assumption) _ (by omega)) ?_) | (refine Ints.ix (by assumption) (by omega) ?_) | (refine Mat.ix (by assumption) (by omega) ?_) | (refine Ints.ix (Mat.row (by assumption) _ (by omega)) (by omega) ?_) | (refine Ints.ix (c := 0) (by assumption) (by omega) ?_) | (refine Mat.ix (c := 0) (by assumption) (by omega) ?_) | (refine Ints.ix (c := 0) (Mat.row (by assumption) _ (by omega)) (by omega) ?_) | (refine Ints.ixI (by assumption) (by omega) ?_) | (refine Mat.ixI (by assumption) (by omega) ?_) | (refine Ints.ixI (Mat.row (by assumption) _ (by omega)) (by omega) ?_) | (refine Ints.ld (by assumption) (by omega) ?_) | (refine Mat.ld (by assumption) (by omega) ?_) | (refine Ints.ld (Mat.row (by assumption) _ (by omega)) (by omega) ?_) | (refine At.ld (by assumption) rfl ?_) | (refine At.ldN (by assumption) rfl ?_) | (refine Prs.ln (by assumption) ?_) | (refine Trs.ln (by assumption) ?_) | (refine Prs.ix (by assumption) (by omega) ?_) | (refine Trs.ix (by assumption) (by omega) ?_) | (refine Prs.ldN (by assumption) (by omega) ?_) | (refine Trs.ldN (by assumption) (by omega) ?_) | (refine At.ldN (Blk.at (by assumption)) rfl ?_) | (refine At.ld (Blk.at (by assumption)) rfl ?_) | (refine IxA.mk (by omega) ?_) | (refine Sl.ln (Own.sl (by assumption)) ?_) | (refine Ints.ix (Own.sl (by assumption)) (by omega) ?_) | (refine Ints.ixI (Own.sl (by assumption)) (by omega) ?_) | (refine Ints.ld (Own.sl (by assumption)) (by omega) ?_))
          refine VE.lit1A Try.underlying67 eMark rfl (by decide) fun lv w7 E7 Hl => ?_
          replace Hg := Hg.ext E7
          replace Ha := Ha.ext E7
          replace EE := EE.ext E7
          replace Hb := Hb.ext E7
          replace HT := HT.ext E7
          replace EL1 := EL1.ext E7
          replace Hm := Hm.ext E7
          replace Hx := Hx.ext E7
          replace EL2 := EL2.ext E7
          replace Hk := Hk.ext E7
          conv => whnf
          refine VE.app Try.underlying67 eMark rfl (by omega) Hm EL1 rfl Hl (by simp [Value.oneCell']) (by first | omega | (simp only [List.length_map, List.length_range]; omega) | (simp; omega)) (by first | omega | (simp only [List.length_map, List.length_range]; omega) | (simp; omega)) fun v8 w8 E8 G8 H8 => ?_
          replace Hx := Own.gr Hx G8 (fun k hk hS => Own.ne Hm Hx (by decide) k hS hk)
          replace Hg := Hg__1.ext E8
          replace Ha := Ha__1.ext E8
          replace EE := EE__1.ext E8
          replace Hb := Hb__1.ext E8
          replace HT := HT__1.ext E8
          replace EL1 := E8
          repeat' ((conv => whnf); first | (refine Dr.quiet tyOk (by kernel_rfl) ?_) | (refine Rng.mk (by omega) ?_) | (refine Split.pos (by omega) ?_) | (refine Split.neg (by omega) ?_) | (refine Split.mk (fun h => ?_) (fun h => ?_)) | (refine Need.mk (by omega) ?_) | (refine Ints.ln (by assumption) ?_) | (refine Mat.ln (by assumption) ?_) | (refine Ints.ln (Mat.row (by assumption) _ (by omega)) ?_) | (refine Ints.ix (by assumption) (by omega) ?_) | (refine Mat.ix (by assumption) (by omega) ?_) | (refine Ints.ix (Mat.row (by assumption) _ (by omega)) (by omega) ?_) | (refine Ints.ix (c := 0) (by assumption) (by omega) ?_) | (refine Mat.ix (c := 0) (by assumption) (by omega) ?_) | (refine Ints.ix (c := 0) (Mat.row (by assumption) _ (by omega)) (by omega) ?_) | (refine Ints.ixI (by assumption) (by omega) ?_) | (refine Mat.ixI (by assumption) (by omega) ?_) | (refine Ints.ixI (Mat.row (by assumption) _ (by omega)) (by omega) ?_) | (refine Ints.ld (by assumption) (by omega) ?_) | (refine Mat.ld (by assumption) (by omega) ?_) | (refine Ints.ld (Mat.row (by assumption) _ (by omega)) (by omega) ?_) | (refine At.ld (by assumption) rfl ?_) | (refine At.ldN (by assumption) rfl ?_) | (refine Prs.ln (by assumption) ?_) | (refine Trs.ln (by assumption) ?_) | (refine Prs.ix (by assumption) (by omega) ?_) | (refine Trs.ix (by assumption) (by omega) ?_) | (refine Prs.ldN (by assumption) (by omega) ?_) | (refine Trs.ldN (by assumption) (by omega) ?_) | (refine At.ldN (Blk.at (by assumption)) rfl ?_) | (refine At.ld (Blk.at (by assumption)) rfl ?_) | (refine IxA.mk (by omega) ?_) | (refine Sl.ln (Own.sl (by assumption)) ?_) | (refine Ints.ix (Own.sl (by assumption)) (by omega) ?_) | (refine Ints.ixI (Own.sl (by assumption)) (by omega) ?_) | (refine Ints.ld (Own.sl (by assumption)) (by omega) ?_))
          refine ⟨_, (by omega : (evs rr a).length - (c + 1) < (evs rr a).length - c), rfl, c + 1, by omega, rfl, rfl, ?_, ?_, EL1⟩
          · rw [fm_snoc (by omega) hik]
            simp only [markOf, if_pos hf]
            rw [flat3_snoc] at H8
            exact OT.of H8
          · rw [fm_snoc (by omega) hik]
            simp only [missOf, if_pos hf, List.append_nil]
            exact Hx
        · repeat' ((conv => whnf); first | (refine Dr.quiet tyOk (by kernel_rfl) ?_) | (refine VC.pure cf ?_) | (refine VS.arr2 Try.underlying103 ePair cells3 ?_) | (refine Rng.mk (by omega) ?_) | (refine Split.pos (by omega) ?_) | (refine Split.neg (by omega) ?_) | (refine Split.mk (fun h => ?_) (fun h => ?_)) | (refine Need.mk (by omega) ?_) | (refine Ints.ln (by assumption) ?_) | (refine Mat.ln (by assumption) ?_) | (refine Ints.ln (Mat.row (by assumption) _ (by omega)) ?_) | (refine Ints.ix (by assumption) (by omega) ?_) | (refine Mat.ix (by assumption) (by omega) ?_) | (refine Ints.ix (Mat.row (by assumption) _ (by omega)) (by omega) ?_) | (refine Ints.ix (c := 0) (by assumption) (by omega) ?_) | (refine Mat.ix (c := 0) (by assumption) (by omega) ?_) | (refine Ints.ix (c := 0) (Mat.row (by assumption) _ (by omega)) (by omega) ?_) | (refine Ints.ixI (by assumption) (by omega) ?_) | (refine Mat.ixI (by assumption) (by omega) ?_) | (refine Ints.ixI (Mat.row (by assumption) _ (by omega)) (by omega) ?_) | (refine Ints.ld (by assumption) (by omega) ?_) | (refine Mat.ld (by assumption) (by omega) ?_) | (refine Ints.ld (Mat.row (by assumption) _ (by omega)) (by omega) ?_) | (refine At.ld (by assumption) rfl ?_) | (refine At.ldN (by assumption) rfl ?_) | (refine Prs.ln (by assumption) ?_) | (refine Trs.ln (by assumption) ?_) | (refine Prs.ix (by assumption) (by omega) ?_) | (refine Trs.ix (by assumption) (by omega) ?_) | (refine Prs.ldN (by assumption) (by omega) ?_) | (refine Trs.ldN (by assumption) (by omega) ?_) | (refine At.ldN (Blk.at (by assumption)) rfl ?_) | (refine At.ld (Blk.at (by assumption)) rfl ?_) | (refine IxA.mk (by omega) ?_) | (refine Sl.ln (Own.sl (by assumption)) ?_) | (refine Ints.ix (Own.sl (by assumption)) (by omega) ?_) | (refine Ints.ixI (Own.sl (by assumption)) (by omega) ?_) | (refine Ints.ld (Own.sl (by assumption)) (by omega) ?_))
          refine VE.lit1A Try.underlying68 ePair rfl (by decide) fun lv w9 E9 Hl => ?_
          replace Hg := Hg.ext E9
          replace Ha := Ha.ext E9
          replace EE := EE.ext E9
          replace Hb := Hb.ext E9
          replace HT := HT.ext E9
          replace EL1 := EL1.ext E9
          replace Hm := Hm.ext E9
          replace Hx := Hx.ext E9
          replace EL2 := EL2.ext E9
          replace Hk := Hk.ext E9
          conv => whnf
          refine VE.app Try.underlying68 ePair rfl (by omega) Hx EL1 rfl Hl (by simp [Value.oneCell']) (by first | omega | (simp only [List.length_map, List.length_range]; omega) | (simp; omega)) (by first | omega | (simp only [List.length_map, List.length_range]; omega) | (simp; omega)) fun v8 w10 E10 G10 H8 => ?_
          replace Hm := Own.gr Hm G10 (fun k hk hS => Own.ne Hx Hm (by decide) k hS hk)
          replace Hg := Hg__1.ext E10
          replace Ha := Ha__1.ext E10
          replace EE := EE__1.ext E10
          replace Hb := Hb__1.ext E10
          replace HT := HT__1.ext E10
          replace EL1 := E10
          repeat' ((conv => whnf); first | (refine Dr.quiet tyOk (by kernel_rfl) ?_) | (refine Rng.mk (by omega) ?_) | (refine Split.pos (by omega) ?_) | (refine Split.neg (by omega) ?_) | (refine Split.mk (fun h => ?_) (fun h => ?_)) | (refine Need.mk (by omega) ?_) | (refine Ints.ln (by assumption) ?_) | (refine Mat.ln (by assumption) ?_) | (refine Ints.ln (Mat.row (by assumption) _ (by omega)) ?_) | (refine Ints.ix (by assumption) (by omega) ?_) | (refine Mat.ix (by assumption) (by omega) ?_) | (refine Ints.ix (Mat.row (by assumption) _ (by omega)) (by omega) ?_) | (refine Ints.ix (c := 0) (by assumption) (by omega) ?_) | (refine Mat.ix (c := 0) (by assumption) (by omega) ?_) | (refine Ints.ix (c := 0) (Mat.row (by assumption) _ (by omega)) (by omega) ?_) | (refine Ints.ixI (by assumption) (by omega) ?_) | (refine Mat.ixI (by assumption) (by omega) ?_) | (refine Ints.ixI (Mat.row (by assumption) _ (by omega)) (by omega) ?_) | (refine Ints.ld (by assumption) (by omega) ?_) | (refine Mat.ld (by assumption) (by omega) ?_) | (refine Ints.ld (Mat.row (by assumption) _ (by omega)) (by omega) ?_) | (refine At.ld (by assumption) rfl ?_) | (refine At.ldN (by assumption) rfl ?_) | (refine Prs.ln (by assumption) ?_) | (refine Trs.ln (by assumption) ?_) | (refine Prs.ix (by assumption) (by omega) ?_) | (refine Trs.ix (by assumption) (by omega) ?_) | (refine Prs.ldN (by assumption) (by omega) ?_) | (refine Trs.ldN (by assumption) (by omega) ?_) | (refine At.ldN (Blk.at (by assumption)) rfl ?_) | (refine At.ld (Blk.at (by assumption)) rfl ?_) | (refine IxA.mk (by omega) ?_) | (refine Sl.ln (Own.sl (by assumption)) ?_) | (refine Ints.ix (Own.sl (by assumption)) (by omega) ?_) | (refine Ints.ixI (Own.sl (by assumption)) (by omega) ?_) | (refine Ints.ld (Own.sl (by assumption)) (by omega) ?_))
          refine ⟨_, (by omega : (evs rr a).length - (c + 1) < (evs rr a).length - c), rfl, c + 1, by omega, rfl, rfl, ?_, ?_, EL1⟩
          · rw [fm_snoc (by omega) hik]
            simp only [markOf, if_neg hf, List.append_nil]
            exact Hm
          · rw [fm_snoc (by omega) hik]
            simp only [missOf, if_neg hf]
            rw [flatP_snoc] at H8
            exact OP.of H8
      · obtain rfl : c = (evs rr a).length := by omega
        refine ⟨EE, _, _, by rw [hv], ?_⟩
        rw [List.take_length] at Hm Hx
        rw [oneM, oneX, evsR, if_pos hv]
        exact ⟨Own.base Hm hz1, Own.base Hx hz1⟩
  · repeat' ((conv => whnf); first | (refine Dr.quiet tyOk (by kernel_rfl) ?_) | (refine Rng.mk (by omega) ?_) | (refine Split.pos (by omega) ?_) | (refine Split.neg (by omega) ?_) | (refine Split.mk (fun h => ?_) (fun h => ?_)) | (refine Need.mk (by omega) ?_) | (refine Ints.ln (by assumption) ?_) | (refine Mat.ln (by assumption) ?_) | (refine Ints.ln (Mat.row (by assumption) _ (by omega)) ?_) | (refine Ints.ix (by assumption) (by omega) ?_) | (refine Mat.ix (by assumption) (by omega) ?_) | (refine Ints.ix (Mat.row (by assumption) _ (by omega)) (by omega) ?_) | (refine Ints.ix (c := 0) (by assumption) (by omega) ?_) | (refine Mat.ix (c := 0) (by assumption) (by omega) ?_) | (refine Ints.ix (c := 0) (Mat.row (by assumption) _ (by omega)) (by omega) ?_) | (refine Ints.ixI (by assumption) (by omega) ?_) | (refine Mat.ixI (by assumption) (by omega) ?_) | (refine Ints.ixI (Mat.row (by assumption) _ (by omega)) (by omega) ?_) | (refine Ints.ld (by assumption) (by omega) ?_) | (refine Mat.ld (by assumption) (by omega) ?_) | (refine Ints.ld (Mat.row (by assumption) _ (by omega)) (by omega) ?_) | (refine At.ld (by assumption) rfl ?_) | (refine At.ldN (by assumption) rfl ?_))
    refine ⟨EE, _, _, rfl, ?_⟩
    rw [oneM, oneX, evsR, if_neg hv]
    exact ⟨Own.nil, Own.nil⟩
end Go.Proofs.Ytkgogljfngplnaa
set_option linter.unusedVariables false
set_option linter.unusedSimpArgs false
namespace Go.Proofs.Ytkgogljfngplnaa
open Go.Eng
set_option maxRecDepth 100000
set_option maxHeartbeats 4000000

def hM (rr : List (List Int)) (a : List Int) (b : Bool) (i k : Nat) : List T3 := if wth rr a i i < wth rr a i k then markOf rr a b (i, k, moreV rr a i k) else []
def hX (rr : List (List Int)) (a : List Int) (i k : Nat) : List (Int × Int) := if wth rr a i i < wth rr a i k then missOf rr a (i, k, moreV rr a i k) else []
theorem oneX_g {rr : List (List Int)} {a : List Int} (hv : vld rr a = 0) : oneX rr a = gTo (hX rr a) rr.length rr.length := by rw [oneX, evsR, if_pos hv, evs_flat]; rfl
end Go.Proofs.Ytkgogljfngplnaa
set_option linter.unusedVariables false
set_option linter.unusedSimpArgs false
namespace Go.Proofs.Ytkgogljfngplnaa
open Go.Eng
set_option maxRecDepth 100000

theorem first_le {p : Nat → Bool} {n j : Nat} (hj : j < n) (hp : p j = true) : 0 ≤ firstFrom p n 0 := by
  rcases firstFrom_spec p n 0 with ⟨i, _, h2, h3, h4, h5⟩ | ⟨_, h2⟩
  · rw [h4]; omega
  · rw [h2 j (Nat.zero_le _) (by omega)] at hp; cases hp
theorem first_is {p : Nat → Bool} {n : Nat} (h : 0 ≤ firstFrom p n 0) : ∃ j : Nat, firstFrom p n 0 = j ∧ j < n ∧ p j = true ∧ ∀ k, k < j → p k = false := by
  rcases firstFrom_spec p n 0 with ⟨j, _, h2, h3, h4, h5⟩ | ⟨h1, _⟩
  · exact ⟨j, h4, by omega, h3, fun k hk => h5 k (Nat.zero_le _) hk⟩
  · omega

theorem oneX_nil {rr : List (List Int)} {a : List Int} (hv : vld rr a = 0) : oneX rr a = [] ↔ ∀ i k : Nat, i < rr.length → k < rr.length → wth rr a i i < wth rr a i k → ∃ j, j < a.length ∧ a.getD j 0 = k ∧ moreV rr a i k ≤ val rr i j := by
  rw [oneX_g hv]
  constructor
  · intro h i k hi hk hl
    refine Classical.byContradiction fun hn => ?_
    have hm : ((i : Int), (k : Int)) ∈ gTo (hX rr a) rr.length rr.length := by
      refine mem_gTo.2 ⟨i, k, hi, hk, ?_⟩
      unfold hX
      rw [if_pos hl]
      unfold missOf
      rw [if_neg]
      · simp
      · show ¬ 0 ≤ firstG rr a i k (moreV rr a i k) true
        intro h0
        rw [firstG_eq] at h0
        obtain ⟨j, _, hj, hp, _⟩ := first_is h0
        exact hn ⟨j, hj, gP_t.1 hp⟩
    rw [h] at hm; cases hm
  · intro h
    apply List.eq_nil_iff_forall_not_mem.2
    intro x hx
    obtain ⟨i, k, hi, hk, hx⟩ := mem_gTo.1 hx
    unfold hX at hx
    split at hx
    · rename_i hl
      obtain ⟨j, hj, hp⟩ := h i k hi hk hl
      unfold missOf at hx
      rw [if_pos] at hx
      · cases hx
      · show 0 ≤ firstG rr a i k (moreV rr a i k) true
        rw [firstG_eq]; exact first_le hj (gP_t.2 hp)
    · cases hx
end Go.Proofs.Ytkgogljfngplnaa
set_option linter.unusedVariables false
set_option linter.unusedSimpArgs false
namespace Go.Proofs.Ytkgogljfngplnaa
open Go.Eng
set_option maxRecDepth 100000

def gain (rr : List (List Int)) (l : List Int) (i : Nat) : Int := wth rr l i i
def prd (rr : List (List Int)) (l : List Int) : T3 := pr (gain rr l) rr.length
def mOf (rr : List (List Int)) : Nat := (rr.getD 0 []).length
def tot (rr : List (List Int)) : Nat := rr.length ^ mOf rr
/-- two entries apart -/
def off (f : Nat → Int) (i k : Nat) (j : Nat) : Int := if j = i ∨ j = k then 0 else f j
def ix (x : Int) : Int := if 0 < x then 1 else 0
/-- sums over a bundle -/
def wf (a : List Int) (f : Nat → Int) (k : Int) : Nat → Int
  | 0 => 0
  | c + 1 => wf a f k c + if a.getD c 0 = k then f c else 0
end Go.Proofs.Ytkgogljfngplnaa
set_option linter.unusedVariables false
set_option linter.unusedSimpArgs false
namespace Go.Eng
open Go.RowKit

section
variable {P : Program} {w w' : World} {b : Nat} {T : TypeId} {xs : List Value}

theorem Blk.row {B n s : Nat} {e : TypeId} {v : Value} {ys : List Value} (h : Blk w b T xs) (ho : Own B e s w v n ys) (he : e ≠ T) (hg : Gr (fun k => v.ownBlock = some k) w w') : Blk w' b T xs :=
  h.gr hg fun hb => by
    have hb : v.ownBlock = some b := hb
    rcases ho.2 with ⟨rfl, _⟩ | ⟨g, cap, cur, rfl, _, hgg, _⟩
    · simp [Value.ownBlock] at hb
    · simp [Value.ownBlock] at hb
      subst hb
      unfold Blk at h
      rw [h] at hgg
      simp at hgg
      exact he hgg.2.symm
theorem Blk.two {b' : Nat} {T' : TypeId} {ys : List Value} (h : Blk w b T xs) (_h' : Blk w b' T' ys) (he : b ≠ b') (hg : Gr (fun k => k = b') w w') : Blk w' b T xs := h.gr hg he
theorem Own.row {B n s B' n' s' : Nat} {e e' : TypeId} {v v' : Value} {ys ys' : List Value} (h : Own B e s w v n ys) (h' : Own B' e' s' w v' n' ys') (he : e ≠ e') (hg : Gr (fun k => v'.ownBlock = some k) w w') : Own B e s w' v n ys :=
  Own.gr h hg fun k hk hS => Own.ne h h' he k hk hS

theorem Blk.ldA {k : Nat} {x : Value} {K : Value → Prop} (h : Blk w b T xs) (hx : xs[k]? = some x) (hk : K x) : Ld w ((⟨b, 0, none⟩ : Addr).add k) K := At.ld h.at hx hk
theorem At.sub {p : Addr} (h : At w p xs) (k : Nat) : At w (p.add k) (xs.drop k) := fun i x hx => by
  rw [add_add]
  exact h (k + i) x (by rw [← hx, List.getElem?_drop])
theorem Blk.setA {i : Nat} {x : Value} {K : World → Prop} (h : Blk w b T xs) (hi : i < xs.length) (hx : x.oneCell' = true)
    (hK : ∀ w', Gr (fun j => j = b) w w' → Blk w' b T (xs.set i x) → K w') : St w ((⟨b, 0, none⟩ : Addr).add i) x K := by
  rw [add0]; exact h.set hi hx hK

end
end Go.Eng
set_option linter.unusedVariables false
set_option linter.unusedSimpArgs false
namespace Go.Proofs.Ytkgogljfngplnaa
open Go.Eng
abbrev OB (B : Nat) (w : World) (v : Value) (l : List Int) : Prop := Own B 3 1 w v l.length (l.map i64v)
theorem OB.set {B k : Nat} {x : Int} {w : World} {v : Value} {l : List Int} {K : World → Prop} (h : OB B w v l) (hk : k < l.length) (hK : ∀ w', Gr (fun j => v.ownBlock = some j) w w' → OB B w' v (l.set k x) → K w') : St w (ea v k) (.int .i64 x) K :=
  Own.set h (by rw [List.length_map]; exact hk) rfl fun w' hg h' => hK w' hg (by
    rw [set_map] at h'
    show Own B 3 1 w' v (l.set k x).length _
    rw [List.length_set]; exact h')
theorem OB.made {B n : Nat} {w : World} {v : Value} (h : Own B 3 1 w v n (List.replicate n (.int .i64 0))) : OB B w v (List.replicate n 0) := by
  show Own B 3 1 w v (List.replicate n (0 : Int)).length ((List.replicate n (0 : Int)).map i64v)
  rw [List.length_replicate, List.map_replicate]; exact h
end Go.Proofs.Ytkgogljfngplnaa
set_option linter.unusedVariables false
set_option linter.unusedSimpArgs false
namespace Go.Eng
open Go.RowKit Go.ChangeShapes Go.WideShapes Go.ChangeAt

section
variable {H : Type} {enc : TypeId × Value → H} {P : Program} {w : World} {base b0 : Nat} {spare : Nat → Bool} {held : Bool} {r : Reach} {v : Value} {d : DataW H} {ps : List MemPlace}

theorem open_L {t e : TypeId} (ht : P.underlying t = some (.slice e)) (he : P.underlying e = some (.int .i64)) (hs : P.cellsOf e = 1) (hv : Value.okWide P w r b0 t v) (hd : DataW.Trod enc P w base spare held t v d ps) : ∃ l, Ints w v l ∧ ∀ i, I64 (l.getD i 0) := by
  obtain ⟨a, n, c, rfl⟩ := okWide_slice ht hv
  obtain ⟨fuel, h⟩ := hd
  obtain ⟨m, l, hm, h1, h2⟩ := read_ints ht he hs h
  simp [Value.cells] at hm; subst hm
  exact ⟨l, h1, h2⟩

/-- A struct of one matrix. -/
theorem open_G {t e q : TypeId} {f : Field} (ht : P.underlying t = some (.struct #[f])) (ho : f.offset = 0) (hc : P.cellsOf t = 1) (hcf : P.cellsOf f.type = 1) (hf : P.underlying f.type = some (.slice e)) (he : P.underlying e = some (.slice q)) (hq : P.underlying q = some (.int .i64)) (hs : P.cellsOf e = 1) (hs2 : P.cellsOf q = 1)
    (hv : Value.okWide P w r b0 t v) (hd : DataW.Trod enc P w base spare held t v d ps) : ∃ gv vs rr, v = .agg #[gv] ∧ Mat w gv vs rr ∧ ∀ i j, I64 ((rr.getD i []).getD j 0) := by
  obtain ⟨cs, rfl, hcs⟩ := okWide_struct ht hv
  obtain ⟨fuel, h⟩ := hd
  obtain ⟨y, n, _, hl, hy⟩ := trod_struct1 ht h
  rw [ho, hcf] at hy
  obtain ⟨u, vs, rr, hm, h1, h2⟩ := read_mat hf he hq hs hs2 hy
  have hsz : cs.size = 1 := by omega
  have : cs = #[u] := by
    apply Array.toList_inj.1
    simp only [Value.cells, List.drop_zero] at hm
    rw [List.take_of_length_le (by simp [hsz])] at hm
    simpa using hm
  subst this
  exact ⟨u, vs, rr, rfl, h1, h2⟩
end
end Go.Eng
set_option linter.unusedVariables false
set_option linter.unusedSimpArgs false
namespace Go.Eng
open Go.RowKit

section
variable {P : Program} {w : World} {t e : TypeId} {x y : Operand} {v : Value} {K : Value → Prop}
end

/-- A new box, as a block. -/
theorem Bx.blk {T : TypeId} {l : List Value} {w : World} {K : Value → World → Prop} (h : ∀ (b : Nat) w', Ext w w' → w.heap.size ≤ b → Blk w' b T l → K (.pointer (some ⟨b, 0, none⟩)) w') : Bx T (.agg l.toArray) w K := by
  simp only [Bx]
  intro w1 hw1
  exact h w1.heap.size _ (hw1.alloc _) hw1.size (Blk.new w1 T l)

theorem places_run {P : Program} {w : World} : ∀ {l : List Field}, (∀ f ∈ l, P.cellsOf f.type ≠ 0) →
    ((l.toArray).mapM (m := Sem) fun f => do pure (f.offset, ← Go.sizeOf f.type)).run P w = .ok (l.map fun f => (f.offset, P.cellsOf f.type)).toArray w := by
  intro l hl
  rw [List.mapM_toArray]
  have h := mapM_run (P := P) (w := w) (fun f : Field => (do pure (f.offset, ← Go.sizeOf f.type) : Sem (Nat × Nat))) (fun f => (f.offset, P.cellsOf f.type)) l (fun f hf => by
    simp only [Sem.run_bind, sizeOf_run rfl (hl f hf), Result.andThen_ok, Sem.run_pure])
  simp only [Sem.run_bind, Sem.run_map, h, Result.andThen_ok, Sem.run_pure]
  try rfl
theorem fill_at (pl : Array (Nat × Nat)) (n : Nat) : ∀ (ps : List (Nat × Value)) (zc : Array Value), (∀ p ∈ ps, pl[p.1]? = some (p.1, 1) ∧ p.1 < n ∧ p.2.cells = #[p.2]) → zc.size = n →
    Instr.fill (pl[·]?) zc ps = some (ps.foldl (fun c p => c.setIfInBounds p.1 p.2) zc)
  | [], zc, _, _ => rfl
  | (i, v) :: ps, zc, h, hz => by
    obtain ⟨e2, h1, h2⟩ := h (i, v) (by simp)
    have h1 : i < n := h1
    have h2 : v.cells = #[v] := h2
    have e2 : pl[i]? = some (i, 1) := e2
    have e3 : ¬ (decide (#[v].size ≠ 1) || decide (i + #[v].size > zc.size)) = true := by simp; omega
    have e4 : Array.foldl (fun (cs : Array Value) (x : Value × Nat) => cs.setIfInBounds (i + x.snd) x.fst) zc #[v].zipIdx = zc.setIfInBounds i v := by simp [Array.zipIdx]
    simp only [Instr.fill, e2, h2, List.foldl_cons]
    rw [if_neg e3, e4]
    exact fill_at pl n ps _ (fun p hp => h p (by simp [hp])) (by simpa using hz)
/-- 'T{F: x, ..}', fields of several cells among the others. -/
theorem VS.sparse2 {P : Program} {w : World} {t : TypeId} {zc : Array Value} {N b : Nat} {l : List Field} {ps : List (Nat × Value)} {K : Value → Prop} (ht : P.underlying t = some (.struct l.toArray)) (hz : Elem P t (.agg zc) N b)
    (hg : ∀ f ∈ l, P.cellsOf f.type ≠ 0) (hv : ∀ p ∈ ps, (l.map fun f => (f.offset, P.cellsOf f.type)).toArray[p.1]? = some (p.1, 1) ∧ p.1 < zc.size ∧ p.2.cells = #[p.2])
    (hk : K (.agg (ps.foldl (fun c p => c.setIfInBounds p.1 p.2) zc))) : VS P (Instr.build t ps.toArray) w K := by
  refine VS.mk (v := .agg (ps.foldl (fun c p => c.setIfInBounds p.1 p.2) zc)) (fun w1 _ => ?_) hk
  obtain ⟨i, hi, hz1, _, _⟩ := hz.info
  have hfill := fill_at _ zc.size ps zc hv rfl
  simp only [Instr.build, Sem.run_bind, zeroValue, typeInfo, run_program, Result.andThen_ok, hi, hz1, Sem.run_pure, run_underlying ht, places_run hg, Value.cells, hfill]
theorem VS.sparseR {P : Program} {w : World} {t : TypeId} {zc : Array Value} {N b : Nat} {l : List Field} {ps : List (Nat × Value)} {K : Value → Prop} (r : Array Value) (ht : P.underlying t = some (.struct l.toArray)) (hz : Elem P t (.agg zc) N b)
    (hg : ∀ f ∈ l, P.cellsOf f.type ≠ 0) (hv : ∀ p ∈ ps, (l.map fun f => (f.offset, P.cellsOf f.type)).toArray[p.1]? = some (p.1, 1) ∧ p.1 < zc.size ∧ p.2.cells = #[p.2]) (hr : ps.foldl (fun c p => c.setIfInBounds p.1 p.2) zc = r)
    (hk : K (.agg r)) : VS P (Instr.build t ps.toArray) w K := VS.sparse2 ht hz hg hv (by rw [hr]; exact hk)
end Go.Eng
set_option linter.unusedVariables false
set_option linter.unusedSimpArgs false
namespace Go.Proofs.Ytkgogljfngplnaa
open Go.Eng
set_option maxRecDepth 100000
set_option maxHeartbeats 4000000

def Dis (x y : Value) : Prop := ∀ k, x.ownBlock = some k → y.ownBlock ≠ some k
theorem Own.dis {B s n : Nat} {e : TypeId} {w w' : World} {v x : Value} {xs : List Value} (h : Own B e s w v n xs) (hd : Dis x v) (hg : Gr (fun k => x.ownBlock = some k) w w') : Own B e s w' v n xs :=
  Own.gr h hg fun k hk hS => hd k hS hk

/-- the search's record: b; its gains G, its list A, the best list o so far -/
structure NS (w0 w : World) (b : Nat) (vv gv av bv : Value) (rr : List (List Int)) (G A : List Int) (o : Option (List Int)) (mo : T3) : Prop where
  ex : Ext w0 w
  bB : w0.heap.size ≤ b
  blk : Blk w b 86 [vv, gv, av, bv, .int .i64 mo.1, .int .i64 mo.2.1, .int .i64 mo.2.2]
  hg : OB w0.heap.size w gv G
  ha : OB w0.heap.size w av A
  ga : Dis gv av
  ag : Dis av gv
  hn : o = none → bv = .slice none 0 0
  hb : ∀ l, o = some l → OB w0.heap.size w bv l ∧ Dis gv bv ∧ Dis av bv ∧ l.length = A.length ∧ mo = prd rr l

section
variable {w0 w : World} {b : Nat} {vv gv av bv : Value} {rr : List (List Int)} {G A : List Int} {o : Option (List Int)} {mo : T3}
theorem NS.ext (h : NS w0 w b vv gv av bv rr G A o mo) {w' : World} (hx : Ext w w') : NS w0 w' b vv gv av bv rr G A o mo :=
  ⟨h.ex.ext hx, h.bB, h.blk.ext hx, Own.ext h.hg hx, Own.ext h.ha hx, h.ga, h.ag, h.hn, fun l e => by obtain ⟨h1, h2, h3, h4, h5⟩ := h.hb l e; exact ⟨Own.ext h1 hx, h2, h3, h4, h5⟩⟩
theorem Gr.up {B : Nat} {v : Value} {n s : Nat} {e : TypeId} {xs : List Value} {w w' : World} (h : Own B e s w v n xs) (hg : Gr (fun k => v.ownBlock = some k) w w') : Gr (fun k => B ≤ k) w w' :=
  hg.mono fun k _ hk => (Own.lt h k hk).1
theorem NS.stA (h : NS w0 w b vv gv av bv rr G A o mo) {k : Nat} {x : Int} {K : World → Prop} (hk : k < A.length)
    (hK : ∀ w', Gr (fun k => w0.heap.size ≤ k) w w' → NS w0 w' b vv gv av bv rr G (A.set k x) o mo → K w') : St w (ea av k) (.int .i64 x) K :=
  OB.set h.ha hk fun w' hg h' => hK w' (Gr.up h.ha hg)
    ⟨Own.keep h.ha h.ex (Nat.le_refl _) hg, h.bB, h.blk.row h.ha (by decide) hg, Own.dis h.hg h.ag hg, h', h.ga, h.ag, h.hn, fun l e => by obtain ⟨h1, h2, h3, h4, h5⟩ := h.hb l e; exact ⟨Own.dis h1 h3 hg, h2, h3, by rw [List.length_set]; exact h4, h5⟩⟩
theorem NS.stG (h : NS w0 w b vv gv av bv rr G A o mo) {k : Nat} {x : Int} {K : World → Prop} (hk : k < G.length)
    (hK : ∀ w', Gr (fun k => w0.heap.size ≤ k) w w' → NS w0 w' b vv gv av bv rr (G.set k x) A o mo → K w') : St w (ea gv k) (.int .i64 x) K :=
  OB.set h.hg hk fun w' hg h' => hK w' (Gr.up h.hg hg)
    ⟨Own.keep h.hg h.ex (Nat.le_refl _) hg, h.bB, h.blk.row h.hg (by decide) hg, h', Own.dis h.ha h.ga hg, h.ga, h.ag, h.hn, fun l e => by obtain ⟨h1, h2, h3, h4, h5⟩ := h.hb l e; exact ⟨Own.dis h1 h2 hg, h2, h3, h4, h5⟩⟩
theorem Dis.fresh {B1 n1 s1 n2 s2 : Nat} {e1 e2 : TypeId} {w' : World} {x y : Value} {xs ys : List Value} (h1 : Own B1 e1 s1 w x n1 xs) (h2 : Go.Eng.Own w.heap.size e2 s2 w' y n2 ys) : Dis x y := fun k hk hk2 => by
  have := (Own.lt h1 k hk).2
  have := (Own.lt h2 k hk2).1
  omega
theorem NS.put {w' : World} {bv' : Value} {l : List Int} {mo' : T3} (h : NS w0 w b vv gv av bv rr G A o mo) (hg : Gr (fun j => j = b) w w') (hk : Blk w' b 86 [vv, gv, av, bv', .int .i64 mo'.1, .int .i64 mo'.2.1, .int .i64 mo'.2.2])
    (hr : OB w0.heap.size w bv' l) (d1 : Dis gv bv') (d2 : Dis av bv') (hl : l.length = A.length) (hm : mo' = prd rr l) : NS w0 w' b vv gv av bv' rr G A (some l) mo' :=
  ⟨h.ex.new hg (fun i hi hb => by have := h.bB; omega), h.bB, hk, Own.blk h.hg h.blk (by decide) hg, Own.blk h.ha h.blk (by decide) hg, h.ga, h.ag, (fun e => by cases e), fun l' e => by
    cases e
    exact ⟨Own.blk hr h.blk (by decide) hg, d1, d2, hl, hm⟩⟩
end

theorem worth_take {A B r : List Int} {k : Int} : ∀ {c : Nat}, (∀ j, j < c → A.getD j 0 = B.getD j 0) → worth A r k c = worth B r k c
  | 0, _ => rfl
  | c + 1, h => by simp only [worth]; rw [worth_take (fun j hj => h j (by omega)), h c (by omega)]
theorem set_undo {G : List Int} {k : Nat} {v : Int} (hk : k < G.length) : (G.set k (G.getD k 0 + v)).set k ((G.set k (G.getD k 0 + v)).getD k 0 - v) = G := by
  rw [set_get hk, if_pos rfl, List.set_set]
  have : G.getD k 0 + v - v = G.getD k 0 := by omega
  rw [this]
  apply List.ext_getElem
  · simp
  · intro i h1 h2
    rw [List.getElem_set]
    split
    · rename_i e; subst e; simp [List.getD, h2]
    · rfl
end Go.Proofs.Ytkgogljfngplnaa
set_option linter.unusedVariables false
set_option linter.unusedSimpArgs false
namespace Go.Proofs.Ytkgogljfngplnaa
open Go.Eng
set_option maxRecDepth 100000
set_option maxHeartbeats 4000000

theorem set_take {A : List Int} {c : Nat} {x : Int} (hc : c < A.length) : (A.set c x).take (c + 1) = A.take c ++ [x] := by
  rw [take_snoc 0 _ c (by rw [List.length_set]; exact hc), set_get hc, if_pos rfl]
  congr 1
  apply List.ext_getElem
  · simp
  · intro i h1 h2
    rw [List.length_take] at h2
    rw [List.getElem_take, List.getElem_take, List.getElem_set, if_neg (by omega)]

end Go.Proofs.Ytkgogljfngplnaa
set_option linter.unusedVariables false
set_option linter.unusedSimpArgs false
namespace Go.Proofs.Ytkgogljfngplnaa
open Go.Eng
set_option maxRecDepth 100000
set_option maxHeartbeats 4000000

theorem OM.blk {B : Nat} {T : TypeId} {b : Nat} {w w' : World} {v : Value} {vs ys : List Value} {rr : List (List Int)} (h : OM B w v vs rr) (hk : Blk w b T ys) (h1 : 27 ≠ T) (h2 : 3 ≠ T) (hg : Gr (fun j => j = b) w w') : OM B w' v vs rr :=
  ⟨Own.blk h.top hk h1 hg, fun i hi => Own.blk (h.row i hi) hk h2 hg⟩

end Go.Proofs.Ytkgogljfngplnaa
set_option linter.unusedVariables false
set_option linter.unusedSimpArgs false
namespace Go.Proofs.Ytkgogljfngplnaa
open Go.Eng
set_option maxRecDepth 100000

theorem OM.made {B n : Nat} {w : World} {v : Value} (h : Go.Eng.Own B 27 1 w v n (List.replicate n (.slice none 0 0))) : OM B w v (List.replicate n (.slice none 0 0)) (List.replicate n []) := by
  refine ⟨by rw [List.length_replicate]; exact h, fun i hi => ?_⟩
  rw [List.length_replicate] at hi
  have e1 : (List.replicate n (Value.slice none 0 0)).getD i undef = .slice none 0 0 := by simp [List.getD, hi]
  have e2 : (List.replicate n ([] : List Int)).getD i [] = [] := by simp [List.getD, hi]
  rw [e1, e2]
  exact Own.nil
theorem OI.made {n : Nat} {w : World} {v : Value} (h : Go.Eng.Own 0 3 1 w v n (List.replicate n (.int .i64 0))) : OI w v (List.replicate n 0) := by
  have e : (List.replicate n (0 : Int)).map i64v = List.replicate n (.int .i64 0) := by simp [i64v]
  rw [← e] at h; exact OI.of h
end Go.Proofs.Ytkgogljfngplnaa
set_option linter.unusedVariables false
set_option linter.unusedSimpArgs false
namespace Go.Proofs.Ytkgogljfngplnaa
open Go.Eng
set_option maxRecDepth 100000
set_option maxHeartbeats 4000000

theorem pow_le_tot {rr : List (List Int)} {c : Nat} (hn : 1 ≤ rr.length) (hc : c ≤ mOf rr) : rr.length ^ c ≤ tot rr := Nat.pow_le_pow_right hn hc

end Go.Proofs.Ytkgogljfngplnaa
set_option linter.unusedVariables false
set_option linter.unusedSimpArgs false
namespace Go.Eng
open Go.RowKit

/-- block g holds cap one-cell elements of type e, of which the first n are xs -/
def Buf (e : TypeId) (w : World) (g cap n : Nat) (xs : List Value) : Prop :=
  xs.length = n ∧ ∃ cur, w.heap[g]? = some (.cells cur e (0, 0)) ∧ n ≤ cap ∧ cap ≤ maxLen ∧ cur.size = cap ∧ cur.toList.take n = xs
def bufV (g cap n : Nat) : Value := .slice (some ⟨g, 0, none⟩) n cap

section
variable {P : Program} {e : TypeId} {w w' : World} {g cap n : Nat} {xs : List Value}
theorem Buf.own {B : Nat} (h : Buf e w g cap n xs) (hB : B ≤ g) : Own B e 1 w (bufV g cap n) n xs := by
  obtain ⟨h1, cur, h2, h3, h4, h5, h6⟩ := h
  exact ⟨by omega, .inr ⟨g, cap, cur, rfl, hB, h2, h3, h4, by omega, by rw [Nat.mul_one]; exact h6⟩⟩
theorem Buf.gr {S : Nat → Prop} (h : Buf e w g cap n xs) (hg : Gr S w w') (hs : ¬ S g) : Buf e w' g cap n xs := by
  obtain ⟨h1, cur, h2, h3⟩ := h
  exact ⟨h1, cur, by rw [hg.block g (Array.getElem?_eq_some_iff.1 h2).1 hs]; exact h2, h3⟩
theorem Buf.ext (h : Buf e w g cap n xs) (hg : Ext w w') : Buf e w' g cap n xs := h.gr hg fun hf => hf
theorem Buf.lt (h : Buf e w g cap n xs) : g < w.heap.size := by obtain ⟨_, cur, h2, _⟩ := h; exact (Array.getElem?_eq_some_iff.1 h2).1
theorem Buf.cut {m : Nat} (h : Buf e w g cap n xs) (hm : m ≤ n) : Buf e w g cap m (xs.take m) := by
  obtain ⟨h1, cur, h2, h3, h4, h5, h6⟩ := h
  exact ⟨by rw [List.length_take]; omega, cur, h2, by omega, h4, h5, by rw [← h6, List.take_take, Nat.min_eq_left hm]⟩
/-- an append of one element in place -/
theorem VE.appIn {t T : TypeId} {z x y : Value} {b : Nat} {K : Value → World → Prop} (ht : P.underlying t = some (.slice e)) (he : Elem P e z 1 b)
    (H : Buf e w g cap n xs) (hn : n < cap) (Hx : Sl 1 w x 1 [y]) (h1 : y.oneCell' = true)
    (hk : ∀ w', Gr (fun k => k = g) w w' → Buf e w' g cap (n + 1) (xs ++ [y]) → K (bufV g cap (n + 1)) w') : VE P (Builtin.append_ #[t, t] T #[bufV g cap n, x]) w K := by
  refine VE.mk fun w1 hw1 => ?_
  obtain ⟨i, hi, hz, hsz, hby⟩ := he.info
  obtain ⟨hl, cur, h2, h3, h4, h5, h6⟩ := H.ext hw1
  obtain ⟨a, c, rfl, hc1, hc2, hc3, hat⟩ := Hx.ext hw1
  rcases hat with h0 | ⟨p, rfl, hat⟩
  · omega
  · have hr := run_append_room (P := P) w1 t T e i ht hi g n cap cur h2 p 1 c [y] (by rw [hsz]; rfl) (fun j u hu => hat j u hu) (by intro u hu; simp at hu; subst hu; exact h1) (by omega) (by rw [hsz]; simp; omega)
    refine ⟨_, _, hr, hk _ ((Gr.ofExt hw1).trans ⟨rfl, rfl, rfl, by simp, fun k _ hk => setRow_other w1 g k _ hk⟩) ?_⟩
    rw [hsz, Nat.mul_one, h6]
    refine ⟨by simp [hl], _, setRow_heap w1 g cur _ e _ h2, by omega, h4, ?_, ?_⟩
    · have : cur.toList.length = cap := by simpa using h5
      simp only [List.size_toArray, List.length_append, List.length_drop, List.length_singleton, this, hl]; omega
    · rw [List.take_append_of_le_length (by simp [hl]), List.take_of_length_le (by simp [hl])]
/-- 'make([]T, 0, cap)' -/
theorem VX.madeB {t : TypeId} {z : Value} {b cp : Nat} {K : Value → World → Prop} (ht : P.underlying t = some (.slice e)) (he : Elem P e z 1 b) (hz1 : z.cells = #[z]) (hn : cp ≤ 9223372036854775807) (hb : b * cp ≤ 281474976710656)
    (hk : ∀ g w', Ext w w' → w.heap.size ≤ g → Buf e w' g cp 0 [] → K (bufV g cp 0) w') : VX P (Instr.makeSlice t (.int .i64 0) (.int .i64 (cp : Int))) w K := by
  refine VX.mk fun w1 hw1 => ?_
  obtain ⟨i, hi, hz, hsz, hby⟩ := he.info
  refine ⟨_, _, ?_, (Ext.refl w1).alloc _, hk w1.heap.size (w1.alloc (.cells (List.replicate cp z).toArray e)) (hw1.alloc _) hw1.size ⟨rfl, _, heap_alloc_new w1 _, Nat.zero_le _, by unfold maxLen; omega, by simp, by simp⟩⟩
  have hw : IntKind.i64.wrap (cp : Int) = cp := IntWalk.i64_in _ (by omega)
  have hw0 : IntKind.i64.wrap (0 : Int) = 0 := by decide
  have h1 : ¬ ((cp : Int) < 0) := by omega
  have h2 : ¬ ((b : Int) * (cp : Int) > 2 ^ 48) := by
    have : (b : Int) * (cp : Int) = ((b * cp : Nat) : Int) := by simp
    rw [this]; omega
  have harr : (Array.map (fun j => (if cp = 0 then (#[] : Array Value) else #[z])[j % (if cp = 0 then (#[] : Array Value) else #[z]).size]!) (Array.range cp)) = (List.replicate cp z).toArray := by
    apply Array.ext
    · simp
    · intro j hj1 hj2
      have hn0 : cp ≠ 0 := by
        simp at hj2; omega
      simp [hn0, Nat.mod_one]
  simp only [Instr.makeSlice, Sem.run_bind, run_underlying ht, Result.andThen_ok, asInt, asIntOf, Sem.run_pure, typeInfo, run_program, hi, hby, hw, hw0, Go.sizeOf]
  simp only [h1, h2, decide_false, Bool.or_false, Int.lt_irrefl, Bool.false_eq_true, if_false, gt_iff_lt, Int.toNat_natCast, Sem.run_bind, run_askRoom, Result.andThen_ok, zeroValue, typeInfo, run_program, hi, Sem.run_pure, hsz, Nat.mul_one, Int.mul_zero]
  by_cases h0 : cp = 0
  · rw [if_pos h0] at harr ⊢
    simp only [Sem.run_pure, Result.andThen_ok, newRow, Sem.run_bind, run_newObj, harr]
    rfl
  · rw [if_neg h0] at harr ⊢
    simp only [Sem.run_bind, run_program, hi, hz, Sem.run_pure, Result.andThen_ok, newRow, run_newObj, hz1, harr]
    rfl
end
end Go.Eng
