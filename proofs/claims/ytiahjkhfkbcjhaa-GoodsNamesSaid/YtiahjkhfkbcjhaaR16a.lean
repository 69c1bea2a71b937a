/- Contracts: the reference's Check, Valid, Worth, All, Complete, Great, and Same, SameLists of layer 13. -/
import Derived.Test.YtiahjkhfkbcjhaaSpec
import Derived.Test.YtiahjkhfkbcjhaaEngI
import Derived.Test.YtiahjkhfkbcjhaaChecked
set_option linter.unusedVariables false
set_option linter.unusedSimpArgs false
namespace Go.Proofs.Ytiahjkhfkbcjhaa
open Go.Eng
set_option maxRecDepth 100000

def tys : List Ty := [.no, .one, .i64, .i64, .bo, .one, .one, .st 4 [(0, none), (1, none), (2, none), (3, none)], .st 4 [(0, none), (1, none), (2, none), (3, none)], .one, .one, .one, .one, .st 2 [(0, none), (1, none)], .st 2 [(0, none), (1, none)], .one, .one, .one, .st 1 [(0, none)], .st 1 [(0, none)], .no, .one, .sl 1, .st 1 [(0, none)], .st 1 [(0, none)], .sl 1, .one, .one, .i64, .no, .one, .no, .one, .sl 2, .no, .one, .no, .one, .no, .one, .no, .one, .one, .one, .one, .one, .one, .one, .one, .one, .one, .ar 2 2 1, .one, .one, .one, .one, .one, .one, .sl 3, .no, .one, .no, .one, .no, .one, .no, .one, .no, .one, .no, .one, .one, .one, .st 3 [(0, none), (1, none), (2, none)], .st 3 [(0, none), (1, none), (2, none)], .one, .one, .one, .sl 1, .one, .one, .one, .one, .one, .one, .one, .one, .sl 3, .no, .one, .st 3 [(0, none), (1, none), (2, none)], .st 3 [(0, none), (1, none), (2, none)], .one, .one, .one, .one, .one, .no, .one, .one, .one, .no, .one, .one, .no, .one, .one, .st 4 [(0, none), (1, none), (2, none), (3, none)], .st 4 [(0, none), (1, none), (2, none), (3, none)], .no, .no, .no, .one, .one, .one, .one, .one, .one, .one, .st 11 [(0, none), (1, none), (2, none), (3, none), (4, none), (5, none), (6, none), (7, none), (8, none), (9, none), (10, none)], .st 11 [(0, none), (1, none), (2, none), (3, none), (4, none), (5, none), (6, none), (7, none), (8, none), (9, none), (10, none)], .no]
theorem tyOk : TyOk Try.prog tys := ⟨by kernel_rfl, by kernel_rfl⟩

theorem worth_pc {w : World} {gv av : Value} {vs : List Value} {rr : List (List Int)} {a : List Int} {i : Nat} {k : Int} (Hg : Mat w gv vs rr) (Ha : Ints w av a) (hi : i < rr.length) (hr : a.length ≤ (rr.getD i []).length)
    (hb : ∀ i j, 0 ≤ val rr i j ∧ val rr i j ≤ 1000) (ha : a.length ≤ 10) :
    PC Try.prog 52 [.agg #[gv], av, .int .i64 (i : Int), .int .i64 k] w (.int .i64 (wth rr a i k)) := by
  refine PC.mk tyOk Try.func52 rfl (by kernel_rfl) fun w1 E1 => ?_
  replace Hg := Hg.ext E1
  replace Ha := Ha.ext E1
  refine Bx.agg fun b w2 E2 _ Hb _ => ?_
  replace Hg := Hg.ext E2
  replace Ha := Ha.ext E2
  refine Lp.mk tyOk [false, false, false, false, false, false, false, false, false, true, true, true, true, true, true, true, true, true, true, true, true, true, true, true, true, true, true, true, true, true, true, true, true] (fun m fr wr => getK fr 9 fun s => getK fr 10 fun j => ∃ c : Nat, c ≤ a.length ∧ m = a.length - c ∧ s = .int .i64 (worth a (rr.getD i []) k c) ∧ j = .int .i64 (c : Int) ∧ wr = w2) a.length ?_ ?_
  · exact ⟨0, Nat.zero_le _, rfl, rfl, rfl, rfl⟩
  · intro m w3 u9 u10 u11 u12 u13 u14 u15 u16 u17 u18 u19 u20 u21 u22 u23 u24 u25 u26 u27 u28 u29 u30 u31 u32 hR
    obtain ⟨c, hc, rfl, rfl, rfl, rfl⟩ := hR
    have hbd := worth_bd (a := a) (k := k) (hb i) c
    have hbc := hb i c
    unfold val at hbc
    repeat' (conv => whnf
             first
             | (refine Dr.quiet tyOk (by kernel_rfl) ?_)
             | (refine Rng.mk (by omega) ?_)
             | (refine Split.pos (by omega) ?_)
             | (refine Split.neg (by omega) ?_)
             | (refine Split.mk (fun h => ?_) (fun h => ?_))
             | (refine Need.mk (by omega) ?_)
             | (refine Ints.ln (by assumption) ?_)
             | (refine Mat.ln (by assumption) ?_)
             | (refine Ints.ln (Mat.row (by assumption) _ (by omega)) ?_)
             | (refine Ints.ix (by assumption) (by omega) ?_)
             | (refine Mat.ix (by assumption) (by omega) ?_)
             | (refine Ints.ix (Mat.row (by assumption) _ (by omega)) (by omega) ?_)
             | (refine Ints.ix (c := 0) (by assumption) (by omega) ?_)
             | (refine Mat.ix (c := 0) (by assumption) (by omega) ?_)
             | (refine Ints.ix (c := 0) (Mat.row (by assumption) _ (by omega)) (by omega) ?_)
             | (refine Ints.ixI (by assumption) (by omega) ?_)
             | (refine Mat.ixI (by assumption) (by omega) ?_)
             | (refine Ints.ixI (Mat.row (by assumption) _ (by omega)) (by omega) ?_)
             | (refine Ints.ld (by assumption) (by omega) ?_)
             | (refine Mat.ld (by assumption) (by omega) ?_)
             | (refine Ints.ld (Mat.row (by assumption) _ (by omega)) (by omega) ?_)
             | (refine At.ld (by assumption) rfl ?_)
             | (refine At.ldN (by assumption) rfl ?_))
    · refine ⟨_, (by omega : a.length - (c + 1) < a.length - c), rfl, c + 1, by omega, rfl, ?_, rfl, rfl⟩
      simp only [worth, if_pos ‹a.getD c 0 = k›]
    · refine ⟨_, (by omega : a.length - (c + 1) < a.length - c), rfl, c + 1, by omega, rfl, ?_, rfl, rfl⟩
      simp only [worth, if_neg ‹¬ a.getD c 0 = k›, Int.add_zero]
    · obtain rfl : c = a.length := by omega
      exact ⟨rfl, E2⟩

theorem rcheck_pc {w : World} {gv : Value} {vs : List Value} {rr : List (List Int)} (Hg : Mat w gv vs rr) :
    PC Try.prog 24 [.agg #[gv]] w (.int .i64 (chk rr)) := by
  refine PC.mk tyOk Try.func24 rfl (by kernel_rfl) fun w1 E1 => ?_
  replace Hg := Hg.ext E1
  have hle := Hg.top.le
  refine Bx.agg fun b w2 E2 _ Hb _ => ?_
  replace Hg := Hg.ext E2
  repeat' (conv => whnf
           first
           | (refine Dr.quiet tyOk (by kernel_rfl) ?_)
           | (refine Rng.mk (by omega) ?_)
           | (refine Split.pos (by omega) ?_)
           | (refine Split.neg (by omega) ?_)
           | (refine Split.mk (fun h => ?_) (fun h => ?_))
           | (refine Need.mk (by omega) ?_)
           | (refine Ints.ln (by assumption) ?_)
           | (refine Mat.ln (by assumption) ?_)
           | (refine Ints.ln (Mat.row (by assumption) _ (by omega)) ?_)
           | (refine Ints.ix (by assumption) (by omega) ?_)
           | (refine Mat.ix (by assumption) (by omega) ?_)
           | (refine Ints.ix (Mat.row (by assumption) _ (by omega)) (by omega) ?_)
           | (refine Ints.ix (c := 0) (by assumption) (by omega) ?_)
           | (refine Mat.ix (c := 0) (by assumption) (by omega) ?_)
           | (refine Ints.ix (c := 0) (Mat.row (by assumption) _ (by omega)) (by omega) ?_)
           | (refine Ints.ixI (by assumption) (by omega) ?_)
           | (refine Mat.ixI (by assumption) (by omega) ?_)
           | (refine Ints.ixI (Mat.row (by assumption) _ (by omega)) (by omega) ?_)
           | (refine Ints.ld (by assumption) (by omega) ?_)
           | (refine Mat.ld (by assumption) (by omega) ?_)
           | (refine Ints.ld (Mat.row (by assumption) _ (by omega)) (by omega) ?_)
           | (refine At.ld (by assumption) rfl ?_)
           | (refine At.ldN (by assumption) rfl ?_))
  · rw [chk_big (.inl (by omega))]; exact ⟨rfl, E2⟩
  refine Lp.mk tyOk [false, false, true, false, true, false, false, false, false, false, false, false, true, true, true, true, true, true, true, true, true, true, true, true] (fun m fr wr => getK fr 4 fun j => ∃ c : Nat, c ≤ rr.length ∧ m = rr.length - c ∧ j = .int .i64 (c : Int) ∧ (∀ i, i < c → (rr.getD i []).length ≤ 10) ∧ wr = w2) rr.length ?_ ?_
  · exact ⟨0, Nat.zero_le _, rfl, rfl, fun i hi => absurd hi (Nat.not_lt_zero _), rfl⟩
  · intro m w3 u2 u4 u12 u13 u14 u15 u16 u17 u18 u19 u20 u21 u22 u23 hR
    obtain ⟨c, hc, rfl, rfl, hlt, rfl⟩ := hR
    repeat' (conv => whnf
             first
             | (refine Dr.quiet tyOk (by kernel_rfl) ?_)
             | (refine Rng.mk (by omega) ?_)
             | (refine Split.pos (by omega) ?_)
             | (refine Split.neg (by omega) ?_)
             | (refine Split.mk (fun h => ?_) (fun h => ?_))
             | (refine Need.mk (by omega) ?_)
             | (refine Ints.ln (by assumption) ?_)
             | (refine Mat.ln (by assumption) ?_)
             | (refine Ints.ln (Mat.row (by assumption) _ (by omega)) ?_)
             | (refine Ints.ix (by assumption) (by omega) ?_)
             | (refine Mat.ix (by assumption) (by omega) ?_)
             | (refine Ints.ix (Mat.row (by assumption) _ (by omega)) (by omega) ?_)
             | (refine Ints.ix (c := 0) (by assumption) (by omega) ?_)
             | (refine Mat.ix (c := 0) (by assumption) (by omega) ?_)
             | (refine Ints.ix (c := 0) (Mat.row (by assumption) _ (by omega)) (by omega) ?_)
             | (refine Ints.ixI (by assumption) (by omega) ?_)
             | (refine Mat.ixI (by assumption) (by omega) ?_)
             | (refine Ints.ixI (Mat.row (by assumption) _ (by omega)) (by omega) ?_)
             | (refine Ints.ld (by assumption) (by omega) ?_)
             | (refine Mat.ld (by assumption) (by omega) ?_)
             | (refine Ints.ld (Mat.row (by assumption) _ (by omega)) (by omega) ?_)
             | (refine At.ld (by assumption) rfl ?_)
             | (refine At.ldN (by assumption) rfl ?_))
    · rw [chk_big (.inr ⟨c, by omega, by omega⟩)]; exact ⟨rfl, E2⟩
    · refine ⟨_, (by omega : rr.length - (c + 1) < rr.length - c), rfl, c + 1, by omega, rfl, rfl, fun i hi => ?_, rfl⟩
      by_cases e : i = c
      · subst e; omega
      · exact hlt i (by omega)
    · have hnb : ¬ bigP rr := by
        rintro (h1 | ⟨i, hi, h1⟩)
        · omega
        · have := hlt i (by omega); omega
      refine Lp.mk tyOk [false, false, true, false, false, true, true, false, false, false, false, false, false, false, false, false, false, false, false, false, false, false, false, false, true, true, true, true, true, true, true, true, true, true, true, true, true, true, true, true, true, true, true, true, true, true, true, true, true, true, true, true, true, true, true, true, true, true, true, true, true, true, true, true, true, true, true, true, true, true, true] (fun m fr wr => getK fr 5 fun j => ∃ c : Nat, c ≤ rr.length ∧ m = rr.length - c ∧ j = .int .i64 (c : Int) ∧ (∀ i, i < c → (rr.getD i []).length = (rr.getD 0 []).length ∧ ∀ j, j < (rr.getD i []).length → 0 ≤ val rr i j ∧ val rr i j ≤ 1000) ∧ wr = w3) rr.length ?_ ?_
      · exact ⟨0, Nat.zero_le _, rfl, rfl, fun i hi => absurd hi (Nat.not_lt_zero _), rfl⟩
      · intro m w4 u2 u5 u6 u24 u25 u26 u27 u28 u29 u30 u31 u32 u33 u34 u35 u36 u37 u38 u39 u40 u41 u42 u43 u44 u45 u46 u47 u48 u49 u50 u51 u52 u53 u54 u55 u56 u57 u58 u59 u60 u61 u62 u63 u64 u65 u66 u67 u68 u69 u70 hR
        obtain ⟨c2, hc2, rfl, rfl, hok, rfl⟩ := hR
        repeat' (conv => whnf
                 first
                 | (refine Dr.quiet tyOk (by kernel_rfl) ?_)
                 | (refine Rng.mk (by omega) ?_)
                 | (refine Split.pos (by omega) ?_)
                 | (refine Split.neg (by omega) ?_)
                 | (refine Split.mk (fun h => ?_) (fun h => ?_))
                 | (refine Need.mk (by omega) ?_)
                 | (refine Ints.ln (by assumption) ?_)
                 | (refine Mat.ln (by assumption) ?_)
                 | (refine Ints.ln (Mat.row (by assumption) _ (by omega)) ?_)
                 | (refine Ints.ix (by assumption) (by omega) ?_)
                 | (refine Mat.ix (by assumption) (by omega) ?_)
                 | (refine Ints.ix (Mat.row (by assumption) _ (by omega)) (by omega) ?_)
                 | (refine Ints.ix (c := 0) (by assumption) (by omega) ?_)
                 | (refine Mat.ix (c := 0) (by assumption) (by omega) ?_)
                 | (refine Ints.ix (c := 0) (Mat.row (by assumption) _ (by omega)) (by omega) ?_)
                 | (refine Ints.ixI (by assumption) (by omega) ?_)
                 | (refine Mat.ixI (by assumption) (by omega) ?_)
                 | (refine Ints.ixI (Mat.row (by assumption) _ (by omega)) (by omega) ?_)
                 | (refine Ints.ld (by assumption) (by omega) ?_)
                 | (refine Mat.ld (by assumption) (by omega) ?_)
                 | (refine Ints.ld (Mat.row (by assumption) _ (by omega)) (by omega) ?_)
                 | (refine At.ld (by assumption) rfl ?_)
                 | (refine At.ldN (by assumption) rfl ?_))
        · have hI := (Hg.row c2 (by omega)).le
          refine Lp.mk tyOk [false, false, true, false, false, false, true, false, false, false, false, false, false, false, false, false, false, false, false, false, false, false, false, false, false, false, false, false, false, false, false, false, false, false, false, false, false, false, false, false, false, true, true, true, true, true, true, true, true, true, true, true, true, true, true, true, true, true, true, true, true, true, true, true, true, true, true, true, true, true, true] (fun m fr wr => getK fr 6 fun j => ∃ c3 : Nat, c3 ≤ (rr.getD c2 []).length ∧ m = (rr.getD c2 []).length - c3 ∧ j = .int .i64 (c3 : Int) ∧ (∀ j, j < c3 → 0 ≤ val rr c2 j ∧ val rr c2 j ≤ 1000) ∧ wr = w4) (rr.getD c2 []).length ?_ ?_
          · exact ⟨0, Nat.zero_le _, rfl, rfl, fun i hi => absurd hi (Nat.not_lt_zero _), rfl⟩
          · intro m w5 u2 u6 u41 u42 u43 u44 u45 u46 u47 u48 u49 u50 u51 u52 u53 u54 u55 u56 u57 u58 u59 u60 u61 u62 u63 u64 u65 u66 u67 u68 u69 u70 hR
            obtain ⟨c3, hc3, rfl, rfl, hv, rfl⟩ := hR
            repeat' (conv => whnf
                     first
                     | (refine Dr.quiet tyOk (by kernel_rfl) ?_)
                     | (refine Rng.mk (by omega) ?_)
                     | (refine Split.pos (by omega) ?_)
                     | (refine Split.neg (by omega) ?_)
                     | (refine Split.mk (fun h => ?_) (fun h => ?_))
                     | (refine Need.mk (by omega) ?_)
                     | (refine Ints.ln (by assumption) ?_)
                     | (refine Mat.ln (by assumption) ?_)
                     | (refine Ints.ln (Mat.row (by assumption) _ (by omega)) ?_)
                     | (refine Ints.ix (by assumption) (by omega) ?_)
                     | (refine Mat.ix (by assumption) (by omega) ?_)
                     | (refine Ints.ix (Mat.row (by assumption) _ (by omega)) (by omega) ?_)
                     | (refine Ints.ix (c := 0) (by assumption) (by omega) ?_)
                     | (refine Mat.ix (c := 0) (by assumption) (by omega) ?_)
                     | (refine Ints.ix (c := 0) (Mat.row (by assumption) _ (by omega)) (by omega) ?_)
                     | (refine Ints.ixI (by assumption) (by omega) ?_)
                     | (refine Mat.ixI (by assumption) (by omega) ?_)
                     | (refine Ints.ixI (Mat.row (by assumption) _ (by omega)) (by omega) ?_)
                     | (refine Ints.ld (by assumption) (by omega) ?_)
                     | (refine Mat.ld (by assumption) (by omega) ?_)
                     | (refine Ints.ld (Mat.row (by assumption) _ (by omega)) (by omega) ?_)
                     | (refine At.ld (by assumption) rfl ?_)
                     | (refine At.ldN (by assumption) rfl ?_))
            · rw [chk_bad hnb (.inr ⟨c2, by omega, .inr ⟨c3, by omega, .inl (by unfold val; omega)⟩⟩)]; exact ⟨rfl, E2⟩
            · rw [chk_bad hnb (.inr ⟨c2, by omega, .inr ⟨c3, by omega, .inr (by unfold val; omega)⟩⟩)]; exact ⟨rfl, E2⟩
            · refine ⟨_, (by omega : (rr.getD c2 []).length - (c3 + 1) < (rr.getD c2 []).length - c3), rfl, c3 + 1, by omega, rfl, rfl, fun i hi => ?_, rfl⟩
              by_cases e : i = c3
              · subst e; unfold val; omega
              · exact hv i (by omega)
            · refine ⟨_, (by omega : rr.length - (c2 + 1) < rr.length - c2), rfl, c2 + 1, by omega, rfl, rfl, fun i hi => ?_, rfl⟩
              by_cases e : i = c2
              · subst e; exact ⟨by omega, fun j hj => hv j (by omega)⟩
              · exact hok i (by omega)
        · rw [chk_bad hnb (.inr ⟨c2, by omega, .inl (by omega)⟩)]; exact ⟨rfl, E2⟩
        · rw [chk_bad hnb (.inl (by omega))]; exact ⟨rfl, E2⟩
        · have hnb2 : ¬ badP rr := by
            rintro (h1 | ⟨i, hi, h1 | ⟨j, hj, h1⟩⟩)
            · omega
            · exact h1 (hok i (by omega)).1
            · have := (hok i (by omega)).2 j hj; omega
          rw [chk_ok hnb hnb2]; exact ⟨rfl, E2⟩

theorem rvalid_pc {w : World} {gv av : Value} {vs : List Value} {rr : List (List Int)} {a : List Int} (Hg : Mat w gv vs rr) (Ha : Ints w av a) :
    PC Try.prog 26 [.agg #[gv], av] w (.int .i64 (vld rr a)) := by
  refine PC.mk tyOk Try.func26 rfl (by kernel_rfl) fun w1 E1 => ?_
  replace Hg := Hg.ext E1
  replace Ha := Ha.ext E1
  have hle := Hg.top.le
  have hla := Ha.le
  refine Bx.agg fun b w2 E2 _ Hb _ => ?_
  replace Hg := Hg.ext E2
  replace Ha := Ha.ext E2
  by_cases hck : chk rr = 0
  · have hgd := gd_of_chk hck
    have hn1 := hgd.n1
    repeat' (conv => whnf
             first
             | (refine Dr.quiet tyOk (by kernel_rfl) ?_)
             | (refine VC.pure (rcheck_pc Hg) ?_)
             | (refine Rng.mk (by omega) ?_)
             | (refine Split.pos (by omega) ?_)
             | (refine Split.neg (by omega) ?_)
             | (refine Split.mk (fun h => ?_) (fun h => ?_))
             | (refine Need.mk (by omega) ?_)
             | (refine Ints.ln (by assumption) ?_)
             | (refine Mat.ln (by assumption) ?_)
             | (refine Ints.ln (Mat.row (by assumption) _ (by omega)) ?_)
             | (refine Ints.ix (by assumption) (by omega) ?_)
             | (refine Mat.ix (by assumption) (by omega) ?_)
             | (refine Ints.ix (Mat.row (by assumption) _ (by omega)) (by omega) ?_)
             | (refine Ints.ix (c := 0) (by assumption) (by omega) ?_)
             | (refine Mat.ix (c := 0) (by assumption) (by omega) ?_)
             | (refine Ints.ix (c := 0) (Mat.row (by assumption) _ (by omega)) (by omega) ?_)
             | (refine Ints.ixI (by assumption) (by omega) ?_)
             | (refine Mat.ixI (by assumption) (by omega) ?_)
             | (refine Ints.ixI (Mat.row (by assumption) _ (by omega)) (by omega) ?_)
             | (refine Ints.ld (by assumption) (by omega) ?_)
             | (refine Mat.ld (by assumption) (by omega) ?_)
             | (refine Ints.ld (Mat.row (by assumption) _ (by omega)) (by omega) ?_)
             | (refine At.ld (by assumption) rfl ?_)
             | (refine At.ldN (by assumption) rfl ?_))
    · refine Lp.mk tyOk [false, false, false, false, true, true, false, false, false, false, false, false, false, false, false, false, false, false, false, true, true, true, true, true, true, true, true, true, true, true, true, true, true, true, true, true, true, true, true, true] (fun m fr wr => getK fr 5 fun j => ∃ c : Nat, c ≤ a.length ∧ m = a.length - c ∧ j = .int .i64 (c : Int) ∧ (∀ i, i < c → -1 ≤ a.getD i 0 ∧ a.getD i 0 < rr.length) ∧ wr = w2) a.length ?_ ?_
      · exact ⟨0, Nat.zero_le _, rfl, rfl, fun i hi => absurd hi (Nat.not_lt_zero _), rfl⟩
      · intro m w3 u4 u5 u19 u20 u21 u22 u23 u24 u25 u26 u27 u28 u29 u30 u31 u32 u33 u34 u35 u36 u37 u38 u39 hR
        obtain ⟨c, hc, rfl, rfl, hv, rfl⟩ := hR
        repeat' (conv => whnf
                 first
                 | (refine Dr.quiet tyOk (by kernel_rfl) ?_)
                 | (refine Rng.mk (by omega) ?_)
                 | (refine Split.pos (by omega) ?_)
                 | (refine Split.neg (by omega) ?_)
                 | (refine Split.mk (fun h => ?_) (fun h => ?_))
                 | (refine Need.mk (by omega) ?_)
                 | (refine Ints.ln (by assumption) ?_)
                 | (refine Mat.ln (by assumption) ?_)
                 | (refine Ints.ln (Mat.row (by assumption) _ (by omega)) ?_)
                 | (refine Ints.ix (by assumption) (by omega) ?_)
                 | (refine Mat.ix (by assumption) (by omega) ?_)
                 | (refine Ints.ix (Mat.row (by assumption) _ (by omega)) (by omega) ?_)
                 | (refine Ints.ix (c := 0) (by assumption) (by omega) ?_)
                 | (refine Mat.ix (c := 0) (by assumption) (by omega) ?_)
                 | (refine Ints.ix (c := 0) (Mat.row (by assumption) _ (by omega)) (by omega) ?_)
                 | (refine Ints.ixI (by assumption) (by omega) ?_)
                 | (refine Mat.ixI (by assumption) (by omega) ?_)
                 | (refine Ints.ixI (Mat.row (by assumption) _ (by omega)) (by omega) ?_)
                 | (refine Ints.ld (by assumption) (by omega) ?_)
                 | (refine Mat.ld (by assumption) (by omega) ?_)
                 | (refine Ints.ld (Mat.row (by assumption) _ (by omega)) (by omega) ?_)
                 | (refine At.ld (by assumption) rfl ?_)
                 | (refine At.ldN (by assumption) rfl ?_))
        · rw [vld_bad hck (.inr ⟨c, by omega, .inl (by omega)⟩)]; exact ⟨rfl, E2⟩
        · rw [vld_bad hck (.inr ⟨c, by omega, .inr (by omega)⟩)]; exact ⟨rfl, E2⟩
        · refine ⟨_, (by omega : a.length - (c + 1) < a.length - c), rfl, c + 1, by omega, rfl, rfl, fun i hi => ?_, rfl⟩
          by_cases e : i = c
          · subst e; omega
          · exact hv i (by omega)
        · have hnb : ¬ badA rr a := by
            rintro (h1 | ⟨k, hk, h1⟩)
            · omega
            · have := hv k (by omega); omega
          rw [vld_ok hck hnb]; exact ⟨rfl, E2⟩
    · rw [vld_bad hck (.inl (by omega))]; exact ⟨rfl, E2⟩
  · repeat' (conv => whnf
             first
             | (refine Dr.quiet tyOk (by kernel_rfl) ?_)
             | (refine VC.pure (rcheck_pc Hg) ?_)
             | (refine Rng.mk (by omega) ?_)
             | (refine Split.pos (by omega) ?_)
             | (refine Split.neg (by omega) ?_)
             | (refine Split.mk (fun h => ?_) (fun h => ?_))
             | (refine Need.mk (by omega) ?_)
             | (refine Ints.ln (by assumption) ?_)
             | (refine Mat.ln (by assumption) ?_)
             | (refine Ints.ln (Mat.row (by assumption) _ (by omega)) ?_)
             | (refine Ints.ix (by assumption) (by omega) ?_)
             | (refine Mat.ix (by assumption) (by omega) ?_)
             | (refine Ints.ix (Mat.row (by assumption) _ (by omega)) (by omega) ?_)
             | (refine Ints.ix (c := 0) (by assumption) (by omega) ?_)
             | (refine Mat.ix (c := 0) (by assumption) (by omega) ?_)
             | (refine Ints.ix (c := 0) (Mat.row (by assumption) _ (by omega)) (by omega) ?_)
             | (refine Ints.ixI (by assumption) (by omega) ?_)
             | (refine Mat.ixI (by assumption) (by omega) ?_)
             | (refine Ints.ixI (Mat.row (by assumption) _ (by omega)) (by omega) ?_)
             | (refine Ints.ld (by assumption) (by omega) ?_)
             | (refine Mat.ld (by assumption) (by omega) ?_)
             | (refine Ints.ld (Mat.row (by assumption) _ (by omega)) (by omega) ?_)
             | (refine At.ld (by assumption) rfl ?_)
             | (refine At.ldN (by assumption) rfl ?_))
    rw [vld_chk hck]; exact ⟨rfl, E2⟩

theorem rall_pc {w : World} {gv : Value} {vs : List Value} {rr : List (List Int)} {i : Nat} (Hg : Mat w gv vs rr) (hi : i < rr.length) (hb : ∀ i j, 0 ≤ val rr i j ∧ val rr i j ≤ 1000) (hl : (rr.getD i []).length ≤ 10) :
    PC Try.prog 33 [.agg #[gv], .int .i64 (i : Int)] w (.int .i64 (allv rr i)) := by
  refine PC.mk tyOk Try.func33 rfl (by kernel_rfl) fun w1 E1 => ?_
  replace Hg := Hg.ext E1
  refine Bx.agg fun b w2 E2 _ Hb _ => ?_
  replace Hg := Hg.ext E2
  refine Lp.mk tyOk [false, false, false, false, false, true, true, true, true, true, true, true, true, true, true, true, true, true, true, true, true, true, true, true, true, true, true] (fun m fr wr => getK fr 5 fun s => getK fr 6 fun j => ∃ c : Nat, c ≤ (rr.getD i []).length ∧ m = (rr.getD i []).length - c ∧ s = .int .i64 (sumTo (rr.getD i []) c) ∧ j = .int .i64 (c : Int) ∧ wr = w2) (rr.getD i []).length ?_ ?_
  · exact ⟨0, Nat.zero_le _, rfl, rfl, rfl, rfl⟩
  · intro m w3 u5 u6 u7 u8 u9 u10 u11 u12 u13 u14 u15 u16 u17 u18 u19 u20 u21 u22 u23 u24 u25 u26 hR
    obtain ⟨c, hc, rfl, rfl, rfl, rfl⟩ := hR
    have hbd := sumTo_bd (hb i) c
    have hbc := hb i c
    unfold val at hbc
    repeat' (conv => whnf
             first
             | (refine Dr.quiet tyOk (by kernel_rfl) ?_)
             | (refine Rng.mk (by omega) ?_)
             | (refine Split.pos (by omega) ?_)
             | (refine Split.neg (by omega) ?_)
             | (refine Split.mk (fun h => ?_) (fun h => ?_))
             | (refine Need.mk (by omega) ?_)
             | (refine Ints.ln (by assumption) ?_)
             | (refine Mat.ln (by assumption) ?_)
             | (refine Ints.ln (Mat.row (by assumption) _ (by omega)) ?_)
             | (refine Ints.ix (by assumption) (by omega) ?_)
             | (refine Mat.ix (by assumption) (by omega) ?_)
             | (refine Ints.ix (Mat.row (by assumption) _ (by omega)) (by omega) ?_)
             | (refine Ints.ix (c := 0) (by assumption) (by omega) ?_)
             | (refine Mat.ix (c := 0) (by assumption) (by omega) ?_)
             | (refine Ints.ix (c := 0) (Mat.row (by assumption) _ (by omega)) (by omega) ?_)
             | (refine Ints.ixI (by assumption) (by omega) ?_)
             | (refine Mat.ixI (by assumption) (by omega) ?_)
             | (refine Ints.ixI (Mat.row (by assumption) _ (by omega)) (by omega) ?_)
             | (refine Ints.ld (by assumption) (by omega) ?_)
             | (refine Mat.ld (by assumption) (by omega) ?_)
             | (refine Ints.ld (Mat.row (by assumption) _ (by omega)) (by omega) ?_)
             | (refine At.ld (by assumption) rfl ?_)
             | (refine At.ldN (by assumption) rfl ?_))
    · exact ⟨_, (by omega : (rr.getD i []).length - (c + 1) < (rr.getD i []).length - c), rfl, c + 1, by omega, rfl, rfl, rfl, rfl⟩
    · obtain rfl : c = (rr.getD i []).length := by omega
      exact ⟨rfl, E2⟩

def compl (a : List Int) : Prop := ∀ k, k < a.length → 0 ≤ a.getD k 0
theorem complete_pc {w : World} {av : Value} {a : List Int} (Ha : Ints w av a) : PC Try.prog 32 [av] w (.bool (tf (compl a))) := by
  refine PC.mk tyOk Try.func32 rfl (by kernel_rfl) fun w1 E1 => ?_
  replace Ha := Ha.ext E1
  have hla := Ha.le
  refine Lp.mk tyOk [false, false, true, true, true, true, true, true, true, true, true, true, true, true, true] (fun m fr wr => getK fr 3 fun j => ∃ c : Nat, c ≤ a.length ∧ m = a.length - c ∧ j = .int .i64 (c : Int) ∧ (∀ k, k < c → 0 ≤ a.getD k 0) ∧ wr = w1) a.length ?_ ?_
  · exact ⟨0, Nat.zero_le _, rfl, rfl, fun i hi => absurd hi (Nat.not_lt_zero _), rfl⟩
  · intro m w3 u2 u3 u4 u5 u6 u7 u8 u9 u10 u11 u12 u13 u14 hR
    obtain ⟨c, hc, rfl, rfl, hv, rfl⟩ := hR
    repeat' (conv => whnf
             first
             | (refine Dr.quiet tyOk (by kernel_rfl) ?_)
             | (refine Rng.mk (by omega) ?_)
             | (refine Split.pos (by omega) ?_)
             | (refine Split.neg (by omega) ?_)
             | (refine Split.mk (fun h => ?_) (fun h => ?_))
             | (refine Need.mk (by omega) ?_)
             | (refine Ints.ln (by assumption) ?_)
             | (refine Mat.ln (by assumption) ?_)
             | (refine Ints.ln (Mat.row (by assumption) _ (by omega)) ?_)
             | (refine Ints.ix (by assumption) (by omega) ?_)
             | (refine Mat.ix (by assumption) (by omega) ?_)
             | (refine Ints.ix (Mat.row (by assumption) _ (by omega)) (by omega) ?_)
             | (refine Ints.ix (c := 0) (by assumption) (by omega) ?_)
             | (refine Mat.ix (c := 0) (by assumption) (by omega) ?_)
             | (refine Ints.ix (c := 0) (Mat.row (by assumption) _ (by omega)) (by omega) ?_)
             | (refine Ints.ixI (by assumption) (by omega) ?_)
             | (refine Mat.ixI (by assumption) (by omega) ?_)
             | (refine Ints.ixI (Mat.row (by assumption) _ (by omega)) (by omega) ?_)
             | (refine Ints.ld (by assumption) (by omega) ?_)
             | (refine Mat.ld (by assumption) (by omega) ?_)
             | (refine Ints.ld (Mat.row (by assumption) _ (by omega)) (by omega) ?_)
             | (refine At.ld (by assumption) rfl ?_)
             | (refine At.ldN (by assumption) rfl ?_))
    · rw [tf_f (p := compl a) (fun h => by have := h c (by omega); omega)]; exact ⟨rfl, Ext.refl _⟩
    · refine ⟨_, (by omega : a.length - (c + 1) < a.length - c), rfl, c + 1, by omega, rfl, rfl, fun i hi => ?_, rfl⟩
      by_cases e : i = c
      · subst e; omega
      · exact hv i (by omega)
    · rw [tf_t (p := compl a) (fun k hk => hv k (by omega))]; exact ⟨rfl, Ext.refl _⟩

def great (rr : List (List Int)) (a : List Int) : Prop := (∃ i, i < rr.length ∧ i < 20 ∧ 50 < (rr.getD i []).length) ∨ 20 < rr.length ∨ 50 < a.length
theorem great_pc {w : World} {gv av : Value} {vs : List Value} {rr : List (List Int)} {a : List Int} (Hg : Mat w gv vs rr) (Ha : Ints w av a) :
    PC Try.prog 15 [.agg #[gv], av] w (.bool (tf (great rr a))) := by
  refine PC.mk tyOk Try.func15 rfl (by kernel_rfl) fun w1 E1 => ?_
  replace Hg := Hg.ext E1
  replace Ha := Ha.ext E1
  have hle := Hg.top.le
  refine Bx.agg fun b w2 E2 _ Hb _ => ?_
  replace Hg := Hg.ext E2
  replace Ha := Ha.ext E2
  refine Lp.mk tyOk [false, false, false, false, true, true, true, true, true, true, true, true, true, true, true, true, true, true, true, true, true, true, true, true] (fun m fr wr => getK fr 5 fun j => ∃ c : Nat, c ≤ rr.length ∧ m = rr.length - c ∧ j = .int .i64 (c : Int) ∧ (∀ k, k < c → (rr.getD k []).length ≤ 50) ∧ wr = w2) rr.length ?_ ?_
  · exact ⟨0, Nat.zero_le _, rfl, rfl, fun i hi => absurd hi (Nat.not_lt_zero _), rfl⟩
  · intro m w3 u4 u5 u6 u7 u8 u9 u10 u11 u12 u13 u14 u15 u16 u17 u18 u19 u20 u21 u22 u23 hR
    obtain ⟨c, hc, rfl, rfl, hv, rfl⟩ := hR
    repeat' (conv => whnf
             first
             | (refine Dr.quiet tyOk (by kernel_rfl) ?_)
             | (refine Rng.mk (by omega) ?_)
             | (refine Split.pos (by omega) ?_)
             | (refine Split.neg (by omega) ?_)
             | (refine Split.mk (fun h => ?_) (fun h => ?_))
             | (refine Need.mk (by omega) ?_)
             | (refine Ints.ln (by assumption) ?_)
             | (refine Mat.ln (by assumption) ?_)
             | (refine Ints.ln (Mat.row (by assumption) _ (by omega)) ?_)
             | (refine Ints.ix (by assumption) (by omega) ?_)
             | (refine Mat.ix (by assumption) (by omega) ?_)
             | (refine Ints.ix (Mat.row (by assumption) _ (by omega)) (by omega) ?_)
             | (refine Ints.ix (c := 0) (by assumption) (by omega) ?_)
             | (refine Mat.ix (c := 0) (by assumption) (by omega) ?_)
             | (refine Ints.ix (c := 0) (Mat.row (by assumption) _ (by omega)) (by omega) ?_)
             | (refine Ints.ixI (by assumption) (by omega) ?_)
             | (refine Mat.ixI (by assumption) (by omega) ?_)
             | (refine Ints.ixI (Mat.row (by assumption) _ (by omega)) (by omega) ?_)
             | (refine Ints.ld (by assumption) (by omega) ?_)
             | (refine Mat.ld (by assumption) (by omega) ?_)
             | (refine Ints.ld (Mat.row (by assumption) _ (by omega)) (by omega) ?_)
             | (refine At.ld (by assumption) rfl ?_)
             | (refine At.ldN (by assumption) rfl ?_))
    · rw [tf_t (p := great rr a) (.inl ⟨c, by omega, by omega, by omega⟩)]; exact ⟨rfl, E2⟩
    · refine ⟨_, (by omega : rr.length - (c + 1) < rr.length - c), rfl, c + 1, by omega, rfl, rfl, fun i hi => ?_, rfl⟩
      by_cases e : i = c
      · subst e; omega
      · exact hv i (by omega)
    · rw [tf_t (p := great rr a) (.inr (.inl (by omega)))]; exact ⟨rfl, E2⟩
    · rw [tf_t (p := great rr a) (.inr (.inl (by omega)))]; exact ⟨rfl, E2⟩
    · rw [tf_t (p := great rr a) (.inr (.inr (by omega)))]; exact ⟨rfl, E2⟩
    · rw [tf_f (p := great rr a) (by
        rintro (⟨i, h1, h2, h3⟩ | h1 | h1)
        · have := hv i (by omega); omega
        · omega
        · omega)]; exact ⟨rfl, E2⟩
end Go.Proofs.Ytiahjkhfkbcjhaa
