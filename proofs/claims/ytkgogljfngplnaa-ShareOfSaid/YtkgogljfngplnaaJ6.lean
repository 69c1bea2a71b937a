/- Contracts of share and its reference: the least value of a partition. -/
import Derived.Test.YtkgogljfngplnaaJ5
set_option linter.unusedVariables false
set_option linter.unusedSimpArgs false
namespace Go.Proofs.Ytkgogljfngplnaa
open Go.Eng
set_option maxRecDepth 100000
set_option maxHeartbeats 4000000

/-- the ends of partitions: r goods to go, bundles numbered by their first goods -/
def partsF (n : Nat) : Nat → Nat → List (List Int)
  | 0, _ => [[]]
  | r + 1, used => (List.range (min (used + 1) n)).flatMap fun k => (partsF n r (max used (k + 1))).map fun s => (k : Int) :: s
/-- of the first c bundles -/
def partsC (n r used c : Nat) : List (List Int) := (List.range c).flatMap fun k => (partsF n r (max used (k + 1))).map fun s => (k : Int) :: s
theorem partsC_succ (n r used c : Nat) : partsC n r used (c + 1) = partsC n r used c ++ (partsF n r (max used (c + 1))).map fun s => (c : Int) :: s := by
  unfold partsC; rw [List.range_succ, List.flatMap_append]; simp
theorem partsC_all (n r used : Nat) : partsC n r used (min (used + 1) n) = partsF n (r + 1) used := rfl
theorem partsC_pre {n r used c d : Nat} (h : c ≤ d) : partsC n r used c <+: partsC n r used d := by
  induction d with
  | zero => have : c = 0 := by omega
            subst this; exact List.prefix_refl _
  | succ d ih =>
    by_cases e : c = d + 1
    · subst e; exact List.prefix_refl _
    · rw [partsC_succ]; exact (ih (by omega)).trans (List.prefix_append _ _)

theorem pfrom_rc {mg n : Nat} {M : Nat → Prop} {J Jx : Nat → List (List Int) → World → Prop} {W0 n1 g l0 mb yb nb fb : Nat} {xs : List (List Int)} (hm : mg ≤ 100) (hn : n ≤ 100) (hW : W0 ≤ n1)
    (hY : ∀ (n1 : Nat) (pre : List (List Int)) (x : List Int) (v : Value) (A : World), W0 ≤ n1 → n1 ≤ A.heap.size → pre ++ [x] <+: xs → Carry W0 n1 (J n1 pre) A → Ints A v x → ∀ K : Value → World → Prop,
        (∀ B, Carry W0 n1 (J n1 (pre ++ [x])) B → Gr (fun k => M k ∨ n1 ≤ k) A B → K (.bool true) B) → (∀ B, Carry W0 n1 (Jx n1 (pre ++ [x])) B → Gr (fun k => M k ∨ n1 ≤ k) A B → K (.bool false) B) → VY Try.prog l0 [v] A K)
    (hg1 : W0 ≤ g ∧ g < n1) (hgM : ¬ M g) (hSm : ¬ (M mb ∨ n1 ≤ mb ∨ mb = g)) (hSy : ¬ (M yb ∨ n1 ≤ yb ∨ yb = g)) (hSn : ¬ (M nb ∨ n1 ≤ nb ∨ nb = g)) (hSf : ¬ (M fb ∨ n1 ≤ fb ∨ fb = g)) :
    ∀ (r : Nat) (l : List Int) (used : Nat) (pre : List (List Int)) (w : World), l.length + r = mg → used ≤ mg - r → n1 ≤ w.heap.size → Buf 3 w g mg l.length (l.map i64v) →
      At w ⟨mb, 0, none⟩ [.int .i64 (mg : Int)] → At w ⟨yb, 0, none⟩ [.func (.yield l0) #[] #[]] → At w ⟨nb, 0, none⟩ [.int .i64 (n : Int)] →
      At w ⟨fb, 0, none⟩ [.func (.func 87) #[] #[.pointer (some ⟨mb, 0, none⟩), .pointer (some ⟨yb, 0, none⟩), .pointer (some ⟨nb, 0, none⟩), .pointer (some ⟨fb, 0, none⟩)]] →
      Carry W0 n1 (J n1 pre) w → pre ++ (partsF n r used).map (fun s => l ++ s) <+: xs →
      RC Try.prog 87 [bufV g mg l.length, .int .i64 (used : Int), .pointer (some ⟨mb, 0, none⟩), .pointer (some ⟨yb, 0, none⟩), .pointer (some ⟨nb, 0, none⟩), .pointer (some ⟨fb, 0, none⟩)] w (fun k => M k ∨ n1 ≤ k ∨ k = g)
        (fun u w' => (u = .bool true ∧ Buf 3 w' g mg l.length (l.map i64v) ∧ Carry W0 n1 (J n1 (pre ++ (partsF n r used).map (fun s => l ++ s))) w') ∨ (u = .bool false ∧ ∃ pre2, pre2 <+: xs ∧ Carry W0 n1 (Jx n1 pre2) w')) := by
  intro r
  induction r with
  | zero =>
    intro l used pre w hl hu hsz HB Hm HYb Hn Hf HJ hpre
    refine RCX.mk tyOk Try.func87 rfl (by kernel_rfl) fun w1 E1 => ?_
    replace HB := HB.ext E1
    replace Hm := Hm.ext E1
    replace HYb := HYb.ext E1
    replace Hn := Hn.ext E1
    replace Hf := Hf.ext E1
    replace HJ := HJ.ext E1
    have EE := Ext.refl w1
    have hs1 : n1 ≤ w1.heap.size := Nat.le_trans hsz E1.size
    have HI : Ints w1 (bufV g mg l.length) l := Own.sl (HB.own (B := 0) (Nat.zero_le _))
    have e1 : (partsF n 0 used).map (fun s => l ++ s) = [l] := by simp [partsF]
    rw [e1] at hpre ⊢
    repeat' (conv => whnf
             first
             | (refine Ints.ln HI ?_)
             | (refine At.ld (i := 0) Hm rfl ?_)
             | (refine At.ld (i := 0) HYb rfl ?_)
             | (refine Rng.mk (by omega) ?_)
             | (refine Split.pos (by omega) ?_)
             | (refine Split.neg (by omega) ?_)
             | (refine Split.mk (fun h => ?_) (fun h => ?_))
             | (refine Need.mk (by omega) ?_)
             | (refine Ints.ln (by assumption) ?_)
             | (refine Mat.ln (by assumption) ?_)
             | (refine Ints.ln (Mat.row (by assumption) _ (by omega)) ?_)
             | (refine Ints.ix (by assumption) (by omega) ?_)
             | (refine Mat.ix (by assumption) (by omega) ?_)
             | (refine Ints.ix (Mat.row (by assumption) _ (by omega)) (by omega) ?_)
             | (refine Ints.ix (c := 0) (by assumption) (by omega) ?_)
             | (refine Mat.ix (c := 0) (by assumption) (by omega) ?_)
             | (refine Ints.ix (c := 0) (Mat.row (by assumption) _ (by omega)) (by omega) ?_)
             | (refine Ints.ixI (by assumption) (by omega) ?_)
             | (refine Mat.ixI (by assumption) (by omega) ?_)
             | (refine Ints.ixI (Mat.row (by assumption) _ (by omega)) (by omega) ?_)
             | (refine Ints.ld (by assumption) (by omega) ?_)
             | (refine Mat.ld (by assumption) (by omega) ?_)
             | (refine Ints.ld (Mat.row (by assumption) _ (by omega)) (by omega) ?_)
             | (refine At.ld (by assumption) rfl ?_)
             | (refine At.ldN (by assumption) rfl ?_)
             | (refine Prs.ln (by assumption) ?_)
             | (refine Trs.ln (by assumption) ?_)
             | (refine Prs.ix (by assumption) (by omega) ?_)
             | (refine Trs.ix (by assumption) (by omega) ?_)
             | (refine Prs.ldN (by assumption) (by omega) ?_)
             | (refine Trs.ldN (by assumption) (by omega) ?_)
             | (refine At.ldN (Blk.at (by assumption)) rfl ?_)
             | (refine At.ld (Blk.at (by assumption)) rfl ?_)
             | (refine IxA.mk (by omega) ?_)
             | (refine Sl.ln (Own.sl (by assumption)) ?_)
             | (refine Ints.ix (Own.sl (by assumption)) (by omega) ?_)
             | (refine Ints.ixI (Own.sl (by assumption)) (by omega) ?_)
             | (refine Ints.ld (Own.sl (by assumption)) (by omega) ?_))
    refine hY n1 pre l _ _ hW hs1 hpre HJ HI _ (fun wb HJ2 G2 => ?_) (fun wb HJ2 G2 => ?_)
    · skip
      repeat' (conv => whnf
               first
               | (refine Rng.mk (by omega) ?_)
               | (refine Split.pos (by omega) ?_)
               | (refine Split.neg (by omega) ?_)
               | (refine Split.mk (fun h => ?_) (fun h => ?_))
               | (refine Need.mk (by omega) ?_)
               | (refine Ints.ln (by assumption) ?_)
               | (refine Mat.ln (by assumption) ?_)
               | (refine Ints.ln (Mat.row (by assumption) _ (by omega)) ?_)
               | (refine Ints.ix (by assumption) (by omega) ?_)
               | (refine Mat.ix (by assumption) (by omega) ?_)
               | (refine Ints.ix (Mat.row (by assumption) _ (by omega)) (by omega) ?_)
               | (refine Ints.ix (c := 0) (by assumption) (by omega) ?_)
               | (refine Mat.ix (c := 0) (by assumption) (by omega) ?_)
               | (refine Ints.ix (c := 0) (Mat.row (by assumption) _ (by omega)) (by omega) ?_)
               | (refine Ints.ixI (by assumption) (by omega) ?_)
               | (refine Mat.ixI (by assumption) (by omega) ?_)
               | (refine Ints.ixI (Mat.row (by assumption) _ (by omega)) (by omega) ?_)
               | (refine Ints.ld (by assumption) (by omega) ?_)
               | (refine Mat.ld (by assumption) (by omega) ?_)
               | (refine Ints.ld (Mat.row (by assumption) _ (by omega)) (by omega) ?_)
               | (refine At.ld (by assumption) rfl ?_)
               | (refine At.ldN (by assumption) rfl ?_)
               | (refine Prs.ln (by assumption) ?_)
               | (refine Trs.ln (by assumption) ?_)
               | (refine Prs.ix (by assumption) (by omega) ?_)
               | (refine Trs.ix (by assumption) (by omega) ?_)
               | (refine Prs.ldN (by assumption) (by omega) ?_)
               | (refine Trs.ldN (by assumption) (by omega) ?_)
               | (refine At.ldN (Blk.at (by assumption)) rfl ?_)
               | (refine At.ld (Blk.at (by assumption)) rfl ?_)
               | (refine IxA.mk (by omega) ?_)
               | (refine Sl.ln (Own.sl (by assumption)) ?_)
               | (refine Ints.ix (Own.sl (by assumption)) (by omega) ?_)
               | (refine Ints.ixI (Own.sl (by assumption)) (by omega) ?_)
               | (refine Ints.ld (Own.sl (by assumption)) (by omega) ?_))
      exact ⟨G2.mono fun k _ h => h.elim .inl fun h => .inr (.inl h), .inl ⟨rfl, HB.gr G2 (by rintro (h | h); exact hgM h; omega), HJ2⟩⟩
    · skip
      repeat' (conv => whnf
               first
               | (refine Rng.mk (by omega) ?_)
               | (refine Split.pos (by omega) ?_)
               | (refine Split.neg (by omega) ?_)
               | (refine Split.mk (fun h => ?_) (fun h => ?_))
               | (refine Need.mk (by omega) ?_)
               | (refine Ints.ln (by assumption) ?_)
               | (refine Mat.ln (by assumption) ?_)
               | (refine Ints.ln (Mat.row (by assumption) _ (by omega)) ?_)
               | (refine Ints.ix (by assumption) (by omega) ?_)
               | (refine Mat.ix (by assumption) (by omega) ?_)
               | (refine Ints.ix (Mat.row (by assumption) _ (by omega)) (by omega) ?_)
               | (refine Ints.ix (c := 0) (by assumption) (by omega) ?_)
               | (refine Mat.ix (c := 0) (by assumption) (by omega) ?_)
               | (refine Ints.ix (c := 0) (Mat.row (by assumption) _ (by omega)) (by omega) ?_)
               | (refine Ints.ixI (by assumption) (by omega) ?_)
               | (refine Mat.ixI (by assumption) (by omega) ?_)
               | (refine Ints.ixI (Mat.row (by assumption) _ (by omega)) (by omega) ?_)
               | (refine Ints.ld (by assumption) (by omega) ?_)
               | (refine Mat.ld (by assumption) (by omega) ?_)
               | (refine Ints.ld (Mat.row (by assumption) _ (by omega)) (by omega) ?_)
               | (refine At.ld (by assumption) rfl ?_)
               | (refine At.ldN (by assumption) rfl ?_)
               | (refine Prs.ln (by assumption) ?_)
               | (refine Trs.ln (by assumption) ?_)
               | (refine Prs.ix (by assumption) (by omega) ?_)
               | (refine Trs.ix (by assumption) (by omega) ?_)
               | (refine Prs.ldN (by assumption) (by omega) ?_)
               | (refine Trs.ldN (by assumption) (by omega) ?_)
               | (refine At.ldN (Blk.at (by assumption)) rfl ?_)
               | (refine At.ld (Blk.at (by assumption)) rfl ?_)
               | (refine IxA.mk (by omega) ?_)
               | (refine Sl.ln (Own.sl (by assumption)) ?_)
               | (refine Ints.ix (Own.sl (by assumption)) (by omega) ?_)
               | (refine Ints.ixI (Own.sl (by assumption)) (by omega) ?_)
               | (refine Ints.ld (Own.sl (by assumption)) (by omega) ?_))
      exact ⟨G2.mono fun k _ h => h.elim .inl fun h => .inr (.inl h), .inr ⟨rfl, _, hpre, HJ2⟩⟩
  | succ r ih =>
    intro l used pre w hl hu hsz HB Hm HYb Hn Hf HJ hpre
    refine RCX.mk tyOk Try.func87 rfl (by kernel_rfl) fun w1 E1 => ?_
    replace HB := HB.ext E1
    replace Hm := Hm.ext E1
    replace HYb := HYb.ext E1
    replace Hn := Hn.ext E1
    replace Hf := Hf.ext E1
    replace HJ := HJ.ext E1
    have EE := Ext.refl w1
    have hs1 : n1 ≤ w1.heap.size := Nat.le_trans hsz E1.size
    have HI : Ints w1 (bufV g mg l.length) l := Own.sl (HB.own (B := 0) (Nat.zero_le _))
    by_cases hn2 : n < used + 1
    · have hmin : min (used + 1) n = n := by omega
      repeat' (conv => whnf
               first
               | (refine Ints.ln HI ?_)
               | (refine At.ld (i := 0) Hm rfl ?_)
               | (refine At.ld (i := 0) Hn rfl ?_)
               | (refine Rng.mk (by omega) ?_)
               | (refine Split.pos (by omega) ?_)
               | (refine Split.neg (by omega) ?_)
               | (refine Split.mk (fun h => ?_) (fun h => ?_))
               | (refine Need.mk (by omega) ?_)
               | (refine Ints.ln (by assumption) ?_)
               | (refine Mat.ln (by assumption) ?_)
               | (refine Ints.ln (Mat.row (by assumption) _ (by omega)) ?_)
               | (refine Ints.ix (by assumption) (by omega) ?_)
               | (refine Mat.ix (by assumption) (by omega) ?_)
               | (refine Ints.ix (Mat.row (by assumption) _ (by omega)) (by omega) ?_)
               | (refine Ints.ix (c := 0) (by assumption) (by omega) ?_)
               | (refine Mat.ix (c := 0) (by assumption) (by omega) ?_)
               | (refine Ints.ix (c := 0) (Mat.row (by assumption) _ (by omega)) (by omega) ?_)
               | (refine Ints.ixI (by assumption) (by omega) ?_)
               | (refine Mat.ixI (by assumption) (by omega) ?_)
               | (refine Ints.ixI (Mat.row (by assumption) _ (by omega)) (by omega) ?_)
               | (refine Ints.ld (by assumption) (by omega) ?_)
               | (refine Mat.ld (by assumption) (by omega) ?_)
               | (refine Ints.ld (Mat.row (by assumption) _ (by omega)) (by omega) ?_)
               | (refine At.ld (by assumption) rfl ?_)
               | (refine At.ldN (by assumption) rfl ?_)
               | (refine Prs.ln (by assumption) ?_)
               | (refine Trs.ln (by assumption) ?_)
               | (refine Prs.ix (by assumption) (by omega) ?_)
               | (refine Trs.ix (by assumption) (by omega) ?_)
               | (refine Prs.ldN (by assumption) (by omega) ?_)
               | (refine Trs.ldN (by assumption) (by omega) ?_)
               | (refine At.ldN (Blk.at (by assumption)) rfl ?_)
               | (refine At.ld (Blk.at (by assumption)) rfl ?_)
               | (refine IxA.mk (by omega) ?_)
               | (refine Sl.ln (Own.sl (by assumption)) ?_)
               | (refine Ints.ix (Own.sl (by assumption)) (by omega) ?_)
               | (refine Ints.ixI (Own.sl (by assumption)) (by omega) ?_)
               | (refine Ints.ld (Own.sl (by assumption)) (by omega) ?_))
      have hall : partsC n r used (n) = partsF n (r + 1) used := by have h := partsC_all n r used; rw [hmin] at h; exact h
      have HG0 : Gr (fun k => M k ∨ n1 ≤ k ∨ k = g) w1 w1 := Gr.refl _ _
      have HJ0 : Carry W0 n1 (J n1 (pre ++ (partsC n r used 0).map (fun s => l ++ s))) w1 := by simpa [partsC] using HJ
      have HB0 := HB
      have Hm0 := Hm
      have HY0 := HYb
      have Hn0 := Hn
      have Hf0 := Hf
      refine Lpx.mk tyOk [false, false, false, false, false, false, false, false, true, true, false, false, false, false, false, false, false, false, false, false, false, true, true, true, true, true, true, true, true, true, true, true, true, true, true, true] (fun m fr wr => getK fr 21 fun k => ∃ c : Nat, c ≤ (n) ∧ m = (n) - c ∧ k = .int .i64 (c : Int) ∧ (Buf 3 wr g mg l.length (l.map i64v)) ∧ (Carry W0 n1 (J n1 (pre ++ (partsC n r used c).map (fun s => l ++ s))) wr) ∧ (At wr ⟨mb, 0, none⟩ [.int .i64 (mg : Int)]) ∧ (At wr ⟨yb, 0, none⟩ [.func (.yield l0) #[] #[]]) ∧ (At wr ⟨nb, 0, none⟩ [.int .i64 (n : Int)]) ∧ (At wr ⟨fb, 0, none⟩ [.func (.func 87) #[] #[.pointer (some ⟨mb, 0, none⟩), .pointer (some ⟨yb, 0, none⟩), .pointer (some ⟨nb, 0, none⟩), .pointer (some ⟨fb, 0, none⟩)]]) ∧ (Gr (fun k => M k ∨ n1 ≤ k ∨ k = g) w1 wr) ∧ (n1 ≤ wr.heap.size)) ((n)) ?_ ?_
      · exact ⟨0, Nat.zero_le _, rfl, rfl, HB0, HJ0, Hm0, HY0, Hn0, Hf0, HG0, hs1⟩
      · intro m w2 u8 u9 u21 u22 u23 u24 u25 u26 u27 u28 u29 u30 u31 u32 u33 u34 u35 hR
        obtain ⟨c, hc, rfl, rfl, HB, HJ, Hm, HYb, Hn, Hf, HG, hs⟩ := hR
        by_cases hcl : c < n
        · have hpreC : pre ++ (partsC n r used (c + 1)).map (fun s => l ++ s) <+: xs := by
            refine List.IsPrefix.trans ?_ hpre
            rw [← hall, List.prefix_append_right_inj]
            exact (partsC_pre (by omega)).map _
          have hcat : pre ++ (partsC n r used c).map (fun s => l ++ s) ++ (partsF n r (max used (c + 1))).map (fun s => (l ++ [(c : Int)]) ++ s) = pre ++ (partsC n r used (c + 1)).map (fun s => l ++ s) := by
            rw [partsC_succ, List.map_append, List.map_map, List.append_assoc]
            congr 2
            refine List.map_congr_left fun s _ => ?_
            simp
          by_cases hmx : used < c + 1
          · have hmax : max used (c + 1) = c + 1 := by omega
            repeat' (conv => whnf
                     first
                     | (refine Drx.plan 24 [4, 8, 9] (.q 1 (.q 2 (.q 5 (.q 6 (.e 0 (.e 3 (.e 4 (.e 7 (.e 8 (.e 9 (.q 10 .nil) .nil) .nil) .nil) (.e 7 (.e 4 (.e 8 (.e 9 (.q 10 .nil) .nil) .nil) (.e 8 (.e 4 (.e 9 (.q 10 .nil) .nil) .nil) .nil)) .nil)) (.e 7 (.e 3 (.e 4 (.e 8 (.e 9 (.q 10 .nil) .nil) .nil) (.e 8 (.e 4 (.e 9 (.q 10 .nil) .nil) .nil) .nil)) (.e 8 (.e 3 (.e 4 (.e 9 (.q 10 .nil) .nil) .nil) .nil) .nil)) .nil)) (.e 3 (.e 0 (.e 4 (.e 7 (.e 8 (.e 9 (.q 10 .nil) .nil) .nil) .nil) (.e 7 (.e 4 (.e 8 (.e 9 (.q 10 .nil) .nil) .nil) (.e 8 (.e 4 (.e 9 (.q 10 .nil) .nil) .nil) .nil)) .nil)) (.e 4 (.e 0 (.e 7 (.e 8 (.e 9 (.q 10 .nil) .nil) .nil) .nil) (.e 7 (.e 0 (.e 8 (.e 9 (.q 10 .nil) .nil) .nil) (.e 8 (.e 0 (.e 9 (.q 10 .nil) .nil) .nil) .nil)) .nil)) (.e 7 (.e 0 (.e 4 (.e 8 (.e 9 (.q 10 .nil) .nil) .nil) (.e 8 (.e 4 (.e 9 (.q 10 .nil) .nil) .nil) .nil)) (.e 4 (.e 0 (.e 8 (.e 9 (.q 10 .nil) .nil) .nil) (.e 8 (.e 0 (.e 9 (.q 10 .nil) .nil) .nil) .nil)) (.e 8 (.e 0 (.e 4 (.e 9 (.q 10 .nil) .nil) .nil) (.e 4 (.e 0 (.e 9 (.q 10 .nil) .nil) .nil) .nil)) .nil))) .nil))) (.e 7 (.e 0 (.e 3 (.e 4 (.e 8 (.e 9 (.q 10 .nil) .nil) .nil) (.e 8 (.e 4 (.e 9 (.q 10 .nil) .nil) .nil) .nil)) (.e 8 (.e 3 (.e 4 (.e 9 (.q 10 .nil) .nil) .nil) .nil) .nil)) (.e 3 (.e 0 (.e 4 (.e 8 (.e 9 (.q 10 .nil) .nil) .nil) (.e 8 (.e 4 (.e 9 (.q 10 .nil) .nil) .nil) .nil)) (.e 4 (.e 0 (.e 8 (.e 9 (.q 10 .nil) .nil) .nil) (.e 8 (.e 0 (.e 9 (.q 10 .nil) .nil) .nil) .nil)) (.e 8 (.e 0 (.e 4 (.e 9 (.q 10 .nil) .nil) .nil) (.e 4 (.e 0 (.e 9 (.q 10 .nil) .nil) .nil) .nil)) .nil))) (.e 8 (.e 0 (.e 3 (.e 4 (.e 9 (.q 10 .nil) .nil) .nil) .nil) (.e 3 (.e 0 (.e 4 (.e 9 (.q 10 .nil) .nil) .nil) (.e 4 (.e 0 (.e 9 (.q 10 .nil) .nil) .nil) .nil)) .nil)) .nil))) .nil))))))) tyOk rfl (by kernel_rfl) ?_)
                     | (refine Rng.mk (by omega) ?_)
                     | (refine Split.pos (by omega) ?_)
                     | (refine Split.neg (by omega) ?_)
                     | (refine Split.mk (fun h => ?_) (fun h => ?_))
                     | (refine Need.mk (by omega) ?_)
                     | (refine Ints.ln (by assumption) ?_)
                     | (refine Mat.ln (by assumption) ?_)
                     | (refine Ints.ln (Mat.row (by assumption) _ (by omega)) ?_)
                     | (refine Ints.ix (by assumption) (by omega) ?_)
                     | (refine Mat.ix (by assumption) (by omega) ?_)
                     | (refine Ints.ix (Mat.row (by assumption) _ (by omega)) (by omega) ?_)
                     | (refine Ints.ix (c := 0) (by assumption) (by omega) ?_)
                     | (refine Mat.ix (c := 0) (by assumption) (by omega) ?_)
                     | (refine Ints.ix (c := 0) (Mat.row (by assumption) _ (by omega)) (by omega) ?_)
                     | (refine Ints.ixI (by assumption) (by omega) ?_)
                     | (refine Mat.ixI (by assumption) (by omega) ?_)
                     | (refine Ints.ixI (Mat.row (by assumption) _ (by omega)) (by omega) ?_)
                     | (refine Ints.ld (by assumption) (by omega) ?_)
                     | (refine Mat.ld (by assumption) (by omega) ?_)
                     | (refine Ints.ld (Mat.row (by assumption) _ (by omega)) (by omega) ?_)
                     | (refine At.ld (by assumption) rfl ?_)
                     | (refine At.ldN (by assumption) rfl ?_)
                     | (refine Prs.ln (by assumption) ?_)
                     | (refine Trs.ln (by assumption) ?_)
                     | (refine Prs.ix (by assumption) (by omega) ?_)
                     | (refine Trs.ix (by assumption) (by omega) ?_)
                     | (refine Prs.ldN (by assumption) (by omega) ?_)
                     | (refine Trs.ldN (by assumption) (by omega) ?_)
                     | (refine At.ldN (Blk.at (by assumption)) rfl ?_)
                     | (refine At.ld (Blk.at (by assumption)) rfl ?_)
                     | (refine IxA.mk (by omega) ?_)
                     | (refine Sl.ln (Own.sl (by assumption)) ?_)
                     | (refine Ints.ix (Own.sl (by assumption)) (by omega) ?_)
                     | (refine Ints.ixI (Own.sl (by assumption)) (by omega) ?_)
                     | (refine Ints.ld (Own.sl (by assumption)) (by omega) ?_))
            have key : ∀ (wz : World) (lv : Value), Gr (fun k => k = g) w2 wz → Buf 3 wz g mg (l.length + 1) (l.map i64v ++ [.int .i64 (c : Int)]) → (?PAx : World → Value → Prop) wz lv := ?keyAx
            conv => whnf
            refine ⟨?_, ?_, ?_⟩
            · conv => whnf
              refine At.ld (i := 0) Hf rfl ?_
              conv => whnf
              refine ⟨?_, ?_⟩
              · conv => whnf
                refine VX.lit1 Try.underlying27 eInt rfl fun lv w41 E41 Hl => ?_
                conv => whnf
                refine ⟨?_, ?_⟩
                · conv => whnf
                  refine VE.appIn Try.underlying27 eInt (HB.ext E41) (by omega) Hl rfl fun w42 G42 HB42 => ?_
                  conv => whnf
                  refine Rng.mk (by omega) ?_
                  conv => whnf
                  first | (refine Split.pos (by omega) ?_) | (refine Split.neg (by omega) ?_)
                  conv => whnf
                  exact key w42 lv ((Gr.ofExt E41 : Gr _ _ _).trans G42) HB42
                · conv => whnf
                  refine Rng.mk (by omega) ?_
                  conv => whnf
                  refine ⟨?_, ?_⟩
                  · conv => whnf
                    refine VE.appIn Try.underlying27 eInt (HB.ext E41) (by omega) Hl rfl fun w42 G42 HB42 => ?_
                    conv => whnf
                    first | (refine Split.pos (by omega) ?_) | (refine Split.neg (by omega) ?_)
                    conv => whnf
                    exact key w42 lv ((Gr.ofExt E41 : Gr _ _ _).trans G42) HB42
                  · conv => whnf
                    first | (refine Split.pos (by omega) ?_) | (refine Split.neg (by omega) ?_)
                    conv => whnf
                    refine VE.appIn Try.underlying27 eInt (HB.ext E41) (by omega) Hl rfl fun w42 G42 HB42 => ?_
                    conv => whnf
                    exact key w42 lv ((Gr.ofExt E41 : Gr _ _ _).trans G42) HB42
              · conv => whnf
                refine Rng.mk (by omega) ?_
                conv => whnf
                refine ⟨?_, ?_⟩
                · conv => whnf
                  refine VX.lit1 Try.underlying27 eInt rfl fun lv w41 E41 Hl => ?_
                  conv => whnf
                  refine ⟨?_, ?_⟩
                  · conv => whnf
                    refine VE.appIn Try.underlying27 eInt (HB.ext E41) (by omega) Hl rfl fun w42 G42 HB42 => ?_
                    conv => whnf
                    first | (refine Split.pos (by omega) ?_) | (refine Split.neg (by omega) ?_)
                    conv => whnf
                    exact key w42 lv ((Gr.ofExt E41 : Gr _ _ _).trans G42) HB42
                  · conv => whnf
                    first | (refine Split.pos (by omega) ?_) | (refine Split.neg (by omega) ?_)
                    conv => whnf
                    refine VE.appIn Try.underlying27 eInt (HB.ext E41) (by omega) Hl rfl fun w42 G42 HB42 => ?_
                    conv => whnf
                    exact key w42 lv ((Gr.ofExt E41 : Gr _ _ _).trans G42) HB42
                · conv => whnf
                  first | (refine Split.pos (by omega) ?_) | (refine Split.neg (by omega) ?_)
                  conv => whnf
                  refine VX.lit1 Try.underlying27 eInt rfl fun lv w41 E41 Hl => ?_
                  conv => whnf
                  refine VE.appIn Try.underlying27 eInt (HB.ext E41) (by omega) Hl rfl fun w42 G42 HB42 => ?_
                  conv => whnf
                  exact key w42 lv ((Gr.ofExt E41 : Gr _ _ _).trans G42) HB42
            · conv => whnf
              refine VX.lit1 Try.underlying27 eInt rfl fun lv w41 E41 Hl => ?_
              conv => whnf
              refine ⟨?_, ?_, ?_⟩
              · conv => whnf
                refine At.ld (i := 0) (Hf.ext E41) rfl ?_
                conv => whnf
                refine ⟨?_, ?_⟩
                · conv => whnf
                  refine VE.appIn Try.underlying27 eInt (HB.ext E41) (by omega) Hl rfl fun w42 G42 HB42 => ?_
                  conv => whnf
                  refine Rng.mk (by omega) ?_
                  conv => whnf
                  first | (refine Split.pos (by omega) ?_) | (refine Split.neg (by omega) ?_)
                  conv => whnf
                  exact key w42 lv ((Gr.ofExt E41 : Gr _ _ _).trans G42) HB42
                · conv => whnf
                  refine Rng.mk (by omega) ?_
                  conv => whnf
                  refine ⟨?_, ?_⟩
                  · conv => whnf
                    refine VE.appIn Try.underlying27 eInt (HB.ext E41) (by omega) Hl rfl fun w42 G42 HB42 => ?_
                    conv => whnf
                    first | (refine Split.pos (by omega) ?_) | (refine Split.neg (by omega) ?_)
                    conv => whnf
                    exact key w42 lv ((Gr.ofExt E41 : Gr _ _ _).trans G42) HB42
                  · conv => whnf
                    first | (refine Split.pos (by omega) ?_) | (refine Split.neg (by omega) ?_)
                    conv => whnf
                    refine VE.appIn Try.underlying27 eInt (HB.ext E41) (by omega) Hl rfl fun w42 G42 HB42 => ?_
                    conv => whnf
                    exact key w42 lv ((Gr.ofExt E41 : Gr _ _ _).trans G42) HB42
              · conv => whnf
                refine VE.appIn Try.underlying27 eInt (HB.ext E41) (by omega) Hl rfl fun w42 G42 HB42 => ?_
                conv => whnf
                refine ⟨?_, ?_⟩
                · conv => whnf
                  refine At.ld (i := 0) ((Hf.ext E41).gr G42 (fun h => hSf (.inr (.inr h)))) rfl ?_
                  conv => whnf
                  refine Rng.mk (by omega) ?_
                  conv => whnf
                  first | (refine Split.pos (by omega) ?_) | (refine Split.neg (by omega) ?_)
                  conv => whnf
                  exact key w42 lv ((Gr.ofExt E41 : Gr _ _ _).trans G42) HB42
                · conv => whnf
                  refine Rng.mk (by omega) ?_
                  conv => whnf
                  refine ⟨?_, ?_⟩
                  · conv => whnf
                    refine At.ld (i := 0) ((Hf.ext E41).gr G42 (fun h => hSf (.inr (.inr h)))) rfl ?_
                    conv => whnf
                    first | (refine Split.pos (by omega) ?_) | (refine Split.neg (by omega) ?_)
                    conv => whnf
                    exact key w42 lv ((Gr.ofExt E41 : Gr _ _ _).trans G42) HB42
                  · conv => whnf
                    first | (refine Split.pos (by omega) ?_) | (refine Split.neg (by omega) ?_)
                    conv => whnf
                    refine At.ld (i := 0) ((Hf.ext E41).gr G42 (fun h => hSf (.inr (.inr h)))) rfl ?_
                    conv => whnf
                    exact key w42 lv ((Gr.ofExt E41 : Gr _ _ _).trans G42) HB42
              · conv => whnf
                refine Rng.mk (by omega) ?_
                conv => whnf
                refine ⟨?_, ?_, ?_⟩
                · conv => whnf
                  refine At.ld (i := 0) (Hf.ext E41) rfl ?_
                  conv => whnf
                  refine ⟨?_, ?_⟩
                  · conv => whnf
                    refine VE.appIn Try.underlying27 eInt (HB.ext E41) (by omega) Hl rfl fun w42 G42 HB42 => ?_
                    conv => whnf
                    first | (refine Split.pos (by omega) ?_) | (refine Split.neg (by omega) ?_)
                    conv => whnf
                    exact key w42 lv ((Gr.ofExt E41 : Gr _ _ _).trans G42) HB42
                  · conv => whnf
                    first | (refine Split.pos (by omega) ?_) | (refine Split.neg (by omega) ?_)
                    conv => whnf
                    refine VE.appIn Try.underlying27 eInt (HB.ext E41) (by omega) Hl rfl fun w42 G42 HB42 => ?_
                    conv => whnf
                    exact key w42 lv ((Gr.ofExt E41 : Gr _ _ _).trans G42) HB42
                · conv => whnf
                  refine VE.appIn Try.underlying27 eInt (HB.ext E41) (by omega) Hl rfl fun w42 G42 HB42 => ?_
                  conv => whnf
                  refine ⟨?_, ?_⟩
                  · conv => whnf
                    refine At.ld (i := 0) ((Hf.ext E41).gr G42 (fun h => hSf (.inr (.inr h)))) rfl ?_
                    conv => whnf
                    first | (refine Split.pos (by omega) ?_) | (refine Split.neg (by omega) ?_)
                    conv => whnf
                    exact key w42 lv ((Gr.ofExt E41 : Gr _ _ _).trans G42) HB42
                  · conv => whnf
                    first | (refine Split.pos (by omega) ?_) | (refine Split.neg (by omega) ?_)
                    conv => whnf
                    refine At.ld (i := 0) ((Hf.ext E41).gr G42 (fun h => hSf (.inr (.inr h)))) rfl ?_
                    conv => whnf
                    exact key w42 lv ((Gr.ofExt E41 : Gr _ _ _).trans G42) HB42
                · conv => whnf
                  first | (refine Split.pos (by omega) ?_) | (refine Split.neg (by omega) ?_)
                  conv => whnf
                  refine ⟨?_, ?_⟩
                  · conv => whnf
                    refine At.ld (i := 0) (Hf.ext E41) rfl ?_
                    conv => whnf
                    refine VE.appIn Try.underlying27 eInt (HB.ext E41) (by omega) Hl rfl fun w42 G42 HB42 => ?_
                    conv => whnf
                    exact key w42 lv ((Gr.ofExt E41 : Gr _ _ _).trans G42) HB42
                  · conv => whnf
                    refine VE.appIn Try.underlying27 eInt (HB.ext E41) (by omega) Hl rfl fun w42 G42 HB42 => ?_
                    conv => whnf
                    refine At.ld (i := 0) ((Hf.ext E41).gr G42 (fun h => hSf (.inr (.inr h)))) rfl ?_
                    conv => whnf
                    exact key w42 lv ((Gr.ofExt E41 : Gr _ _ _).trans G42) HB42
            · conv => whnf
              refine Rng.mk (by omega) ?_
              conv => whnf
              refine ⟨?_, ?_, ?_⟩
              · conv => whnf
                refine At.ld (i := 0) Hf rfl ?_
                conv => whnf
                refine ⟨?_, ?_⟩
                · conv => whnf
                  refine VX.lit1 Try.underlying27 eInt rfl fun lv w41 E41 Hl => ?_
                  conv => whnf
                  refine ⟨?_, ?_⟩
                  · conv => whnf
                    refine VE.appIn Try.underlying27 eInt (HB.ext E41) (by omega) Hl rfl fun w42 G42 HB42 => ?_
                    conv => whnf
                    first | (refine Split.pos (by omega) ?_) | (refine Split.neg (by omega) ?_)
                    conv => whnf
                    exact key w42 lv ((Gr.ofExt E41 : Gr _ _ _).trans G42) HB42
                  · conv => whnf
                    first | (refine Split.pos (by omega) ?_) | (refine Split.neg (by omega) ?_)
                    conv => whnf
                    refine VE.appIn Try.underlying27 eInt (HB.ext E41) (by omega) Hl rfl fun w42 G42 HB42 => ?_
                    conv => whnf
                    exact key w42 lv ((Gr.ofExt E41 : Gr _ _ _).trans G42) HB42
                · conv => whnf
                  first | (refine Split.pos (by omega) ?_) | (refine Split.neg (by omega) ?_)
                  conv => whnf
                  refine VX.lit1 Try.underlying27 eInt rfl fun lv w41 E41 Hl => ?_
                  conv => whnf
                  refine VE.appIn Try.underlying27 eInt (HB.ext E41) (by omega) Hl rfl fun w42 G42 HB42 => ?_
                  conv => whnf
                  exact key w42 lv ((Gr.ofExt E41 : Gr _ _ _).trans G42) HB42
              · conv => whnf
                refine VX.lit1 Try.underlying27 eInt rfl fun lv w41 E41 Hl => ?_
                conv => whnf
                refine ⟨?_, ?_, ?_⟩
                · conv => whnf
                  refine At.ld (i := 0) (Hf.ext E41) rfl ?_
                  conv => whnf
                  refine ⟨?_, ?_⟩
                  · conv => whnf
                    refine VE.appIn Try.underlying27 eInt (HB.ext E41) (by omega) Hl rfl fun w42 G42 HB42 => ?_
                    conv => whnf
                    first | (refine Split.pos (by omega) ?_) | (refine Split.neg (by omega) ?_)
                    conv => whnf
                    exact key w42 lv ((Gr.ofExt E41 : Gr _ _ _).trans G42) HB42
                  · conv => whnf
                    first | (refine Split.pos (by omega) ?_) | (refine Split.neg (by omega) ?_)
                    conv => whnf
                    refine VE.appIn Try.underlying27 eInt (HB.ext E41) (by omega) Hl rfl fun w42 G42 HB42 => ?_
                    conv => whnf
                    exact key w42 lv ((Gr.ofExt E41 : Gr _ _ _).trans G42) HB42
                · conv => whnf
                  refine VE.appIn Try.underlying27 eInt (HB.ext E41) (by omega) Hl rfl fun w42 G42 HB42 => ?_
                  conv => whnf
                  refine ⟨?_, ?_⟩
                  · conv => whnf
                    refine At.ld (i := 0) ((Hf.ext E41).gr G42 (fun h => hSf (.inr (.inr h)))) rfl ?_
                    conv => whnf
                    first | (refine Split.pos (by omega) ?_) | (refine Split.neg (by omega) ?_)
                    conv => whnf
                    exact key w42 lv ((Gr.ofExt E41 : Gr _ _ _).trans G42) HB42
                  · conv => whnf
                    first | (refine Split.pos (by omega) ?_) | (refine Split.neg (by omega) ?_)
                    conv => whnf
                    refine At.ld (i := 0) ((Hf.ext E41).gr G42 (fun h => hSf (.inr (.inr h)))) rfl ?_
                    conv => whnf
                    exact key w42 lv ((Gr.ofExt E41 : Gr _ _ _).trans G42) HB42
                · conv => whnf
                  first | (refine Split.pos (by omega) ?_) | (refine Split.neg (by omega) ?_)
                  conv => whnf
                  refine ⟨?_, ?_⟩
                  · conv => whnf
                    refine At.ld (i := 0) (Hf.ext E41) rfl ?_
                    conv => whnf
                    refine VE.appIn Try.underlying27 eInt (HB.ext E41) (by omega) Hl rfl fun w42 G42 HB42 => ?_
                    conv => whnf
                    exact key w42 lv ((Gr.ofExt E41 : Gr _ _ _).trans G42) HB42
                  · conv => whnf
                    refine VE.appIn Try.underlying27 eInt (HB.ext E41) (by omega) Hl rfl fun w42 G42 HB42 => ?_
                    conv => whnf
                    refine At.ld (i := 0) ((Hf.ext E41).gr G42 (fun h => hSf (.inr (.inr h)))) rfl ?_
                    conv => whnf
                    exact key w42 lv ((Gr.ofExt E41 : Gr _ _ _).trans G42) HB42
              · conv => whnf
                first | (refine Split.pos (by omega) ?_) | (refine Split.neg (by omega) ?_)
                conv => whnf
                refine ⟨?_, ?_⟩
                · conv => whnf
                  refine At.ld (i := 0) Hf rfl ?_
                  conv => whnf
                  refine VX.lit1 Try.underlying27 eInt rfl fun lv w41 E41 Hl => ?_
                  conv => whnf
                  refine VE.appIn Try.underlying27 eInt (HB.ext E41) (by omega) Hl rfl fun w42 G42 HB42 => ?_
                  conv => whnf
                  exact key w42 lv ((Gr.ofExt E41 : Gr _ _ _).trans G42) HB42
                · conv => whnf
                  refine VX.lit1 Try.underlying27 eInt rfl fun lv w41 E41 Hl => ?_
                  conv => whnf
                  refine ⟨?_, ?_⟩
                  · conv => whnf
                    refine At.ld (i := 0) (Hf.ext E41) rfl ?_
                    conv => whnf
                    refine VE.appIn Try.underlying27 eInt (HB.ext E41) (by omega) Hl rfl fun w42 G42 HB42 => ?_
                    conv => whnf
                    exact key w42 lv ((Gr.ofExt E41 : Gr _ _ _).trans G42) HB42
                  · conv => whnf
                    refine VE.appIn Try.underlying27 eInt (HB.ext E41) (by omega) Hl rfl fun w42 G42 HB42 => ?_
                    conv => whnf
                    refine At.ld (i := 0) ((Hf.ext E41).gr G42 (fun h => hSf (.inr (.inr h)))) rfl ?_
                    conv => whnf
                    exact key w42 lv ((Gr.ofExt E41 : Gr _ _ _).trans G42) HB42
            intro wz lv Gz HBz
            have HBz' : Buf 3 wz g mg (l ++ [(c : Int)]).length ((l ++ [(c : Int)]).map i64v) := by rw [List.length_append, List.map_append]; exact HBz
            have Gz' : Gr (fun k => M k ∨ n1 ≤ k ∨ k = g) w2 wz := Gz.mono fun k _ h => .inr (.inr h)
            have ih' := ih (l ++ [(c : Int)]) (c + 1) (pre ++ (partsC n r used c).map (fun s => l ++ s)) wz (by simp; omega) (by omega) (Nat.le_trans hs Gz.size) HBz' (Hm.gr Gz (fun h => hSm (.inr (.inr h)))) (HYb.gr Gz (fun h => hSy (.inr (.inr h)))) (Hn.gr Gz (fun h => hSn (.inr (.inr h)))) (Hf.gr Gz (fun h => hSf (.inr (.inr h)))) (HJ.gr Gz (fun k hk => by have hk : k = g := hk; omega)) (by rw [hmax] at hcat; rw [hcat]; exact hpreC)
            rw [List.length_append, List.length_singleton] at ih'
            conv => whnf
            refine VC.rc ih' ?_
            rintro u wq G' (⟨rfl, HB2, HJ2⟩ | ⟨rfl, pre2, hp1, hp2⟩)
            · have Gq := Gz'.trans G'
              have HB3 := HB2.cut (m := l.length) (by omega)
              rw [← List.map_take, List.take_left' rfl] at HB3
              rw [hmax] at hcat
              rw [hcat] at HJ2
              repeat' (conv => whnf
                       first
                       | (refine Rng.mk (by omega) ?_)
                       | (refine Split.pos (by omega) ?_)
                       | (refine Split.neg (by omega) ?_)
                       | (refine Split.mk (fun h => ?_) (fun h => ?_))
                       | (refine Need.mk (by omega) ?_)
                       | (refine Ints.ln (by assumption) ?_)
                       | (refine Mat.ln (by assumption) ?_)
                       | (refine Ints.ln (Mat.row (by assumption) _ (by omega)) ?_)
                       | (refine Ints.ix (by assumption) (by omega) ?_)
                       | (refine Mat.ix (by assumption) (by omega) ?_)
                       | (refine Ints.ix (Mat.row (by assumption) _ (by omega)) (by omega) ?_)
                       | (refine Ints.ix (c := 0) (by assumption) (by omega) ?_)
                       | (refine Mat.ix (c := 0) (by assumption) (by omega) ?_)
                       | (refine Ints.ix (c := 0) (Mat.row (by assumption) _ (by omega)) (by omega) ?_)
                       | (refine Ints.ixI (by assumption) (by omega) ?_)
                       | (refine Mat.ixI (by assumption) (by omega) ?_)
                       | (refine Ints.ixI (Mat.row (by assumption) _ (by omega)) (by omega) ?_)
                       | (refine Ints.ld (by assumption) (by omega) ?_)
                       | (refine Mat.ld (by assumption) (by omega) ?_)
                       | (refine Ints.ld (Mat.row (by assumption) _ (by omega)) (by omega) ?_)
                       | (refine At.ld (by assumption) rfl ?_)
                       | (refine At.ldN (by assumption) rfl ?_)
                       | (refine Prs.ln (by assumption) ?_)
                       | (refine Trs.ln (by assumption) ?_)
                       | (refine Prs.ix (by assumption) (by omega) ?_)
                       | (refine Trs.ix (by assumption) (by omega) ?_)
                       | (refine Prs.ldN (by assumption) (by omega) ?_)
                       | (refine Trs.ldN (by assumption) (by omega) ?_)
                       | (refine At.ldN (Blk.at (by assumption)) rfl ?_)
                       | (refine At.ld (Blk.at (by assumption)) rfl ?_)
                       | (refine IxA.mk (by omega) ?_)
                       | (refine Sl.ln (Own.sl (by assumption)) ?_)
                       | (refine Ints.ix (Own.sl (by assumption)) (by omega) ?_)
                       | (refine Ints.ixI (Own.sl (by assumption)) (by omega) ?_)
                       | (refine Ints.ld (Own.sl (by assumption)) (by omega) ?_))
              refine ⟨rfl, _, (by omega : (n) - (c + 1) < (n) - c), rfl, c + 1, by omega, rfl, rfl, HB3, HJ2, Hm.gr Gq hSm, HYb.gr Gq hSy, Hn.gr Gq hSn, Hf.gr Gq hSf, HG.trans Gq, Nat.le_trans hs Gq.size⟩
            · skip
              repeat' (conv => whnf
                       first
                       | (refine Rng.mk (by omega) ?_)
                       | (refine Split.pos (by omega) ?_)
                       | (refine Split.neg (by omega) ?_)
                       | (refine Split.mk (fun h => ?_) (fun h => ?_))
                       | (refine Need.mk (by omega) ?_)
                       | (refine Ints.ln (by assumption) ?_)
                       | (refine Mat.ln (by assumption) ?_)
                       | (refine Ints.ln (Mat.row (by assumption) _ (by omega)) ?_)
                       | (refine Ints.ix (by assumption) (by omega) ?_)
                       | (refine Mat.ix (by assumption) (by omega) ?_)
                       | (refine Ints.ix (Mat.row (by assumption) _ (by omega)) (by omega) ?_)
                       | (refine Ints.ix (c := 0) (by assumption) (by omega) ?_)
                       | (refine Mat.ix (c := 0) (by assumption) (by omega) ?_)
                       | (refine Ints.ix (c := 0) (Mat.row (by assumption) _ (by omega)) (by omega) ?_)
                       | (refine Ints.ixI (by assumption) (by omega) ?_)
                       | (refine Mat.ixI (by assumption) (by omega) ?_)
                       | (refine Ints.ixI (Mat.row (by assumption) _ (by omega)) (by omega) ?_)
                       | (refine Ints.ld (by assumption) (by omega) ?_)
                       | (refine Mat.ld (by assumption) (by omega) ?_)
                       | (refine Ints.ld (Mat.row (by assumption) _ (by omega)) (by omega) ?_)
                       | (refine At.ld (by assumption) rfl ?_)
                       | (refine At.ldN (by assumption) rfl ?_)
                       | (refine Prs.ln (by assumption) ?_)
                       | (refine Trs.ln (by assumption) ?_)
                       | (refine Prs.ix (by assumption) (by omega) ?_)
                       | (refine Trs.ix (by assumption) (by omega) ?_)
                       | (refine Prs.ldN (by assumption) (by omega) ?_)
                       | (refine Trs.ldN (by assumption) (by omega) ?_)
                       | (refine At.ldN (Blk.at (by assumption)) rfl ?_)
                       | (refine At.ld (Blk.at (by assumption)) rfl ?_)
                       | (refine IxA.mk (by omega) ?_)
                       | (refine Sl.ln (Own.sl (by assumption)) ?_)
                       | (refine Ints.ix (Own.sl (by assumption)) (by omega) ?_)
                       | (refine Ints.ixI (Own.sl (by assumption)) (by omega) ?_)
                       | (refine Ints.ld (Own.sl (by assumption)) (by omega) ?_))
              exact ⟨(HG.trans Gz').trans G', .inr ⟨rfl, pre2, hp1, hp2⟩⟩
          · have hmax : max used (c + 1) = used := by omega
            repeat' (conv => whnf
                     first
                     | (refine Drx.plan 24 [4, 8, 9] (.q 1 (.q 2 (.q 5 (.q 6 (.e 0 (.e 3 (.e 4 (.e 7 (.e 8 (.e 9 (.q 10 .nil) .nil) .nil) .nil) (.e 7 (.e 4 (.e 8 (.e 9 (.q 10 .nil) .nil) .nil) (.e 8 (.e 4 (.e 9 (.q 10 .nil) .nil) .nil) .nil)) .nil)) (.e 7 (.e 3 (.e 4 (.e 8 (.e 9 (.q 10 .nil) .nil) .nil) (.e 8 (.e 4 (.e 9 (.q 10 .nil) .nil) .nil) .nil)) (.e 8 (.e 3 (.e 4 (.e 9 (.q 10 .nil) .nil) .nil) .nil) .nil)) .nil)) (.e 3 (.e 0 (.e 4 (.e 7 (.e 8 (.e 9 (.q 10 .nil) .nil) .nil) .nil) (.e 7 (.e 4 (.e 8 (.e 9 (.q 10 .nil) .nil) .nil) (.e 8 (.e 4 (.e 9 (.q 10 .nil) .nil) .nil) .nil)) .nil)) (.e 4 (.e 0 (.e 7 (.e 8 (.e 9 (.q 10 .nil) .nil) .nil) .nil) (.e 7 (.e 0 (.e 8 (.e 9 (.q 10 .nil) .nil) .nil) (.e 8 (.e 0 (.e 9 (.q 10 .nil) .nil) .nil) .nil)) .nil)) (.e 7 (.e 0 (.e 4 (.e 8 (.e 9 (.q 10 .nil) .nil) .nil) (.e 8 (.e 4 (.e 9 (.q 10 .nil) .nil) .nil) .nil)) (.e 4 (.e 0 (.e 8 (.e 9 (.q 10 .nil) .nil) .nil) (.e 8 (.e 0 (.e 9 (.q 10 .nil) .nil) .nil) .nil)) (.e 8 (.e 0 (.e 4 (.e 9 (.q 10 .nil) .nil) .nil) (.e 4 (.e 0 (.e 9 (.q 10 .nil) .nil) .nil) .nil)) .nil))) .nil))) (.e 7 (.e 0 (.e 3 (.e 4 (.e 8 (.e 9 (.q 10 .nil) .nil) .nil) (.e 8 (.e 4 (.e 9 (.q 10 .nil) .nil) .nil) .nil)) (.e 8 (.e 3 (.e 4 (.e 9 (.q 10 .nil) .nil) .nil) .nil) .nil)) (.e 3 (.e 0 (.e 4 (.e 8 (.e 9 (.q 10 .nil) .nil) .nil) (.e 8 (.e 4 (.e 9 (.q 10 .nil) .nil) .nil) .nil)) (.e 4 (.e 0 (.e 8 (.e 9 (.q 10 .nil) .nil) .nil) (.e 8 (.e 0 (.e 9 (.q 10 .nil) .nil) .nil) .nil)) (.e 8 (.e 0 (.e 4 (.e 9 (.q 10 .nil) .nil) .nil) (.e 4 (.e 0 (.e 9 (.q 10 .nil) .nil) .nil) .nil)) .nil))) (.e 8 (.e 0 (.e 3 (.e 4 (.e 9 (.q 10 .nil) .nil) .nil) .nil) (.e 3 (.e 0 (.e 4 (.e 9 (.q 10 .nil) .nil) .nil) (.e 4 (.e 0 (.e 9 (.q 10 .nil) .nil) .nil) .nil)) .nil)) .nil))) .nil))))))) tyOk rfl (by kernel_rfl) ?_)
                     | (refine Rng.mk (by omega) ?_)
                     | (refine Split.pos (by omega) ?_)
                     | (refine Split.neg (by omega) ?_)
                     | (refine Split.mk (fun h => ?_) (fun h => ?_))
                     | (refine Need.mk (by omega) ?_)
                     | (refine Ints.ln (by assumption) ?_)
                     | (refine Mat.ln (by assumption) ?_)
                     | (refine Ints.ln (Mat.row (by assumption) _ (by omega)) ?_)
                     | (refine Ints.ix (by assumption) (by omega) ?_)
                     | (refine Mat.ix (by assumption) (by omega) ?_)
                     | (refine Ints.ix (Mat.row (by assumption) _ (by omega)) (by omega) ?_)
                     | (refine Ints.ix (c := 0) (by assumption) (by omega) ?_)
                     | (refine Mat.ix (c := 0) (by assumption) (by omega) ?_)
                     | (refine Ints.ix (c := 0) (Mat.row (by assumption) _ (by omega)) (by omega) ?_)
                     | (refine Ints.ixI (by assumption) (by omega) ?_)
                     | (refine Mat.ixI (by assumption) (by omega) ?_)
                     | (refine Ints.ixI (Mat.row (by assumption) _ (by omega)) (by omega) ?_)
                     | (refine Ints.ld (by assumption) (by omega) ?_)
                     | (refine Mat.ld (by assumption) (by omega) ?_)
                     | (refine Ints.ld (Mat.row (by assumption) _ (by omega)) (by omega) ?_)
                     | (refine At.ld (by assumption) rfl ?_)
                     | (refine At.ldN (by assumption) rfl ?_)
                     | (refine Prs.ln (by assumption) ?_)
                     | (refine Trs.ln (by assumption) ?_)
                     | (refine Prs.ix (by assumption) (by omega) ?_)
                     | (refine Trs.ix (by assumption) (by omega) ?_)
                     | (refine Prs.ldN (by assumption) (by omega) ?_)
                     | (refine Trs.ldN (by assumption) (by omega) ?_)
                     | (refine At.ldN (Blk.at (by assumption)) rfl ?_)
                     | (refine At.ld (Blk.at (by assumption)) rfl ?_)
                     | (refine IxA.mk (by omega) ?_)
                     | (refine Sl.ln (Own.sl (by assumption)) ?_)
                     | (refine Ints.ix (Own.sl (by assumption)) (by omega) ?_)
                     | (refine Ints.ixI (Own.sl (by assumption)) (by omega) ?_)
                     | (refine Ints.ld (Own.sl (by assumption)) (by omega) ?_))
            have key : ∀ (wz : World) (lv : Value), Gr (fun k => k = g) w2 wz → Buf 3 wz g mg (l.length + 1) (l.map i64v ++ [.int .i64 (c : Int)]) → (?PBx : World → Value → Prop) wz lv := ?keyBx
            conv => whnf
            refine ⟨?_, ?_, ?_⟩
            · conv => whnf
              refine At.ld (i := 0) Hf rfl ?_
              conv => whnf
              refine ⟨?_, ?_⟩
              · conv => whnf
                refine VX.lit1 Try.underlying27 eInt rfl fun lv w41 E41 Hl => ?_
                conv => whnf
                refine ⟨?_, ?_⟩
                · conv => whnf
                  refine VE.appIn Try.underlying27 eInt (HB.ext E41) (by omega) Hl rfl fun w42 G42 HB42 => ?_
                  conv => whnf
                  refine Rng.mk (by omega) ?_
                  conv => whnf
                  first | (refine Split.pos (by omega) ?_) | (refine Split.neg (by omega) ?_)
                  conv => whnf
                  exact key w42 lv ((Gr.ofExt E41 : Gr _ _ _).trans G42) HB42
                · conv => whnf
                  refine Rng.mk (by omega) ?_
                  conv => whnf
                  refine ⟨?_, ?_⟩
                  · conv => whnf
                    refine VE.appIn Try.underlying27 eInt (HB.ext E41) (by omega) Hl rfl fun w42 G42 HB42 => ?_
                    conv => whnf
                    first | (refine Split.pos (by omega) ?_) | (refine Split.neg (by omega) ?_)
                    conv => whnf
                    exact key w42 lv ((Gr.ofExt E41 : Gr _ _ _).trans G42) HB42
                  · conv => whnf
                    first | (refine Split.pos (by omega) ?_) | (refine Split.neg (by omega) ?_)
                    conv => whnf
                    refine VE.appIn Try.underlying27 eInt (HB.ext E41) (by omega) Hl rfl fun w42 G42 HB42 => ?_
                    conv => whnf
                    exact key w42 lv ((Gr.ofExt E41 : Gr _ _ _).trans G42) HB42
              · conv => whnf
                refine Rng.mk (by omega) ?_
                conv => whnf
                refine ⟨?_, ?_⟩
                · conv => whnf
                  refine VX.lit1 Try.underlying27 eInt rfl fun lv w41 E41 Hl => ?_
                  conv => whnf
                  refine ⟨?_, ?_⟩
                  · conv => whnf
                    refine VE.appIn Try.underlying27 eInt (HB.ext E41) (by omega) Hl rfl fun w42 G42 HB42 => ?_
                    conv => whnf
                    first | (refine Split.pos (by omega) ?_) | (refine Split.neg (by omega) ?_)
                    conv => whnf
                    exact key w42 lv ((Gr.ofExt E41 : Gr _ _ _).trans G42) HB42
                  · conv => whnf
                    first | (refine Split.pos (by omega) ?_) | (refine Split.neg (by omega) ?_)
                    conv => whnf
                    refine VE.appIn Try.underlying27 eInt (HB.ext E41) (by omega) Hl rfl fun w42 G42 HB42 => ?_
                    conv => whnf
                    exact key w42 lv ((Gr.ofExt E41 : Gr _ _ _).trans G42) HB42
                · conv => whnf
                  first | (refine Split.pos (by omega) ?_) | (refine Split.neg (by omega) ?_)
                  conv => whnf
                  refine VX.lit1 Try.underlying27 eInt rfl fun lv w41 E41 Hl => ?_
                  conv => whnf
                  refine VE.appIn Try.underlying27 eInt (HB.ext E41) (by omega) Hl rfl fun w42 G42 HB42 => ?_
                  conv => whnf
                  exact key w42 lv ((Gr.ofExt E41 : Gr _ _ _).trans G42) HB42
            · conv => whnf
              refine VX.lit1 Try.underlying27 eInt rfl fun lv w41 E41 Hl => ?_
              conv => whnf
              refine ⟨?_, ?_, ?_⟩
              · conv => whnf
                refine At.ld (i := 0) (Hf.ext E41) rfl ?_
                conv => whnf
                refine ⟨?_, ?_⟩
                · conv => whnf
                  refine VE.appIn Try.underlying27 eInt (HB.ext E41) (by omega) Hl rfl fun w42 G42 HB42 => ?_
                  conv => whnf
                  refine Rng.mk (by omega) ?_
                  conv => whnf
                  first | (refine Split.pos (by omega) ?_) | (refine Split.neg (by omega) ?_)
                  conv => whnf
                  exact key w42 lv ((Gr.ofExt E41 : Gr _ _ _).trans G42) HB42
                · conv => whnf
                  refine Rng.mk (by omega) ?_
                  conv => whnf
                  refine ⟨?_, ?_⟩
                  · conv => whnf
                    refine VE.appIn Try.underlying27 eInt (HB.ext E41) (by omega) Hl rfl fun w42 G42 HB42 => ?_
                    conv => whnf
                    first | (refine Split.pos (by omega) ?_) | (refine Split.neg (by omega) ?_)
                    conv => whnf
                    exact key w42 lv ((Gr.ofExt E41 : Gr _ _ _).trans G42) HB42
                  · conv => whnf
                    first | (refine Split.pos (by omega) ?_) | (refine Split.neg (by omega) ?_)
                    conv => whnf
                    refine VE.appIn Try.underlying27 eInt (HB.ext E41) (by omega) Hl rfl fun w42 G42 HB42 => ?_
                    conv => whnf
                    exact key w42 lv ((Gr.ofExt E41 : Gr _ _ _).trans G42) HB42
              · conv => whnf
                refine VE.appIn Try.underlying27 eInt (HB.ext E41) (by omega) Hl rfl fun w42 G42 HB42 => ?_
                conv => whnf
                refine ⟨?_, ?_⟩
                · conv => whnf
                  refine At.ld (i := 0) ((Hf.ext E41).gr G42 (fun h => hSf (.inr (.inr h)))) rfl ?_
                  conv => whnf
                  refine Rng.mk (by omega) ?_
                  conv => whnf
                  first | (refine Split.pos (by omega) ?_) | (refine Split.neg (by omega) ?_)
                  conv => whnf
                  exact key w42 lv ((Gr.ofExt E41 : Gr _ _ _).trans G42) HB42
                · conv => whnf
                  refine Rng.mk (by omega) ?_
                  conv => whnf
                  refine ⟨?_, ?_⟩
                  · conv => whnf
                    refine At.ld (i := 0) ((Hf.ext E41).gr G42 (fun h => hSf (.inr (.inr h)))) rfl ?_
                    conv => whnf
                    first | (refine Split.pos (by omega) ?_) | (refine Split.neg (by omega) ?_)
                    conv => whnf
                    exact key w42 lv ((Gr.ofExt E41 : Gr _ _ _).trans G42) HB42
                  · conv => whnf
                    first | (refine Split.pos (by omega) ?_) | (refine Split.neg (by omega) ?_)
                    conv => whnf
                    refine At.ld (i := 0) ((Hf.ext E41).gr G42 (fun h => hSf (.inr (.inr h)))) rfl ?_
                    conv => whnf
                    exact key w42 lv ((Gr.ofExt E41 : Gr _ _ _).trans G42) HB42
              · conv => whnf
                refine Rng.mk (by omega) ?_
                conv => whnf
                refine ⟨?_, ?_, ?_⟩
                · conv => whnf
                  refine At.ld (i := 0) (Hf.ext E41) rfl ?_
                  conv => whnf
                  refine ⟨?_, ?_⟩
                  · conv => whnf
                    refine VE.appIn Try.underlying27 eInt (HB.ext E41) (by omega) Hl rfl fun w42 G42 HB42 => ?_
                    conv => whnf
                    first | (refine Split.pos (by omega) ?_) | (refine Split.neg (by omega) ?_)
                    conv => whnf
                    exact key w42 lv ((Gr.ofExt E41 : Gr _ _ _).trans G42) HB42
                  · conv => whnf
                    first | (refine Split.pos (by omega) ?_) | (refine Split.neg (by omega) ?_)
                    conv => whnf
                    refine VE.appIn Try.underlying27 eInt (HB.ext E41) (by omega) Hl rfl fun w42 G42 HB42 => ?_
                    conv => whnf
                    exact key w42 lv ((Gr.ofExt E41 : Gr _ _ _).trans G42) HB42
                · conv => whnf
                  refine VE.appIn Try.underlying27 eInt (HB.ext E41) (by omega) Hl rfl fun w42 G42 HB42 => ?_
                  conv => whnf
                  refine ⟨?_, ?_⟩
                  · conv => whnf
                    refine At.ld (i := 0) ((Hf.ext E41).gr G42 (fun h => hSf (.inr (.inr h)))) rfl ?_
                    conv => whnf
                    first | (refine Split.pos (by omega) ?_) | (refine Split.neg (by omega) ?_)
                    conv => whnf
                    exact key w42 lv ((Gr.ofExt E41 : Gr _ _ _).trans G42) HB42
                  · conv => whnf
                    first | (refine Split.pos (by omega) ?_) | (refine Split.neg (by omega) ?_)
                    conv => whnf
                    refine At.ld (i := 0) ((Hf.ext E41).gr G42 (fun h => hSf (.inr (.inr h)))) rfl ?_
                    conv => whnf
                    exact key w42 lv ((Gr.ofExt E41 : Gr _ _ _).trans G42) HB42
                · conv => whnf
                  first | (refine Split.pos (by omega) ?_) | (refine Split.neg (by omega) ?_)
                  conv => whnf
                  refine ⟨?_, ?_⟩
                  · conv => whnf
                    refine At.ld (i := 0) (Hf.ext E41) rfl ?_
                    conv => whnf
                    refine VE.appIn Try.underlying27 eInt (HB.ext E41) (by omega) Hl rfl fun w42 G42 HB42 => ?_
                    conv => whnf
                    exact key w42 lv ((Gr.ofExt E41 : Gr _ _ _).trans G42) HB42
                  · conv => whnf
                    refine VE.appIn Try.underlying27 eInt (HB.ext E41) (by omega) Hl rfl fun w42 G42 HB42 => ?_
                    conv => whnf
                    refine At.ld (i := 0) ((Hf.ext E41).gr G42 (fun h => hSf (.inr (.inr h)))) rfl ?_
                    conv => whnf
                    exact key w42 lv ((Gr.ofExt E41 : Gr _ _ _).trans G42) HB42
            · conv => whnf
              refine Rng.mk (by omega) ?_
              conv => whnf
              refine ⟨?_, ?_, ?_⟩
              · conv => whnf
                refine At.ld (i := 0) Hf rfl ?_
                conv => whnf
                refine ⟨?_, ?_⟩
                · conv => whnf
                  refine VX.lit1 Try.underlying27 eInt rfl fun lv w41 E41 Hl => ?_
                  conv => whnf
                  refine ⟨?_, ?_⟩
                  · conv => whnf
                    refine VE.appIn Try.underlying27 eInt (HB.ext E41) (by omega) Hl rfl fun w42 G42 HB42 => ?_
                    conv => whnf
                    first | (refine Split.pos (by omega) ?_) | (refine Split.neg (by omega) ?_)
                    conv => whnf
                    exact key w42 lv ((Gr.ofExt E41 : Gr _ _ _).trans G42) HB42
                  · conv => whnf
                    first | (refine Split.pos (by omega) ?_) | (refine Split.neg (by omega) ?_)
                    conv => whnf
                    refine VE.appIn Try.underlying27 eInt (HB.ext E41) (by omega) Hl rfl fun w42 G42 HB42 => ?_
                    conv => whnf
                    exact key w42 lv ((Gr.ofExt E41 : Gr _ _ _).trans G42) HB42
                · conv => whnf
                  first | (refine Split.pos (by omega) ?_) | (refine Split.neg (by omega) ?_)
                  conv => whnf
                  refine VX.lit1 Try.underlying27 eInt rfl fun lv w41 E41 Hl => ?_
                  conv => whnf
                  refine VE.appIn Try.underlying27 eInt (HB.ext E41) (by omega) Hl rfl fun w42 G42 HB42 => ?_
                  conv => whnf
                  exact key w42 lv ((Gr.ofExt E41 : Gr _ _ _).trans G42) HB42
              · conv => whnf
                refine VX.lit1 Try.underlying27 eInt rfl fun lv w41 E41 Hl => ?_
                conv => whnf
                refine ⟨?_, ?_, ?_⟩
                · conv => whnf
                  refine At.ld (i := 0) (Hf.ext E41) rfl ?_
                  conv => whnf
                  refine ⟨?_, ?_⟩
                  · conv => whnf
                    refine VE.appIn Try.underlying27 eInt (HB.ext E41) (by omega) Hl rfl fun w42 G42 HB42 => ?_
                    conv => whnf
                    first | (refine Split.pos (by omega) ?_) | (refine Split.neg (by omega) ?_)
                    conv => whnf
                    exact key w42 lv ((Gr.ofExt E41 : Gr _ _ _).trans G42) HB42
                  · conv => whnf
                    first | (refine Split.pos (by omega) ?_) | (refine Split.neg (by omega) ?_)
                    conv => whnf
                    refine VE.appIn Try.underlying27 eInt (HB.ext E41) (by omega) Hl rfl fun w42 G42 HB42 => ?_
                    conv => whnf
                    exact key w42 lv ((Gr.ofExt E41 : Gr _ _ _).trans G42) HB42
                · conv => whnf
                  refine VE.appIn Try.underlying27 eInt (HB.ext E41) (by omega) Hl rfl fun w42 G42 HB42 => ?_
                  conv => whnf
                  refine ⟨?_, ?_⟩
                  · conv => whnf
                    refine At.ld (i := 0) ((Hf.ext E41).gr G42 (fun h => hSf (.inr (.inr h)))) rfl ?_
                    conv => whnf
                    first | (refine Split.pos (by omega) ?_) | (refine Split.neg (by omega) ?_)
                    conv => whnf
                    exact key w42 lv ((Gr.ofExt E41 : Gr _ _ _).trans G42) HB42
                  · conv => whnf
                    first | (refine Split.pos (by omega) ?_) | (refine Split.neg (by omega) ?_)
                    conv => whnf
                    refine At.ld (i := 0) ((Hf.ext E41).gr G42 (fun h => hSf (.inr (.inr h)))) rfl ?_
                    conv => whnf
                    exact key w42 lv ((Gr.ofExt E41 : Gr _ _ _).trans G42) HB42
                · conv => whnf
                  first | (refine Split.pos (by omega) ?_) | (refine Split.neg (by omega) ?_)
                  conv => whnf
                  refine ⟨?_, ?_⟩
                  · conv => whnf
                    refine At.ld (i := 0) (Hf.ext E41) rfl ?_
                    conv => whnf
                    refine VE.appIn Try.underlying27 eInt (HB.ext E41) (by omega) Hl rfl fun w42 G42 HB42 => ?_
                    conv => whnf
                    exact key w42 lv ((Gr.ofExt E41 : Gr _ _ _).trans G42) HB42
                  · conv => whnf
                    refine VE.appIn Try.underlying27 eInt (HB.ext E41) (by omega) Hl rfl fun w42 G42 HB42 => ?_
                    conv => whnf
                    refine At.ld (i := 0) ((Hf.ext E41).gr G42 (fun h => hSf (.inr (.inr h)))) rfl ?_
                    conv => whnf
                    exact key w42 lv ((Gr.ofExt E41 : Gr _ _ _).trans G42) HB42
              · conv => whnf
                first | (refine Split.pos (by omega) ?_) | (refine Split.neg (by omega) ?_)
                conv => whnf
                refine ⟨?_, ?_⟩
                · conv => whnf
                  refine At.ld (i := 0) Hf rfl ?_
                  conv => whnf
                  refine VX.lit1 Try.underlying27 eInt rfl fun lv w41 E41 Hl => ?_
                  conv => whnf
                  refine VE.appIn Try.underlying27 eInt (HB.ext E41) (by omega) Hl rfl fun w42 G42 HB42 => ?_
                  conv => whnf
                  exact key w42 lv ((Gr.ofExt E41 : Gr _ _ _).trans G42) HB42
                · conv => whnf
                  refine VX.lit1 Try.underlying27 eInt rfl fun lv w41 E41 Hl => ?_
                  conv => whnf
                  refine ⟨?_, ?_⟩
                  · conv => whnf
                    refine At.ld (i := 0) (Hf.ext E41) rfl ?_
                    conv => whnf
                    refine VE.appIn Try.underlying27 eInt (HB.ext E41) (by omega) Hl rfl fun w42 G42 HB42 => ?_
                    conv => whnf
                    exact key w42 lv ((Gr.ofExt E41 : Gr _ _ _).trans G42) HB42
                  · conv => whnf
                    refine VE.appIn Try.underlying27 eInt (HB.ext E41) (by omega) Hl rfl fun w42 G42 HB42 => ?_
                    conv => whnf
                    refine At.ld (i := 0) ((Hf.ext E41).gr G42 (fun h => hSf (.inr (.inr h)))) rfl ?_
                    conv => whnf
                    exact key w42 lv ((Gr.ofExt E41 : Gr _ _ _).trans G42) HB42
            intro wz lv Gz HBz
            have HBz' : Buf 3 wz g mg (l ++ [(c : Int)]).length ((l ++ [(c : Int)]).map i64v) := by rw [List.length_append, List.map_append]; exact HBz
            have Gz' : Gr (fun k => M k ∨ n1 ≤ k ∨ k = g) w2 wz := Gz.mono fun k _ h => .inr (.inr h)
            have ih' := ih (l ++ [(c : Int)]) (used) (pre ++ (partsC n r used c).map (fun s => l ++ s)) wz (by simp; omega) (by omega) (Nat.le_trans hs Gz.size) HBz' (Hm.gr Gz (fun h => hSm (.inr (.inr h)))) (HYb.gr Gz (fun h => hSy (.inr (.inr h)))) (Hn.gr Gz (fun h => hSn (.inr (.inr h)))) (Hf.gr Gz (fun h => hSf (.inr (.inr h)))) (HJ.gr Gz (fun k hk => by have hk : k = g := hk; omega)) (by rw [hmax] at hcat; rw [hcat]; exact hpreC)
            rw [List.length_append, List.length_singleton] at ih'
            conv => whnf
            refine VC.rc ih' ?_
            rintro u wq G' (⟨rfl, HB2, HJ2⟩ | ⟨rfl, pre2, hp1, hp2⟩)
            · have Gq := Gz'.trans G'
              have HB3 := HB2.cut (m := l.length) (by omega)
              rw [← List.map_take, List.take_left' rfl] at HB3
              rw [hmax] at hcat
              rw [hcat] at HJ2
              repeat' (conv => whnf
                       first
                       | (refine Rng.mk (by omega) ?_)
                       | (refine Split.pos (by omega) ?_)
                       | (refine Split.neg (by omega) ?_)
                       | (refine Split.mk (fun h => ?_) (fun h => ?_))
                       | (refine Need.mk (by omega) ?_)
                       | (refine Ints.ln (by assumption) ?_)
                       | (refine Mat.ln (by assumption) ?_)
                       | (refine Ints.ln (Mat.row (by assumption) _ (by omega)) ?_)
                       | (refine Ints.ix (by assumption) (by omega) ?_)
                       | (refine Mat.ix (by assumption) (by omega) ?_)
                       | (refine Ints.ix (Mat.row (by assumption) _ (by omega)) (by omega) ?_)
                       | (refine Ints.ix (c := 0) (by assumption) (by omega) ?_)
                       | (refine Mat.ix (c := 0) (by assumption) (by omega) ?_)
                       | (refine Ints.ix (c := 0) (Mat.row (by assumption) _ (by omega)) (by omega) ?_)
                       | (refine Ints.ixI (by assumption) (by omega) ?_)
                       | (refine Mat.ixI (by assumption) (by omega) ?_)
                       | (refine Ints.ixI (Mat.row (by assumption) _ (by omega)) (by omega) ?_)
                       | (refine Ints.ld (by assumption) (by omega) ?_)
                       | (refine Mat.ld (by assumption) (by omega) ?_)
                       | (refine Ints.ld (Mat.row (by assumption) _ (by omega)) (by omega) ?_)
                       | (refine At.ld (by assumption) rfl ?_)
                       | (refine At.ldN (by assumption) rfl ?_)
                       | (refine Prs.ln (by assumption) ?_)
                       | (refine Trs.ln (by assumption) ?_)
                       | (refine Prs.ix (by assumption) (by omega) ?_)
                       | (refine Trs.ix (by assumption) (by omega) ?_)
                       | (refine Prs.ldN (by assumption) (by omega) ?_)
                       | (refine Trs.ldN (by assumption) (by omega) ?_)
                       | (refine At.ldN (Blk.at (by assumption)) rfl ?_)
                       | (refine At.ld (Blk.at (by assumption)) rfl ?_)
                       | (refine IxA.mk (by omega) ?_)
                       | (refine Sl.ln (Own.sl (by assumption)) ?_)
                       | (refine Ints.ix (Own.sl (by assumption)) (by omega) ?_)
                       | (refine Ints.ixI (Own.sl (by assumption)) (by omega) ?_)
                       | (refine Ints.ld (Own.sl (by assumption)) (by omega) ?_))
              refine ⟨rfl, _, (by omega : (n) - (c + 1) < (n) - c), rfl, c + 1, by omega, rfl, rfl, HB3, HJ2, Hm.gr Gq hSm, HYb.gr Gq hSy, Hn.gr Gq hSn, Hf.gr Gq hSf, HG.trans Gq, Nat.le_trans hs Gq.size⟩
            · skip
              repeat' (conv => whnf
                       first
                       | (refine Rng.mk (by omega) ?_)
                       | (refine Split.pos (by omega) ?_)
                       | (refine Split.neg (by omega) ?_)
                       | (refine Split.mk (fun h => ?_) (fun h => ?_))
                       | (refine Need.mk (by omega) ?_)
                       | (refine Ints.ln (by assumption) ?_)
                       | (refine Mat.ln (by assumption) ?_)
                       | (refine Ints.ln (Mat.row (by assumption) _ (by omega)) ?_)
                       | (refine Ints.ix (by assumption) (by omega) ?_)
                       | (refine Mat.ix (by assumption) (by omega) ?_)
                       | (refine Ints.ix (Mat.row (by assumption) _ (by omega)) (by omega) ?_)
                       | (refine Ints.ix (c := 0) (by assumption) (by omega) ?_)
                       | (refine Mat.ix (c := 0) (by assumption) (by omega) ?_)
                       | (refine Ints.ix (c := 0) (Mat.row (by assumption) _ (by omega)) (by omega) ?_)
                       | (refine Ints.ixI (by assumption) (by omega) ?_)
                       | (refine Mat.ixI (by assumption) (by omega) ?_)
                       | (refine Ints.ixI (Mat.row (by assumption) _ (by omega)) (by omega) ?_)
                       | (refine Ints.ld (by assumption) (by omega) ?_)
                       | (refine Mat.ld (by assumption) (by omega) ?_)
                       | (refine Ints.ld (Mat.row (by assumption) _ (by omega)) (by omega) ?_)
                       | (refine At.ld (by assumption) rfl ?_)
                       | (refine At.ldN (by assumption) rfl ?_)
                       | (refine Prs.ln (by assumption) ?_)
                       | (refine Trs.ln (by assumption) ?_)
                       | (refine Prs.ix (by assumption) (by omega) ?_)
                       | (refine Trs.ix (by assumption) (by omega) ?_)
                       | (refine Prs.ldN (by assumption) (by omega) ?_)
                       | (refine Trs.ldN (by assumption) (by omega) ?_)
                       | (refine At.ldN (Blk.at (by assumption)) rfl ?_)
                       | (refine At.ld (Blk.at (by assumption)) rfl ?_)
                       | (refine IxA.mk (by omega) ?_)
                       | (refine Sl.ln (Own.sl (by assumption)) ?_)
                       | (refine Ints.ix (Own.sl (by assumption)) (by omega) ?_)
                       | (refine Ints.ixI (Own.sl (by assumption)) (by omega) ?_)
                       | (refine Ints.ld (Own.sl (by assumption)) (by omega) ?_))
              exact ⟨(HG.trans Gz').trans G', .inr ⟨rfl, pre2, hp1, hp2⟩⟩
        · have e : c = n := by omega
          rw [e, hall] at HJ
          repeat' (conv => whnf
                   first
                   | (refine Rng.mk (by omega) ?_)
                   | (refine Split.pos (by omega) ?_)
                   | (refine Split.neg (by omega) ?_)
                   | (refine Split.mk (fun h => ?_) (fun h => ?_))
                   | (refine Need.mk (by omega) ?_)
                   | (refine Ints.ln (by assumption) ?_)
                   | (refine Mat.ln (by assumption) ?_)
                   | (refine Ints.ln (Mat.row (by assumption) _ (by omega)) ?_)
                   | (refine Ints.ix (by assumption) (by omega) ?_)
                   | (refine Mat.ix (by assumption) (by omega) ?_)
                   | (refine Ints.ix (Mat.row (by assumption) _ (by omega)) (by omega) ?_)
                   | (refine Ints.ix (c := 0) (by assumption) (by omega) ?_)
                   | (refine Mat.ix (c := 0) (by assumption) (by omega) ?_)
                   | (refine Ints.ix (c := 0) (Mat.row (by assumption) _ (by omega)) (by omega) ?_)
                   | (refine Ints.ixI (by assumption) (by omega) ?_)
                   | (refine Mat.ixI (by assumption) (by omega) ?_)
                   | (refine Ints.ixI (Mat.row (by assumption) _ (by omega)) (by omega) ?_)
                   | (refine Ints.ld (by assumption) (by omega) ?_)
                   | (refine Mat.ld (by assumption) (by omega) ?_)
                   | (refine Ints.ld (Mat.row (by assumption) _ (by omega)) (by omega) ?_)
                   | (refine At.ld (by assumption) rfl ?_)
                   | (refine At.ldN (by assumption) rfl ?_)
                   | (refine Prs.ln (by assumption) ?_)
                   | (refine Trs.ln (by assumption) ?_)
                   | (refine Prs.ix (by assumption) (by omega) ?_)
                   | (refine Trs.ix (by assumption) (by omega) ?_)
                   | (refine Prs.ldN (by assumption) (by omega) ?_)
                   | (refine Trs.ldN (by assumption) (by omega) ?_)
                   | (refine At.ldN (Blk.at (by assumption)) rfl ?_)
                   | (refine At.ld (Blk.at (by assumption)) rfl ?_)
                   | (refine IxA.mk (by omega) ?_)
                   | (refine Sl.ln (Own.sl (by assumption)) ?_)
                   | (refine Ints.ix (Own.sl (by assumption)) (by omega) ?_)
                   | (refine Ints.ixI (Own.sl (by assumption)) (by omega) ?_)
                   | (refine Ints.ld (Own.sl (by assumption)) (by omega) ?_))
          exact ⟨HG, .inl ⟨rfl, HB, HJ⟩⟩
    · have hmin : min (used + 1) n = used + 1 := by omega
      repeat' (conv => whnf
               first
               | (refine Ints.ln HI ?_)
               | (refine At.ld (i := 0) Hm rfl ?_)
               | (refine At.ld (i := 0) Hn rfl ?_)
               | (refine Rng.mk (by omega) ?_)
               | (refine Split.pos (by omega) ?_)
               | (refine Split.neg (by omega) ?_)
               | (refine Split.mk (fun h => ?_) (fun h => ?_))
               | (refine Need.mk (by omega) ?_)
               | (refine Ints.ln (by assumption) ?_)
               | (refine Mat.ln (by assumption) ?_)
               | (refine Ints.ln (Mat.row (by assumption) _ (by omega)) ?_)
               | (refine Ints.ix (by assumption) (by omega) ?_)
               | (refine Mat.ix (by assumption) (by omega) ?_)
               | (refine Ints.ix (Mat.row (by assumption) _ (by omega)) (by omega) ?_)
               | (refine Ints.ix (c := 0) (by assumption) (by omega) ?_)
               | (refine Mat.ix (c := 0) (by assumption) (by omega) ?_)
               | (refine Ints.ix (c := 0) (Mat.row (by assumption) _ (by omega)) (by omega) ?_)
               | (refine Ints.ixI (by assumption) (by omega) ?_)
               | (refine Mat.ixI (by assumption) (by omega) ?_)
               | (refine Ints.ixI (Mat.row (by assumption) _ (by omega)) (by omega) ?_)
               | (refine Ints.ld (by assumption) (by omega) ?_)
               | (refine Mat.ld (by assumption) (by omega) ?_)
               | (refine Ints.ld (Mat.row (by assumption) _ (by omega)) (by omega) ?_)
               | (refine At.ld (by assumption) rfl ?_)
               | (refine At.ldN (by assumption) rfl ?_)
               | (refine Prs.ln (by assumption) ?_)
               | (refine Trs.ln (by assumption) ?_)
               | (refine Prs.ix (by assumption) (by omega) ?_)
               | (refine Trs.ix (by assumption) (by omega) ?_)
               | (refine Prs.ldN (by assumption) (by omega) ?_)
               | (refine Trs.ldN (by assumption) (by omega) ?_)
               | (refine At.ldN (Blk.at (by assumption)) rfl ?_)
               | (refine At.ld (Blk.at (by assumption)) rfl ?_)
               | (refine IxA.mk (by omega) ?_)
               | (refine Sl.ln (Own.sl (by assumption)) ?_)
               | (refine Ints.ix (Own.sl (by assumption)) (by omega) ?_)
               | (refine Ints.ixI (Own.sl (by assumption)) (by omega) ?_)
               | (refine Ints.ld (Own.sl (by assumption)) (by omega) ?_))
      have hall : partsC n r used (used+1) = partsF n (r + 1) used := by have h := partsC_all n r used; rw [hmin] at h; exact h
      have HG0 : Gr (fun k => M k ∨ n1 ≤ k ∨ k = g) w1 w1 := Gr.refl _ _
      have HJ0 : Carry W0 n1 (J n1 (pre ++ (partsC n r used 0).map (fun s => l ++ s))) w1 := by simpa [partsC] using HJ
      have HB0 := HB
      have Hm0 := Hm
      have HY0 := HYb
      have Hn0 := Hn
      have Hf0 := Hf
      refine Lpx.mk tyOk [false, false, false, false, false, false, false, false, true, true, false, false, false, false, false, false, false, false, false, false, false, true, true, true, true, true, true, true, true, true, true, true, true, true, true, true] (fun m fr wr => getK fr 21 fun k => ∃ c : Nat, c ≤ (used+1) ∧ m = (used+1) - c ∧ k = .int .i64 (c : Int) ∧ (Buf 3 wr g mg l.length (l.map i64v)) ∧ (Carry W0 n1 (J n1 (pre ++ (partsC n r used c).map (fun s => l ++ s))) wr) ∧ (At wr ⟨mb, 0, none⟩ [.int .i64 (mg : Int)]) ∧ (At wr ⟨yb, 0, none⟩ [.func (.yield l0) #[] #[]]) ∧ (At wr ⟨nb, 0, none⟩ [.int .i64 (n : Int)]) ∧ (At wr ⟨fb, 0, none⟩ [.func (.func 87) #[] #[.pointer (some ⟨mb, 0, none⟩), .pointer (some ⟨yb, 0, none⟩), .pointer (some ⟨nb, 0, none⟩), .pointer (some ⟨fb, 0, none⟩)]]) ∧ (Gr (fun k => M k ∨ n1 ≤ k ∨ k = g) w1 wr) ∧ (n1 ≤ wr.heap.size)) ((used+1)) ?_ ?_
      · exact ⟨0, Nat.zero_le _, rfl, rfl, HB0, HJ0, Hm0, HY0, Hn0, Hf0, HG0, hs1⟩
      · intro m w61 u8 u9 u21 u22 u23 u24 u25 u26 u27 u28 u29 u30 u31 u32 u33 u34 u35 hR
        obtain ⟨c, hc, rfl, rfl, HB, HJ, Hm, HYb, Hn, Hf, HG, hs⟩ := hR
        by_cases hcl : c < used+1
        · have hpreC : pre ++ (partsC n r used (c + 1)).map (fun s => l ++ s) <+: xs := by
            refine List.IsPrefix.trans ?_ hpre
            rw [← hall, List.prefix_append_right_inj]
            exact (partsC_pre (by omega)).map _
          have hcat : pre ++ (partsC n r used c).map (fun s => l ++ s) ++ (partsF n r (max used (c + 1))).map (fun s => (l ++ [(c : Int)]) ++ s) = pre ++ (partsC n r used (c + 1)).map (fun s => l ++ s) := by
            rw [partsC_succ, List.map_append, List.map_map, List.append_assoc]
            congr 2
            refine List.map_congr_left fun s _ => ?_
            simp
          by_cases hmx : used < c + 1
          · have hmax : max used (c + 1) = c + 1 := by omega
            repeat' (conv => whnf
                     first
                     | (refine Drx.plan 24 [4, 8, 9] (.q 1 (.q 2 (.q 5 (.q 6 (.e 0 (.e 3 (.e 4 (.e 7 (.e 8 (.e 9 (.q 10 .nil) .nil) .nil) .nil) (.e 7 (.e 4 (.e 8 (.e 9 (.q 10 .nil) .nil) .nil) (.e 8 (.e 4 (.e 9 (.q 10 .nil) .nil) .nil) .nil)) .nil)) (.e 7 (.e 3 (.e 4 (.e 8 (.e 9 (.q 10 .nil) .nil) .nil) (.e 8 (.e 4 (.e 9 (.q 10 .nil) .nil) .nil) .nil)) (.e 8 (.e 3 (.e 4 (.e 9 (.q 10 .nil) .nil) .nil) .nil) .nil)) .nil)) (.e 3 (.e 0 (.e 4 (.e 7 (.e 8 (.e 9 (.q 10 .nil) .nil) .nil) .nil) (.e 7 (.e 4 (.e 8 (.e 9 (.q 10 .nil) .nil) .nil) (.e 8 (.e 4 (.e 9 (.q 10 .nil) .nil) .nil) .nil)) .nil)) (.e 4 (.e 0 (.e 7 (.e 8 (.e 9 (.q 10 .nil) .nil) .nil) .nil) (.e 7 (.e 0 (.e 8 (.e 9 (.q 10 .nil) .nil) .nil) (.e 8 (.e 0 (.e 9 (.q 10 .nil) .nil) .nil) .nil)) .nil)) (.e 7 (.e 0 (.e 4 (.e 8 (.e 9 (.q 10 .nil) .nil) .nil) (.e 8 (.e 4 (.e 9 (.q 10 .nil) .nil) .nil) .nil)) (.e 4 (.e 0 (.e 8 (.e 9 (.q 10 .nil) .nil) .nil) (.e 8 (.e 0 (.e 9 (.q 10 .nil) .nil) .nil) .nil)) (.e 8 (.e 0 (.e 4 (.e 9 (.q 10 .nil) .nil) .nil) (.e 4 (.e 0 (.e 9 (.q 10 .nil) .nil) .nil) .nil)) .nil))) .nil))) (.e 7 (.e 0 (.e 3 (.e 4 (.e 8 (.e 9 (.q 10 .nil) .nil) .nil) (.e 8 (.e 4 (.e 9 (.q 10 .nil) .nil) .nil) .nil)) (.e 8 (.e 3 (.e 4 (.e 9 (.q 10 .nil) .nil) .nil) .nil) .nil)) (.e 3 (.e 0 (.e 4 (.e 8 (.e 9 (.q 10 .nil) .nil) .nil) (.e 8 (.e 4 (.e 9 (.q 10 .nil) .nil) .nil) .nil)) (.e 4 (.e 0 (.e 8 (.e 9 (.q 10 .nil) .nil) .nil) (.e 8 (.e 0 (.e 9 (.q 10 .nil) .nil) .nil) .nil)) (.e 8 (.e 0 (.e 4 (.e 9 (.q 10 .nil) .nil) .nil) (.e 4 (.e 0 (.e 9 (.q 10 .nil) .nil) .nil) .nil)) .nil))) (.e 8 (.e 0 (.e 3 (.e 4 (.e 9 (.q 10 .nil) .nil) .nil) .nil) (.e 3 (.e 0 (.e 4 (.e 9 (.q 10 .nil) .nil) .nil) (.e 4 (.e 0 (.e 9 (.q 10 .nil) .nil) .nil) .nil)) .nil)) .nil))) .nil))))))) tyOk rfl (by kernel_rfl) ?_)
                     | (refine Rng.mk (by omega) ?_)
                     | (refine Split.pos (by omega) ?_)
                     | (refine Split.neg (by omega) ?_)
                     | (refine Split.mk (fun h => ?_) (fun h => ?_))
                     | (refine Need.mk (by omega) ?_)
                     | (refine Ints.ln (by assumption) ?_)
                     | (refine Mat.ln (by assumption) ?_)
                     | (refine Ints.ln (Mat.row (by assumption) _ (by omega)) ?_)
                     | (refine Ints.ix (by assumption) (by omega) ?_)
                     | (refine Mat.ix (by assumption) (by omega) ?_)
                     | (refine Ints.ix (Mat.row (by assumption) _ (by omega)) (by omega) ?_)
                     | (refine Ints.ix (c := 0) (by assumption) (by omega) ?_)
                     | (refine Mat.ix (c := 0) (by assumption) (by omega) ?_)
                     | (refine Ints.ix (c := 0) (Mat.row (by assumption) _ (by omega)) (by omega) ?_)
                     | (refine Ints.ixI (by assumption) (by omega) ?_)
                     | (refine Mat.ixI (by assumption) (by omega) ?_)
                     | (refine Ints.ixI (Mat.row (by assumption) _ (by omega)) (by omega) ?_)
                     | (refine Ints.ld (by assumption) (by omega) ?_)
                     | (refine Mat.ld (by assumption) (by omega) ?_)
                     | (refine Ints.ld (Mat.row (by assumption) _ (by omega)) (by omega) ?_)
                     | (refine At.ld (by assumption) rfl ?_)
                     | (refine At.ldN (by assumption) rfl ?_)
                     | (refine Prs.ln (by assumption) ?_)
                     | (refine Trs.ln (by assumption) ?_)
                     | (refine Prs.ix (by assumption) (by omega) ?_)
                     | (refine Trs.ix (by assumption) (by omega) ?_)
                     | (refine Prs.ldN (by assumption) (by omega) ?_)
                     | (refine Trs.ldN (by assumption) (by omega) ?_)
                     | (refine At.ldN (Blk.at (by assumption)) rfl ?_)
                     | (refine At.ld (Blk.at (by assumption)) rfl ?_)
                     | (refine IxA.mk (by omega) ?_)
                     | (refine Sl.ln (Own.sl (by assumption)) ?_)
                     | (refine Ints.ix (Own.sl (by assumption)) (by omega) ?_)
                     | (refine Ints.ixI (Own.sl (by assumption)) (by omega) ?_)
                     | (refine Ints.ld (Own.sl (by assumption)) (by omega) ?_))
            have key : ∀ (wz : World) (lv : Value), Gr (fun k => k = g) w61 wz → Buf 3 wz g mg (l.length + 1) (l.map i64v ++ [.int .i64 (c : Int)]) → (?PAy : World → Value → Prop) wz lv := ?keyAy
            conv => whnf
            refine ⟨?_, ?_, ?_⟩
            · conv => whnf
              refine At.ld (i := 0) Hf rfl ?_
              conv => whnf
              refine ⟨?_, ?_⟩
              · conv => whnf
                refine VX.lit1 Try.underlying27 eInt rfl fun lv w41 E41 Hl => ?_
                conv => whnf
                refine ⟨?_, ?_⟩
                · conv => whnf
                  refine VE.appIn Try.underlying27 eInt (HB.ext E41) (by omega) Hl rfl fun w42 G42 HB42 => ?_
                  conv => whnf
                  refine Rng.mk (by omega) ?_
                  conv => whnf
                  first | (refine Split.pos (by omega) ?_) | (refine Split.neg (by omega) ?_)
                  conv => whnf
                  exact key w42 lv ((Gr.ofExt E41 : Gr _ _ _).trans G42) HB42
                · conv => whnf
                  refine Rng.mk (by omega) ?_
                  conv => whnf
                  refine ⟨?_, ?_⟩
                  · conv => whnf
                    refine VE.appIn Try.underlying27 eInt (HB.ext E41) (by omega) Hl rfl fun w42 G42 HB42 => ?_
                    conv => whnf
                    first | (refine Split.pos (by omega) ?_) | (refine Split.neg (by omega) ?_)
                    conv => whnf
                    exact key w42 lv ((Gr.ofExt E41 : Gr _ _ _).trans G42) HB42
                  · conv => whnf
                    first | (refine Split.pos (by omega) ?_) | (refine Split.neg (by omega) ?_)
                    conv => whnf
                    refine VE.appIn Try.underlying27 eInt (HB.ext E41) (by omega) Hl rfl fun w42 G42 HB42 => ?_
                    conv => whnf
                    exact key w42 lv ((Gr.ofExt E41 : Gr _ _ _).trans G42) HB42
              · conv => whnf
                refine Rng.mk (by omega) ?_
                conv => whnf
                refine ⟨?_, ?_⟩
                · conv => whnf
                  refine VX.lit1 Try.underlying27 eInt rfl fun lv w41 E41 Hl => ?_
                  conv => whnf
                  refine ⟨?_, ?_⟩
                  · conv => whnf
                    refine VE.appIn Try.underlying27 eInt (HB.ext E41) (by omega) Hl rfl fun w42 G42 HB42 => ?_
                    conv => whnf
                    first | (refine Split.pos (by omega) ?_) | (refine Split.neg (by omega) ?_)
                    conv => whnf
                    exact key w42 lv ((Gr.ofExt E41 : Gr _ _ _).trans G42) HB42
                  · conv => whnf
                    first | (refine Split.pos (by omega) ?_) | (refine Split.neg (by omega) ?_)
                    conv => whnf
                    refine VE.appIn Try.underlying27 eInt (HB.ext E41) (by omega) Hl rfl fun w42 G42 HB42 => ?_
                    conv => whnf
                    exact key w42 lv ((Gr.ofExt E41 : Gr _ _ _).trans G42) HB42
                · conv => whnf
                  first | (refine Split.pos (by omega) ?_) | (refine Split.neg (by omega) ?_)
                  conv => whnf
                  refine VX.lit1 Try.underlying27 eInt rfl fun lv w41 E41 Hl => ?_
                  conv => whnf
                  refine VE.appIn Try.underlying27 eInt (HB.ext E41) (by omega) Hl rfl fun w42 G42 HB42 => ?_
                  conv => whnf
                  exact key w42 lv ((Gr.ofExt E41 : Gr _ _ _).trans G42) HB42
            · conv => whnf
              refine VX.lit1 Try.underlying27 eInt rfl fun lv w41 E41 Hl => ?_
              conv => whnf
              refine ⟨?_, ?_, ?_⟩
              · conv => whnf
                refine At.ld (i := 0) (Hf.ext E41) rfl ?_
                conv => whnf
                refine ⟨?_, ?_⟩
                · conv => whnf
                  refine VE.appIn Try.underlying27 eInt (HB.ext E41) (by omega) Hl rfl fun w42 G42 HB42 => ?_
                  conv => whnf
                  refine Rng.mk (by omega) ?_
                  conv => whnf
                  first | (refine Split.pos (by omega) ?_) | (refine Split.neg (by omega) ?_)
                  conv => whnf
                  exact key w42 lv ((Gr.ofExt E41 : Gr _ _ _).trans G42) HB42
                · conv => whnf
                  refine Rng.mk (by omega) ?_
                  conv => whnf
                  refine ⟨?_, ?_⟩
                  · conv => whnf
                    refine VE.appIn Try.underlying27 eInt (HB.ext E41) (by omega) Hl rfl fun w42 G42 HB42 => ?_
                    conv => whnf
                    first | (refine Split.pos (by omega) ?_) | (refine Split.neg (by omega) ?_)
                    conv => whnf
                    exact key w42 lv ((Gr.ofExt E41 : Gr _ _ _).trans G42) HB42
                  · conv => whnf
                    first | (refine Split.pos (by omega) ?_) | (refine Split.neg (by omega) ?_)
                    conv => whnf
                    refine VE.appIn Try.underlying27 eInt (HB.ext E41) (by omega) Hl rfl fun w42 G42 HB42 => ?_
                    conv => whnf
                    exact key w42 lv ((Gr.ofExt E41 : Gr _ _ _).trans G42) HB42
              · conv => whnf
                refine VE.appIn Try.underlying27 eInt (HB.ext E41) (by omega) Hl rfl fun w42 G42 HB42 => ?_
                conv => whnf
                refine ⟨?_, ?_⟩
                · conv => whnf
                  refine At.ld (i := 0) ((Hf.ext E41).gr G42 (fun h => hSf (.inr (.inr h)))) rfl ?_
                  conv => whnf
                  refine Rng.mk (by omega) ?_
                  conv => whnf
                  first | (refine Split.pos (by omega) ?_) | (refine Split.neg (by omega) ?_)
                  conv => whnf
                  exact key w42 lv ((Gr.ofExt E41 : Gr _ _ _).trans G42) HB42
                · conv => whnf
                  refine Rng.mk (by omega) ?_
                  conv => whnf
                  refine ⟨?_, ?_⟩
                  · conv => whnf
                    refine At.ld (i := 0) ((Hf.ext E41).gr G42 (fun h => hSf (.inr (.inr h)))) rfl ?_
                    conv => whnf
                    first | (refine Split.pos (by omega) ?_) | (refine Split.neg (by omega) ?_)
                    conv => whnf
                    exact key w42 lv ((Gr.ofExt E41 : Gr _ _ _).trans G42) HB42
                  · conv => whnf
                    first | (refine Split.pos (by omega) ?_) | (refine Split.neg (by omega) ?_)
                    conv => whnf
                    refine At.ld (i := 0) ((Hf.ext E41).gr G42 (fun h => hSf (.inr (.inr h)))) rfl ?_
                    conv => whnf
                    exact key w42 lv ((Gr.ofExt E41 : Gr _ _ _).trans G42) HB42
              · conv => whnf
                refine Rng.mk (by omega) ?_
                conv => whnf
                refine ⟨?_, ?_, ?_⟩
                · conv => whnf
                  refine At.ld (i := 0) (Hf.ext E41) rfl ?_
                  conv => whnf
                  refine ⟨?_, ?_⟩
                  · conv => whnf
                    refine VE.appIn Try.underlying27 eInt (HB.ext E41) (by omega) Hl rfl fun w42 G42 HB42 => ?_
                    conv => whnf
                    first | (refine Split.pos (by omega) ?_) | (refine Split.neg (by omega) ?_)
                    conv => whnf
                    exact key w42 lv ((Gr.ofExt E41 : Gr _ _ _).trans G42) HB42
                  · conv => whnf
                    first | (refine Split.pos (by omega) ?_) | (refine Split.neg (by omega) ?_)
                    conv => whnf
                    refine VE.appIn Try.underlying27 eInt (HB.ext E41) (by omega) Hl rfl fun w42 G42 HB42 => ?_
                    conv => whnf
                    exact key w42 lv ((Gr.ofExt E41 : Gr _ _ _).trans G42) HB42
                · conv => whnf
                  refine VE.appIn Try.underlying27 eInt (HB.ext E41) (by omega) Hl rfl fun w42 G42 HB42 => ?_
                  conv => whnf
                  refine ⟨?_, ?_⟩
                  · conv => whnf
                    refine At.ld (i := 0) ((Hf.ext E41).gr G42 (fun h => hSf (.inr (.inr h)))) rfl ?_
                    conv => whnf
                    first | (refine Split.pos (by omega) ?_) | (refine Split.neg (by omega) ?_)
                    conv => whnf
                    exact key w42 lv ((Gr.ofExt E41 : Gr _ _ _).trans G42) HB42
                  · conv => whnf
                    first | (refine Split.pos (by omega) ?_) | (refine Split.neg (by omega) ?_)
                    conv => whnf
                    refine At.ld (i := 0) ((Hf.ext E41).gr G42 (fun h => hSf (.inr (.inr h)))) rfl ?_
                    conv => whnf
                    exact key w42 lv ((Gr.ofExt E41 : Gr _ _ _).trans G42) HB42
                · conv => whnf
                  first | (refine Split.pos (by omega) ?_) | (refine Split.neg (by omega) ?_)
                  conv => whnf
                  refine ⟨?_, ?_⟩
                  · conv => whnf
                    refine At.ld (i := 0) (Hf.ext E41) rfl ?_
                    conv => whnf
                    refine VE.appIn Try.underlying27 eInt (HB.ext E41) (by omega) Hl rfl fun w42 G42 HB42 => ?_
                    conv => whnf
                    exact key w42 lv ((Gr.ofExt E41 : Gr _ _ _).trans G42) HB42
                  · conv => whnf
                    refine VE.appIn Try.underlying27 eInt (HB.ext E41) (by omega) Hl rfl fun w42 G42 HB42 => ?_
                    conv => whnf
                    refine At.ld (i := 0) ((Hf.ext E41).gr G42 (fun h => hSf (.inr (.inr h)))) rfl ?_
                    conv => whnf
                    exact key w42 lv ((Gr.ofExt E41 : Gr _ _ _).trans G42) HB42
            · conv => whnf
              refine Rng.mk (by omega) ?_
              conv => whnf
              refine ⟨?_, ?_, ?_⟩
              · conv => whnf
                refine At.ld (i := 0) Hf rfl ?_
                conv => whnf
                refine ⟨?_, ?_⟩
                · conv => whnf
                  refine VX.lit1 Try.underlying27 eInt rfl fun lv w41 E41 Hl => ?_
                  conv => whnf
                  refine ⟨?_, ?_⟩
                  · conv => whnf
                    refine VE.appIn Try.underlying27 eInt (HB.ext E41) (by omega) Hl rfl fun w42 G42 HB42 => ?_
                    conv => whnf
                    first | (refine Split.pos (by omega) ?_) | (refine Split.neg (by omega) ?_)
                    conv => whnf
                    exact key w42 lv ((Gr.ofExt E41 : Gr _ _ _).trans G42) HB42
                  · conv => whnf
                    first | (refine Split.pos (by omega) ?_) | (refine Split.neg (by omega) ?_)
                    conv => whnf
                    refine VE.appIn Try.underlying27 eInt (HB.ext E41) (by omega) Hl rfl fun w42 G42 HB42 => ?_
                    conv => whnf
                    exact key w42 lv ((Gr.ofExt E41 : Gr _ _ _).trans G42) HB42
                · conv => whnf
                  first | (refine Split.pos (by omega) ?_) | (refine Split.neg (by omega) ?_)
                  conv => whnf
                  refine VX.lit1 Try.underlying27 eInt rfl fun lv w41 E41 Hl => ?_
                  conv => whnf
                  refine VE.appIn Try.underlying27 eInt (HB.ext E41) (by omega) Hl rfl fun w42 G42 HB42 => ?_
                  conv => whnf
                  exact key w42 lv ((Gr.ofExt E41 : Gr _ _ _).trans G42) HB42
              · conv => whnf
                refine VX.lit1 Try.underlying27 eInt rfl fun lv w41 E41 Hl => ?_
                conv => whnf
                refine ⟨?_, ?_, ?_⟩
                · conv => whnf
                  refine At.ld (i := 0) (Hf.ext E41) rfl ?_
                  conv => whnf
                  refine ⟨?_, ?_⟩
                  · conv => whnf
                    refine VE.appIn Try.underlying27 eInt (HB.ext E41) (by omega) Hl rfl fun w42 G42 HB42 => ?_
                    conv => whnf
                    first | (refine Split.pos (by omega) ?_) | (refine Split.neg (by omega) ?_)
                    conv => whnf
                    exact key w42 lv ((Gr.ofExt E41 : Gr _ _ _).trans G42) HB42
                  · conv => whnf
                    first | (refine Split.pos (by omega) ?_) | (refine Split.neg (by omega) ?_)
                    conv => whnf
                    refine VE.appIn Try.underlying27 eInt (HB.ext E41) (by omega) Hl rfl fun w42 G42 HB42 => ?_
                    conv => whnf
                    exact key w42 lv ((Gr.ofExt E41 : Gr _ _ _).trans G42) HB42
                · conv => whnf
                  refine VE.appIn Try.underlying27 eInt (HB.ext E41) (by omega) Hl rfl fun w42 G42 HB42 => ?_
                  conv => whnf
                  refine ⟨?_, ?_⟩
                  · conv => whnf
                    refine At.ld (i := 0) ((Hf.ext E41).gr G42 (fun h => hSf (.inr (.inr h)))) rfl ?_
                    conv => whnf
                    first | (refine Split.pos (by omega) ?_) | (refine Split.neg (by omega) ?_)
                    conv => whnf
                    exact key w42 lv ((Gr.ofExt E41 : Gr _ _ _).trans G42) HB42
                  · conv => whnf
                    first | (refine Split.pos (by omega) ?_) | (refine Split.neg (by omega) ?_)
                    conv => whnf
                    refine At.ld (i := 0) ((Hf.ext E41).gr G42 (fun h => hSf (.inr (.inr h)))) rfl ?_
                    conv => whnf
                    exact key w42 lv ((Gr.ofExt E41 : Gr _ _ _).trans G42) HB42
                · conv => whnf
                  first | (refine Split.pos (by omega) ?_) | (refine Split.neg (by omega) ?_)
                  conv => whnf
                  refine ⟨?_, ?_⟩
                  · conv => whnf
                    refine At.ld (i := 0) (Hf.ext E41) rfl ?_
                    conv => whnf
                    refine VE.appIn Try.underlying27 eInt (HB.ext E41) (by omega) Hl rfl fun w42 G42 HB42 => ?_
                    conv => whnf
                    exact key w42 lv ((Gr.ofExt E41 : Gr _ _ _).trans G42) HB42
                  · conv => whnf
                    refine VE.appIn Try.underlying27 eInt (HB.ext E41) (by omega) Hl rfl fun w42 G42 HB42 => ?_
                    conv => whnf
                    refine At.ld (i := 0) ((Hf.ext E41).gr G42 (fun h => hSf (.inr (.inr h)))) rfl ?_
                    conv => whnf
                    exact key w42 lv ((Gr.ofExt E41 : Gr _ _ _).trans G42) HB42
              · conv => whnf
                first | (refine Split.pos (by omega) ?_) | (refine Split.neg (by omega) ?_)
                conv => whnf
                refine ⟨?_, ?_⟩
                · conv => whnf
                  refine At.ld (i := 0) Hf rfl ?_
                  conv => whnf
                  refine VX.lit1 Try.underlying27 eInt rfl fun lv w41 E41 Hl => ?_
                  conv => whnf
                  refine VE.appIn Try.underlying27 eInt (HB.ext E41) (by omega) Hl rfl fun w42 G42 HB42 => ?_
                  conv => whnf
                  exact key w42 lv ((Gr.ofExt E41 : Gr _ _ _).trans G42) HB42
                · conv => whnf
                  refine VX.lit1 Try.underlying27 eInt rfl fun lv w41 E41 Hl => ?_
                  conv => whnf
                  refine ⟨?_, ?_⟩
                  · conv => whnf
                    refine At.ld (i := 0) (Hf.ext E41) rfl ?_
                    conv => whnf
                    refine VE.appIn Try.underlying27 eInt (HB.ext E41) (by omega) Hl rfl fun w42 G42 HB42 => ?_
                    conv => whnf
                    exact key w42 lv ((Gr.ofExt E41 : Gr _ _ _).trans G42) HB42
                  · conv => whnf
                    refine VE.appIn Try.underlying27 eInt (HB.ext E41) (by omega) Hl rfl fun w42 G42 HB42 => ?_
                    conv => whnf
                    refine At.ld (i := 0) ((Hf.ext E41).gr G42 (fun h => hSf (.inr (.inr h)))) rfl ?_
                    conv => whnf
                    exact key w42 lv ((Gr.ofExt E41 : Gr _ _ _).trans G42) HB42
            intro wz lv Gz HBz
            have HBz' : Buf 3 wz g mg (l ++ [(c : Int)]).length ((l ++ [(c : Int)]).map i64v) := by rw [List.length_append, List.map_append]; exact HBz
            have Gz' : Gr (fun k => M k ∨ n1 ≤ k ∨ k = g) w61 wz := Gz.mono fun k _ h => .inr (.inr h)
            have ih' := ih (l ++ [(c : Int)]) (c + 1) (pre ++ (partsC n r used c).map (fun s => l ++ s)) wz (by simp; omega) (by omega) (Nat.le_trans hs Gz.size) HBz' (Hm.gr Gz (fun h => hSm (.inr (.inr h)))) (HYb.gr Gz (fun h => hSy (.inr (.inr h)))) (Hn.gr Gz (fun h => hSn (.inr (.inr h)))) (Hf.gr Gz (fun h => hSf (.inr (.inr h)))) (HJ.gr Gz (fun k hk => by have hk : k = g := hk; omega)) (by rw [hmax] at hcat; rw [hcat]; exact hpreC)
            rw [List.length_append, List.length_singleton] at ih'
            conv => whnf
            refine VC.rc ih' ?_
            rintro u wq G' (⟨rfl, HB2, HJ2⟩ | ⟨rfl, pre2, hp1, hp2⟩)
            · have Gq := Gz'.trans G'
              have HB3 := HB2.cut (m := l.length) (by omega)
              rw [← List.map_take, List.take_left' rfl] at HB3
              rw [hmax] at hcat
              rw [hcat] at HJ2
              repeat' (conv => whnf
                       first
                       | (refine Rng.mk (by omega) ?_)
                       | (refine Split.pos (by omega) ?_)
                       | (refine Split.neg (by omega) ?_)
                       | (refine Split.mk (fun h => ?_) (fun h => ?_))
                       | (refine Need.mk (by omega) ?_)
                       | (refine Ints.ln (by assumption) ?_)
                       | (refine Mat.ln (by assumption) ?_)
                       | (refine Ints.ln (Mat.row (by assumption) _ (by omega)) ?_)
                       | (refine Ints.ix (by assumption) (by omega) ?_)
                       | (refine Mat.ix (by assumption) (by omega) ?_)
                       | (refine Ints.ix (Mat.row (by assumption) _ (by omega)) (by omega) ?_)
                       | (refine Ints.ix (c := 0) (by assumption) (by omega) ?_)
                       | (refine Mat.ix (c := 0) (by assumption) (by omega) ?_)
                       | (refine Ints.ix (c := 0) (Mat.row (by assumption) _ (by omega)) (by omega) ?_)
                       | (refine Ints.ixI (by assumption) (by omega) ?_)
                       | (refine Mat.ixI (by assumption) (by omega) ?_)
                       | (refine Ints.ixI (Mat.row (by assumption) _ (by omega)) (by omega) ?_)
                       | (refine Ints.ld (by assumption) (by omega) ?_)
                       | (refine Mat.ld (by assumption) (by omega) ?_)
                       | (refine Ints.ld (Mat.row (by assumption) _ (by omega)) (by omega) ?_)
                       | (refine At.ld (by assumption) rfl ?_)
                       | (refine At.ldN (by assumption) rfl ?_)
                       | (refine Prs.ln (by assumption) ?_)
                       | (refine Trs.ln (by assumption) ?_)
                       | (refine Prs.ix (by assumption) (by omega) ?_)
                       | (refine Trs.ix (by assumption) (by omega) ?_)
                       | (refine Prs.ldN (by assumption) (by omega) ?_)
                       | (refine Trs.ldN (by assumption) (by omega) ?_)
                       | (refine At.ldN (Blk.at (by assumption)) rfl ?_)
                       | (refine At.ld (Blk.at (by assumption)) rfl ?_)
                       | (refine IxA.mk (by omega) ?_)
                       | (refine Sl.ln (Own.sl (by assumption)) ?_)
                       | (refine Ints.ix (Own.sl (by assumption)) (by omega) ?_)
                       | (refine Ints.ixI (Own.sl (by assumption)) (by omega) ?_)
                       | (refine Ints.ld (Own.sl (by assumption)) (by omega) ?_))
              refine ⟨rfl, _, (by omega : (used+1) - (c + 1) < (used+1) - c), rfl, c + 1, by omega, rfl, rfl, HB3, HJ2, Hm.gr Gq hSm, HYb.gr Gq hSy, Hn.gr Gq hSn, Hf.gr Gq hSf, HG.trans Gq, Nat.le_trans hs Gq.size⟩
            · skip
              repeat' (conv => whnf
                       first
                       | (refine Rng.mk (by omega) ?_)
                       | (refine Split.pos (by omega) ?_)
                       | (refine Split.neg (by omega) ?_)
                       | (refine Split.mk (fun h => ?_) (fun h => ?_))
                       | (refine Need.mk (by omega) ?_)
                       | (refine Ints.ln (by assumption) ?_)
                       | (refine Mat.ln (by assumption) ?_)
                       | (refine Ints.ln (Mat.row (by assumption) _ (by omega)) ?_)
                       | (refine Ints.ix (by assumption) (by omega) ?_)
                       | (refine Mat.ix (by assumption) (by omega) ?_)
                       | (refine Ints.ix (Mat.row (by assumption) _ (by omega)) (by omega) ?_)
                       | (refine Ints.ix (c := 0) (by assumption) (by omega) ?_)
                       | (refine Mat.ix (c := 0) (by assumption) (by omega) ?_)
                       | (refine Ints.ix (c := 0) (Mat.row (by assumption) _ (by omega)) (by omega) ?_)
                       | (refine Ints.ixI (by assumption) (by omega) ?_)
                       | (refine Mat.ixI (by assumption) (by omega) ?_)
                       | (refine Ints.ixI (Mat.row (by assumption) _ (by omega)) (by omega) ?_)
                       | (refine Ints.ld (by assumption) (by omega) ?_)
                       | (refine Mat.ld (by assumption) (by omega) ?_)
                       | (refine Ints.ld (Mat.row (by assumption) _ (by omega)) (by omega) ?_)
                       | (refine At.ld (by assumption) rfl ?_)
                       | (refine At.ldN (by assumption) rfl ?_)
                       | (refine Prs.ln (by assumption) ?_)
                       | (refine Trs.ln (by assumption) ?_)
                       | (refine Prs.ix (by assumption) (by omega) ?_)
                       | (refine Trs.ix (by assumption) (by omega) ?_)
                       | (refine Prs.ldN (by assumption) (by omega) ?_)
                       | (refine Trs.ldN (by assumption) (by omega) ?_)
                       | (refine At.ldN (Blk.at (by assumption)) rfl ?_)
                       | (refine At.ld (Blk.at (by assumption)) rfl ?_)
                       | (refine IxA.mk (by omega) ?_)
                       | (refine Sl.ln (Own.sl (by assumption)) ?_)
                       | (refine Ints.ix (Own.sl (by assumption)) (by omega) ?_)
                       | (refine Ints.ixI (Own.sl (by assumption)) (by omega) ?_)
                       | (refine Ints.ld (Own.sl (by assumption)) (by omega) ?_))
              exact ⟨(HG.trans Gz').trans G', .inr ⟨rfl, pre2, hp1, hp2⟩⟩
          · have hmax : max used (c + 1) = used := by omega
            repeat' (conv => whnf
                     first
                     | (refine Drx.plan 24 [4, 8, 9] (.q 1 (.q 2 (.q 5 (.q 6 (.e 0 (.e 3 (.e 4 (.e 7 (.e 8 (.e 9 (.q 10 .nil) .nil) .nil) .nil) (.e 7 (.e 4 (.e 8 (.e 9 (.q 10 .nil) .nil) .nil) (.e 8 (.e 4 (.e 9 (.q 10 .nil) .nil) .nil) .nil)) .nil)) (.e 7 (.e 3 (.e 4 (.e 8 (.e 9 (.q 10 .nil) .nil) .nil) (.e 8 (.e 4 (.e 9 (.q 10 .nil) .nil) .nil) .nil)) (.e 8 (.e 3 (.e 4 (.e 9 (.q 10 .nil) .nil) .nil) .nil) .nil)) .nil)) (.e 3 (.e 0 (.e 4 (.e 7 (.e 8 (.e 9 (.q 10 .nil) .nil) .nil) .nil) (.e 7 (.e 4 (.e 8 (.e 9 (.q 10 .nil) .nil) .nil) (.e 8 (.e 4 (.e 9 (.q 10 .nil) .nil) .nil) .nil)) .nil)) (.e 4 (.e 0 (.e 7 (.e 8 (.e 9 (.q 10 .nil) .nil) .nil) .nil) (.e 7 (.e 0 (.e 8 (.e 9 (.q 10 .nil) .nil) .nil) (.e 8 (.e 0 (.e 9 (.q 10 .nil) .nil) .nil) .nil)) .nil)) (.e 7 (.e 0 (.e 4 (.e 8 (.e 9 (.q 10 .nil) .nil) .nil) (.e 8 (.e 4 (.e 9 (.q 10 .nil) .nil) .nil) .nil)) (.e 4 (.e 0 (.e 8 (.e 9 (.q 10 .nil) .nil) .nil) (.e 8 (.e 0 (.e 9 (.q 10 .nil) .nil) .nil) .nil)) (.e 8 (.e 0 (.e 4 (.e 9 (.q 10 .nil) .nil) .nil) (.e 4 (.e 0 (.e 9 (.q 10 .nil) .nil) .nil) .nil)) .nil))) .nil))) (.e 7 (.e 0 (.e 3 (.e 4 (.e 8 (.e 9 (.q 10 .nil) .nil) .nil) (.e 8 (.e 4 (.e 9 (.q 10 .nil) .nil) .nil) .nil)) (.e 8 (.e 3 (.e 4 (.e 9 (.q 10 .nil) .nil) .nil) .nil) .nil)) (.e 3 (.e 0 (.e 4 (.e 8 (.e 9 (.q 10 .nil) .nil) .nil) (.e 8 (.e 4 (.e 9 (.q 10 .nil) .nil) .nil) .nil)) (.e 4 (.e 0 (.e 8 (.e 9 (.q 10 .nil) .nil) .nil) (.e 8 (.e 0 (.e 9 (.q 10 .nil) .nil) .nil) .nil)) (.e 8 (.e 0 (.e 4 (.e 9 (.q 10 .nil) .nil) .nil) (.e 4 (.e 0 (.e 9 (.q 10 .nil) .nil) .nil) .nil)) .nil))) (.e 8 (.e 0 (.e 3 (.e 4 (.e 9 (.q 10 .nil) .nil) .nil) .nil) (.e 3 (.e 0 (.e 4 (.e 9 (.q 10 .nil) .nil) .nil) (.e 4 (.e 0 (.e 9 (.q 10 .nil) .nil) .nil) .nil)) .nil)) .nil))) .nil))))))) tyOk rfl (by kernel_rfl) ?_)
                     | (refine Rng.mk (by omega) ?_)
                     | (refine Split.pos (by omega) ?_)
                     | (refine Split.neg (by omega) ?_)
                     | (refine Split.mk (fun h => ?_) (fun h => ?_))
                     | (refine Need.mk (by omega) ?_)
                     | (refine Ints.ln (by assumption) ?_)
                     | (refine Mat.ln (by assumption) ?_)
                     | (refine Ints.ln (Mat.row (by assumption) _ (by omega)) ?_)
                     | (refine Ints.ix (by assumption) (by omega) ?_)
                     | (refine Mat.ix (by assumption) (by omega) ?_)
                     | (refine Ints.ix (Mat.row (by assumption) _ (by omega)) (by omega) ?_)
                     | (refine Ints.ix (c := 0) (by assumption) (by omega) ?_)
                     | (refine Mat.ix (c := 0) (by assumption) (by omega) ?_)
                     | (refine Ints.ix (c := 0) (Mat.row (by assumption) _ (by omega)) (by omega) ?_)
                     | (refine Ints.ixI (by assumption) (by omega) ?_)
                     | (refine Mat.ixI (by assumption) (by omega) ?_)
                     | (refine Ints.ixI (Mat.row (by assumption) _ (by omega)) (by omega) ?_)
                     | (refine Ints.ld (by assumption) (by omega) ?_)
                     | (refine Mat.ld (by assumption) (by omega) ?_)
                     | (refine Ints.ld (Mat.row (by assumption) _ (by omega)) (by omega) ?_)
                     | (refine At.ld (by assumption) rfl ?_)
                     | (refine At.ldN (by assumption) rfl ?_)
                     | (refine Prs.ln (by assumption) ?_)
                     | (refine Trs.ln (by assumption) ?_)
                     | (refine Prs.ix (by assumption) (by omega) ?_)
                     | (refine Trs.ix (by assumption) (by omega) ?_)
                     | (refine Prs.ldN (by assumption) (by omega) ?_)
                     | (refine Trs.ldN (by assumption) (by omega) ?_)
                     | (refine At.ldN (Blk.at (by assumption)) rfl ?_)
                     | (refine At.ld (Blk.at (by assumption)) rfl ?_)
                     | (refine IxA.mk (by omega) ?_)
                     | (refine Sl.ln (Own.sl (by assumption)) ?_)
                     | (refine Ints.ix (Own.sl (by assumption)) (by omega) ?_)
                     | (refine Ints.ixI (Own.sl (by assumption)) (by omega) ?_)
                     | (refine Ints.ld (Own.sl (by assumption)) (by omega) ?_))
            have key : ∀ (wz : World) (lv : Value), Gr (fun k => k = g) w61 wz → Buf 3 wz g mg (l.length + 1) (l.map i64v ++ [.int .i64 (c : Int)]) → (?PBy : World → Value → Prop) wz lv := ?keyBy
            conv => whnf
            refine ⟨?_, ?_, ?_⟩
            · conv => whnf
              refine At.ld (i := 0) Hf rfl ?_
              conv => whnf
              refine ⟨?_, ?_⟩
              · conv => whnf
                refine VX.lit1 Try.underlying27 eInt rfl fun lv w41 E41 Hl => ?_
                conv => whnf
                refine ⟨?_, ?_⟩
                · conv => whnf
                  refine VE.appIn Try.underlying27 eInt (HB.ext E41) (by omega) Hl rfl fun w42 G42 HB42 => ?_
                  conv => whnf
                  refine Rng.mk (by omega) ?_
                  conv => whnf
                  first | (refine Split.pos (by omega) ?_) | (refine Split.neg (by omega) ?_)
                  conv => whnf
                  exact key w42 lv ((Gr.ofExt E41 : Gr _ _ _).trans G42) HB42
                · conv => whnf
                  refine Rng.mk (by omega) ?_
                  conv => whnf
                  refine ⟨?_, ?_⟩
                  · conv => whnf
                    refine VE.appIn Try.underlying27 eInt (HB.ext E41) (by omega) Hl rfl fun w42 G42 HB42 => ?_
                    conv => whnf
                    first | (refine Split.pos (by omega) ?_) | (refine Split.neg (by omega) ?_)
                    conv => whnf
                    exact key w42 lv ((Gr.ofExt E41 : Gr _ _ _).trans G42) HB42
                  · conv => whnf
                    first | (refine Split.pos (by omega) ?_) | (refine Split.neg (by omega) ?_)
                    conv => whnf
                    refine VE.appIn Try.underlying27 eInt (HB.ext E41) (by omega) Hl rfl fun w42 G42 HB42 => ?_
                    conv => whnf
                    exact key w42 lv ((Gr.ofExt E41 : Gr _ _ _).trans G42) HB42
              · conv => whnf
                refine Rng.mk (by omega) ?_
                conv => whnf
                refine ⟨?_, ?_⟩
                · conv => whnf
                  refine VX.lit1 Try.underlying27 eInt rfl fun lv w41 E41 Hl => ?_
                  conv => whnf
                  refine ⟨?_, ?_⟩
                  · conv => whnf
                    refine VE.appIn Try.underlying27 eInt (HB.ext E41) (by omega) Hl rfl fun w42 G42 HB42 => ?_
                    conv => whnf
                    first | (refine Split.pos (by omega) ?_) | (refine Split.neg (by omega) ?_)
                    conv => whnf
                    exact key w42 lv ((Gr.ofExt E41 : Gr _ _ _).trans G42) HB42
                  · conv => whnf
                    first | (refine Split.pos (by omega) ?_) | (refine Split.neg (by omega) ?_)
                    conv => whnf
                    refine VE.appIn Try.underlying27 eInt (HB.ext E41) (by omega) Hl rfl fun w42 G42 HB42 => ?_
                    conv => whnf
                    exact key w42 lv ((Gr.ofExt E41 : Gr _ _ _).trans G42) HB42
                · conv => whnf
                  first | (refine Split.pos (by omega) ?_) | (refine Split.neg (by omega) ?_)
                  conv => whnf
                  refine VX.lit1 Try.underlying27 eInt rfl fun lv w41 E41 Hl => ?_
                  conv => whnf
                  refine VE.appIn Try.underlying27 eInt (HB.ext E41) (by omega) Hl rfl fun w42 G42 HB42 => ?_
                  conv => whnf
                  exact key w42 lv ((Gr.ofExt E41 : Gr _ _ _).trans G42) HB42
            · conv => whnf
              refine VX.lit1 Try.underlying27 eInt rfl fun lv w41 E41 Hl => ?_
              conv => whnf
              refine ⟨?_, ?_, ?_⟩
              · conv => whnf
                refine At.ld (i := 0) (Hf.ext E41) rfl ?_
                conv => whnf
                refine ⟨?_, ?_⟩
                · conv => whnf
                  refine VE.appIn Try.underlying27 eInt (HB.ext E41) (by omega) Hl rfl fun w42 G42 HB42 => ?_
                  conv => whnf
                  refine Rng.mk (by omega) ?_
                  conv => whnf
                  first | (refine Split.pos (by omega) ?_) | (refine Split.neg (by omega) ?_)
                  conv => whnf
                  exact key w42 lv ((Gr.ofExt E41 : Gr _ _ _).trans G42) HB42
                · conv => whnf
                  refine Rng.mk (by omega) ?_
                  conv => whnf
                  refine ⟨?_, ?_⟩
                  · conv => whnf
                    refine VE.appIn Try.underlying27 eInt (HB.ext E41) (by omega) Hl rfl fun w42 G42 HB42 => ?_
                    conv => whnf
                    first | (refine Split.pos (by omega) ?_) | (refine Split.neg (by omega) ?_)
                    conv => whnf
                    exact key w42 lv ((Gr.ofExt E41 : Gr _ _ _).trans G42) HB42
                  · conv => whnf
                    first | (refine Split.pos (by omega) ?_) | (refine Split.neg (by omega) ?_)
                    conv => whnf
                    refine VE.appIn Try.underlying27 eInt (HB.ext E41) (by omega) Hl rfl fun w42 G42 HB42 => ?_
                    conv => whnf
                    exact key w42 lv ((Gr.ofExt E41 : Gr _ _ _).trans G42) HB42
              · conv => whnf
                refine VE.appIn Try.underlying27 eInt (HB.ext E41) (by omega) Hl rfl fun w42 G42 HB42 => ?_
                conv => whnf
                refine ⟨?_, ?_⟩
                · conv => whnf
                  refine At.ld (i := 0) ((Hf.ext E41).gr G42 (fun h => hSf (.inr (.inr h)))) rfl ?_
                  conv => whnf
                  refine Rng.mk (by omega) ?_
                  conv => whnf
                  first | (refine Split.pos (by omega) ?_) | (refine Split.neg (by omega) ?_)
                  conv => whnf
                  exact key w42 lv ((Gr.ofExt E41 : Gr _ _ _).trans G42) HB42
                · conv => whnf
                  refine Rng.mk (by omega) ?_
                  conv => whnf
                  refine ⟨?_, ?_⟩
                  · conv => whnf
                    refine At.ld (i := 0) ((Hf.ext E41).gr G42 (fun h => hSf (.inr (.inr h)))) rfl ?_
                    conv => whnf
                    first | (refine Split.pos (by omega) ?_) | (refine Split.neg (by omega) ?_)
                    conv => whnf
                    exact key w42 lv ((Gr.ofExt E41 : Gr _ _ _).trans G42) HB42
                  · conv => whnf
                    first | (refine Split.pos (by omega) ?_) | (refine Split.neg (by omega) ?_)
                    conv => whnf
                    refine At.ld (i := 0) ((Hf.ext E41).gr G42 (fun h => hSf (.inr (.inr h)))) rfl ?_
                    conv => whnf
                    exact key w42 lv ((Gr.ofExt E41 : Gr _ _ _).trans G42) HB42
              · conv => whnf
                refine Rng.mk (by omega) ?_
                conv => whnf
                refine ⟨?_, ?_, ?_⟩
                · conv => whnf
                  refine At.ld (i := 0) (Hf.ext E41) rfl ?_
                  conv => whnf
                  refine ⟨?_, ?_⟩
                  · conv => whnf
                    refine VE.appIn Try.underlying27 eInt (HB.ext E41) (by omega) Hl rfl fun w42 G42 HB42 => ?_
                    conv => whnf
                    first | (refine Split.pos (by omega) ?_) | (refine Split.neg (by omega) ?_)
                    conv => whnf
                    exact key w42 lv ((Gr.ofExt E41 : Gr _ _ _).trans G42) HB42
                  · conv => whnf
                    first | (refine Split.pos (by omega) ?_) | (refine Split.neg (by omega) ?_)
                    conv => whnf
                    refine VE.appIn Try.underlying27 eInt (HB.ext E41) (by omega) Hl rfl fun w42 G42 HB42 => ?_
                    conv => whnf
                    exact key w42 lv ((Gr.ofExt E41 : Gr _ _ _).trans G42) HB42
                · conv => whnf
                  refine VE.appIn Try.underlying27 eInt (HB.ext E41) (by omega) Hl rfl fun w42 G42 HB42 => ?_
                  conv => whnf
                  refine ⟨?_, ?_⟩
                  · conv => whnf
                    refine At.ld (i := 0) ((Hf.ext E41).gr G42 (fun h => hSf (.inr (.inr h)))) rfl ?_
                    conv => whnf
                    first | (refine Split.pos (by omega) ?_) | (refine Split.neg (by omega) ?_)
                    conv => whnf
                    exact key w42 lv ((Gr.ofExt E41 : Gr _ _ _).trans G42) HB42
                  · conv => whnf
                    first | (refine Split.pos (by omega) ?_) | (refine Split.neg (by omega) ?_)
                    conv => whnf
                    refine At.ld (i := 0) ((Hf.ext E41).gr G42 (fun h => hSf (.inr (.inr h)))) rfl ?_
                    conv => whnf
                    exact key w42 lv ((Gr.ofExt E41 : Gr _ _ _).trans G42) HB42
                · conv => whnf
                  first | (refine Split.pos (by omega) ?_) | (refine Split.neg (by omega) ?_)
                  conv => whnf
                  refine ⟨?_, ?_⟩
                  · conv => whnf
                    refine At.ld (i := 0) (Hf.ext E41) rfl ?_
                    conv => whnf
                    refine VE.appIn Try.underlying27 eInt (HB.ext E41) (by omega) Hl rfl fun w42 G42 HB42 => ?_
                    conv => whnf
                    exact key w42 lv ((Gr.ofExt E41 : Gr _ _ _).trans G42) HB42
                  · conv => whnf
                    refine VE.appIn Try.underlying27 eInt (HB.ext E41) (by omega) Hl rfl fun w42 G42 HB42 => ?_
                    conv => whnf
                    refine At.ld (i := 0) ((Hf.ext E41).gr G42 (fun h => hSf (.inr (.inr h)))) rfl ?_
                    conv => whnf
                    exact key w42 lv ((Gr.ofExt E41 : Gr _ _ _).trans G42) HB42
            · conv => whnf
              refine Rng.mk (by omega) ?_
              conv => whnf
              refine ⟨?_, ?_, ?_⟩
              · conv => whnf
                refine At.ld (i := 0) Hf rfl ?_
                conv => whnf
                refine ⟨?_, ?_⟩
                · conv => whnf
                  refine VX.lit1 Try.underlying27 eInt rfl fun lv w41 E41 Hl => ?_
                  conv => whnf
                  refine ⟨?_, ?_⟩
                  · conv => whnf
                    refine VE.appIn Try.underlying27 eInt (HB.ext E41) (by omega) Hl rfl fun w42 G42 HB42 => ?_
                    conv => whnf
                    first | (refine Split.pos (by omega) ?_) | (refine Split.neg (by omega) ?_)
                    conv => whnf
                    exact key w42 lv ((Gr.ofExt E41 : Gr _ _ _).trans G42) HB42
                  · conv => whnf
                    first | (refine Split.pos (by omega) ?_) | (refine Split.neg (by omega) ?_)
                    conv => whnf
                    refine VE.appIn Try.underlying27 eInt (HB.ext E41) (by omega) Hl rfl fun w42 G42 HB42 => ?_
                    conv => whnf
                    exact key w42 lv ((Gr.ofExt E41 : Gr _ _ _).trans G42) HB42
                · conv => whnf
                  first | (refine Split.pos (by omega) ?_) | (refine Split.neg (by omega) ?_)
                  conv => whnf
                  refine VX.lit1 Try.underlying27 eInt rfl fun lv w41 E41 Hl => ?_
                  conv => whnf
                  refine VE.appIn Try.underlying27 eInt (HB.ext E41) (by omega) Hl rfl fun w42 G42 HB42 => ?_
                  conv => whnf
                  exact key w42 lv ((Gr.ofExt E41 : Gr _ _ _).trans G42) HB42
              · conv => whnf
                refine VX.lit1 Try.underlying27 eInt rfl fun lv w41 E41 Hl => ?_
                conv => whnf
                refine ⟨?_, ?_, ?_⟩
                · conv => whnf
                  refine At.ld (i := 0) (Hf.ext E41) rfl ?_
                  conv => whnf
                  refine ⟨?_, ?_⟩
                  · conv => whnf
                    refine VE.appIn Try.underlying27 eInt (HB.ext E41) (by omega) Hl rfl fun w42 G42 HB42 => ?_
                    conv => whnf
                    first | (refine Split.pos (by omega) ?_) | (refine Split.neg (by omega) ?_)
                    conv => whnf
                    exact key w42 lv ((Gr.ofExt E41 : Gr _ _ _).trans G42) HB42
                  · conv => whnf
                    first | (refine Split.pos (by omega) ?_) | (refine Split.neg (by omega) ?_)
                    conv => whnf
                    refine VE.appIn Try.underlying27 eInt (HB.ext E41) (by omega) Hl rfl fun w42 G42 HB42 => ?_
                    conv => whnf
                    exact key w42 lv ((Gr.ofExt E41 : Gr _ _ _).trans G42) HB42
                · conv => whnf
                  refine VE.appIn Try.underlying27 eInt (HB.ext E41) (by omega) Hl rfl fun w42 G42 HB42 => ?_
                  conv => whnf
                  refine ⟨?_, ?_⟩
                  · conv => whnf
                    refine At.ld (i := 0) ((Hf.ext E41).gr G42 (fun h => hSf (.inr (.inr h)))) rfl ?_
                    conv => whnf
                    first | (refine Split.pos (by omega) ?_) | (refine Split.neg (by omega) ?_)
                    conv => whnf
                    exact key w42 lv ((Gr.ofExt E41 : Gr _ _ _).trans G42) HB42
                  · conv => whnf
                    first | (refine Split.pos (by omega) ?_) | (refine Split.neg (by omega) ?_)
                    conv => whnf
                    refine At.ld (i := 0) ((Hf.ext E41).gr G42 (fun h => hSf (.inr (.inr h)))) rfl ?_
                    conv => whnf
                    exact key w42 lv ((Gr.ofExt E41 : Gr _ _ _).trans G42) HB42
                · conv => whnf
                  first | (refine Split.pos (by omega) ?_) | (refine Split.neg (by omega) ?_)
                  conv => whnf
                  refine ⟨?_, ?_⟩
                  · conv => whnf
                    refine At.ld (i := 0) (Hf.ext E41) rfl ?_
                    conv => whnf
                    refine VE.appIn Try.underlying27 eInt (HB.ext E41) (by omega) Hl rfl fun w42 G42 HB42 => ?_
                    conv => whnf
                    exact key w42 lv ((Gr.ofExt E41 : Gr _ _ _).trans G42) HB42
                  · conv => whnf
                    refine VE.appIn Try.underlying27 eInt (HB.ext E41) (by omega) Hl rfl fun w42 G42 HB42 => ?_
                    conv => whnf
                    refine At.ld (i := 0) ((Hf.ext E41).gr G42 (fun h => hSf (.inr (.inr h)))) rfl ?_
                    conv => whnf
                    exact key w42 lv ((Gr.ofExt E41 : Gr _ _ _).trans G42) HB42
              · conv => whnf
                first | (refine Split.pos (by omega) ?_) | (refine Split.neg (by omega) ?_)
                conv => whnf
                refine ⟨?_, ?_⟩
                · conv => whnf
                  refine At.ld (i := 0) Hf rfl ?_
                  conv => whnf
                  refine VX.lit1 Try.underlying27 eInt rfl fun lv w41 E41 Hl => ?_
                  conv => whnf
                  refine VE.appIn Try.underlying27 eInt (HB.ext E41) (by omega) Hl rfl fun w42 G42 HB42 => ?_
                  conv => whnf
                  exact key w42 lv ((Gr.ofExt E41 : Gr _ _ _).trans G42) HB42
                · conv => whnf
                  refine VX.lit1 Try.underlying27 eInt rfl fun lv w41 E41 Hl => ?_
                  conv => whnf
                  refine ⟨?_, ?_⟩
                  · conv => whnf
                    refine At.ld (i := 0) (Hf.ext E41) rfl ?_
                    conv => whnf
                    refine VE.appIn Try.underlying27 eInt (HB.ext E41) (by omega) Hl rfl fun w42 G42 HB42 => ?_
                    conv => whnf
                    exact key w42 lv ((Gr.ofExt E41 : Gr _ _ _).trans G42) HB42
                  · conv => whnf
                    refine VE.appIn Try.underlying27 eInt (HB.ext E41) (by omega) Hl rfl fun w42 G42 HB42 => ?_
                    conv => whnf
                    refine At.ld (i := 0) ((Hf.ext E41).gr G42 (fun h => hSf (.inr (.inr h)))) rfl ?_
                    conv => whnf
                    exact key w42 lv ((Gr.ofExt E41 : Gr _ _ _).trans G42) HB42
            intro wz lv Gz HBz
            have HBz' : Buf 3 wz g mg (l ++ [(c : Int)]).length ((l ++ [(c : Int)]).map i64v) := by rw [List.length_append, List.map_append]; exact HBz
            have Gz' : Gr (fun k => M k ∨ n1 ≤ k ∨ k = g) w61 wz := Gz.mono fun k _ h => .inr (.inr h)
            have ih' := ih (l ++ [(c : Int)]) (used) (pre ++ (partsC n r used c).map (fun s => l ++ s)) wz (by simp; omega) (by omega) (Nat.le_trans hs Gz.size) HBz' (Hm.gr Gz (fun h => hSm (.inr (.inr h)))) (HYb.gr Gz (fun h => hSy (.inr (.inr h)))) (Hn.gr Gz (fun h => hSn (.inr (.inr h)))) (Hf.gr Gz (fun h => hSf (.inr (.inr h)))) (HJ.gr Gz (fun k hk => by have hk : k = g := hk; omega)) (by rw [hmax] at hcat; rw [hcat]; exact hpreC)
            rw [List.length_append, List.length_singleton] at ih'
            conv => whnf
            refine VC.rc ih' ?_
            rintro u wq G' (⟨rfl, HB2, HJ2⟩ | ⟨rfl, pre2, hp1, hp2⟩)
            · have Gq := Gz'.trans G'
              have HB3 := HB2.cut (m := l.length) (by omega)
              rw [← List.map_take, List.take_left' rfl] at HB3
              rw [hmax] at hcat
              rw [hcat] at HJ2
              repeat' (conv => whnf
                       first
                       | (refine Rng.mk (by omega) ?_)
                       | (refine Split.pos (by omega) ?_)
                       | (refine Split.neg (by omega) ?_)
                       | (refine Split.mk (fun h => ?_) (fun h => ?_))
                       | (refine Need.mk (by omega) ?_)
                       | (refine Ints.ln (by assumption) ?_)
                       | (refine Mat.ln (by assumption) ?_)
                       | (refine Ints.ln (Mat.row (by assumption) _ (by omega)) ?_)
                       | (refine Ints.ix (by assumption) (by omega) ?_)
                       | (refine Mat.ix (by assumption) (by omega) ?_)
                       | (refine Ints.ix (Mat.row (by assumption) _ (by omega)) (by omega) ?_)
                       | (refine Ints.ix (c := 0) (by assumption) (by omega) ?_)
                       | (refine Mat.ix (c := 0) (by assumption) (by omega) ?_)
                       | (refine Ints.ix (c := 0) (Mat.row (by assumption) _ (by omega)) (by omega) ?_)
                       | (refine Ints.ixI (by assumption) (by omega) ?_)
                       | (refine Mat.ixI (by assumption) (by omega) ?_)
                       | (refine Ints.ixI (Mat.row (by assumption) _ (by omega)) (by omega) ?_)
                       | (refine Ints.ld (by assumption) (by omega) ?_)
                       | (refine Mat.ld (by assumption) (by omega) ?_)
                       | (refine Ints.ld (Mat.row (by assumption) _ (by omega)) (by omega) ?_)
                       | (refine At.ld (by assumption) rfl ?_)
                       | (refine At.ldN (by assumption) rfl ?_)
                       | (refine Prs.ln (by assumption) ?_)
                       | (refine Trs.ln (by assumption) ?_)
                       | (refine Prs.ix (by assumption) (by omega) ?_)
                       | (refine Trs.ix (by assumption) (by omega) ?_)
                       | (refine Prs.ldN (by assumption) (by omega) ?_)
                       | (refine Trs.ldN (by assumption) (by omega) ?_)
                       | (refine At.ldN (Blk.at (by assumption)) rfl ?_)
                       | (refine At.ld (Blk.at (by assumption)) rfl ?_)
                       | (refine IxA.mk (by omega) ?_)
                       | (refine Sl.ln (Own.sl (by assumption)) ?_)
                       | (refine Ints.ix (Own.sl (by assumption)) (by omega) ?_)
                       | (refine Ints.ixI (Own.sl (by assumption)) (by omega) ?_)
                       | (refine Ints.ld (Own.sl (by assumption)) (by omega) ?_))
              refine ⟨rfl, _, (by omega : (used+1) - (c + 1) < (used+1) - c), rfl, c + 1, by omega, rfl, rfl, HB3, HJ2, Hm.gr Gq hSm, HYb.gr Gq hSy, Hn.gr Gq hSn, Hf.gr Gq hSf, HG.trans Gq, Nat.le_trans hs Gq.size⟩
            · skip
              repeat' (conv => whnf
                       first
                       | (refine Rng.mk (by omega) ?_)
                       | (refine Split.pos (by omega) ?_)
                       | (refine Split.neg (by omega) ?_)
                       | (refine Split.mk (fun h => ?_) (fun h => ?_))
                       | (refine Need.mk (by omega) ?_)
                       | (refine Ints.ln (by assumption) ?_)
                       | (refine Mat.ln (by assumption) ?_)
                       | (refine Ints.ln (Mat.row (by assumption) _ (by omega)) ?_)
                       | (refine Ints.ix (by assumption) (by omega) ?_)
                       | (refine Mat.ix (by assumption) (by omega) ?_)
                       | (refine Ints.ix (Mat.row (by assumption) _ (by omega)) (by omega) ?_)
                       | (refine Ints.ix (c := 0) (by assumption) (by omega) ?_)
                       | (refine Mat.ix (c := 0) (by assumption) (by omega) ?_)
                       | (refine Ints.ix (c := 0) (Mat.row (by assumption) _ (by omega)) (by omega) ?_)
                       | (refine Ints.ixI (by assumption) (by omega) ?_)
                       | (refine Mat.ixI (by assumption) (by omega) ?_)
                       | (refine Ints.ixI (Mat.row (by assumption) _ (by omega)) (by omega) ?_)
                       | (refine Ints.ld (by assumption) (by omega) ?_)
                       | (refine Mat.ld (by assumption) (by omega) ?_)
                       | (refine Ints.ld (Mat.row (by assumption) _ (by omega)) (by omega) ?_)
                       | (refine At.ld (by assumption) rfl ?_)
                       | (refine At.ldN (by assumption) rfl ?_)
                       | (refine Prs.ln (by assumption) ?_)
                       | (refine Trs.ln (by assumption) ?_)
                       | (refine Prs.ix (by assumption) (by omega) ?_)
                       | (refine Trs.ix (by assumption) (by omega) ?_)
                       | (refine Prs.ldN (by assumption) (by omega) ?_)
                       | (refine Trs.ldN (by assumption) (by omega) ?_)
                       | (refine At.ldN (Blk.at (by assumption)) rfl ?_)
                       | (refine At.ld (Blk.at (by assumption)) rfl ?_)
                       | (refine IxA.mk (by omega) ?_)
                       | (refine Sl.ln (Own.sl (by assumption)) ?_)
                       | (refine Ints.ix (Own.sl (by assumption)) (by omega) ?_)
                       | (refine Ints.ixI (Own.sl (by assumption)) (by omega) ?_)
                       | (refine Ints.ld (Own.sl (by assumption)) (by omega) ?_))
              exact ⟨(HG.trans Gz').trans G', .inr ⟨rfl, pre2, hp1, hp2⟩⟩
        · have e : c = used+1 := by omega
          rw [e, hall] at HJ
          repeat' (conv => whnf
                   first
                   | (refine Rng.mk (by omega) ?_)
                   | (refine Split.pos (by omega) ?_)
                   | (refine Split.neg (by omega) ?_)
                   | (refine Split.mk (fun h => ?_) (fun h => ?_))
                   | (refine Need.mk (by omega) ?_)
                   | (refine Ints.ln (by assumption) ?_)
                   | (refine Mat.ln (by assumption) ?_)
                   | (refine Ints.ln (Mat.row (by assumption) _ (by omega)) ?_)
                   | (refine Ints.ix (by assumption) (by omega) ?_)
                   | (refine Mat.ix (by assumption) (by omega) ?_)
                   | (refine Ints.ix (Mat.row (by assumption) _ (by omega)) (by omega) ?_)
                   | (refine Ints.ix (c := 0) (by assumption) (by omega) ?_)
                   | (refine Mat.ix (c := 0) (by assumption) (by omega) ?_)
                   | (refine Ints.ix (c := 0) (Mat.row (by assumption) _ (by omega)) (by omega) ?_)
                   | (refine Ints.ixI (by assumption) (by omega) ?_)
                   | (refine Mat.ixI (by assumption) (by omega) ?_)
                   | (refine Ints.ixI (Mat.row (by assumption) _ (by omega)) (by omega) ?_)
                   | (refine Ints.ld (by assumption) (by omega) ?_)
                   | (refine Mat.ld (by assumption) (by omega) ?_)
                   | (refine Ints.ld (Mat.row (by assumption) _ (by omega)) (by omega) ?_)
                   | (refine At.ld (by assumption) rfl ?_)
                   | (refine At.ldN (by assumption) rfl ?_)
                   | (refine Prs.ln (by assumption) ?_)
                   | (refine Trs.ln (by assumption) ?_)
                   | (refine Prs.ix (by assumption) (by omega) ?_)
                   | (refine Trs.ix (by assumption) (by omega) ?_)
                   | (refine Prs.ldN (by assumption) (by omega) ?_)
                   | (refine Trs.ldN (by assumption) (by omega) ?_)
                   | (refine At.ldN (Blk.at (by assumption)) rfl ?_)
                   | (refine At.ld (Blk.at (by assumption)) rfl ?_)
                   | (refine IxA.mk (by omega) ?_)
                   | (refine Sl.ln (Own.sl (by assumption)) ?_)
                   | (refine Ints.ix (Own.sl (by assumption)) (by omega) ?_)
                   | (refine Ints.ixI (Own.sl (by assumption)) (by omega) ?_)
                   | (refine Ints.ld (Own.sl (by assumption)) (by omega) ?_))
          exact ⟨HG, .inl ⟨rfl, HB, HJ⟩⟩
end Go.Proofs.Ytkgogljfngplnaa
set_option linter.unusedVariables false
set_option linter.unusedSimpArgs false
namespace Go.Proofs.Ytkgogljfngplnaa
open Go.Eng
set_option maxRecDepth 100000
set_option maxHeartbeats 4000000

theorem eFrom : Elem Try.prog 89 .nilFunc 1 8 := by unfold Elem; kernel_rfl

theorem partitions_rc {w : World} {mg n : Nat} : RC Try.prog 76 [.int .i64 (mg : Int), .int .i64 (n : Int)] w NoB (fun u w' => ∃ bm bn, u = .func (.func 86) #[] #[.pointer (some ⟨bm, 0, none⟩), .pointer (some ⟨bn, 0, none⟩)] ∧ At w' ⟨bm, 0, none⟩ [.int .i64 (mg : Int)] ∧ At w' ⟨bn, 0, none⟩ [.int .i64 (n : Int)] ∧ w.heap.size ≤ bm ∧ bm < w'.heap.size ∧ w.heap.size ≤ bn ∧ bn < w'.heap.size) := by
  refine RC.mk tyOk Try.func76 rfl (by kernel_rfl) fun w1 E1 => ?_
  have EE := Ext.refl w1
  refine Bx.one rfl fun bm w2 E2 hbm Hm _ => ?_
  conv => whnf
  refine Bx.one rfl fun bn w3 E3 hbn Hn _ => ?_
  have hm2 : bm < w2.heap.size := by have := Hm 0 _ rfl; exact World.block_lt_of_cell? _ _ this
  have hn3 : bn < w3.heap.size := by have := Hn 0 _ rfl; exact World.block_lt_of_cell? _ _ this
  have h1 := E1.size
  have h2 := E2.size
  have h3 := E3.size
  repeat' (conv => whnf
           first
           | (refine Dr.quiet tyOk (by kernel_rfl) ?_)
           | (refine Rng.mk (by omega) ?_)
           | (refine Split.pos (by omega) ?_)
           | (refine Split.neg (by omega) ?_)
           | (refine Split.mk (fun h => ?_) (fun h => ?_))
           | (refine Need.mk (by omega) ?_)
           | (refine Ints.ln (by assumption) ?_)
           | (refine Mat.ln (by assumption) ?_)
           | (refine Ints.ln (Mat.row (by assumption) _ (by omega)) ?_)
           | (refine Ints.ix (by assumption) (by omega) ?_)
           | (refine Mat.ix (by assumption) (by omega) ?_)
           | (refine Ints.ix (Mat.row (by assumption) _ (by omega)) (by omega) ?_)
           | (refine Ints.ix (c := 0) (by assumption) (by omega) ?_)
           | (refine Mat.ix (c := 0) (by assumption) (by omega) ?_)
           | (refine Ints.ix (c := 0) (Mat.row (by assumption) _ (by omega)) (by omega) ?_)
           | (refine Ints.ixI (by assumption) (by omega) ?_)
           | (refine Mat.ixI (by assumption) (by omega) ?_)
           | (refine Ints.ixI (Mat.row (by assumption) _ (by omega)) (by omega) ?_)
           | (refine Ints.ld (by assumption) (by omega) ?_)
           | (refine Mat.ld (by assumption) (by omega) ?_)
           | (refine Ints.ld (Mat.row (by assumption) _ (by omega)) (by omega) ?_)
           | (refine At.ld (by assumption) rfl ?_)
           | (refine At.ldN (by assumption) rfl ?_)
           | (refine Prs.ln (by assumption) ?_)
           | (refine Trs.ln (by assumption) ?_)
           | (refine Prs.ix (by assumption) (by omega) ?_)
           | (refine Trs.ix (by assumption) (by omega) ?_)
           | (refine Prs.ldN (by assumption) (by omega) ?_)
           | (refine Trs.ldN (by assumption) (by omega) ?_)
           | (refine At.ldN (Blk.at (by assumption)) rfl ?_)
           | (refine At.ld (Blk.at (by assumption)) rfl ?_)
           | (refine IxA.mk (by omega) ?_)
           | (refine Sl.ln (Own.sl (by assumption)) ?_)
           | (refine Ints.ix (Own.sl (by assumption)) (by omega) ?_)
           | (refine Ints.ixI (Own.sl (by assumption)) (by omega) ?_)
           | (refine Ints.ld (Own.sl (by assumption)) (by omega) ?_))
  exact ⟨(EE.ext E2).ext E3, bm, bn, rfl, Hm.ext E3, Hn, by omega, by omega, by omega, by omega⟩

theorem parts_it {w : World} {mg n bm bn : Nat} (Hm : At w ⟨bm, 0, none⟩ [.int .i64 (mg : Int)]) (Hn : At w ⟨bn, 0, none⟩ [.int .i64 (n : Int)]) (hbm : bm < w.heap.size) (hbn : bn < w.heap.size) (hm : mg ≤ 100) (hn : n ≤ 100) :
    ItOk Try.prog 86 [.pointer (some ⟨bm, 0, none⟩), .pointer (some ⟨bn, 0, none⟩)] (fun k => k = bm ∨ k = bn) w (partsF n mg 0) := by
  refine ItOk.mk tyOk Try.func86 rfl (by kernel_rfl) fun l M J Jx w1 E1 hM hY h0 => ?_
  replace Hm := Hm.ext E1
  replace Hn := Hn.ext E1
  have EE := Ext.refl w1
  have hs1 := E1.size
  refine Bx.one rfl fun yb w2 E2 hyb HYb _ => ?_
  have hy2 : yb < w2.heap.size := by have := HYb 0 _ rfl; exact World.block_lt_of_cell? _ _ this
  have hs2 := E2.size
  have Hm2 := Hm.ext E2
  have Hn2 := Hn.ext E2
  repeat' (conv => whnf
           first
           | (refine Rng.mk (by omega) ?_)
           | (refine Split.pos (by omega) ?_)
           | (refine Split.neg (by omega) ?_)
           | (refine Split.mk (fun h => ?_) (fun h => ?_))
           | (refine Need.mk (by omega) ?_)
           | (refine Ints.ln (by assumption) ?_)
           | (refine Mat.ln (by assumption) ?_)
           | (refine Ints.ln (Mat.row (by assumption) _ (by omega)) ?_)
           | (refine Ints.ix (by assumption) (by omega) ?_)
           | (refine Mat.ix (by assumption) (by omega) ?_)
           | (refine Ints.ix (Mat.row (by assumption) _ (by omega)) (by omega) ?_)
           | (refine Ints.ix (c := 0) (by assumption) (by omega) ?_)
           | (refine Mat.ix (c := 0) (by assumption) (by omega) ?_)
           | (refine Ints.ix (c := 0) (Mat.row (by assumption) _ (by omega)) (by omega) ?_)
           | (refine Ints.ixI (by assumption) (by omega) ?_)
           | (refine Mat.ixI (by assumption) (by omega) ?_)
           | (refine Ints.ixI (Mat.row (by assumption) _ (by omega)) (by omega) ?_)
           | (refine Ints.ld (by assumption) (by omega) ?_)
           | (refine Mat.ld (by assumption) (by omega) ?_)
           | (refine Ints.ld (Mat.row (by assumption) _ (by omega)) (by omega) ?_)
           | (refine At.ld (by assumption) rfl ?_)
           | (refine At.ldN (by assumption) rfl ?_)
           | (refine Prs.ln (by assumption) ?_)
           | (refine Trs.ln (by assumption) ?_)
           | (refine Prs.ix (by assumption) (by omega) ?_)
           | (refine Trs.ix (by assumption) (by omega) ?_)
           | (refine Prs.ldN (by assumption) (by omega) ?_)
           | (refine Trs.ldN (by assumption) (by omega) ?_)
           | (refine At.ldN (Blk.at (by assumption)) rfl ?_)
           | (refine At.ld (Blk.at (by assumption)) rfl ?_)
           | (refine IxA.mk (by omega) ?_)
           | (refine Sl.ln (Own.sl (by assumption)) ?_)
           | (refine Ints.ix (Own.sl (by assumption)) (by omega) ?_)
           | (refine Ints.ixI (Own.sl (by assumption)) (by omega) ?_)
           | (refine Ints.ld (Own.sl (by assumption)) (by omega) ?_))
  refine VE.alloc eFrom fun fb w3 E3 hfb Hfb => ?_
  have hs3 := E3.size
  have hf3 := Blk.lt Hfb
  repeat' (conv => whnf
           first
           | (refine Rng.mk (by omega) ?_)
           | (refine Split.pos (by omega) ?_)
           | (refine Split.neg (by omega) ?_)
           | (refine Split.mk (fun h => ?_) (fun h => ?_))
           | (refine Need.mk (by omega) ?_)
           | (refine Ints.ln (by assumption) ?_)
           | (refine Mat.ln (by assumption) ?_)
           | (refine Ints.ln (Mat.row (by assumption) _ (by omega)) ?_)
           | (refine Ints.ix (by assumption) (by omega) ?_)
           | (refine Mat.ix (by assumption) (by omega) ?_)
           | (refine Ints.ix (Mat.row (by assumption) _ (by omega)) (by omega) ?_)
           | (refine Ints.ix (c := 0) (by assumption) (by omega) ?_)
           | (refine Mat.ix (c := 0) (by assumption) (by omega) ?_)
           | (refine Ints.ix (c := 0) (Mat.row (by assumption) _ (by omega)) (by omega) ?_)
           | (refine Ints.ixI (by assumption) (by omega) ?_)
           | (refine Mat.ixI (by assumption) (by omega) ?_)
           | (refine Ints.ixI (Mat.row (by assumption) _ (by omega)) (by omega) ?_)
           | (refine Ints.ld (by assumption) (by omega) ?_)
           | (refine Mat.ld (by assumption) (by omega) ?_)
           | (refine Ints.ld (Mat.row (by assumption) _ (by omega)) (by omega) ?_)
           | (refine At.ld (by assumption) rfl ?_)
           | (refine At.ldN (by assumption) rfl ?_)
           | (refine Prs.ln (by assumption) ?_)
           | (refine Trs.ln (by assumption) ?_)
           | (refine Prs.ix (by assumption) (by omega) ?_)
           | (refine Trs.ix (by assumption) (by omega) ?_)
           | (refine Prs.ldN (by assumption) (by omega) ?_)
           | (refine Trs.ldN (by assumption) (by omega) ?_)
           | (refine At.ldN (Blk.at (by assumption)) rfl ?_)
           | (refine At.ld (Blk.at (by assumption)) rfl ?_)
           | (refine IxA.mk (by omega) ?_)
           | (refine Sl.ln (Own.sl (by assumption)) ?_)
           | (refine Ints.ix (Own.sl (by assumption)) (by omega) ?_)
           | (refine Ints.ixI (Own.sl (by assumption)) (by omega) ?_)
           | (refine Ints.ld (Own.sl (by assumption)) (by omega) ?_))
  refine Blk.set0 Hfb (by decide) rfl fun w4 G4 Hf4 => ?_
  have hs4 := G4.size
  have Hm4 := (Hm2.ext E3).gr G4 (fun h => by have h : bm = fb := h; omega)
  have Hn4 := (Hn2.ext E3).gr G4 (fun h => by have h : bn = fb := h; omega)
  have HY4 := (HYb.ext E3).gr G4 (fun h => by have h : yb = fb := h; omega)
  repeat' (conv => whnf
           first
           | (refine Drx.plan 6 [3] (.q 0 (.q 1 (.e 2 (.e 3 .nil .nil) .nil))) tyOk rfl (by kernel_rfl) ?_)
           | (refine At.ld (i := 0) Hm4 rfl ?_)
           | (refine At.ld (i := 0) (Blk.at Hf4) rfl ?_)
           | (refine Rng.mk (by omega) ?_)
           | (refine Split.pos (by omega) ?_)
           | (refine Split.neg (by omega) ?_)
           | (refine Split.mk (fun h => ?_) (fun h => ?_))
           | (refine Need.mk (by omega) ?_)
           | (refine Ints.ln (by assumption) ?_)
           | (refine Mat.ln (by assumption) ?_)
           | (refine Ints.ln (Mat.row (by assumption) _ (by omega)) ?_)
           | (refine Ints.ix (by assumption) (by omega) ?_)
           | (refine Mat.ix (by assumption) (by omega) ?_)
           | (refine Ints.ix (Mat.row (by assumption) _ (by omega)) (by omega) ?_)
           | (refine Ints.ix (c := 0) (by assumption) (by omega) ?_)
           | (refine Mat.ix (c := 0) (by assumption) (by omega) ?_)
           | (refine Ints.ix (c := 0) (Mat.row (by assumption) _ (by omega)) (by omega) ?_)
           | (refine Ints.ixI (by assumption) (by omega) ?_)
           | (refine Mat.ixI (by assumption) (by omega) ?_)
           | (refine Ints.ixI (Mat.row (by assumption) _ (by omega)) (by omega) ?_)
           | (refine Ints.ld (by assumption) (by omega) ?_)
           | (refine Mat.ld (by assumption) (by omega) ?_)
           | (refine Ints.ld (Mat.row (by assumption) _ (by omega)) (by omega) ?_)
           | (refine At.ld (by assumption) rfl ?_)
           | (refine At.ldN (by assumption) rfl ?_)
           | (refine Prs.ln (by assumption) ?_)
           | (refine Trs.ln (by assumption) ?_)
           | (refine Prs.ix (by assumption) (by omega) ?_)
           | (refine Trs.ix (by assumption) (by omega) ?_)
           | (refine Prs.ldN (by assumption) (by omega) ?_)
           | (refine Trs.ldN (by assumption) (by omega) ?_)
           | (refine At.ldN (Blk.at (by assumption)) rfl ?_)
           | (refine At.ld (Blk.at (by assumption)) rfl ?_)
           | (refine IxA.mk (by omega) ?_)
           | (refine Sl.ln (Own.sl (by assumption)) ?_)
           | (refine Ints.ix (Own.sl (by assumption)) (by omega) ?_)
           | (refine Ints.ixI (Own.sl (by assumption)) (by omega) ?_)
           | (refine Ints.ld (Own.sl (by assumption)) (by omega) ?_))
  refine VX.madeB (cp := mg) Try.underlying27 eInt rfl (by omega) (by omega) fun g w5 E5 hg HB => ?_
  have hs5 := E5.size
  have hg5 := HB.lt
  obtain ⟨n1, hn1⟩ : ∃ n1, n1 = w5.heap.size := ⟨_, rfl⟩
  have hW : w1.heap.size ≤ n1 := by omega
  have HJ5 : Carry w1.heap.size n1 (J n1 []) w5 := ((((h0 n1 hW).ext E2).ext E3).gr G4 (fun k hk => by have hk : k = fb := hk; omega)).ext E5
  have hMm : ∀ k, M k → ¬ (k = bm ∨ k = bn) ∧ k < w1.heap.size := hM
  have cf := pfrom_rc (mg := mg) (n := n) (M := M) (J := J) (Jx := Jx) (W0 := w1.heap.size) (n1 := n1) (g := g) (l0 := l) (mb := bm) (yb := yb) (nb := bn) (fb := fb) (xs := partsF n mg 0) hm hn hW hY ⟨by omega, by omega⟩ (fun h => by have := (hMm g h).2; omega)
    (by rintro (h | h | h); exact (hMm _ h).1 (.inl rfl); omega; omega) (by rintro (h | h | h); (have := (hMm _ h).2; omega); omega; omega) (by rintro (h | h | h); exact (hMm _ h).1 (.inr rfl); omega; omega) (by rintro (h | h | h); (have := (hMm _ h).2; omega); omega; omega)
    mg [] 0 [] w5 (by simp) (by omega) (by omega) HB (Hm4.ext E5) (HY4.ext E5) (Hn4.ext E5) ((Blk.at Hf4).ext E5) HJ5 (by simp)
  conv => whnf
  refine VC.rc cf ?_
  rintro u wq Gq (⟨rfl, HB2, HJ2⟩ | ⟨rfl, pre2, hp1, hp2⟩)
  · skip
    repeat' (conv => whnf
             first
             | (refine Rng.mk (by omega) ?_)
             | (refine Split.pos (by omega) ?_)
             | (refine Split.neg (by omega) ?_)
             | (refine Split.mk (fun h => ?_) (fun h => ?_))
             | (refine Need.mk (by omega) ?_)
             | (refine Ints.ln (by assumption) ?_)
             | (refine Mat.ln (by assumption) ?_)
             | (refine Ints.ln (Mat.row (by assumption) _ (by omega)) ?_)
             | (refine Ints.ix (by assumption) (by omega) ?_)
             | (refine Mat.ix (by assumption) (by omega) ?_)
             | (refine Ints.ix (Mat.row (by assumption) _ (by omega)) (by omega) ?_)
             | (refine Ints.ix (c := 0) (by assumption) (by omega) ?_)
             | (refine Mat.ix (c := 0) (by assumption) (by omega) ?_)
             | (refine Ints.ix (c := 0) (Mat.row (by assumption) _ (by omega)) (by omega) ?_)
             | (refine Ints.ixI (by assumption) (by omega) ?_)
             | (refine Mat.ixI (by assumption) (by omega) ?_)
             | (refine Ints.ixI (Mat.row (by assumption) _ (by omega)) (by omega) ?_)
             | (refine Ints.ld (by assumption) (by omega) ?_)
             | (refine Mat.ld (by assumption) (by omega) ?_)
             | (refine Ints.ld (Mat.row (by assumption) _ (by omega)) (by omega) ?_)
             | (refine At.ld (by assumption) rfl ?_)
             | (refine At.ldN (by assumption) rfl ?_)
             | (refine Prs.ln (by assumption) ?_)
             | (refine Trs.ln (by assumption) ?_)
             | (refine Prs.ix (by assumption) (by omega) ?_)
             | (refine Trs.ix (by assumption) (by omega) ?_)
             | (refine Prs.ldN (by assumption) (by omega) ?_)
             | (refine Trs.ldN (by assumption) (by omega) ?_)
             | (refine At.ldN (Blk.at (by assumption)) rfl ?_)
             | (refine At.ld (Blk.at (by assumption)) rfl ?_)
             | (refine IxA.mk (by omega) ?_)
             | (refine Sl.ln (Own.sl (by assumption)) ?_)
             | (refine Ints.ix (Own.sl (by assumption)) (by omega) ?_)
             | (refine Ints.ixI (Own.sl (by assumption)) (by omega) ?_)
             | (refine Ints.ld (Own.sl (by assumption)) (by omega) ?_))
    refine ⟨n1, hW, .inl ?_⟩
    simpa using HJ2
  · skip
    repeat' (conv => whnf
             first
             | (refine Rng.mk (by omega) ?_)
             | (refine Split.pos (by omega) ?_)
             | (refine Split.neg (by omega) ?_)
             | (refine Split.mk (fun h => ?_) (fun h => ?_))
             | (refine Need.mk (by omega) ?_)
             | (refine Ints.ln (by assumption) ?_)
             | (refine Mat.ln (by assumption) ?_)
             | (refine Ints.ln (Mat.row (by assumption) _ (by omega)) ?_)
             | (refine Ints.ix (by assumption) (by omega) ?_)
             | (refine Mat.ix (by assumption) (by omega) ?_)
             | (refine Ints.ix (Mat.row (by assumption) _ (by omega)) (by omega) ?_)
             | (refine Ints.ix (c := 0) (by assumption) (by omega) ?_)
             | (refine Mat.ix (c := 0) (by assumption) (by omega) ?_)
             | (refine Ints.ix (c := 0) (Mat.row (by assumption) _ (by omega)) (by omega) ?_)
             | (refine Ints.ixI (by assumption) (by omega) ?_)
             | (refine Mat.ixI (by assumption) (by omega) ?_)
             | (refine Ints.ixI (Mat.row (by assumption) _ (by omega)) (by omega) ?_)
             | (refine Ints.ld (by assumption) (by omega) ?_)
             | (refine Mat.ld (by assumption) (by omega) ?_)
             | (refine Ints.ld (Mat.row (by assumption) _ (by omega)) (by omega) ?_)
             | (refine At.ld (by assumption) rfl ?_)
             | (refine At.ldN (by assumption) rfl ?_)
             | (refine Prs.ln (by assumption) ?_)
             | (refine Trs.ln (by assumption) ?_)
             | (refine Prs.ix (by assumption) (by omega) ?_)
             | (refine Trs.ix (by assumption) (by omega) ?_)
             | (refine Prs.ldN (by assumption) (by omega) ?_)
             | (refine Trs.ldN (by assumption) (by omega) ?_)
             | (refine At.ldN (Blk.at (by assumption)) rfl ?_)
             | (refine At.ld (Blk.at (by assumption)) rfl ?_)
             | (refine IxA.mk (by omega) ?_)
             | (refine Sl.ln (Own.sl (by assumption)) ?_)
             | (refine Ints.ix (Own.sl (by assumption)) (by omega) ?_)
             | (refine Ints.ixI (Own.sl (by assumption)) (by omega) ?_)
             | (refine Ints.ld (Own.sl (by assumption)) (by omega) ?_))
    exact ⟨n1, hW, .inr ⟨pre2, hp1, hp2⟩⟩
end Go.Proofs.Ytkgogljfngplnaa
set_option linter.unusedVariables false
set_option linter.unusedSimpArgs false
namespace Go.Eng
open Go.RowKit

section
variable {P : Program} {w : World} {K : Value → Prop}
theorem VS.cutArr {t e : TypeId} {N s h b : Nat} (ht : P.underlying t = some (.array N e)) (hs : P.cellsOf e = s) (hs0 : s ≠ 0) (hh : h ≤ N) (hk : K (.slice (some ⟨b, 0, none⟩) h N)) :
    VS P (Instr.sliceAt t (.pointer (some ⟨b, 0, none⟩)) none (some (.int .i64 (h : Int))) none) w K :=
  VS.mk (fun w1 _ => by
    have hz := sizeOf_run (P := P) (t := e) hs hs0 w1
    have hb : (Instr.sliceBounds false N N none (some (.int .i64 (h : Int))) none).run P w1 = .ok (0, h, N) w1 := by
      simp [Instr.sliceBounds, run_sliceBound, (by omega : (h : Int) ≤ N)]
    simp only [Instr.sliceAt, Sem.run_bind, run_underlying ht, Result.andThen_ok, Instr.sureAddr, Sem.run_pure, hb, hz, Nat.zero_mul, Nat.sub_zero]
    have e0 : (⟨b, 0, none⟩ : Addr).add 0 = ⟨b, 0, none⟩ := rfl
    rw [e0, ite_self]) hk
theorem Blk.sl {w : World} {b n N : Nat} {T : TypeId} {xs : List Value} (h : Blk w b T xs) (hl : xs.length = N) (hn : n ≤ N) (hN : N ≤ 1000) : Sl 1 w (.slice (some ⟨b, 0, none⟩) n N) n (xs.take n) := by
  refine ⟨some ⟨b, 0, none⟩, N, rfl, hn, by unfold maxLen; omega, by rw [List.length_take]; omega, .inr ⟨_, rfl, fun i x hx => ?_⟩⟩
  rw [List.getElem?_take] at hx
  split at hx
  · exact h.at i x hx
  · cases hx
end
end Go.Eng
set_option linter.unusedVariables false
set_option linter.unusedSimpArgs false
namespace Go.Proofs.Ytkgogljfngplnaa
open Go.Eng
set_option maxRecDepth 100000
set_option maxHeartbeats 4000000

/-- The own bundle's worth. -/
def ownB (rr : List (List Int)) (a : List Int) (i : Nat) : Int := wth rr a i i
def ownV (rr : List (List Int)) (a : List Int) : List Int := mk rr.length (ownB rr a)
/-- `y` is better than `x` at the first n places. -/
def abvV (n : Nat) (x y : Nat → Int) : Prop := (∀ i, i < n → x i ≤ y i) ∧ ∃ i, i < n ∧ x i < y i
def abv (rr : List (List Int)) (a b : List Int) : Prop := abvV rr.length (ownB rr a) (ownB rr b)
theorem ownV_len (rr : List (List Int)) (a : List Int) : (ownV rr a).length = rr.length := mk_len _ _
theorem ownV_get {rr : List (List Int)} {a : List Int} {i : Nat} (h : i < rr.length) : (ownV rr a).getD i 0 = ownB rr a i := mk_get 0 h

theorem tfb_old {p : Nat → Prop} {c : Nat} (h : ∃ i, i < c ∧ p i) : true = tf (∃ i, i < c + 1 ∧ p i) := by
  obtain ⟨i, h1, h2⟩ := h
  rw [tf_t ⟨i, by omega, h2⟩]
theorem tfb_new {p : Nat → Prop} {c : Nat} (h : p c) : true = tf (∃ i, i < c + 1 ∧ p i) := by rw [tf_t ⟨c, by omega, h⟩]
theorem tfb_no {p : Nat → Prop} {c : Nat} (h : ¬ ∃ i, i < c ∧ p i) (h1 : ¬ p c) : false = tf (∃ i, i < c + 1 ∧ p i) := by
  rw [tf_f]
  rintro ⟨i, hi, hp⟩
  by_cases e : i = c
  · subst e; exact h1 hp
  · exact h ⟨i, by omega, hp⟩

end Go.Proofs.Ytkgogljfngplnaa
set_option linter.unusedVariables false
set_option linter.unusedSimpArgs false
namespace Go.Proofs.Ytkgogljfngplnaa
open Go.Eng
set_option maxRecDepth 100000
set_option maxHeartbeats 4000000

def ownTo (rr : List (List Int)) (a : List Int) (c : Nat) : List Int := mk rr.length fun i => worth a (rr.getD i []) i c
theorem ownTo_len (rr : List (List Int)) (a : List Int) (c : Nat) : (ownTo rr a c).length = rr.length := mk_len _ _
theorem ownTo_get {rr : List (List Int)} {a : List Int} {c i : Nat} (h : i < rr.length) : (ownTo rr a c).getD i 0 = worth a (rr.getD i []) i c := mk_get 0 h
theorem ownTo_set {rr : List (List Int)} {a : List Int} {c i : Nat} (h : i < rr.length) (e : a.getD c 0 = i) : (ownTo rr a c).set i ((ownTo rr a c).getD i 0 + (rr.getD i []).getD c 0) = ownTo rr a (c + 1) := by
  refine ext_getD 0 (by rw [List.length_set, ownTo_len, ownTo_len]) fun k hk => ?_
  rw [List.length_set, ownTo_len] at hk
  rw [ownTo_get hk, ownTo_get h]
  by_cases ek : k = i
  · subst ek
    simp [List.getD, ownTo_len, h, worth] at e ⊢
    simp [e]
  · have : ((ownTo rr a c).set i (worth a (rr.getD i []) i c + (rr.getD i []).getD c 0)).getD k 0 = (ownTo rr a c).getD k 0 := by
      simp [List.getD, List.getElem?_set, Ne.symm ek]
    rw [this, ownTo_get hk]
    show _ = worth a (rr.getD k []) k c + if a.getD c 0 = k then _ else 0
    rw [if_neg (by omega), Int.add_zero]
theorem ownTo_skip {rr : List (List Int)} {a : List Int} {c : Nat} (h : a.getD c 0 < 0) : ownTo rr a (c + 1) = ownTo rr a c := by
  refine ext_getD 0 (by rw [ownTo_len, ownTo_len]) fun k hk => ?_
  rw [ownTo_len] at hk
  rw [ownTo_get hk, ownTo_get hk]
  show worth a (rr.getD k []) k c + (if a.getD c 0 = k then _ else 0) = _
  rw [if_neg (by omega), Int.add_zero]
theorem ownTo_zero (rr : List (List Int)) (a : List Int) : List.replicate rr.length 0 = ownTo rr a 0 := by
  refine ext_getD 0 (by rw [ownTo_len, List.length_replicate]) fun k hk => ?_
  rw [List.length_replicate] at hk
  rw [ownTo_get hk]
  simp [List.getD, hk, worth]
theorem ownTo_full (rr : List (List Int)) (a : List Int) : ownTo rr a a.length = ownV rr a := rfl

end Go.Proofs.Ytkgogljfngplnaa
set_option linter.unusedVariables false
set_option linter.unusedSimpArgs false
namespace Go.Proofs.Ytkgogljfngplnaa
open Go.Eng
set_option maxRecDepth 100000
set_option maxHeartbeats 4000000

theorem eSix : Elem Try.prog 116 (.agg #[.int .i64 0, .int .i64 0, .int .i64 0, .int .i64 0, .int .i64 0, .int .i64 0]) 6 48 := by unfold Elem; kernel_rfl

/-- the least of the first c + 1 numbers -/
def mnTo (f : Nat → Int) : Nat → Int
  | 0 => f 0
  | c + 1 => min (mnTo f c) (f (c + 1))
theorem mnTo_bd {f : Nat → Int} {b : Int} : ∀ {c : Nat}, (∀ i, i ≤ c → 0 ≤ f i ∧ f i ≤ b) → 0 ≤ mnTo f c ∧ mnTo f c ≤ b
  | 0, h => h 0 (Nat.le_refl _)
  | c + 1, h => by
    have h1 := mnTo_bd (c := c) (fun i hi => h i (by omega))
    have h2 := h (c + 1) (Nat.le_refl _)
    simp only [mnTo]
    omega
theorem mnTo_congr {f g : Nat → Int} : ∀ {c : Nat}, (∀ i, i ≤ c → f i = g i) → mnTo f c = mnTo g c
  | 0, h => h 0 (Nat.le_refl _)
  | c + 1, h => by simp only [mnTo]; rw [mnTo_congr (fun i hi => h i (by omega)), h (c + 1) (Nat.le_refl _)]
theorem smin_pc {w : World} {sv : Value} {l : List Int} (Hl : Ints w sv l) (h0 : 0 < l.length) : PC Try.prog 85 [sv] w (.int .i64 (mnTo (fun i => l.getD i 0) (l.length - 1))) := by
  refine PC.mk tyOk Try.func85 rfl (by kernel_rfl) fun w1 E1 => ?_
  replace Hl := Hl.ext E1
  have EE := Ext.refl w1
  have hle := Hl.le
  repeat' (conv => whnf
           first
           | (refine Dr.quiet tyOk (by kernel_rfl) ?_)
           | (refine Ints.ix (c := 0) Hl (by omega) ?_)
           | (refine Rng.mk (by omega) ?_)
           | (refine Split.pos (by omega) ?_)
           | (refine Split.neg (by omega) ?_)
           | (refine Split.mk (fun h => ?_) (fun h => ?_))
           | (refine Need.mk (by omega) ?_)
           | (refine Ints.ln (by assumption) ?_)
           | (refine Mat.ln (by assumption) ?_)
           | (refine Ints.ln (Mat.row (by assumption) _ (by omega)) ?_)
           | (refine Ints.ix (by assumption) (by omega) ?_)
           | (refine Mat.ix (by assumption) (by omega) ?_)
           | (refine Ints.ix (Mat.row (by assumption) _ (by omega)) (by omega) ?_)
           | (refine Ints.ix (c := 0) (by assumption) (by omega) ?_)
           | (refine Mat.ix (c := 0) (by assumption) (by omega) ?_)
           | (refine Ints.ix (c := 0) (Mat.row (by assumption) _ (by omega)) (by omega) ?_)
           | (refine Ints.ixI (by assumption) (by omega) ?_)
           | (refine Mat.ixI (by assumption) (by omega) ?_)
           | (refine Ints.ixI (Mat.row (by assumption) _ (by omega)) (by omega) ?_)
           | (refine Ints.ld (by assumption) (by omega) ?_)
           | (refine Mat.ld (by assumption) (by omega) ?_)
           | (refine Ints.ld (Mat.row (by assumption) _ (by omega)) (by omega) ?_)
           | (refine At.ld (by assumption) rfl ?_)
           | (refine At.ldN (by assumption) rfl ?_)
           | (refine Prs.ln (by assumption) ?_)
           | (refine Trs.ln (by assumption) ?_)
           | (refine Prs.ix (by assumption) (by omega) ?_)
           | (refine Trs.ix (by assumption) (by omega) ?_)
           | (refine Prs.ldN (by assumption) (by omega) ?_)
           | (refine Trs.ldN (by assumption) (by omega) ?_)
           | (refine At.ldN (Blk.at (by assumption)) rfl ?_)
           | (refine At.ld (Blk.at (by assumption)) rfl ?_)
           | (refine IxA.mk (by omega) ?_)
           | (refine Sl.ln (Own.sl (by assumption)) ?_)
           | (refine Ints.ix (Own.sl (by assumption)) (by omega) ?_)
           | (refine Ints.ixI (Own.sl (by assumption)) (by omega) ?_)
           | (refine Ints.ld (Own.sl (by assumption)) (by omega) ?_))
  refine Lp.mk tyOk [false, false, false, true, true, false, false, false, false, false, false, false, true, true, true, true, true, true, true, true, true, true, true, true] (fun m fr wr => getK fr 4 fun i => getK fr 3 fun mm => ∃ c : Nat, c ≤ (l.length - 1) ∧ m = (l.length - 1) - c ∧ i = .int .i64 ((c + 1 : Nat) : Int) ∧ mm = .int .i64 (mnTo (fun i => l.getD i 0) c) ∧ wr = w1) ((l.length - 1)) ?_ ?_
  · exact ⟨0, Nat.zero_le _, rfl, rfl, rfl, rfl⟩
  · intro m w2 u3 u4 u12 u13 u14 u15 u16 u17 u18 u19 u20 u21 u22 u23 hR
    obtain ⟨c, hc, rfl, rfl, rfl, rfl⟩ := hR
    have hs : mnTo (fun i => l.getD i 0) (c + 1) = min (mnTo (fun i => l.getD i 0) c) (l.getD (c + 1) 0) := rfl
    by_cases hcl : c + 1 < l.length
    · by_cases hlt : l.getD (c + 1) 0 < mnTo (fun i => l.getD i 0) c
      · rw [Int.min_eq_right (by omega)] at hs
        repeat' (conv => whnf
                 first
                 | (refine Dr.quiet tyOk (by kernel_rfl) ?_)
                 | (refine Ints.ix (c := c + 1) Hl (by omega) ?_)
                 | (refine Rng.mk (by omega) ?_)
                 | (refine Split.pos (by omega) ?_)
                 | (refine Split.neg (by omega) ?_)
                 | (refine Split.mk (fun h => ?_) (fun h => ?_))
                 | (refine Need.mk (by omega) ?_)
                 | (refine Ints.ln (by assumption) ?_)
                 | (refine Mat.ln (by assumption) ?_)
                 | (refine Ints.ln (Mat.row (by assumption) _ (by omega)) ?_)
                 | (refine Ints.ix (by assumption) (by omega) ?_)
                 | (refine Mat.ix (by assumption) (by omega) ?_)
                 | (refine Ints.ix (Mat.row (by assumption) _ (by omega)) (by omega) ?_)
                 | (refine Ints.ix (c := 0) (by assumption) (by omega) ?_)
                 | (refine Mat.ix (c := 0) (by assumption) (by omega) ?_)
                 | (refine Ints.ix (c := 0) (Mat.row (by assumption) _ (by omega)) (by omega) ?_)
                 | (refine Ints.ixI (by assumption) (by omega) ?_)
                 | (refine Mat.ixI (by assumption) (by omega) ?_)
                 | (refine Ints.ixI (Mat.row (by assumption) _ (by omega)) (by omega) ?_)
                 | (refine Ints.ld (by assumption) (by omega) ?_)
                 | (refine Mat.ld (by assumption) (by omega) ?_)
                 | (refine Ints.ld (Mat.row (by assumption) _ (by omega)) (by omega) ?_)
                 | (refine At.ld (by assumption) rfl ?_)
                 | (refine At.ldN (by assumption) rfl ?_)
                 | (refine Prs.ln (by assumption) ?_)
                 | (refine Trs.ln (by assumption) ?_)
                 | (refine Prs.ix (by assumption) (by omega) ?_)
                 | (refine Trs.ix (by assumption) (by omega) ?_)
                 | (refine Prs.ldN (by assumption) (by omega) ?_)
                 | (refine Trs.ldN (by assumption) (by omega) ?_)
                 | (refine At.ldN (Blk.at (by assumption)) rfl ?_)
                 | (refine At.ld (Blk.at (by assumption)) rfl ?_)
                 | (refine IxA.mk (by omega) ?_)
                 | (refine Sl.ln (Own.sl (by assumption)) ?_)
                 | (refine Ints.ix (Own.sl (by assumption)) (by omega) ?_)
                 | (refine Ints.ixI (Own.sl (by assumption)) (by omega) ?_)
                 | (refine Ints.ld (Own.sl (by assumption)) (by omega) ?_))
        refine ⟨_, (by omega : (l.length - 1) - (c + 1) < (l.length - 1) - c), rfl, c + 1, by omega, rfl, (congrArg (Value.int .i64) (by omega)), (by rw [hs]), rfl⟩
      · rw [Int.min_eq_left (by omega)] at hs
        repeat' (conv => whnf
                 first
                 | (refine Dr.quiet tyOk (by kernel_rfl) ?_)
                 | (refine Ints.ix (c := c + 1) Hl (by omega) ?_)
                 | (refine Rng.mk (by omega) ?_)
                 | (refine Split.pos (by omega) ?_)
                 | (refine Split.neg (by omega) ?_)
                 | (refine Split.mk (fun h => ?_) (fun h => ?_))
                 | (refine Need.mk (by omega) ?_)
                 | (refine Ints.ln (by assumption) ?_)
                 | (refine Mat.ln (by assumption) ?_)
                 | (refine Ints.ln (Mat.row (by assumption) _ (by omega)) ?_)
                 | (refine Ints.ix (by assumption) (by omega) ?_)
                 | (refine Mat.ix (by assumption) (by omega) ?_)
                 | (refine Ints.ix (Mat.row (by assumption) _ (by omega)) (by omega) ?_)
                 | (refine Ints.ix (c := 0) (by assumption) (by omega) ?_)
                 | (refine Mat.ix (c := 0) (by assumption) (by omega) ?_)
                 | (refine Ints.ix (c := 0) (Mat.row (by assumption) _ (by omega)) (by omega) ?_)
                 | (refine Ints.ixI (by assumption) (by omega) ?_)
                 | (refine Mat.ixI (by assumption) (by omega) ?_)
                 | (refine Ints.ixI (Mat.row (by assumption) _ (by omega)) (by omega) ?_)
                 | (refine Ints.ld (by assumption) (by omega) ?_)
                 | (refine Mat.ld (by assumption) (by omega) ?_)
                 | (refine Ints.ld (Mat.row (by assumption) _ (by omega)) (by omega) ?_)
                 | (refine At.ld (by assumption) rfl ?_)
                 | (refine At.ldN (by assumption) rfl ?_)
                 | (refine Prs.ln (by assumption) ?_)
                 | (refine Trs.ln (by assumption) ?_)
                 | (refine Prs.ix (by assumption) (by omega) ?_)
                 | (refine Trs.ix (by assumption) (by omega) ?_)
                 | (refine Prs.ldN (by assumption) (by omega) ?_)
                 | (refine Trs.ldN (by assumption) (by omega) ?_)
                 | (refine At.ldN (Blk.at (by assumption)) rfl ?_)
                 | (refine At.ld (Blk.at (by assumption)) rfl ?_)
                 | (refine IxA.mk (by omega) ?_)
                 | (refine Sl.ln (Own.sl (by assumption)) ?_)
                 | (refine Ints.ix (Own.sl (by assumption)) (by omega) ?_)
                 | (refine Ints.ixI (Own.sl (by assumption)) (by omega) ?_)
                 | (refine Ints.ld (Own.sl (by assumption)) (by omega) ?_))
        refine ⟨_, (by omega : (l.length - 1) - (c + 1) < (l.length - 1) - c), rfl, c + 1, by omega, rfl, (congrArg (Value.int .i64) (by omega)), (by rw [hs]), rfl⟩
    · have e : l.length - 1 = c := by omega
      rw [e]
      repeat' (conv => whnf
               first
               | (refine Dr.quiet tyOk (by kernel_rfl) ?_)
               | (refine Rng.mk (by omega) ?_)
               | (refine Split.pos (by omega) ?_)
               | (refine Split.neg (by omega) ?_)
               | (refine Split.mk (fun h => ?_) (fun h => ?_))
               | (refine Need.mk (by omega) ?_)
               | (refine Ints.ln (by assumption) ?_)
               | (refine Mat.ln (by assumption) ?_)
               | (refine Ints.ln (Mat.row (by assumption) _ (by omega)) ?_)
               | (refine Ints.ix (by assumption) (by omega) ?_)
               | (refine Mat.ix (by assumption) (by omega) ?_)
               | (refine Ints.ix (Mat.row (by assumption) _ (by omega)) (by omega) ?_)
               | (refine Ints.ix (c := 0) (by assumption) (by omega) ?_)
               | (refine Mat.ix (c := 0) (by assumption) (by omega) ?_)
               | (refine Ints.ix (c := 0) (Mat.row (by assumption) _ (by omega)) (by omega) ?_)
               | (refine Ints.ixI (by assumption) (by omega) ?_)
               | (refine Mat.ixI (by assumption) (by omega) ?_)
               | (refine Ints.ixI (Mat.row (by assumption) _ (by omega)) (by omega) ?_)
               | (refine Ints.ld (by assumption) (by omega) ?_)
               | (refine Mat.ld (by assumption) (by omega) ?_)
               | (refine Ints.ld (Mat.row (by assumption) _ (by omega)) (by omega) ?_)
               | (refine At.ld (by assumption) rfl ?_)
               | (refine At.ldN (by assumption) rfl ?_)
               | (refine Prs.ln (by assumption) ?_)
               | (refine Trs.ln (by assumption) ?_)
               | (refine Prs.ix (by assumption) (by omega) ?_)
               | (refine Trs.ix (by assumption) (by omega) ?_)
               | (refine Prs.ldN (by assumption) (by omega) ?_)
               | (refine Trs.ldN (by assumption) (by omega) ?_)
               | (refine At.ldN (Blk.at (by assumption)) rfl ?_)
               | (refine At.ld (Blk.at (by assumption)) rfl ?_)
               | (refine IxA.mk (by omega) ?_)
               | (refine Sl.ln (Own.sl (by assumption)) ?_)
               | (refine Ints.ix (Own.sl (by assumption)) (by omega) ?_)
               | (refine Ints.ixI (Own.sl (by assumption)) (by omega) ?_)
               | (refine Ints.ld (Own.sl (by assumption)) (by omega) ?_))
      exact ⟨rfl, EE⟩

/-- the least value of a partition into n bundles -/
def leastP (r : List Int) (l : List Int) (n : Nat) : Int := mnTo (fun b : Nat => worth l r b l.length) (n - 1)
theorem leastP_bd {r l : List Int} {n : Nat} (hr : ∀ j, 0 ≤ r.getD j 0 ∧ r.getD j 0 ≤ 1000) (hl : l.length ≤ 10) : 0 ≤ leastP r l n ∧ leastP r l n ≤ 10000 := by
  refine mnTo_bd fun i _ => ?_
  have := worth_bd (a := l) (k := (i : Int)) hr l.length
  omega
def rng (l : List Int) (n : Nat) : Prop := ∀ k, k < l.length → 0 ≤ l.getD k 0 ∧ l.getD k 0 < n
theorem six_row {r : List Int} {i : Nat} (hi : i < 6) : (List.replicate 6 r).getD i [] = r := by simp only [List.getD]; rw [List.getElem?_replicate, if_pos hi]; rfl

theorem least_pc {w : World} {rv pv : Value} {r l : List Int} {n : Nat} (Hr : Ints w rv r) (Hl : Ints w pv l) (hr : ∀ j, 0 ≤ r.getD j 0 ∧ r.getD j 0 ≤ 1000) (h10 : l.length ≤ 10) (hle : l.length ≤ r.length) (hn : 1 ≤ n ∧ n ≤ 6) (hrg : rng l n) :
    PC Try.prog 75 [.agg #[rv, .int .i64 (n : Int)], pv] w (.int .i64 (leastP r l n)) := by
  refine PC.mk tyOk Try.func75 rfl (by kernel_rfl) fun w1 E1 => ?_
  replace Hr := Hr.ext E1
  replace Hl := Hl.ext E1
  have EE := Ext.refl w1
  refine Bx.agg fun b2 w2 E2 hb2 Hb _ => ?_
  replace Hr := Hr.ext E2
  replace Hl := Hl.ext E2
  replace EE := EE.ext E2
  have hrle := Hr.le
  repeat' (conv => whnf
           first
           | (refine Dr.quiet tyOk (by kernel_rfl) ?_)
           | (refine Rng.mk (by omega) ?_)
           | (refine Split.pos (by omega) ?_)
           | (refine Split.neg (by omega) ?_)
           | (refine Split.mk (fun h => ?_) (fun h => ?_))
           | (refine Need.mk (by omega) ?_)
           | (refine Ints.ln (by assumption) ?_)
           | (refine Mat.ln (by assumption) ?_)
           | (refine Ints.ln (Mat.row (by assumption) _ (by omega)) ?_)
           | (refine Ints.ix (by assumption) (by omega) ?_)
           | (refine Mat.ix (by assumption) (by omega) ?_)
           | (refine Ints.ix (Mat.row (by assumption) _ (by omega)) (by omega) ?_)
           | (refine Ints.ix (c := 0) (by assumption) (by omega) ?_)
           | (refine Mat.ix (c := 0) (by assumption) (by omega) ?_)
           | (refine Ints.ix (c := 0) (Mat.row (by assumption) _ (by omega)) (by omega) ?_)
           | (refine Ints.ixI (by assumption) (by omega) ?_)
           | (refine Mat.ixI (by assumption) (by omega) ?_)
           | (refine Ints.ixI (Mat.row (by assumption) _ (by omega)) (by omega) ?_)
           | (refine Ints.ld (by assumption) (by omega) ?_)
           | (refine Mat.ld (by assumption) (by omega) ?_)
           | (refine Ints.ld (Mat.row (by assumption) _ (by omega)) (by omega) ?_)
           | (refine At.ld (by assumption) rfl ?_)
           | (refine At.ldN (by assumption) rfl ?_)
           | (refine Prs.ln (by assumption) ?_)
           | (refine Trs.ln (by assumption) ?_)
           | (refine Prs.ix (by assumption) (by omega) ?_)
           | (refine Trs.ix (by assumption) (by omega) ?_)
           | (refine Prs.ldN (by assumption) (by omega) ?_)
           | (refine Trs.ldN (by assumption) (by omega) ?_)
           | (refine At.ldN (Blk.at (by assumption)) rfl ?_)
           | (refine At.ld (Blk.at (by assumption)) rfl ?_)
           | (refine IxA.mk (by omega) ?_)
           | (refine Sl.ln (Own.sl (by assumption)) ?_)
           | (refine Ints.ix (Own.sl (by assumption)) (by omega) ?_)
           | (refine Ints.ixI (Own.sl (by assumption)) (by omega) ?_)
           | (refine Ints.ld (Own.sl (by assumption)) (by omega) ?_))
  have Hr__1 := Hr
  have Hl__1 := Hl
  have EE__1 := EE
  have Hb__1 := Hb
  conv => whnf
  refine VE.alloc eSix fun sb w3 E3 hb_sb Hk => ?_
  replace Hr := Hr.ext E3
  replace Hl := Hl.ext E3
  replace EE := EE.ext E3
  replace Hb := Hb.ext E3
  have EL1 := E3
  have Hk0 : Blk w3 sb 116 ((ownTo (List.replicate 6 r) l 0).map i64v) := Hk
  repeat' (conv => whnf
           first
           | (refine Dr.quiet tyOk (by kernel_rfl) ?_)
           | (refine Rng.mk (by omega) ?_)
           | (refine Split.pos (by omega) ?_)
           | (refine Split.neg (by omega) ?_)
           | (refine Split.mk (fun h => ?_) (fun h => ?_))
           | (refine Need.mk (by omega) ?_)
           | (refine Ints.ln (by assumption) ?_)
           | (refine Mat.ln (by assumption) ?_)
           | (refine Ints.ln (Mat.row (by assumption) _ (by omega)) ?_)
           | (refine Ints.ix (by assumption) (by omega) ?_)
           | (refine Mat.ix (by assumption) (by omega) ?_)
           | (refine Ints.ix (Mat.row (by assumption) _ (by omega)) (by omega) ?_)
           | (refine Ints.ix (c := 0) (by assumption) (by omega) ?_)
           | (refine Mat.ix (c := 0) (by assumption) (by omega) ?_)
           | (refine Ints.ix (c := 0) (Mat.row (by assumption) _ (by omega)) (by omega) ?_)
           | (refine Ints.ixI (by assumption) (by omega) ?_)
           | (refine Mat.ixI (by assumption) (by omega) ?_)
           | (refine Ints.ixI (Mat.row (by assumption) _ (by omega)) (by omega) ?_)
           | (refine Ints.ld (by assumption) (by omega) ?_)
           | (refine Mat.ld (by assumption) (by omega) ?_)
           | (refine Ints.ld (Mat.row (by assumption) _ (by omega)) (by omega) ?_)
           | (refine At.ld (by assumption) rfl ?_)
           | (refine At.ldN (by assumption) rfl ?_)
           | (refine Prs.ln (by assumption) ?_)
           | (refine Trs.ln (by assumption) ?_)
           | (refine Prs.ix (by assumption) (by omega) ?_)
           | (refine Trs.ix (by assumption) (by omega) ?_)
           | (refine Prs.ldN (by assumption) (by omega) ?_)
           | (refine Trs.ldN (by assumption) (by omega) ?_)
           | (refine At.ldN (Blk.at (by assumption)) rfl ?_)
           | (refine At.ld (Blk.at (by assumption)) rfl ?_)
           | (refine IxA.mk (by omega) ?_)
           | (refine Sl.ln (Own.sl (by assumption)) ?_)
           | (refine Ints.ix (Own.sl (by assumption)) (by omega) ?_)
           | (refine Ints.ixI (Own.sl (by assumption)) (by omega) ?_)
           | (refine Ints.ld (Own.sl (by assumption)) (by omega) ?_))
  refine Lp.mk tyOk [false, false, false, false, false, false, true, true, false, false, true, true, true, true, true, true, true, true, true, true, true, true, true, true, true, true] (fun m fr wr => getK fr 10 fun j => ∃ c : Nat, c ≤ l.length ∧ m = l.length - c ∧ j = .int .i64 (c : Int) ∧ (Blk wr sb 116 ((ownTo (List.replicate 6 r) l c).map i64v)) ∧ Ext w2 wr) (l.length) ?_ ?_
  · exact ⟨0, Nat.zero_le _, rfl, rfl, Hk0, EL1⟩
  · intro m w4 u6 u7 u10 u11 u12 u13 u14 u15 u16 u17 u18 u19 u20 u21 u22 u23 u24 u25 hR
    obtain ⟨c, hc, rfl, rfl, HS, EL1⟩ := hR
    replace Hr := Hr__1.ext EL1
    replace Hl := Hl__1.ext EL1
    replace EE := EE__1.ext EL1
    replace Hb := Hb__1.ext EL1
    have hol : (ownTo (List.replicate 6 r) l c).length = 6 := by rw [ownTo_len]; simp
    by_cases hcl : c < l.length
    · have hck := hrg c hcl
      have hil : (l.getD c 0).toNat < (List.replicate 6 r).length := by rw [List.length_replicate]; omega
      have hi : l.getD c 0 = ((l.getD c 0).toNat : Int) := by omega
      have hob := ownTo_get (rr := List.replicate 6 r) (a := l) (c := c) hil
      have hrow : (List.replicate 6 r).getD (l.getD c 0).toNat [] = r := six_row (by omega)
      have hbd := worth_bd (a := l) (r := r) (k := ((l.getD c 0).toNat : Int)) hr c
      rw [hrow] at hob
      have hrc := hr c
      have hx : ((ownTo (List.replicate 6 r) l c).map i64v)[(l.getD c 0).toNat * 1]? = some (.int .i64 (worth l r ((l.getD c 0).toNat : Int) c)) := by
        have hgt : (l.getD c 0).toNat < (ownTo (List.replicate 6 r) l c).length := by rw [hol]; omega
        have h2 := hob
        rw [List.getD_eq_getElem?_getD, List.getElem?_eq_getElem hgt, Option.getD_some] at h2
        rw [Nat.mul_one, List.getElem?_map, List.getElem?_eq_getElem hgt, h2]; rfl
      repeat' (conv => whnf
               first
               | (refine Dr.plan 15 [10] (.q 0 (.q 1 (.q 2 (.q 3 (.q 4 (.q 5 (.q 6 (.q 7 (.q 8 (.q 9 (.e 10 .nil .nil))))))))))) tyOk rfl (by kernel_rfl) ?_)
               | (refine Dr.quiet tyOk (by kernel_rfl) ?_)
               | (refine Blk.ldA HS hx ?_)
               | (refine Rng.mk (by omega) ?_)
               | (refine Split.pos (by omega) ?_)
               | (refine Split.neg (by omega) ?_)
               | (refine Split.mk (fun h => ?_) (fun h => ?_))
               | (refine Need.mk (by omega) ?_)
               | (refine Ints.ln (by assumption) ?_)
               | (refine Mat.ln (by assumption) ?_)
               | (refine Ints.ln (Mat.row (by assumption) _ (by omega)) ?_)
               | (refine Ints.ix (by assumption) (by omega) ?_)
               | (refine Mat.ix (by assumption) (by omega) ?_)
               | (refine Ints.ix (Mat.row (by assumption) _ (by omega)) (by omega) ?_)
               | (refine Ints.ix (c := 0) (by assumption) (by omega) ?_)
               | (refine Mat.ix (c := 0) (by assumption) (by omega) ?_)
               | (refine Ints.ix (c := 0) (Mat.row (by assumption) _ (by omega)) (by omega) ?_)
               | (refine Ints.ixI (by assumption) (by omega) ?_)
               | (refine Mat.ixI (by assumption) (by omega) ?_)
               | (refine Ints.ixI (Mat.row (by assumption) _ (by omega)) (by omega) ?_)
               | (refine Ints.ld (by assumption) (by omega) ?_)
               | (refine Mat.ld (by assumption) (by omega) ?_)
               | (refine Ints.ld (Mat.row (by assumption) _ (by omega)) (by omega) ?_)
               | (refine At.ld (by assumption) rfl ?_)
               | (refine At.ldN (by assumption) rfl ?_)
               | (refine Prs.ln (by assumption) ?_)
               | (refine Trs.ln (by assumption) ?_)
               | (refine Prs.ix (by assumption) (by omega) ?_)
               | (refine Trs.ix (by assumption) (by omega) ?_)
               | (refine Prs.ldN (by assumption) (by omega) ?_)
               | (refine Trs.ldN (by assumption) (by omega) ?_)
               | (refine At.ldN (Blk.at (by assumption)) rfl ?_)
               | (refine At.ld (Blk.at (by assumption)) rfl ?_)
               | (refine IxA.mk (by omega) ?_)
               | (refine Sl.ln (Own.sl (by assumption)) ?_)
               | (refine Ints.ix (Own.sl (by assumption)) (by omega) ?_)
               | (refine Ints.ixI (Own.sl (by assumption)) (by omega) ?_)
               | (refine Ints.ld (Own.sl (by assumption)) (by omega) ?_))
      refine Blk.setA HS (by rw [List.length_map]; omega) rfl fun w5 G5 HS' => ?_
      have E5 : Ext w2 w5 := EL1.new G5 fun i hi hk => by omega
      replace HS := HS'
      replace Hr := Hr__1.ext E5
      replace Hl := Hl__1.ext E5
      replace EE := EE__1.ext E5
      replace Hb := Hb__1.ext E5
      replace EL1 := E5
      have hset := ownTo_set (rr := List.replicate 6 r) (a := l) (c := c) hil hi
      rw [hrow, hob] at hset
      rw [Nat.mul_one, show ((ownTo (List.replicate 6 r) l c).map i64v).set (l.getD c 0).toNat (.int .i64 (worth l r ((l.getD c 0).toNat : Int) c + r.getD c 0)) = ((ownTo (List.replicate 6 r) l c).set (l.getD c 0).toNat (worth l r ((l.getD c 0).toNat : Int) c + r.getD c 0)).map i64v by rw [List.map_set]; rfl, hset] at HS
      repeat' (conv => whnf
               first
               | (refine Dr.quiet tyOk (by kernel_rfl) ?_)
               | (refine Rng.mk (by omega) ?_)
               | (refine Split.pos (by omega) ?_)
               | (refine Split.neg (by omega) ?_)
               | (refine Split.mk (fun h => ?_) (fun h => ?_))
               | (refine Need.mk (by omega) ?_)
               | (refine Ints.ln (by assumption) ?_)
               | (refine Mat.ln (by assumption) ?_)
               | (refine Ints.ln (Mat.row (by assumption) _ (by omega)) ?_)
               | (refine Ints.ix (by assumption) (by omega) ?_)
               | (refine Mat.ix (by assumption) (by omega) ?_)
               | (refine Ints.ix (Mat.row (by assumption) _ (by omega)) (by omega) ?_)
               | (refine Ints.ix (c := 0) (by assumption) (by omega) ?_)
               | (refine Mat.ix (c := 0) (by assumption) (by omega) ?_)
               | (refine Ints.ix (c := 0) (Mat.row (by assumption) _ (by omega)) (by omega) ?_)
               | (refine Ints.ixI (by assumption) (by omega) ?_)
               | (refine Mat.ixI (by assumption) (by omega) ?_)
               | (refine Ints.ixI (Mat.row (by assumption) _ (by omega)) (by omega) ?_)
               | (refine Ints.ld (by assumption) (by omega) ?_)
               | (refine Mat.ld (by assumption) (by omega) ?_)
               | (refine Ints.ld (Mat.row (by assumption) _ (by omega)) (by omega) ?_)
               | (refine At.ld (by assumption) rfl ?_)
               | (refine At.ldN (by assumption) rfl ?_)
               | (refine Prs.ln (by assumption) ?_)
               | (refine Trs.ln (by assumption) ?_)
               | (refine Prs.ix (by assumption) (by omega) ?_)
               | (refine Trs.ix (by assumption) (by omega) ?_)
               | (refine Prs.ldN (by assumption) (by omega) ?_)
               | (refine Trs.ldN (by assumption) (by omega) ?_)
               | (refine At.ldN (Blk.at (by assumption)) rfl ?_)
               | (refine At.ld (Blk.at (by assumption)) rfl ?_)
               | (refine IxA.mk (by omega) ?_)
               | (refine Sl.ln (Own.sl (by assumption)) ?_)
               | (refine Ints.ix (Own.sl (by assumption)) (by omega) ?_)
               | (refine Ints.ixI (Own.sl (by assumption)) (by omega) ?_)
               | (refine Ints.ld (Own.sl (by assumption)) (by omega) ?_))
      refine ⟨_, (by omega : l.length - (c + 1) < l.length - c), rfl, c + 1, by omega, rfl, rfl, HS, EL1⟩
    · obtain rfl : c = l.length := by omega
      have HV := Blk.sl HS (N := 6) (n := n) (by rw [List.length_map]; exact hol) (by omega) (by omega)
      rw [← List.map_take] at HV
      have htl : ((ownTo (List.replicate 6 r) l l.length).take n).length = n := by rw [List.length_take, hol]; omega
      have HI : Ints w4 (.slice (some ⟨sb, 0, none⟩) n 6) ((ownTo (List.replicate 6 r) l l.length).take n) := by unfold Ints; rw [htl]; exact HV
      have cm := smin_pc HI (by omega)
      have e : mnTo (fun i => ((ownTo (List.replicate 6 r) l l.length).take n).getD i 0) (((ownTo (List.replicate 6 r) l l.length).take n).length - 1) = leastP r l n := by
        rw [htl]
        refine mnTo_congr fun i hi => ?_
        have h1 := ownTo_get (rr := List.replicate 6 r) (a := l) (c := l.length) (i := i) (by simp; omega)
        rw [six_row (by omega)] at h1
        rw [← h1]
        simp only [List.getD]
        rw [List.getElem?_take, if_pos (by omega)]
      rw [e] at cm
      repeat' (conv => whnf
               first
               | (refine Dr.quiet tyOk (by kernel_rfl) ?_)
               | (refine VS.cutArr (s := 1) Try.underlying116 (by kernel_rfl) (by decide) (by omega) ?_)
               | (refine VC.pure cm ?_)
               | (refine Rng.mk (by omega) ?_)
               | (refine Split.pos (by omega) ?_)
               | (refine Split.neg (by omega) ?_)
               | (refine Split.mk (fun h => ?_) (fun h => ?_))
               | (refine Need.mk (by omega) ?_)
               | (refine Ints.ln (by assumption) ?_)
               | (refine Mat.ln (by assumption) ?_)
               | (refine Ints.ln (Mat.row (by assumption) _ (by omega)) ?_)
               | (refine Ints.ix (by assumption) (by omega) ?_)
               | (refine Mat.ix (by assumption) (by omega) ?_)
               | (refine Ints.ix (Mat.row (by assumption) _ (by omega)) (by omega) ?_)
               | (refine Ints.ix (c := 0) (by assumption) (by omega) ?_)
               | (refine Mat.ix (c := 0) (by assumption) (by omega) ?_)
               | (refine Ints.ix (c := 0) (Mat.row (by assumption) _ (by omega)) (by omega) ?_)
               | (refine Ints.ixI (by assumption) (by omega) ?_)
               | (refine Mat.ixI (by assumption) (by omega) ?_)
               | (refine Ints.ixI (Mat.row (by assumption) _ (by omega)) (by omega) ?_)
               | (refine Ints.ld (by assumption) (by omega) ?_)
               | (refine Mat.ld (by assumption) (by omega) ?_)
               | (refine Ints.ld (Mat.row (by assumption) _ (by omega)) (by omega) ?_)
               | (refine At.ld (by assumption) rfl ?_)
               | (refine At.ldN (by assumption) rfl ?_)
               | (refine Prs.ln (by assumption) ?_)
               | (refine Trs.ln (by assumption) ?_)
               | (refine Prs.ix (by assumption) (by omega) ?_)
               | (refine Trs.ix (by assumption) (by omega) ?_)
               | (refine Prs.ldN (by assumption) (by omega) ?_)
               | (refine Trs.ldN (by assumption) (by omega) ?_)
               | (refine At.ldN (Blk.at (by assumption)) rfl ?_)
               | (refine At.ld (Blk.at (by assumption)) rfl ?_)
               | (refine IxA.mk (by omega) ?_)
               | (refine Sl.ln (Own.sl (by assumption)) ?_)
               | (refine Ints.ix (Own.sl (by assumption)) (by omega) ?_)
               | (refine Ints.ixI (Own.sl (by assumption)) (by omega) ?_)
               | (refine Ints.ld (Own.sl (by assumption)) (by omega) ?_))
      exact ⟨rfl, EE⟩

theorem rleast_pc {w : World} {gv pv : Value} {vs : List Value} {rr : List (List Int)} {l : List Int} {i n : Nat} (Hg : Mat w gv vs rr) (Hl : Ints w pv l) (hck : chk rr = 0) (hi : i < rr.length) (hm : l.length = mOf rr) (hn : 1 ≤ n ∧ n ≤ 6) :
    PC Try.prog 32 [.agg #[gv], .int .i64 (i : Int), pv, .int .i64 (n : Int)] w (.int .i64 (leastP (rr.getD i []) l n)) := by
  refine PC.mk tyOk Try.func32 rfl (by kernel_rfl) fun w1 E1 => ?_
  replace Hg := Hg.ext E1
  replace Hl := Hl.ext E1
  have EE := Ext.refl w1
  refine Bx.agg fun b2 w2 E2 hb2 Hb _ => ?_
  replace Hg := Hg.ext E2
  replace Hl := Hl.ext E2
  replace EE := EE.ext E2
  have hgd := gd_of_chk hck
  have hm10 := hgd.m10
  have hmO : mOf rr = (rr.getD 0 []).length := rfl
  have hrow := hgd.row i hi
  have hev : ∀ j, (rr.getD i []).getD j 0 = val rr i j := fun _ => rfl
  repeat' (conv => whnf
           first
           | (refine Dr.quiet tyOk (by kernel_rfl) ?_)
           | (refine Rng.mk (by omega) ?_)
           | (refine Split.pos (by omega) ?_)
           | (refine Split.neg (by omega) ?_)
           | (refine Split.mk (fun h => ?_) (fun h => ?_))
           | (refine Need.mk (by omega) ?_)
           | (refine Ints.ln (by assumption) ?_)
           | (refine Mat.ln (by assumption) ?_)
           | (refine Ints.ln (Mat.row (by assumption) _ (by omega)) ?_)
           | (refine Ints.ix (by assumption) (by omega) ?_)
           | (refine Mat.ix (by assumption) (by omega) ?_)
           | (refine Ints.ix (Mat.row (by assumption) _ (by omega)) (by omega) ?_)
           | (refine Ints.ix (c := 0) (by assumption) (by omega) ?_)
           | (refine Mat.ix (c := 0) (by assumption) (by omega) ?_)
           | (refine Ints.ix (c := 0) (Mat.row (by assumption) _ (by omega)) (by omega) ?_)
           | (refine Ints.ixI (by assumption) (by omega) ?_)
           | (refine Mat.ixI (by assumption) (by omega) ?_)
           | (refine Ints.ixI (Mat.row (by assumption) _ (by omega)) (by omega) ?_)
           | (refine Ints.ld (by assumption) (by omega) ?_)
           | (refine Mat.ld (by assumption) (by omega) ?_)
           | (refine Ints.ld (Mat.row (by assumption) _ (by omega)) (by omega) ?_)
           | (refine At.ld (by assumption) rfl ?_)
           | (refine At.ldN (by assumption) rfl ?_)
           | (refine Prs.ln (by assumption) ?_)
           | (refine Trs.ln (by assumption) ?_)
           | (refine Prs.ix (by assumption) (by omega) ?_)
           | (refine Trs.ix (by assumption) (by omega) ?_)
           | (refine Prs.ldN (by assumption) (by omega) ?_)
           | (refine Trs.ldN (by assumption) (by omega) ?_)
           | (refine At.ldN (Blk.at (by assumption)) rfl ?_)
           | (refine At.ld (Blk.at (by assumption)) rfl ?_)
           | (refine IxA.mk (by omega) ?_)
           | (refine Sl.ln (Own.sl (by assumption)) ?_)
           | (refine Ints.ix (Own.sl (by assumption)) (by omega) ?_)
           | (refine Ints.ixI (Own.sl (by assumption)) (by omega) ?_)
           | (refine Ints.ld (Own.sl (by assumption)) (by omega) ?_))
  refine Lp.mk tyOk [false, false, false, false, false, false, false, false, false, true, true, true, true, true, true, true, true, true, true, true, true, true, true, true, true, true, true, true, true, true, true, true, true, true, true, true, true, true, true, true, true, true, true, true, true, true, true, true] (fun m fr wr => getK fr 10 fun b => getK fr 9 fun le => ∃ c : Nat, c ≤ n ∧ m = n - c ∧ b = .int .i64 (c : Int) ∧ le = .int .i64 (if c = 0 then 0 else mnTo (fun b : Nat => worth l (rr.getD i []) b l.length) (c - 1)) ∧ wr = w2) (n) ?_ ?_
  · exact ⟨0, Nat.zero_le _, rfl, rfl, (by simp), rfl⟩
  · intro m w3 u9 u10 u11 u12 u13 u14 u15 u16 u17 u18 u19 u20 u21 u22 u23 u24 u25 u26 u27 u28 u29 u30 u31 u32 u33 u34 u35 u36 u37 u38 u39 u40 u41 u42 u43 u44 u45 u46 u47 hR
    obtain ⟨c, hc, rfl, rfl, rfl, rfl⟩ := hR
    by_cases hcl : c < n
    · repeat' (conv => whnf
               first
               | (refine Dr.quiet tyOk (by kernel_rfl) ?_)
               | (refine Rng.mk (by omega) ?_)
               | (refine Split.pos (by omega) ?_)
               | (refine Split.neg (by omega) ?_)
               | (refine Split.mk (fun h => ?_) (fun h => ?_))
               | (refine Need.mk (by omega) ?_)
               | (refine Ints.ln (by assumption) ?_)
               | (refine Mat.ln (by assumption) ?_)
               | (refine Ints.ln (Mat.row (by assumption) _ (by omega)) ?_)
               | (refine Ints.ix (by assumption) (by omega) ?_)
               | (refine Mat.ix (by assumption) (by omega) ?_)
               | (refine Ints.ix (Mat.row (by assumption) _ (by omega)) (by omega) ?_)
               | (refine Ints.ix (c := 0) (by assumption) (by omega) ?_)
               | (refine Mat.ix (c := 0) (by assumption) (by omega) ?_)
               | (refine Ints.ix (c := 0) (Mat.row (by assumption) _ (by omega)) (by omega) ?_)
               | (refine Ints.ixI (by assumption) (by omega) ?_)
               | (refine Mat.ixI (by assumption) (by omega) ?_)
               | (refine Ints.ixI (Mat.row (by assumption) _ (by omega)) (by omega) ?_)
               | (refine Ints.ld (by assumption) (by omega) ?_)
               | (refine Mat.ld (by assumption) (by omega) ?_)
               | (refine Ints.ld (Mat.row (by assumption) _ (by omega)) (by omega) ?_)
               | (refine At.ld (by assumption) rfl ?_)
               | (refine At.ldN (by assumption) rfl ?_)
               | (refine Prs.ln (by assumption) ?_)
               | (refine Trs.ln (by assumption) ?_)
               | (refine Prs.ix (by assumption) (by omega) ?_)
               | (refine Trs.ix (by assumption) (by omega) ?_)
               | (refine Prs.ldN (by assumption) (by omega) ?_)
               | (refine Trs.ldN (by assumption) (by omega) ?_)
               | (refine At.ldN (Blk.at (by assumption)) rfl ?_)
               | (refine At.ld (Blk.at (by assumption)) rfl ?_)
               | (refine IxA.mk (by omega) ?_)
               | (refine Sl.ln (Own.sl (by assumption)) ?_)
               | (refine Ints.ix (Own.sl (by assumption)) (by omega) ?_)
               | (refine Ints.ixI (Own.sl (by assumption)) (by omega) ?_)
               | (refine Ints.ld (Own.sl (by assumption)) (by omega) ?_))
      refine Lp.mk tyOk [false, false, false, false, false, false, false, false, false, false, false, true, true, false, false, false, false, false, true, true, true, true, true, true, true, true, true, true, true, true, true, true, true, true, true, true, true, true, true, true] (fun m fr wr => getK fr 12 fun k => getK fr 11 fun s => ∃ d : Nat, d ≤ l.length ∧ m = l.length - d ∧ k = .int .i64 (d : Int) ∧ s = .int .i64 (worth l (rr.getD i []) c d) ∧ wr = w3) (l.length) ?_ ?_
      · exact ⟨0, Nat.zero_le _, rfl, rfl, rfl, rfl⟩
      · intro m w4 u11 u12 u18 u19 u20 u21 u22 u23 u24 u25 u26 u27 u28 u29 u30 u31 u32 u33 u34 u35 u36 u37 u38 u39 hR
        obtain ⟨d, hd, rfl, rfl, rfl, rfl⟩ := hR
        have hbd := worth_bd (a := l) (k := (c : Int)) (fun j => hgd.val i j) d
        by_cases hdl : d < l.length
        · have hs : worth l (rr.getD i []) c (d + 1) = worth l (rr.getD i []) c d + if l.getD d 0 = (c : Int) then (rr.getD i []).getD d 0 else 0 := rfl
          have hval := hgd.val i d
          have hvd := hev d
          by_cases he : l.getD d 0 = (c : Int)
          · rw [if_pos he] at hs
            repeat' (conv => whnf
                     first
                     | (refine Dr.quiet tyOk (by kernel_rfl) ?_)
                     | (refine Rng.mk (by omega) ?_)
                     | (refine Split.pos (by omega) ?_)
                     | (refine Split.neg (by omega) ?_)
                     | (refine Split.mk (fun h => ?_) (fun h => ?_))
                     | (refine Need.mk (by omega) ?_)
                     | (refine Ints.ln (by assumption) ?_)
                     | (refine Mat.ln (by assumption) ?_)
                     | (refine Ints.ln (Mat.row (by assumption) _ (by omega)) ?_)
                     | (refine Ints.ix (by assumption) (by omega) ?_)
                     | (refine Mat.ix (by assumption) (by omega) ?_)
                     | (refine Ints.ix (Mat.row (by assumption) _ (by omega)) (by omega) ?_)
                     | (refine Ints.ix (c := 0) (by assumption) (by omega) ?_)
                     | (refine Mat.ix (c := 0) (by assumption) (by omega) ?_)
                     | (refine Ints.ix (c := 0) (Mat.row (by assumption) _ (by omega)) (by omega) ?_)
                     | (refine Ints.ixI (by assumption) (by omega) ?_)
                     | (refine Mat.ixI (by assumption) (by omega) ?_)
                     | (refine Ints.ixI (Mat.row (by assumption) _ (by omega)) (by omega) ?_)
                     | (refine Ints.ld (by assumption) (by omega) ?_)
                     | (refine Mat.ld (by assumption) (by omega) ?_)
                     | (refine Ints.ld (Mat.row (by assumption) _ (by omega)) (by omega) ?_)
                     | (refine At.ld (by assumption) rfl ?_)
                     | (refine At.ldN (by assumption) rfl ?_)
                     | (refine Prs.ln (by assumption) ?_)
                     | (refine Trs.ln (by assumption) ?_)
                     | (refine Prs.ix (by assumption) (by omega) ?_)
                     | (refine Trs.ix (by assumption) (by omega) ?_)
                     | (refine Prs.ldN (by assumption) (by omega) ?_)
                     | (refine Trs.ldN (by assumption) (by omega) ?_)
                     | (refine At.ldN (Blk.at (by assumption)) rfl ?_)
                     | (refine At.ld (Blk.at (by assumption)) rfl ?_)
                     | (refine IxA.mk (by omega) ?_)
                     | (refine Sl.ln (Own.sl (by assumption)) ?_)
                     | (refine Ints.ix (Own.sl (by assumption)) (by omega) ?_)
                     | (refine Ints.ixI (Own.sl (by assumption)) (by omega) ?_)
                     | (refine Ints.ld (Own.sl (by assumption)) (by omega) ?_))
            refine ⟨_, (by omega : l.length - (d + 1) < l.length - d), rfl, d + 1, by omega, rfl, rfl, (by rw [hs]), rfl⟩
          · rw [if_neg he, Int.add_zero] at hs
            repeat' (conv => whnf
                     first
                     | (refine Dr.quiet tyOk (by kernel_rfl) ?_)
                     | (refine Rng.mk (by omega) ?_)
                     | (refine Split.pos (by omega) ?_)
                     | (refine Split.neg (by omega) ?_)
                     | (refine Split.mk (fun h => ?_) (fun h => ?_))
                     | (refine Need.mk (by omega) ?_)
                     | (refine Ints.ln (by assumption) ?_)
                     | (refine Mat.ln (by assumption) ?_)
                     | (refine Ints.ln (Mat.row (by assumption) _ (by omega)) ?_)
                     | (refine Ints.ix (by assumption) (by omega) ?_)
                     | (refine Mat.ix (by assumption) (by omega) ?_)
                     | (refine Ints.ix (Mat.row (by assumption) _ (by omega)) (by omega) ?_)
                     | (refine Ints.ix (c := 0) (by assumption) (by omega) ?_)
                     | (refine Mat.ix (c := 0) (by assumption) (by omega) ?_)
                     | (refine Ints.ix (c := 0) (Mat.row (by assumption) _ (by omega)) (by omega) ?_)
                     | (refine Ints.ixI (by assumption) (by omega) ?_)
                     | (refine Mat.ixI (by assumption) (by omega) ?_)
                     | (refine Ints.ixI (Mat.row (by assumption) _ (by omega)) (by omega) ?_)
                     | (refine Ints.ld (by assumption) (by omega) ?_)
                     | (refine Mat.ld (by assumption) (by omega) ?_)
                     | (refine Ints.ld (Mat.row (by assumption) _ (by omega)) (by omega) ?_)
                     | (refine At.ld (by assumption) rfl ?_)
                     | (refine At.ldN (by assumption) rfl ?_)
                     | (refine Prs.ln (by assumption) ?_)
                     | (refine Trs.ln (by assumption) ?_)
                     | (refine Prs.ix (by assumption) (by omega) ?_)
                     | (refine Trs.ix (by assumption) (by omega) ?_)
                     | (refine Prs.ldN (by assumption) (by omega) ?_)
                     | (refine Trs.ldN (by assumption) (by omega) ?_)
                     | (refine At.ldN (Blk.at (by assumption)) rfl ?_)
                     | (refine At.ld (Blk.at (by assumption)) rfl ?_)
                     | (refine IxA.mk (by omega) ?_)
                     | (refine Sl.ln (Own.sl (by assumption)) ?_)
                     | (refine Ints.ix (Own.sl (by assumption)) (by omega) ?_)
                     | (refine Ints.ixI (Own.sl (by assumption)) (by omega) ?_)
                     | (refine Ints.ld (Own.sl (by assumption)) (by omega) ?_))
            refine ⟨_, (by omega : l.length - (d + 1) < l.length - d), rfl, d + 1, by omega, rfl, rfl, (by rw [hs]), rfl⟩
        · obtain rfl : d = l.length := by omega
          by_cases hc0 : c = 0
          · rw [if_pos hc0]
            repeat' (conv => whnf
                     first
                     | (refine Dr.quiet tyOk (by kernel_rfl) ?_)
                     | (refine Rng.mk (by omega) ?_)
                     | (refine Split.pos (by omega) ?_)
                     | (refine Split.neg (by omega) ?_)
                     | (refine Split.mk (fun h => ?_) (fun h => ?_))
                     | (refine Need.mk (by omega) ?_)
                     | (refine Ints.ln (by assumption) ?_)
                     | (refine Mat.ln (by assumption) ?_)
                     | (refine Ints.ln (Mat.row (by assumption) _ (by omega)) ?_)
                     | (refine Ints.ix (by assumption) (by omega) ?_)
                     | (refine Mat.ix (by assumption) (by omega) ?_)
                     | (refine Ints.ix (Mat.row (by assumption) _ (by omega)) (by omega) ?_)
                     | (refine Ints.ix (c := 0) (by assumption) (by omega) ?_)
                     | (refine Mat.ix (c := 0) (by assumption) (by omega) ?_)
                     | (refine Ints.ix (c := 0) (Mat.row (by assumption) _ (by omega)) (by omega) ?_)
                     | (refine Ints.ixI (by assumption) (by omega) ?_)
                     | (refine Mat.ixI (by assumption) (by omega) ?_)
                     | (refine Ints.ixI (Mat.row (by assumption) _ (by omega)) (by omega) ?_)
                     | (refine Ints.ld (by assumption) (by omega) ?_)
                     | (refine Mat.ld (by assumption) (by omega) ?_)
                     | (refine Ints.ld (Mat.row (by assumption) _ (by omega)) (by omega) ?_)
                     | (refine At.ld (by assumption) rfl ?_)
                     | (refine At.ldN (by assumption) rfl ?_)
                     | (refine Prs.ln (by assumption) ?_)
                     | (refine Trs.ln (by assumption) ?_)
                     | (refine Prs.ix (by assumption) (by omega) ?_)
                     | (refine Trs.ix (by assumption) (by omega) ?_)
                     | (refine Prs.ldN (by assumption) (by omega) ?_)
                     | (refine Trs.ldN (by assumption) (by omega) ?_)
                     | (refine At.ldN (Blk.at (by assumption)) rfl ?_)
                     | (refine At.ld (Blk.at (by assumption)) rfl ?_)
                     | (refine IxA.mk (by omega) ?_)
                     | (refine Sl.ln (Own.sl (by assumption)) ?_)
                     | (refine Ints.ix (Own.sl (by assumption)) (by omega) ?_)
                     | (refine Ints.ixI (Own.sl (by assumption)) (by omega) ?_)
                     | (refine Ints.ld (Own.sl (by assumption)) (by omega) ?_))
            all_goals (refine ⟨_, (by omega : n - (c + 1) < n - c), rfl, c + 1, by omega, rfl, rfl, (by rw [if_neg (by omega)]; subst hc0; rfl), rfl⟩)
          · have hc1 : c + 1 - 1 = c - 1 + 1 := by omega
            have hs : mnTo (fun b : Nat => worth l (rr.getD i []) b l.length) (c + 1 - 1) = min (mnTo (fun b : Nat => worth l (rr.getD i []) b l.length) (c - 1)) (worth l (rr.getD i []) c l.length) := by
              rw [hc1]
              simp only [mnTo]
              rw [show c - 1 + 1 = c by omega]
            rw [if_neg hc0]
            by_cases hlt : worth l (rr.getD i []) c l.length < mnTo (fun b : Nat => worth l (rr.getD i []) b l.length) (c - 1)
            · rw [Int.min_eq_right (by omega)] at hs
              repeat' (conv => whnf
                       first
                       | (refine Dr.quiet tyOk (by kernel_rfl) ?_)
                       | (refine Rng.mk (by omega) ?_)
                       | (refine Split.pos (by omega) ?_)
                       | (refine Split.neg (by omega) ?_)
                       | (refine Split.mk (fun h => ?_) (fun h => ?_))
                       | (refine Need.mk (by omega) ?_)
                       | (refine Ints.ln (by assumption) ?_)
                       | (refine Mat.ln (by assumption) ?_)
                       | (refine Ints.ln (Mat.row (by assumption) _ (by omega)) ?_)
                       | (refine Ints.ix (by assumption) (by omega) ?_)
                       | (refine Mat.ix (by assumption) (by omega) ?_)
                       | (refine Ints.ix (Mat.row (by assumption) _ (by omega)) (by omega) ?_)
                       | (refine Ints.ix (c := 0) (by assumption) (by omega) ?_)
                       | (refine Mat.ix (c := 0) (by assumption) (by omega) ?_)
                       | (refine Ints.ix (c := 0) (Mat.row (by assumption) _ (by omega)) (by omega) ?_)
                       | (refine Ints.ixI (by assumption) (by omega) ?_)
                       | (refine Mat.ixI (by assumption) (by omega) ?_)
                       | (refine Ints.ixI (Mat.row (by assumption) _ (by omega)) (by omega) ?_)
                       | (refine Ints.ld (by assumption) (by omega) ?_)
                       | (refine Mat.ld (by assumption) (by omega) ?_)
                       | (refine Ints.ld (Mat.row (by assumption) _ (by omega)) (by omega) ?_)
                       | (refine At.ld (by assumption) rfl ?_)
                       | (refine At.ldN (by assumption) rfl ?_)
                       | (refine Prs.ln (by assumption) ?_)
                       | (refine Trs.ln (by assumption) ?_)
                       | (refine Prs.ix (by assumption) (by omega) ?_)
                       | (refine Trs.ix (by assumption) (by omega) ?_)
                       | (refine Prs.ldN (by assumption) (by omega) ?_)
                       | (refine Trs.ldN (by assumption) (by omega) ?_)
                       | (refine At.ldN (Blk.at (by assumption)) rfl ?_)
                       | (refine At.ld (Blk.at (by assumption)) rfl ?_)
                       | (refine IxA.mk (by omega) ?_)
                       | (refine Sl.ln (Own.sl (by assumption)) ?_)
                       | (refine Ints.ix (Own.sl (by assumption)) (by omega) ?_)
                       | (refine Ints.ixI (Own.sl (by assumption)) (by omega) ?_)
                       | (refine Ints.ld (Own.sl (by assumption)) (by omega) ?_))
              all_goals (refine ⟨_, (by omega : n - (c + 1) < n - c), rfl, c + 1, by omega, rfl, rfl, (by rw [if_neg (by omega), hs]), rfl⟩)
            · rw [Int.min_eq_left (by omega)] at hs
              repeat' (conv => whnf
                       first
                       | (refine Dr.quiet tyOk (by kernel_rfl) ?_)
                       | (refine Rng.mk (by omega) ?_)
                       | (refine Split.pos (by omega) ?_)
                       | (refine Split.neg (by omega) ?_)
                       | (refine Split.mk (fun h => ?_) (fun h => ?_))
                       | (refine Need.mk (by omega) ?_)
                       | (refine Ints.ln (by assumption) ?_)
                       | (refine Mat.ln (by assumption) ?_)
                       | (refine Ints.ln (Mat.row (by assumption) _ (by omega)) ?_)
                       | (refine Ints.ix (by assumption) (by omega) ?_)
                       | (refine Mat.ix (by assumption) (by omega) ?_)
                       | (refine Ints.ix (Mat.row (by assumption) _ (by omega)) (by omega) ?_)
                       | (refine Ints.ix (c := 0) (by assumption) (by omega) ?_)
                       | (refine Mat.ix (c := 0) (by assumption) (by omega) ?_)
                       | (refine Ints.ix (c := 0) (Mat.row (by assumption) _ (by omega)) (by omega) ?_)
                       | (refine Ints.ixI (by assumption) (by omega) ?_)
                       | (refine Mat.ixI (by assumption) (by omega) ?_)
                       | (refine Ints.ixI (Mat.row (by assumption) _ (by omega)) (by omega) ?_)
                       | (refine Ints.ld (by assumption) (by omega) ?_)
                       | (refine Mat.ld (by assumption) (by omega) ?_)
                       | (refine Ints.ld (Mat.row (by assumption) _ (by omega)) (by omega) ?_)
                       | (refine At.ld (by assumption) rfl ?_)
                       | (refine At.ldN (by assumption) rfl ?_)
                       | (refine Prs.ln (by assumption) ?_)
                       | (refine Trs.ln (by assumption) ?_)
                       | (refine Prs.ix (by assumption) (by omega) ?_)
                       | (refine Trs.ix (by assumption) (by omega) ?_)
                       | (refine Prs.ldN (by assumption) (by omega) ?_)
                       | (refine Trs.ldN (by assumption) (by omega) ?_)
                       | (refine At.ldN (Blk.at (by assumption)) rfl ?_)
                       | (refine At.ld (Blk.at (by assumption)) rfl ?_)
                       | (refine IxA.mk (by omega) ?_)
                       | (refine Sl.ln (Own.sl (by assumption)) ?_)
                       | (refine Ints.ix (Own.sl (by assumption)) (by omega) ?_)
                       | (refine Ints.ixI (Own.sl (by assumption)) (by omega) ?_)
                       | (refine Ints.ld (Own.sl (by assumption)) (by omega) ?_))
              all_goals (refine ⟨_, (by omega : n - (c + 1) < n - c), rfl, c + 1, by omega, rfl, rfl, (by rw [if_neg (by omega), hs]), rfl⟩)
    · obtain rfl : c = n := by omega
      rw [if_neg (by omega)]
      repeat' (conv => whnf
               first
               | (refine Dr.quiet tyOk (by kernel_rfl) ?_)
               | (refine Rng.mk (by omega) ?_)
               | (refine Split.pos (by omega) ?_)
               | (refine Split.neg (by omega) ?_)
               | (refine Split.mk (fun h => ?_) (fun h => ?_))
               | (refine Need.mk (by omega) ?_)
               | (refine Ints.ln (by assumption) ?_)
               | (refine Mat.ln (by assumption) ?_)
               | (refine Ints.ln (Mat.row (by assumption) _ (by omega)) ?_)
               | (refine Ints.ix (by assumption) (by omega) ?_)
               | (refine Mat.ix (by assumption) (by omega) ?_)
               | (refine Ints.ix (Mat.row (by assumption) _ (by omega)) (by omega) ?_)
               | (refine Ints.ix (c := 0) (by assumption) (by omega) ?_)
               | (refine Mat.ix (c := 0) (by assumption) (by omega) ?_)
               | (refine Ints.ix (c := 0) (Mat.row (by assumption) _ (by omega)) (by omega) ?_)
               | (refine Ints.ixI (by assumption) (by omega) ?_)
               | (refine Mat.ixI (by assumption) (by omega) ?_)
               | (refine Ints.ixI (Mat.row (by assumption) _ (by omega)) (by omega) ?_)
               | (refine Ints.ld (by assumption) (by omega) ?_)
               | (refine Mat.ld (by assumption) (by omega) ?_)
               | (refine Ints.ld (Mat.row (by assumption) _ (by omega)) (by omega) ?_)
               | (refine At.ld (by assumption) rfl ?_)
               | (refine At.ldN (by assumption) rfl ?_)
               | (refine Prs.ln (by assumption) ?_)
               | (refine Trs.ln (by assumption) ?_)
               | (refine Prs.ix (by assumption) (by omega) ?_)
               | (refine Trs.ix (by assumption) (by omega) ?_)
               | (refine Prs.ldN (by assumption) (by omega) ?_)
               | (refine Trs.ldN (by assumption) (by omega) ?_)
               | (refine At.ldN (Blk.at (by assumption)) rfl ?_)
               | (refine At.ld (Blk.at (by assumption)) rfl ?_)
               | (refine IxA.mk (by omega) ?_)
               | (refine Sl.ln (Own.sl (by assumption)) ?_)
               | (refine Ints.ix (Own.sl (by assumption)) (by omega) ?_)
               | (refine Ints.ixI (Own.sl (by assumption)) (by omega) ?_)
               | (refine Ints.ld (Own.sl (by assumption)) (by omega) ?_))
      exact ⟨rfl, EE⟩
end Go.Proofs.Ytkgogljfngplnaa
