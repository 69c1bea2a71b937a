/- Joined texts: Strip8 L31. -/
import Derived.Test.YtclbiabiiknolaaJ3
set_option linter.unusedVariables false
set_option linter.unusedSimpArgs false
namespace Go.Proofs.Ytclbiabiiknolaa
open Go.Eng
set_option maxRecDepth 100000
set_option maxHeartbeats 4000000

theorem pT_iff {rr : List (List Int)} {m k : Nat} (hk : Sd rr m) : pT rr m k = false ↔ ∃ a, divn rr a ∧ (k : Int) + 1 ≤ lvl rr a := by
  rw [← tab_div hk (by omega), pT, decide_eq_false_iff_not]
  omega
theorem pT_mono {rr : List (List Int)} {m : Nat} (hk : Sd rr m) (i j : Nat) (hij : i ≤ j) (h : pT rr m i = true) : pT rr m j = true := by
  cases hj : pT rr m j with
  | true => rfl
  | false =>
    obtain ⟨a, h1, h2⟩ := (pT_iff hk).1 hj
    rw [(pT_iff hk).2 ⟨a, h1, by omega⟩] at h; cases h
theorem div_some {rr : List (List Int)} {m : Nat} (hk : Sd rr m) : divn rr (List.replicate m 0) := by
  refine divn_iff.2 ⟨by rw [hk.m0]; simp, fun y hy => ?_, ?_⟩
  · have := List.eq_of_mem_replicate hy
    have := hk.n1; omega
  · have := nr_rep (c := 0) (k := m) (a := []) (by unfold nr; trivial) (by simp)
    simpa using this
theorem best_of {rr : List (List Int)} {m i : Nat} (hk : Sd rr m) (hi : i ≤ 16001) (h1 : ∀ k, k < i → pT rr m k = false) (h2 : ∀ k, i ≤ k → k < 16001 → pT rr m k = true) :
    i ≤ 16000 ∧ (∃ a, divn rr a ∧ (i : Int) ≤ lvl rr a) ∧ ∀ a, divn rr a → lvl rr a ≤ i := by
  have hb : ∀ a, divn rr a → 0 ≤ lvl rr a ∧ lvl rr a ≤ 16000 := fun a ha => lvl_bd hk (by rw [(divn_iff.1 ha).1, hk.m0])
  have h16 : i ≤ 16000 := by
    refine Classical.byContradiction fun hn => ?_
    obtain ⟨a, ha, hl⟩ := (pT_iff hk).1 (h1 16000 (by omega))
    have := hb a ha; omega
  refine ⟨h16, ?_, fun a ha => ?_⟩
  · by_cases h0 : i = 0
    · subst h0; exact ⟨_, div_some hk, (hb _ (div_some hk)).1⟩
    · obtain ⟨a, ha, hl⟩ := (pT_iff hk).1 (h1 (i - 1) (by omega))
      exact ⟨a, ha, by omega⟩
  · refine Classical.byContradiction fun hn => ?_
    have := (pT_iff hk).2 ⟨a, ha, (by omega : (i : Int) + 1 ≤ lvl rr a)⟩
    rw [h2 i (Nat.le_refl _) (by omega)] at this; cases this
theorem lvl_nil {rr : List (List Int)} {L : Int} (hn : 1 ≤ rr.length) : L ≤ lvl rr [] ↔ L ≤ 0 := by
  rw [lvl_ge hn]
  exact ⟨fun h => h 0 (by omega), fun h i _ => h⟩
/-- the first division of at least a level -/
def FsR (rr : List (List Int)) (L : Int) (w : World) (u : Value) : Prop :=
  (∃ lv l, u = .tuple #[lv, .bool true] ∧ OI w lv l ∧ divn rr l ∧ L ≤ lvl rr l ∧ ∀ l', divn rr l' → L ≤ lvl rr l' → ¬ lexlt l' l) ∨ (u = .tuple #[.slice none 0 0, .bool false] ∧ ∀ l, divn rr l → ¬ L ≤ lvl rr l)
theorem eSrch : Elem Try.prog 67 (.agg #[.slice none 0 0, .int .i64 0, .map none]) 3 40 := by unfold Elem; kernel_rfl
theorem fs_cons {rr : List (List Int)} {L : Int} {mm c : Nat} (hk : Sd rr mm) (h0 : 0 < mm) (hno : ∀ i, i < c → ∀ l : List Int, l.length + 1 = mm → ¬ (divn rr ((i : Int) :: l) ∧ L ≤ lvl rr ((i : Int) :: l))) {l : List Int}
    (hf : ∀ l' : List Int, l'.length + 1 = mm → divn rr ((c : Int) :: l') → L ≤ lvl rr ((c : Int) :: l') → ¬ lexlt l' l) (l' : List Int) (hd : divn rr l') (hL : L ≤ lvl rr l') : ¬ lexlt l' ((c : Int) :: l) := by
  obtain ⟨h1, h2, _⟩ := divn_iff.1 hd
  rw [hk.m0] at h1
  cases l' with
  | nil => simp only [List.length_nil] at h1; omega
  | cons x t =>
    simp only [List.length_cons] at h1
    have hx := h2 x (by simp)
    obtain ⟨i, rfl⟩ : ∃ i : Nat, x = (i : Int) := ⟨x.toNat, by omega⟩
    intro hlt
    rcases lexlt_head hlt with h | ⟨h, h3⟩
    · exact hno i (by omega) t h1 ⟨hd, hL⟩
    · obtain rfl : i = c := by omega
      exact hf t h1 hd hL h3
theorem fs_none {rr : List (List Int)} {L : Int} {mm : Nat} (hk : Sd rr mm) (h0 : 0 < mm) (hno : ∀ i, i < rr.length → ∀ l : List Int, l.length + 1 = mm → ¬ (divn rr ((i : Int) :: l) ∧ L ≤ lvl rr ((i : Int) :: l))) (l' : List Int) (hd : divn rr l') : ¬ L ≤ lvl rr l' := by
  obtain ⟨h1, h2, _⟩ := divn_iff.1 hd
  rw [hk.m0] at h1
  cases l' with
  | nil => simp only [List.length_nil] at h1; omega
  | cons x t =>
    simp only [List.length_cons] at h1
    have hx := h2 x (by simp)
    obtain ⟨i, rfl⟩ : ∃ i : Nat, x = (i : Int) := ⟨x.toNat, by omega⟩
    exact fun hL => hno i (by omega) t h1 ⟨hd, hL⟩
theorem sfirst_rc {w : World} {vv : Value} {vs : List Value} {rr : List (List Int)} {mm : Nat} {L : Int} (Hv : Mat w vv vs rr) (hk : Sd rr mm) (hL : 0 ≤ L ∧ L ≤ 16000) : RC Try.prog 30 [vv, .int .i64 L] w NoB (fun u w' => FsR rr L w' u) := by
  have hn1 := hk.n1
  have hn6 := hk.n6
  have hm16 := hk.m16
  have hm0 := hk.m0
  have hP := pow6 hn6
  have hP1 : 1 ≤ 2 ^ rr.length := Nat.pow_pos (by omega)
  refine RC.mk tyOk Try.func30 rfl (by kernel_rfl) fun w1 E1 => ?_
  replace Hv := Hv.ext E1
  have EE := Ext.refl w1
  have HV0 := Hv
  repeat' ((conv => whnf); first | (refine Dr.quiet tyOk (by kernel_rfl) ?_) | (refine Rng.mk (by omega) ?_) | (refine Split.pos (by omega) ?_) | (refine Split.neg (by omega) ?_) | (refine Split.mk (fun h => ?_) (fun h => ?_)) | (refine Need.mk (by omega) ?_) | (refine Ints.ln (by assumption) ?_) | (refine Mat.ln (by assumption) ?_) | (refine Ints.ln (Mat.row (by assumption) _ (by omega)) ?_) | (refine Ints.ix (by assumption) (by omega) ?_) | (refine Mat.ix (by assumption) (by omega) ?_) | (refine Ints.ix (Mat.row (by assumption) _ (by omega)) (by omega) ?_) | (refine Ints.ix (c := 0) (by assumption) (by omega) ?_) | (refine Mat.ix (c := 0) (by assumption) (by omega) ?_) | (refine Ints.ix (c := 0) (Mat.row (by assumption) _ (by omega)) (by omega) ?_) | (refine Ints.ixI (by assumption) (by omega) ?_) | (refine Mat.ixI (by assumption) (by omega) ?_) | (refine Ints.ixI (Mat.row (by assumption) _ (by omega)) (by omega) ?_) | (refine Ints.ld (by assumption) (by omega) ?_) | (refine Mat.ld (by assumption) (by omega) ?_) | (refine Ints.ld (Mat.row (by assumption) _ (by omega)) (by omega) ?_) | (refine At.ld (by assumption) rfl ?_) | (refine At.ldN (by assumption) rfl ?_) | (refine Prs.ln (by assumption) ?_) | (refine Trs.ln (by assumption) ?_) | (refine Prs.ix (by assumption) (by omega) ?_) | (refine Trs.ix (by assumption) (by omega) ?_) | (refine Prs.ldN (by assumption) (by omega) ?_) | (refine Trs.ldN (by assumption) (by omega) ?_) | (refine At.ldN (Blk.at (by assumption)) rfl ?_) | (refine At.ld (Blk.at (by assumption)) rfl ?_) | (refine IxA.mk (by omega) ?_) | (refine Sl.ln (Own.sl (by assumption)) ?_) | (refine Ints.ix (Own.sl (by assumption)) (by omega) ?_) | (refine Ints.ixI (Own.sl (by assumption)) (by omega) ?_) | (refine Ints.ld (Own.sl (by assumption)) (by omega) ?_))
  refine VE.makeMap (DQ rr L mm) fun mb w2 E2 hmb HM => ?_
  replace Hv := Hv.ext E2
  replace EE := EE.ext E2
  conv => whnf
  refine VS.sparseR (ps := [(0, vv), (1, .int .i64 L), (2, .map (some mb))]) #[vv, .int .i64 L, .map (some mb)] Try.underlying67 eSrch (by decide +kernel) (by intro p hp; simp only [List.mem_cons, List.not_mem_nil, or_false] at hp; rcases hp with rfl | rfl | rfl; exact ⟨by kernel_rfl, by simp, (Sl.cells Hv.top).1⟩; exact ⟨by kernel_rfl, by simp, rfl⟩; exact ⟨by kernel_rfl, by simp, rfl⟩) rfl ?_
  conv => whnf
  refine Bx.blk (l := [vv, .int .i64 L, .map (some mb)]) fun sb w3 E3 hsb HK => ?_
  have hml := HM.lt
  have HS : SSt w1 w3 sb mb vv rr L mm := ⟨E2.trans E3, HK, HM.ext E3, hmb, by omega⟩
  replace Hv := Hv.ext E3
  replace EE := EE.ext E3
  have hall : ((2 ^ rr.length : Nat) : Int) - 1 = ((2 ^ rr.length - 1 : Nat) : Int) := by omega
  by_cases hz : mm = 0
  · subst hz
    have hdn : divn rr [] := div_some hk
    by_cases hL0 : L ≤ 0
    · repeat' ((conv => whnf); first | (refine Dr.quiet tyOk (by kernel_rfl) ?_) | (refine VS.shl1 (i := rr.length) (by omega) ?_) | (refine Mat.ld (c := 0) Hv (by omega) ?_) | (refine Rng.mk (by omega) ?_) | (refine Split.pos (by omega) ?_) | (refine Split.neg (by omega) ?_) | (refine Split.mk (fun h => ?_) (fun h => ?_)) | (refine Need.mk (by omega) ?_) | (refine Ints.ln (by assumption) ?_) | (refine Mat.ln (by assumption) ?_) | (refine Ints.ln (Mat.row (by assumption) _ (by omega)) ?_) | (refine Ints.ix (by assumption) (by omega) ?_) | (refine Mat.ix (by assumption) (by omega) ?_) | (refine Ints.ix (Mat.row (by assumption) _ (by omega)) (by omega) ?_) | (refine Ints.ix (c := 0) (by assumption) (by omega) ?_) | (refine Mat.ix (c := 0) (by assumption) (by omega) ?_) | (refine Ints.ix (c := 0) (Mat.row (by assumption) _ (by omega)) (by omega) ?_) | (refine Ints.ixI (by assumption) (by omega) ?_) | (refine Mat.ixI (by assumption) (by omega) ?_) | (refine Ints.ixI (Mat.row (by assumption) _ (by omega)) (by omega) ?_) | (refine Ints.ld (by assumption) (by omega) ?_) | (refine Mat.ld (by assumption) (by omega) ?_) | (refine Ints.ld (Mat.row (by assumption) _ (by omega)) (by omega) ?_) | (refine At.ld (by assumption) rfl ?_) | (refine At.ldN (by assumption) rfl ?_) | (refine Prs.ln (by assumption) ?_) | (refine Trs.ln (by assumption) ?_) | (refine Prs.ix (by assumption) (by omega) ?_) | (refine Trs.ix (by assumption) (by omega) ?_) | (refine Prs.ldN (by assumption) (by omega) ?_) | (refine Trs.ldN (by assumption) (by omega) ?_) | (refine At.ldN (Blk.at (by assumption)) rfl ?_) | (refine At.ld (Blk.at (by assumption)) rfl ?_) | (refine IxA.mk (by omega) ?_) | (refine Sl.ln (Own.sl (by assumption)) ?_) | (refine Ints.ix (Own.sl (by assumption)) (by omega) ?_) | (refine Ints.ixI (Own.sl (by assumption)) (by omega) ?_) | (refine Ints.ld (Own.sl (by assumption)) (by omega) ?_))
      refine ⟨EE, .inl ⟨_, [], rfl, Own.nil, hdn, (lvl_nil hn1).2 hL0, fun l' hd _ hx => ?_⟩⟩
      cases l' with
      | nil => exact hx
      | cons x t => exact hx
    · repeat' ((conv => whnf); first | (refine Dr.quiet tyOk (by kernel_rfl) ?_) | (refine VS.shl1 (i := rr.length) (by omega) ?_) | (refine Mat.ld (c := 0) Hv (by omega) ?_) | (refine Rng.mk (by omega) ?_) | (refine Split.pos (by omega) ?_) | (refine Split.neg (by omega) ?_) | (refine Split.mk (fun h => ?_) (fun h => ?_)) | (refine Need.mk (by omega) ?_) | (refine Ints.ln (by assumption) ?_) | (refine Mat.ln (by assumption) ?_) | (refine Ints.ln (Mat.row (by assumption) _ (by omega)) ?_) | (refine Ints.ix (by assumption) (by omega) ?_) | (refine Mat.ix (by assumption) (by omega) ?_) | (refine Ints.ix (Mat.row (by assumption) _ (by omega)) (by omega) ?_) | (refine Ints.ix (c := 0) (by assumption) (by omega) ?_) | (refine Mat.ix (c := 0) (by assumption) (by omega) ?_) | (refine Ints.ix (c := 0) (Mat.row (by assumption) _ (by omega)) (by omega) ?_) | (refine Ints.ixI (by assumption) (by omega) ?_) | (refine Mat.ixI (by assumption) (by omega) ?_) | (refine Ints.ixI (Mat.row (by assumption) _ (by omega)) (by omega) ?_) | (refine Ints.ld (by assumption) (by omega) ?_) | (refine Mat.ld (by assumption) (by omega) ?_) | (refine Ints.ld (Mat.row (by assumption) _ (by omega)) (by omega) ?_) | (refine At.ld (by assumption) rfl ?_) | (refine At.ldN (by assumption) rfl ?_) | (refine Prs.ln (by assumption) ?_) | (refine Trs.ln (by assumption) ?_) | (refine Prs.ix (by assumption) (by omega) ?_) | (refine Trs.ix (by assumption) (by omega) ?_) | (refine Prs.ldN (by assumption) (by omega) ?_) | (refine Trs.ldN (by assumption) (by omega) ?_) | (refine At.ldN (Blk.at (by assumption)) rfl ?_) | (refine At.ld (Blk.at (by assumption)) rfl ?_) | (refine IxA.mk (by omega) ?_) | (refine Sl.ln (Own.sl (by assumption)) ?_) | (refine Ints.ix (Own.sl (by assumption)) (by omega) ?_) | (refine Ints.ixI (Own.sl (by assumption)) (by omega) ?_) | (refine Ints.ld (Own.sl (by assumption)) (by omega) ?_))
      refine ⟨EE, .inr ⟨rfl, fun l hd hl => ?_⟩⟩
      have h1 := (divn_iff.1 hd).1
      rw [hm0] at h1
      rw [List.length_eq_zero_iff.1 h1] at hl
      exact hL0 ((lvl_nil hn1).1 hl)
  · repeat' ((conv => whnf); first | (refine Dr.quiet tyOk (by kernel_rfl) ?_) | (refine VS.shl1 (i := rr.length) (by omega) ?_) | (refine Mat.ld (c := 0) Hv (by omega) ?_) | (refine Rng.mk (by omega) ?_) | (refine Split.pos (by omega) ?_) | (refine Split.neg (by omega) ?_) | (refine Split.mk (fun h => ?_) (fun h => ?_)) | (refine Need.mk (by omega) ?_) | (refine Ints.ln (by assumption) ?_) | (refine Mat.ln (by assumption) ?_) | (refine Ints.ln (Mat.row (by assumption) _ (by omega)) ?_) | (refine Ints.ix (by assumption) (by omega) ?_) | (refine Mat.ix (by assumption) (by omega) ?_) | (refine Ints.ix (Mat.row (by assumption) _ (by omega)) (by omega) ?_) | (refine Ints.ix (c := 0) (by assumption) (by omega) ?_) | (refine Mat.ix (c := 0) (by assumption) (by omega) ?_) | (refine Ints.ix (c := 0) (Mat.row (by assumption) _ (by omega)) (by omega) ?_) | (refine Ints.ixI (by assumption) (by omega) ?_) | (refine Mat.ixI (by assumption) (by omega) ?_) | (refine Ints.ixI (Mat.row (by assumption) _ (by omega)) (by omega) ?_) | (refine Ints.ld (by assumption) (by omega) ?_) | (refine Mat.ld (by assumption) (by omega) ?_) | (refine Ints.ld (Mat.row (by assumption) _ (by omega)) (by omega) ?_) | (refine At.ld (by assumption) rfl ?_) | (refine At.ldN (by assumption) rfl ?_) | (refine Prs.ln (by assumption) ?_) | (refine Trs.ln (by assumption) ?_) | (refine Prs.ix (by assumption) (by omega) ?_) | (refine Trs.ix (by assumption) (by omega) ?_) | (refine Prs.ldN (by assumption) (by omega) ?_) | (refine Trs.ldN (by assumption) (by omega) ?_) | (refine At.ldN (Blk.at (by assumption)) rfl ?_) | (refine At.ld (Blk.at (by assumption)) rfl ?_) | (refine IxA.mk (by omega) ?_) | (refine Sl.ln (Own.sl (by assumption)) ?_) | (refine Ints.ix (Own.sl (by assumption)) (by omega) ?_) | (refine Ints.ixI (Own.sl (by assumption)) (by omega) ?_) | (refine Ints.ld (Own.sl (by assumption)) (by omega) ?_))
    rw [hall]
    refine Lp.mk tyOk [false, false, false, false, true, true, false, false, true, true, true, false, false, false, false, false, false, false, false, false, false, false, false, false, false, false, false, false, false, true, true, true, true, true, true, true, true, true, true, true, true, true, true, true, true, true, true, true, true, true, true, true, true, true] (fun m fr wr => getK fr 29 fun i => ∃ c : Nat, c ≤ rr.length ∧ m = rr.length - c ∧ i = .int .i64 (c : Int) ∧ (∀ i, i < c → ∀ l : List Int, l.length + 1 = mm → ¬ (divn rr ((i : Int) :: l) ∧ L ≤ lvl rr ((i : Int) :: l))) ∧ (SSt w1 wr sb mb vv rr L mm)) (rr.length) ?_ ?_
    · exact ⟨0, Nat.zero_le _, rfl, rfl, (fun i hi => absurd hi (Nat.not_lt_zero _)), HS⟩
    · intro m w4 u4 u5 u8 u9 u10 u29 u30 u31 u32 u33 u34 u35 u36 u37 u38 u39 u40 u41 u42 u43 u44 u45 u46 u47 u48 u49 u50 u51 u52 u53 hR
      obtain ⟨c, hc, rfl, rfl, hno, HS⟩ := hR
      have HV := HV0.ext HS.ex
      by_cases hcl : c < rr.length
      · have hrow := hk.row c hcl
        have hvv : 0 ≤ val rr c 0 ∧ val rr c 0 ≤ 1000 := hk.val c 0
        have hbf : bit (2 ^ rr.length - 1) c = true := by rw [bit_full rr.length hn6 c (by omega)]; exact decide_eq_true hcl
        have hpc : 1 ≤ 2 ^ c := Nat.pow_pos (by omega)
        have hcd := fun (l : List Int) (hl : l.length + 1 = mm) => cont_div (L := L) hk hcl hl
        repeat' ((conv => whnf); first | (refine Dr.plan 33 [12] (.q 0 (.q 1 (.q 2 (.q 3 (.q 4 (.q 5 (.q 6 (.q 7 (.q 8 (.q 9 (.q 10 (.q 11 (.e 12 (.q 13 (.q 14 (.q 15 (.q 16 (.q 17 .nil))))) .nil))))))))))))) tyOk rfl (by kernel_rfl) ?_) | (refine Dr.quiet tyOk (by kernel_rfl) ?_) | (refine VS.shl1 (i := c) (by omega) ?_) | (refine VS.andNot (s := 2 ^ rr.length - 1) (i := c) (by omega) (by omega) (bit_t hbf) ?_) | (refine Mat.ld (c := c) HV (by omega) ?_) | (refine Ints.ld (c := 0) (HV.row c (by omega)) (by omega) ?_) | (refine Rng.mk (by omega) ?_) | (refine Split.pos (by omega) ?_) | (refine Split.neg (by omega) ?_) | (refine Split.mk (fun h => ?_) (fun h => ?_)) | (refine Need.mk (by omega) ?_) | (refine Ints.ln (by assumption) ?_) | (refine Mat.ln (by assumption) ?_) | (refine Ints.ln (Mat.row (by assumption) _ (by omega)) ?_) | (refine Ints.ix (by assumption) (by omega) ?_) | (refine Mat.ix (by assumption) (by omega) ?_) | (refine Ints.ix (Mat.row (by assumption) _ (by omega)) (by omega) ?_) | (refine Ints.ix (c := 0) (by assumption) (by omega) ?_) | (refine Mat.ix (c := 0) (by assumption) (by omega) ?_) | (refine Ints.ix (c := 0) (Mat.row (by assumption) _ (by omega)) (by omega) ?_) | (refine Ints.ixI (by assumption) (by omega) ?_) | (refine Mat.ixI (by assumption) (by omega) ?_) | (refine Ints.ixI (Mat.row (by assumption) _ (by omega)) (by omega) ?_) | (refine Ints.ld (by assumption) (by omega) ?_) | (refine Mat.ld (by assumption) (by omega) ?_) | (refine Ints.ld (Mat.row (by assumption) _ (by omega)) (by omega) ?_) | (refine At.ld (by assumption) rfl ?_) | (refine At.ldN (by assumption) rfl ?_) | (refine Prs.ln (by assumption) ?_) | (refine Trs.ln (by assumption) ?_) | (refine Prs.ix (by assumption) (by omega) ?_) | (refine Trs.ix (by assumption) (by omega) ?_) | (refine Prs.ldN (by assumption) (by omega) ?_) | (refine Trs.ldN (by assumption) (by omega) ?_) | (refine At.ldN (Blk.at (by assumption)) rfl ?_) | (refine At.ld (Blk.at (by assumption)) rfl ?_) | (refine IxA.mk (by omega) ?_) | (refine Sl.ln (Own.sl (by assumption)) ?_) | (refine Ints.ix (Own.sl (by assumption)) (by omega) ?_) | (refine Ints.ixI (Own.sl (by assumption)) (by omega) ?_) | (refine Ints.ld (Own.sl (by assumption)) (by omega) ?_))
        refine VC.rc (sfrom_rc hk hL (mm - 1) 1 (by omega) (s := val rr c 0) (set := 2 ^ rr.length - 1 - 2 ^ c) hcl (by omega) (by omega) HV0 HS) ?_
        rintro _ w5 G5 ⟨HS, hfr⟩
        rcases hfr with ⟨lv, l, rfl, Hl, hl1, hl2, hl3⟩ | ⟨rfl, hl⟩
        · skip
          obtain ⟨hd1, hd2⟩ := (hcd l (by omega)).1 hl2
          repeat' ((conv => whnf); first | (refine Dr.quiet tyOk (by kernel_rfl) ?_) | (refine Rng.mk (by omega) ?_) | (refine Split.pos (by omega) ?_) | (refine Split.neg (by omega) ?_) | (refine Split.mk (fun h => ?_) (fun h => ?_)) | (refine Need.mk (by omega) ?_) | (refine Ints.ln (by assumption) ?_) | (refine Mat.ln (by assumption) ?_) | (refine Ints.ln (Mat.row (by assumption) _ (by omega)) ?_) | (refine Ints.ix (by assumption) (by omega) ?_) | (refine Mat.ix (by assumption) (by omega) ?_) | (refine Ints.ix (Mat.row (by assumption) _ (by omega)) (by omega) ?_) | (refine Ints.ix (c := 0) (by assumption) (by omega) ?_) | (refine Mat.ix (c := 0) (by assumption) (by omega) ?_) | (refine Ints.ix (c := 0) (Mat.row (by assumption) _ (by omega)) (by omega) ?_) | (refine Ints.ixI (by assumption) (by omega) ?_) | (refine Mat.ixI (by assumption) (by omega) ?_) | (refine Ints.ixI (Mat.row (by assumption) _ (by omega)) (by omega) ?_) | (refine Ints.ld (by assumption) (by omega) ?_) | (refine Mat.ld (by assumption) (by omega) ?_) | (refine Ints.ld (Mat.row (by assumption) _ (by omega)) (by omega) ?_) | (refine At.ld (by assumption) rfl ?_) | (refine At.ldN (by assumption) rfl ?_) | (refine Prs.ln (by assumption) ?_) | (refine Trs.ln (by assumption) ?_) | (refine Prs.ix (by assumption) (by omega) ?_) | (refine Trs.ix (by assumption) (by omega) ?_) | (refine Prs.ldN (by assumption) (by omega) ?_) | (refine Trs.ldN (by assumption) (by omega) ?_) | (refine At.ldN (Blk.at (by assumption)) rfl ?_) | (refine At.ld (Blk.at (by assumption)) rfl ?_) | (refine IxA.mk (by omega) ?_) | (refine Sl.ln (Own.sl (by assumption)) ?_) | (refine Ints.ix (Own.sl (by assumption)) (by omega) ?_) | (refine Ints.ixI (Own.sl (by assumption)) (by omega) ?_) | (refine Ints.ld (Own.sl (by assumption)) (by omega) ?_))
          refine VE.litI [(c : Int)] Try.underlying24 eInt (by simp) fun av w6 E6 HA0 _ => ?_
          have HA6 := HA0 _ (Nat.le_refl _)
          have Hl6 := Own.ext Hl E6
          conv => whnf
          refine VE.app Try.underlying24 eInt rfl (by omega) HA6 E6 rfl (Own.sl Hl6) (one_ints _) (by simp only [List.length_singleton]; omega) (by simp only [List.length_singleton]; omega) fun v7 w7 E7 G7 H7 => ?_
          repeat' ((conv => whnf); first | (refine Dr.quiet tyOk (by kernel_rfl) ?_) | (refine Rng.mk (by omega) ?_) | (refine Split.pos (by omega) ?_) | (refine Split.neg (by omega) ?_) | (refine Split.mk (fun h => ?_) (fun h => ?_)) | (refine Need.mk (by omega) ?_) | (refine Ints.ln (by assumption) ?_) | (refine Mat.ln (by assumption) ?_) | (refine Ints.ln (Mat.row (by assumption) _ (by omega)) ?_) | (refine Ints.ix (by assumption) (by omega) ?_) | (refine Mat.ix (by assumption) (by omega) ?_) | (refine Ints.ix (Mat.row (by assumption) _ (by omega)) (by omega) ?_) | (refine Ints.ix (c := 0) (by assumption) (by omega) ?_) | (refine Mat.ix (c := 0) (by assumption) (by omega) ?_) | (refine Ints.ix (c := 0) (Mat.row (by assumption) _ (by omega)) (by omega) ?_) | (refine Ints.ixI (by assumption) (by omega) ?_) | (refine Mat.ixI (by assumption) (by omega) ?_) | (refine Ints.ixI (Mat.row (by assumption) _ (by omega)) (by omega) ?_) | (refine Ints.ld (by assumption) (by omega) ?_) | (refine Mat.ld (by assumption) (by omega) ?_) | (refine Ints.ld (Mat.row (by assumption) _ (by omega)) (by omega) ?_) | (refine At.ld (by assumption) rfl ?_) | (refine At.ldN (by assumption) rfl ?_) | (refine Prs.ln (by assumption) ?_) | (refine Trs.ln (by assumption) ?_) | (refine Prs.ix (by assumption) (by omega) ?_) | (refine Trs.ix (by assumption) (by omega) ?_) | (refine Prs.ldN (by assumption) (by omega) ?_) | (refine Trs.ldN (by assumption) (by omega) ?_) | (refine At.ldN (Blk.at (by assumption)) rfl ?_) | (refine At.ld (Blk.at (by assumption)) rfl ?_) | (refine IxA.mk (by omega) ?_) | (refine Sl.ln (Own.sl (by assumption)) ?_) | (refine Ints.ix (Own.sl (by assumption)) (by omega) ?_) | (refine Ints.ixI (Own.sl (by assumption)) (by omega) ?_) | (refine Ints.ld (Own.sl (by assumption)) (by omega) ?_))
          exact ⟨HS.ex.trans E7, .inl ⟨v7, (c : Int) :: l, rfl, OI.cons H7, hd1, hd2, fs_cons hk (by omega) hno (fun l' h1 h2 h3 => hl3 l' (by omega) ((hcd l' h1).2 ⟨h2, h3⟩))⟩⟩
        · repeat' ((conv => whnf); first | (refine Dr.quiet tyOk (by kernel_rfl) ?_) | (refine Rng.mk (by omega) ?_) | (refine Split.pos (by omega) ?_) | (refine Split.neg (by omega) ?_) | (refine Split.mk (fun h => ?_) (fun h => ?_)) | (refine Need.mk (by omega) ?_) | (refine Ints.ln (by assumption) ?_) | (refine Mat.ln (by assumption) ?_) | (refine Ints.ln (Mat.row (by assumption) _ (by omega)) ?_) | (refine Ints.ix (by assumption) (by omega) ?_) | (refine Mat.ix (by assumption) (by omega) ?_) | (refine Ints.ix (Mat.row (by assumption) _ (by omega)) (by omega) ?_) | (refine Ints.ix (c := 0) (by assumption) (by omega) ?_) | (refine Mat.ix (c := 0) (by assumption) (by omega) ?_) | (refine Ints.ix (c := 0) (Mat.row (by assumption) _ (by omega)) (by omega) ?_) | (refine Ints.ixI (by assumption) (by omega) ?_) | (refine Mat.ixI (by assumption) (by omega) ?_) | (refine Ints.ixI (Mat.row (by assumption) _ (by omega)) (by omega) ?_) | (refine Ints.ld (by assumption) (by omega) ?_) | (refine Mat.ld (by assumption) (by omega) ?_) | (refine Ints.ld (Mat.row (by assumption) _ (by omega)) (by omega) ?_) | (refine At.ld (by assumption) rfl ?_) | (refine At.ldN (by assumption) rfl ?_) | (refine Prs.ln (by assumption) ?_) | (refine Trs.ln (by assumption) ?_) | (refine Prs.ix (by assumption) (by omega) ?_) | (refine Trs.ix (by assumption) (by omega) ?_) | (refine Prs.ldN (by assumption) (by omega) ?_) | (refine Trs.ldN (by assumption) (by omega) ?_) | (refine At.ldN (Blk.at (by assumption)) rfl ?_) | (refine At.ld (Blk.at (by assumption)) rfl ?_) | (refine IxA.mk (by omega) ?_) | (refine Sl.ln (Own.sl (by assumption)) ?_) | (refine Ints.ix (Own.sl (by assumption)) (by omega) ?_) | (refine Ints.ixI (Own.sl (by assumption)) (by omega) ?_) | (refine Ints.ld (Own.sl (by assumption)) (by omega) ?_))
          refine ⟨_, (by omega : rr.length - (c + 1) < rr.length - c), rfl, c + 1, by omega, rfl, rfl, no_step hno (fun l h1 h2 => hl l (by omega) ((hcd l h1).2 h2)), HS⟩
      · obtain rfl : c = rr.length := by omega
        repeat' ((conv => whnf); first | (refine Dr.quiet tyOk (by kernel_rfl) ?_) | (refine Rng.mk (by omega) ?_) | (refine Split.pos (by omega) ?_) | (refine Split.neg (by omega) ?_) | (refine Split.mk (fun h => ?_) (fun h => ?_)) | (refine Need.mk (by omega) ?_) | (refine Ints.ln (by assumption) ?_) | (refine Mat.ln (by assumption) ?_) | (refine Ints.ln (Mat.row (by assumption) _ (by omega)) ?_) | (refine Ints.ix (by assumption) (by omega) ?_) | (refine Mat.ix (by assumption) (by omega) ?_) | (refine Ints.ix (Mat.row (by assumption) _ (by omega)) (by omega) ?_) | (refine Ints.ix (c := 0) (by assumption) (by omega) ?_) | (refine Mat.ix (c := 0) (by assumption) (by omega) ?_) | (refine Ints.ix (c := 0) (Mat.row (by assumption) _ (by omega)) (by omega) ?_) | (refine Ints.ixI (by assumption) (by omega) ?_) | (refine Mat.ixI (by assumption) (by omega) ?_) | (refine Ints.ixI (Mat.row (by assumption) _ (by omega)) (by omega) ?_) | (refine Ints.ld (by assumption) (by omega) ?_) | (refine Mat.ld (by assumption) (by omega) ?_) | (refine Ints.ld (Mat.row (by assumption) _ (by omega)) (by omega) ?_) | (refine At.ld (by assumption) rfl ?_) | (refine At.ldN (by assumption) rfl ?_) | (refine Prs.ln (by assumption) ?_) | (refine Trs.ln (by assumption) ?_) | (refine Prs.ix (by assumption) (by omega) ?_) | (refine Trs.ix (by assumption) (by omega) ?_) | (refine Prs.ldN (by assumption) (by omega) ?_) | (refine Trs.ldN (by assumption) (by omega) ?_) | (refine At.ldN (Blk.at (by assumption)) rfl ?_) | (refine At.ld (Blk.at (by assumption)) rfl ?_) | (refine IxA.mk (by omega) ?_) | (refine Sl.ln (Own.sl (by assumption)) ?_) | (refine Ints.ix (Own.sl (by assumption)) (by omega) ?_) | (refine Ints.ixI (Own.sl (by assumption)) (by omega) ?_) | (refine Ints.ld (Own.sl (by assumption)) (by omega) ?_))
        exact ⟨HS.ex, .inr ⟨rfl, fs_none hk (by omega) hno⟩⟩

noncomputable def bA (rr : List (List Int)) : List Int := if skE rr = 0 then bst rr else []
noncomputable def bL (rr : List (List Int)) : Int := if skE rr = 0 then lvl rr (bst rr) else 0
theorem sbest_rc {w : World} {vv : Value} {vs : List Value} {rr : List (List Int)} (Hv : Mat w vv vs rr) :
    RC Try.prog 11 [vv] w NoB (fun u w' => ∃ v, u = .tuple #[v, .int .i64 (bL rr), .int .i64 (skE rr)] ∧ OI w' v (bA rr) ∧ (skE rr = 0 → IsBest rr (bst rr))) := by
  refine RC.mk tyOk Try.func11 rfl (by kernel_rfl) fun w1 E1 => ?_
  replace Hv := Hv.ext E1
  have EE := Ext.refl w1
  have hcv := (Sl.cells Hv.top).1
  refine Bx.one hcv fun b2 w2 E2 hb2 Hb _ => ?_
  replace Hv := Hv.ext E2
  replace EE := EE.ext E2
  have ck := gsk_pc Hv
  by_cases hE : skE rr = 0
  · obtain ⟨mm, hmm⟩ : ∃ mm, mm = (rr.getD 0 []).length := ⟨_, rfl⟩
    have hk := sd_of hE
    rw [← hmm] at hk
    have hn1 := hk.n1
    have hm16 := hk.m16
    have hm0 := hk.m0
    rw [hE] at ck
    repeat' ((conv => whnf); first | (refine Dr.quiet tyOk (by kernel_rfl) ?_) | (refine At.ld (i := 0) Hb rfl ?_) | (refine VC.pure ck ?_) | (refine Mat.ld (c := 0) Hv (by omega) ?_) | (refine Rng.mk (by omega) ?_) | (refine Split.pos (by omega) ?_) | (refine Split.neg (by omega) ?_) | (refine Split.mk (fun h => ?_) (fun h => ?_)) | (refine Need.mk (by omega) ?_) | (refine Ints.ln (by assumption) ?_) | (refine Mat.ln (by assumption) ?_) | (refine Ints.ln (Mat.row (by assumption) _ (by omega)) ?_) | (refine Ints.ix (by assumption) (by omega) ?_) | (refine Mat.ix (by assumption) (by omega) ?_) | (refine Ints.ix (Mat.row (by assumption) _ (by omega)) (by omega) ?_) | (refine Ints.ix (c := 0) (by assumption) (by omega) ?_) | (refine Mat.ix (c := 0) (by assumption) (by omega) ?_) | (refine Ints.ix (c := 0) (Mat.row (by assumption) _ (by omega)) (by omega) ?_) | (refine Ints.ixI (by assumption) (by omega) ?_) | (refine Mat.ixI (by assumption) (by omega) ?_) | (refine Ints.ixI (Mat.row (by assumption) _ (by omega)) (by omega) ?_) | (refine Ints.ld (by assumption) (by omega) ?_) | (refine Mat.ld (by assumption) (by omega) ?_) | (refine Ints.ld (Mat.row (by assumption) _ (by omega)) (by omega) ?_) | (refine At.ld (by assumption) rfl ?_) | (refine At.ldN (by assumption) rfl ?_) | (refine Prs.ln (by assumption) ?_) | (refine Trs.ln (by assumption) ?_) | (refine Prs.ix (by assumption) (by omega) ?_) | (refine Trs.ix (by assumption) (by omega) ?_) | (refine Prs.ldN (by assumption) (by omega) ?_) | (refine Trs.ldN (by assumption) (by omega) ?_) | (refine At.ldN (Blk.at (by assumption)) rfl ?_) | (refine At.ld (Blk.at (by assumption)) rfl ?_) | (refine IxA.mk (by omega) ?_) | (refine Sl.ln (Own.sl (by assumption)) ?_) | (refine Ints.ix (Own.sl (by assumption)) (by omega) ?_) | (refine Ints.ixI (Own.sl (by assumption)) (by omega) ?_) | (refine Ints.ld (Own.sl (by assumption)) (by omega) ?_))
    have Hv__1 := Hv
    have EE__1 := EE
    have Hb__1 := Hb
    conv => whnf
    refine VE.alloc eInt fun mb w4 E4 hb_mb Hm => ?_
    replace Hv := Hv.ext E4
    replace EE := EE.ext E4
    replace Hb := Hb.ext E4
    have EL1 := E4
    repeat' ((conv => whnf); first | (refine Dr.quiet tyOk (by kernel_rfl) ?_) | (refine Rng.mk (by omega) ?_) | (refine Split.pos (by omega) ?_) | (refine Split.neg (by omega) ?_) | (refine Split.mk (fun h => ?_) (fun h => ?_)) | (refine Need.mk (by omega) ?_) | (refine Ints.ln (by assumption) ?_) | (refine Mat.ln (by assumption) ?_) | (refine Ints.ln (Mat.row (by assumption) _ (by omega)) ?_) | (refine Ints.ix (by assumption) (by omega) ?_) | (refine Mat.ix (by assumption) (by omega) ?_) | (refine Ints.ix (Mat.row (by assumption) _ (by omega)) (by omega) ?_) | (refine Ints.ix (c := 0) (by assumption) (by omega) ?_) | (refine Mat.ix (c := 0) (by assumption) (by omega) ?_) | (refine Ints.ix (c := 0) (Mat.row (by assumption) _ (by omega)) (by omega) ?_) | (refine Ints.ixI (by assumption) (by omega) ?_) | (refine Mat.ixI (by assumption) (by omega) ?_) | (refine Ints.ixI (Mat.row (by assumption) _ (by omega)) (by omega) ?_) | (refine Ints.ld (by assumption) (by omega) ?_) | (refine Mat.ld (by assumption) (by omega) ?_) | (refine Ints.ld (Mat.row (by assumption) _ (by omega)) (by omega) ?_) | (refine At.ld (by assumption) rfl ?_) | (refine At.ldN (by assumption) rfl ?_) | (refine Prs.ln (by assumption) ?_) | (refine Trs.ln (by assumption) ?_) | (refine Prs.ix (by assumption) (by omega) ?_) | (refine Trs.ix (by assumption) (by omega) ?_) | (refine Prs.ldN (by assumption) (by omega) ?_) | (refine Trs.ldN (by assumption) (by omega) ?_) | (refine At.ldN (Blk.at (by assumption)) rfl ?_) | (refine At.ld (Blk.at (by assumption)) rfl ?_) | (refine IxA.mk (by omega) ?_) | (refine Sl.ln (Own.sl (by assumption)) ?_) | (refine Ints.ix (Own.sl (by assumption)) (by omega) ?_) | (refine Ints.ixI (Own.sl (by assumption)) (by omega) ?_) | (refine Ints.ld (Own.sl (by assumption)) (by omega) ?_))
    refine Blk.set0 Hm (by decide) rfl fun w5 G5 Hm' => ?_
    have E5 : Ext w2 w5 := EL1.new G5 fun i hi hk => by omega
    replace Hm := Hm'
    replace Hv := Hv__1.ext E5
    replace EE := EE__1.ext E5
    replace Hb := Hb__1.ext E5
    replace EL1 := E5
    replace Hm : Blk w5 mb 3 [.int .i64 (mm : Int)] := by rw [hmm]; exact Hm
    repeat' ((conv => whnf); first | (refine Dr.quiet tyOk (by kernel_rfl) ?_) | (refine Rng.mk (by omega) ?_) | (refine Split.pos (by omega) ?_) | (refine Split.neg (by omega) ?_) | (refine Split.mk (fun h => ?_) (fun h => ?_)) | (refine Need.mk (by omega) ?_) | (refine Ints.ln (by assumption) ?_) | (refine Mat.ln (by assumption) ?_) | (refine Ints.ln (Mat.row (by assumption) _ (by omega)) ?_) | (refine Ints.ix (by assumption) (by omega) ?_) | (refine Mat.ix (by assumption) (by omega) ?_) | (refine Ints.ix (Mat.row (by assumption) _ (by omega)) (by omega) ?_) | (refine Ints.ix (c := 0) (by assumption) (by omega) ?_) | (refine Mat.ix (c := 0) (by assumption) (by omega) ?_) | (refine Ints.ix (c := 0) (Mat.row (by assumption) _ (by omega)) (by omega) ?_) | (refine Ints.ixI (by assumption) (by omega) ?_) | (refine Mat.ixI (by assumption) (by omega) ?_) | (refine Ints.ixI (Mat.row (by assumption) _ (by omega)) (by omega) ?_) | (refine Ints.ld (by assumption) (by omega) ?_) | (refine Mat.ld (by assumption) (by omega) ?_) | (refine Ints.ld (Mat.row (by assumption) _ (by omega)) (by omega) ?_) | (refine At.ld (by assumption) rfl ?_) | (refine At.ldN (by assumption) rfl ?_) | (refine Prs.ln (by assumption) ?_) | (refine Trs.ln (by assumption) ?_) | (refine Prs.ix (by assumption) (by omega) ?_) | (refine Trs.ix (by assumption) (by omega) ?_) | (refine Prs.ldN (by assumption) (by omega) ?_) | (refine Trs.ldN (by assumption) (by omega) ?_) | (refine At.ldN (Blk.at (by assumption)) rfl ?_) | (refine At.ld (Blk.at (by assumption)) rfl ?_) | (refine IxA.mk (by omega) ?_) | (refine Sl.ln (Own.sl (by assumption)) ?_) | (refine Ints.ix (Own.sl (by assumption)) (by omega) ?_) | (refine Ints.ixI (Own.sl (by assumption)) (by omega) ?_) | (refine Ints.ld (Own.sl (by assumption)) (by omega) ?_))
    conv => whnf
    refine VC.rc (search_rc (p := pT rr mm) (pT_mono hk) (fun w' hx k hk1 => bclo_rc (Hv.ext hx) hk (Hb.ext hx) (Hm.at.ext hx) hk1)) ?_
    rintro _ w6 E6 ⟨i, rfl, hi, h1, h2⟩
    replace Hv := Hv.ext E6
    replace EE := EE.ext E6
    replace Hb := Hb.ext E6
    replace EL1 := EL1.ext E6
    replace Hm := Hm.ext E6
    obtain ⟨h16, ⟨a0, ha0, hl0⟩, hmx⟩ := best_of hk hi h1 h2
    have e : (i : Int) + 1 - 1 = (i : Int) := by omega
    repeat' ((conv => whnf); first | (refine Dr.quiet tyOk (by kernel_rfl) ?_) | (refine At.ld (i := 0) Hb rfl ?_) | (refine Rng.mk (by omega) ?_) | (refine Split.pos (by omega) ?_) | (refine Split.neg (by omega) ?_) | (refine Split.mk (fun h => ?_) (fun h => ?_)) | (refine Need.mk (by omega) ?_) | (refine Ints.ln (by assumption) ?_) | (refine Mat.ln (by assumption) ?_) | (refine Ints.ln (Mat.row (by assumption) _ (by omega)) ?_) | (refine Ints.ix (by assumption) (by omega) ?_) | (refine Mat.ix (by assumption) (by omega) ?_) | (refine Ints.ix (Mat.row (by assumption) _ (by omega)) (by omega) ?_) | (refine Ints.ix (c := 0) (by assumption) (by omega) ?_) | (refine Mat.ix (c := 0) (by assumption) (by omega) ?_) | (refine Ints.ix (c := 0) (Mat.row (by assumption) _ (by omega)) (by omega) ?_) | (refine Ints.ixI (by assumption) (by omega) ?_) | (refine Mat.ixI (by assumption) (by omega) ?_) | (refine Ints.ixI (Mat.row (by assumption) _ (by omega)) (by omega) ?_) | (refine Ints.ld (by assumption) (by omega) ?_) | (refine Mat.ld (by assumption) (by omega) ?_) | (refine Ints.ld (Mat.row (by assumption) _ (by omega)) (by omega) ?_) | (refine At.ld (by assumption) rfl ?_) | (refine At.ldN (by assumption) rfl ?_) | (refine Prs.ln (by assumption) ?_) | (refine Trs.ln (by assumption) ?_) | (refine Prs.ix (by assumption) (by omega) ?_) | (refine Trs.ix (by assumption) (by omega) ?_) | (refine Prs.ldN (by assumption) (by omega) ?_) | (refine Trs.ldN (by assumption) (by omega) ?_) | (refine At.ldN (Blk.at (by assumption)) rfl ?_) | (refine At.ld (Blk.at (by assumption)) rfl ?_) | (refine IxA.mk (by omega) ?_) | (refine Sl.ln (Own.sl (by assumption)) ?_) | (refine Ints.ix (Own.sl (by assumption)) (by omega) ?_) | (refine Ints.ixI (Own.sl (by assumption)) (by omega) ?_) | (refine Ints.ld (Own.sl (by assumption)) (by omega) ?_))
    rw [e]
    conv => whnf
    refine VC.rc (sfirst_rc (L := (i : Int)) Hv hk (by omega)) ?_
    rintro _ w7 E7 hf
    replace Hv := Hv.ext E7
    replace EE := EE.ext E7
    replace Hb := Hb.ext E7
    replace EL1 := EL1.ext E7
    replace Hm := Hm.ext E7
    rcases hf with ⟨lv, l, rfl, Hl, hd, hl, hfst⟩ | ⟨rfl, hno⟩
    · have hlv : lvl rr l = (i : Int) := by have := hmx l hd; omega
      have hB : IsBest rr l := ⟨hd, fun b hb => ⟨by rw [hlv]; exact hmx b hb, fun h => hfst b hb (by omega)⟩⟩
      have hb := bst_is hB
      repeat' ((conv => whnf); first | (refine Dr.quiet tyOk (by kernel_rfl) ?_) | (refine Rng.mk (by omega) ?_) | (refine Split.pos (by omega) ?_) | (refine Split.neg (by omega) ?_) | (refine Split.mk (fun h => ?_) (fun h => ?_)) | (refine Need.mk (by omega) ?_) | (refine Ints.ln (by assumption) ?_) | (refine Mat.ln (by assumption) ?_) | (refine Ints.ln (Mat.row (by assumption) _ (by omega)) ?_) | (refine Ints.ix (by assumption) (by omega) ?_) | (refine Mat.ix (by assumption) (by omega) ?_) | (refine Ints.ix (Mat.row (by assumption) _ (by omega)) (by omega) ?_) | (refine Ints.ix (c := 0) (by assumption) (by omega) ?_) | (refine Mat.ix (c := 0) (by assumption) (by omega) ?_) | (refine Ints.ix (c := 0) (Mat.row (by assumption) _ (by omega)) (by omega) ?_) | (refine Ints.ixI (by assumption) (by omega) ?_) | (refine Mat.ixI (by assumption) (by omega) ?_) | (refine Ints.ixI (Mat.row (by assumption) _ (by omega)) (by omega) ?_) | (refine Ints.ld (by assumption) (by omega) ?_) | (refine Mat.ld (by assumption) (by omega) ?_) | (refine Ints.ld (Mat.row (by assumption) _ (by omega)) (by omega) ?_) | (refine At.ld (by assumption) rfl ?_) | (refine At.ldN (by assumption) rfl ?_) | (refine Prs.ln (by assumption) ?_) | (refine Trs.ln (by assumption) ?_) | (refine Prs.ix (by assumption) (by omega) ?_) | (refine Trs.ix (by assumption) (by omega) ?_) | (refine Prs.ldN (by assumption) (by omega) ?_) | (refine Trs.ldN (by assumption) (by omega) ?_) | (refine At.ldN (Blk.at (by assumption)) rfl ?_) | (refine At.ld (Blk.at (by assumption)) rfl ?_) | (refine IxA.mk (by omega) ?_) | (refine Sl.ln (Own.sl (by assumption)) ?_) | (refine Ints.ix (Own.sl (by assumption)) (by omega) ?_) | (refine Ints.ixI (Own.sl (by assumption)) (by omega) ?_) | (refine Ints.ld (Own.sl (by assumption)) (by omega) ?_))
      refine ⟨EE, lv, by rw [e, bL, if_pos hE, hb, hlv, hE], by rw [bA, if_pos hE, hb]; exact Hl, fun _ => by rw [hb]; exact hB⟩
    · exact absurd hl0 (hno a0 ha0)
  · rw [bL, if_neg hE, bA, if_neg hE]
    repeat' ((conv => whnf); first | (refine Dr.quiet tyOk (by kernel_rfl) ?_) | (refine At.ld (i := 0) Hb rfl ?_) | (refine VC.pure ck ?_) | (refine Rng.mk (by omega) ?_) | (refine Split.pos (by omega) ?_) | (refine Split.neg (by omega) ?_) | (refine Split.mk (fun h => ?_) (fun h => ?_)) | (refine Need.mk (by omega) ?_) | (refine Ints.ln (by assumption) ?_) | (refine Mat.ln (by assumption) ?_) | (refine Ints.ln (Mat.row (by assumption) _ (by omega)) ?_) | (refine Ints.ix (by assumption) (by omega) ?_) | (refine Mat.ix (by assumption) (by omega) ?_) | (refine Ints.ix (Mat.row (by assumption) _ (by omega)) (by omega) ?_) | (refine Ints.ix (c := 0) (by assumption) (by omega) ?_) | (refine Mat.ix (c := 0) (by assumption) (by omega) ?_) | (refine Ints.ix (c := 0) (Mat.row (by assumption) _ (by omega)) (by omega) ?_) | (refine Ints.ixI (by assumption) (by omega) ?_) | (refine Mat.ixI (by assumption) (by omega) ?_) | (refine Ints.ixI (Mat.row (by assumption) _ (by omega)) (by omega) ?_) | (refine Ints.ld (by assumption) (by omega) ?_) | (refine Mat.ld (by assumption) (by omega) ?_) | (refine Ints.ld (Mat.row (by assumption) _ (by omega)) (by omega) ?_) | (refine At.ld (by assumption) rfl ?_) | (refine At.ldN (by assumption) rfl ?_) | (refine Prs.ln (by assumption) ?_) | (refine Trs.ln (by assumption) ?_) | (refine Prs.ix (by assumption) (by omega) ?_) | (refine Trs.ix (by assumption) (by omega) ?_) | (refine Prs.ldN (by assumption) (by omega) ?_) | (refine Trs.ldN (by assumption) (by omega) ?_) | (refine At.ldN (Blk.at (by assumption)) rfl ?_) | (refine At.ld (Blk.at (by assumption)) rfl ?_) | (refine IxA.mk (by omega) ?_) | (refine Sl.ln (Own.sl (by assumption)) ?_) | (refine Ints.ix (Own.sl (by assumption)) (by omega) ?_) | (refine Ints.ixI (Own.sl (by assumption)) (by omega) ?_) | (refine Ints.ld (Own.sl (by assumption)) (by omega) ?_))
    exact ⟨EE, _, rfl, Own.nil, fun h => absurd h hE⟩
end Go.Proofs.Ytclbiabiiknolaa
set_option linter.unusedVariables false
set_option linter.unusedSimpArgs false
namespace Go.Proofs.Ytclbiabiiknolaa
open Go.Eng
set_option maxRecDepth 100000
set_option maxHeartbeats 4000000

/-! ### by evaluation -/
def lexB : List Int → List Int → Bool
  | x :: l, y :: t => decide (x < y) || (decide (x = y) && lexB l t)
  | _, _ => false
theorem lexB_iff : ∀ {a b : List Int}, lexB a b = true ↔ lexlt a b
  | [], b => by cases b <;> simp [lexB, lexlt]
  | x :: l, [] => by simp [lexB, lexlt]
  | x :: l, y :: t => by simp [lexB, lexlt, lexB_iff (a := l) (b := t)]
def bestB (rr : List (List Int)) (m : Nat) (a : List Int) : Bool := (List.range (rr.length ^ m)).all fun k => decide (lvl rr (digs rr.length m k) < lvl rr a) || (decide (lvl rr (digs rr.length m k) = lvl rr a) && !lexB (digs rr.length m k) a)
theorem el_mem {l : List Int} {j : Nat} (hj : j < l.length) : l.getD j 0 ∈ l := by
  rw [List.getD_eq_getElem?_getD, List.getElem?_eq_getElem hj]; exact List.getElem_mem hj
theorem isBest_of {rr : List (List Int)} {m : Nat} {a : List Int} (hk : Sd rr m) (hd : divn rr a) (h : bestB rr m a = true) : IsBest rr a := by
  refine ⟨hd, fun b hb => ?_⟩
  obtain ⟨h1, h2, _⟩ := divn_iff.1 hb
  rw [hk.m0] at h1
  obtain ⟨k, hk1, hk2⟩ := digs_all hk.n1 (l := b) (fun i hi => h2 _ (el_mem hi))
  rw [h1] at hk1 hk2
  have h3 := List.all_eq_true.1 h k (List.mem_range.2 hk1)
  rw [hk2] at h3
  simp only [Bool.or_eq_true, Bool.and_eq_true, decide_eq_true_eq, Bool.not_eq_true'] at h3
  rcases h3 with h3 | ⟨h3, h4⟩
  · exact ⟨by omega, fun e => by omega⟩
  · exact ⟨by omega, fun _ hl => by rw [lexB_iff.2 hl] at h4; cases h4⟩
def skB (rr : List (List Int)) : Bool := decide (rr.length ≤ 6) && decide (rr.length ≠ 0) && rr.all fun r => decide (r.length ≤ 16) && decide (r.length = (rr.getD 0 []).length) && r.all fun x => decide (0 ≤ x) && decide (x ≤ 1000)
theorem row_mem {rr : List (List Int)} {i : Nat} (hi : i < rr.length) : rr.getD i [] ∈ rr := by
  rw [List.getD_eq_getElem?_getD, List.getElem?_eq_getElem hi]; exact List.getElem_mem hi
theorem skE_of {rr : List (List Int)} (h : skB rr = true) : skE rr = 0 := by
  unfold skB at h
  simp only [Bool.and_eq_true, decide_eq_true_eq] at h
  obtain ⟨⟨h1, h2⟩, h3⟩ := h
  have h4 : ∀ i, i < rr.length → (rr.getD i []).length ≤ 16 ∧ (rr.getD i []).length = (rr.getD 0 []).length ∧ ∀ j, j < (rr.getD i []).length → 0 ≤ val rr i j ∧ val rr i j ≤ 1000 := fun i hi => by
    have h5 := List.all_eq_true.1 h3 _ (row_mem hi)
    simp only [Bool.and_eq_true, decide_eq_true_eq] at h5
    refine ⟨h5.1.1, h5.1.2, fun j hj => ?_⟩
    have h6 := List.all_eq_true.1 h5.2 ((rr.getD i []).getD j 0) (el_mem hj)
    simp only [Bool.and_eq_true, decide_eq_true_eq] at h6
    exact h6
  refine skE_ok ?_ ?_
  · rintro (h | ⟨i, hi, h⟩)
    · omega
    · have := (h4 i hi).1; omega
  · rintro (h | ⟨i, hi, h | ⟨j, hj, h⟩⟩)
    · omega
    · exact h (h4 i hi).2.1
    · have := (h4 i hi).2.2 j hj; omega
theorem tE_ok {rr : List (List Int)} {L : Int} (h : skE rr = 0) (hL : 1 ≤ L ∧ L ≤ 16001) : tE rr L = 0 := by unfold tE; rw [if_pos h, if_pos hL]
theorem tL_ok {rr : List (List Int)} {L : Int} (h : skE rr = 0) (hL : 1 ≤ L ∧ L ≤ 16001) : tL rr L = tabl rr L := by unfold tL; rw [if_pos ⟨h, hL⟩]
theorem bA_ok {rr : List (List Int)} (h : skE rr = 0) : bA rr = bst rr := by unfold bA; rw [if_pos h]
theorem bL_ok {rr : List (List Int)} (h : skE rr = 0) : bL rr = lvl rr (bst rr) := by unfold bL; rw [if_pos h]
def exS : List (List Int) := [[1, 2, 3], [3, 2, 1]]
theorem exS_ok : skE exS = 0 := skE_of (by decide +kernel)
theorem exS_sd : Sd exS 3 := sd_of exS_ok
theorem exS_div : divn exS [1, 0, 0] := divn_iff.2 ⟨rfl, by decide, by simp [nr]⟩
theorem exS_bst : bst exS = [1, 0, 0] := bst_is (isBest_of exS_sd exS_div (by decide +kernel))
theorem exS_acc : accP exS [1, 0, 0] [0, 3, 2, 4] := ⟨exS_div, by decide +kernel, by decide +kernel⟩
theorem example31_rc {w : World} : RC Try.prog 26 [] w NoB (fun u w' => ∃ us, OM 0 w' u us exS) := by
  refine RC.mk tyOk Try.func26 rfl (by kernel_rfl) fun w1 E1 => ?_
  have EE := Ext.refl w1
  conv => whnf
  refine VE.litI [1, 2, 3] Try.underlying24 eInt (by decide) fun mv_0 w2 E2 HM_0 _ => ?_
  replace HM_0 := HM_0 0 (Nat.zero_le _)
  replace EE := EE.ext E2
  conv => whnf
  refine VE.litI [3, 2, 1] Try.underlying24 eInt (by decide) fun mv_1 w3 E3 HM_1 _ => ?_
  replace HM_1 := HM_1 0 (Nat.zero_le _)
  replace EE := EE.ext E3
  replace HM_0 := HM_0.ext E3
  conv => whnf
  refine VE.litV [mv_0, mv_1] Try.underlying22 eRow (by intro v hv; simp at hv; rcases hv with rfl | rfl <;> first | exact (Sl.cells (Own.sl HM_0)).1 | exact (Sl.cells (Own.sl HM_1)).1) (by simp) fun mv w4 E4 HM _ => ?_
  replace EE := EE.ext E4
  replace HM_0 := HM_0.ext E4
  replace HM_1 := HM_1.ext E4
  replace HM : OM 0 w4 mv [mv_0, mv_1] [[1, 2, 3], [3, 2, 1]] := by
    refine ⟨HM _ (Nat.zero_le _), fun i hi => ?_⟩
    match i, hi with
    | 0, _ => exact HM_0
    | 1, _ => exact HM_1
  repeat' ((conv => whnf); first | (refine Dr.quiet tyOk (by kernel_rfl) ?_) | (refine Rng.mk (by omega) ?_) | (refine Split.pos (by omega) ?_) | (refine Split.neg (by omega) ?_) | (refine Split.mk (fun h => ?_) (fun h => ?_)) | (refine Need.mk (by omega) ?_) | (refine Ints.ln (by assumption) ?_) | (refine Mat.ln (by assumption) ?_) | (refine Ints.ln (Mat.row (by assumption) _ (by omega)) ?_) | (refine Ints.ix (by assumption) (by omega) ?_) | (refine Mat.ix (by assumption) (by omega) ?_) | (refine Ints.ix (Mat.row (by assumption) _ (by omega)) (by omega) ?_) | (refine Ints.ix (c := 0) (by assumption) (by omega) ?_) | (refine Mat.ix (c := 0) (by assumption) (by omega) ?_) | (refine Ints.ix (c := 0) (Mat.row (by assumption) _ (by omega)) (by omega) ?_) | (refine Ints.ixI (by assumption) (by omega) ?_) | (refine Mat.ixI (by assumption) (by omega) ?_) | (refine Ints.ixI (Mat.row (by assumption) _ (by omega)) (by omega) ?_) | (refine Ints.ld (by assumption) (by omega) ?_) | (refine Mat.ld (by assumption) (by omega) ?_) | (refine Ints.ld (Mat.row (by assumption) _ (by omega)) (by omega) ?_) | (refine At.ld (by assumption) rfl ?_) | (refine At.ldN (by assumption) rfl ?_) | (refine Prs.ln (by assumption) ?_) | (refine Trs.ln (by assumption) ?_) | (refine Prs.ix (by assumption) (by omega) ?_) | (refine Trs.ix (by assumption) (by omega) ?_) | (refine Prs.ldN (by assumption) (by omega) ?_) | (refine Trs.ldN (by assumption) (by omega) ?_) | (refine At.ldN (Blk.at (by assumption)) rfl ?_) | (refine At.ld (Blk.at (by assumption)) rfl ?_) | (refine IxA.mk (by omega) ?_) | (refine Sl.ln (Own.sl (by assumption)) ?_) | (refine Ints.ix (Own.sl (by assumption)) (by omega) ?_) | (refine Ints.ixI (Own.sl (by assumption)) (by omega) ?_) | (refine Ints.ld (Own.sl (by assumption)) (by omega) ?_))
  exact ⟨EE, _, HM⟩
theorem alive31_pc {w : World} : PC Try.prog 24 [] w (.bool true) := by
  refine PC.mk tyOk Try.func24 rfl (by kernel_rfl) fun w1 E1 => ?_
  have EE := Ext.refl w1
  conv => whnf
  refine VC.rc (example31_rc) ?_
  rintro _ w2 E2 ⟨_, HM⟩
  replace EE := EE.ext E2
  conv => whnf
  refine VC.rc (sbest_rc HM.mat) ?_
  rintro _ w3 E3 ⟨av, rfl, HA, _⟩
  replace EE := EE.ext E3
  replace HM := HM.ext E3
  rw [bA_ok exS_ok, exS_bst] at HA
  rw [bL_ok exS_ok, exS_bst, exS_ok, show lvl exS [1, 0, 0] = 3 by decide +kernel]
  repeat' ((conv => whnf); first | (refine Dr.quiet tyOk (by kernel_rfl) ?_) | (refine Rng.mk (by omega) ?_) | (refine Split.pos (by omega) ?_) | (refine Split.neg (by omega) ?_) | (refine Split.mk (fun h => ?_) (fun h => ?_)) | (refine Need.mk (by omega) ?_) | (refine Ints.ln (by assumption) ?_) | (refine Mat.ln (by assumption) ?_) | (refine Ints.ln (Mat.row (by assumption) _ (by omega)) ?_) | (refine Ints.ix (by assumption) (by omega) ?_) | (refine Mat.ix (by assumption) (by omega) ?_) | (refine Ints.ix (Mat.row (by assumption) _ (by omega)) (by omega) ?_) | (refine Ints.ix (c := 0) (by assumption) (by omega) ?_) | (refine Mat.ix (c := 0) (by assumption) (by omega) ?_) | (refine Ints.ix (c := 0) (Mat.row (by assumption) _ (by omega)) (by omega) ?_) | (refine Ints.ixI (by assumption) (by omega) ?_) | (refine Mat.ixI (by assumption) (by omega) ?_) | (refine Ints.ixI (Mat.row (by assumption) _ (by omega)) (by omega) ?_) | (refine Ints.ld (by assumption) (by omega) ?_) | (refine Mat.ld (by assumption) (by omega) ?_) | (refine Ints.ld (Mat.row (by assumption) _ (by omega)) (by omega) ?_) | (refine At.ld (by assumption) rfl ?_) | (refine At.ldN (by assumption) rfl ?_) | (refine Prs.ln (by assumption) ?_) | (refine Trs.ln (by assumption) ?_) | (refine Prs.ix (by assumption) (by omega) ?_) | (refine Trs.ix (by assumption) (by omega) ?_) | (refine Prs.ldN (by assumption) (by omega) ?_) | (refine Trs.ldN (by assumption) (by omega) ?_) | (refine At.ldN (Blk.at (by assumption)) rfl ?_) | (refine At.ld (Blk.at (by assumption)) rfl ?_) | (refine IxA.mk (by omega) ?_) | (refine Sl.ln (Own.sl (by assumption)) ?_) | (refine Ints.ix (Own.sl (by assumption)) (by omega) ?_) | (refine Ints.ixI (Own.sl (by assumption)) (by omega) ?_) | (refine Ints.ld (Own.sl (by assumption)) (by omega) ?_))
  conv => whnf
  refine VC.rc (example31_rc) ?_
  rintro _ w4 E4 ⟨_, HM⟩
  replace EE := EE.ext E4
  replace HA := HA.ext E4
  conv => whnf
  refine VC.rc (gtable_rc (L := 3) HM.mat) ?_
  rintro _ w5 E5 ⟨tv, rfl, HT⟩
  replace EE := EE.ext E5
  replace HA := HA.ext E5
  replace HM := HM.ext E5
  rw [tL_ok exS_ok (by omega), show tabl exS 3 = [0, 2, 1, 3] by decide +kernel] at HT
  rw [tE_ok exS_ok (by omega)]
  repeat' ((conv => whnf); first | (refine Dr.quiet tyOk (by kernel_rfl) ?_) | (refine Rng.mk (by omega) ?_) | (refine Split.pos (by omega) ?_) | (refine Split.neg (by omega) ?_) | (refine Split.mk (fun h => ?_) (fun h => ?_)) | (refine Need.mk (by omega) ?_) | (refine Ints.ln (by assumption) ?_) | (refine Mat.ln (by assumption) ?_) | (refine Ints.ln (Mat.row (by assumption) _ (by omega)) ?_) | (refine Ints.ix (by assumption) (by omega) ?_) | (refine Mat.ix (by assumption) (by omega) ?_) | (refine Ints.ix (Mat.row (by assumption) _ (by omega)) (by omega) ?_) | (refine Ints.ix (c := 0) (by assumption) (by omega) ?_) | (refine Mat.ix (c := 0) (by assumption) (by omega) ?_) | (refine Ints.ix (c := 0) (Mat.row (by assumption) _ (by omega)) (by omega) ?_) | (refine Ints.ixI (by assumption) (by omega) ?_) | (refine Mat.ixI (by assumption) (by omega) ?_) | (refine Ints.ixI (Mat.row (by assumption) _ (by omega)) (by omega) ?_) | (refine Ints.ld (by assumption) (by omega) ?_) | (refine Mat.ld (by assumption) (by omega) ?_) | (refine Ints.ld (Mat.row (by assumption) _ (by omega)) (by omega) ?_) | (refine At.ld (by assumption) rfl ?_) | (refine At.ldN (by assumption) rfl ?_) | (refine Prs.ln (by assumption) ?_) | (refine Trs.ln (by assumption) ?_) | (refine Prs.ix (by assumption) (by omega) ?_) | (refine Trs.ix (by assumption) (by omega) ?_) | (refine Prs.ldN (by assumption) (by omega) ?_) | (refine Trs.ldN (by assumption) (by omega) ?_) | (refine At.ldN (Blk.at (by assumption)) rfl ?_) | (refine At.ld (Blk.at (by assumption)) rfl ?_) | (refine IxA.mk (by omega) ?_) | (refine Sl.ln (Own.sl (by assumption)) ?_) | (refine Ints.ix (Own.sl (by assumption)) (by omega) ?_) | (refine Ints.ixI (Own.sl (by assumption)) (by omega) ?_) | (refine Ints.ld (Own.sl (by assumption)) (by omega) ?_))
  conv => whnf
  refine VC.rc (example31_rc) ?_
  rintro _ w6 E6 ⟨_, HM⟩
  replace EE := EE.ext E6
  replace HA := HA.ext E6
  replace HT := HT.ext E6
  conv => whnf
  refine VC.rc (gtable_rc (L := 4) HM.mat) ?_
  rintro _ w7 E7 ⟨uv, rfl, HU⟩
  replace EE := EE.ext E7
  replace HA := HA.ext E7
  replace HT := HT.ext E7
  replace HM := HM.ext E7
  rw [tL_ok exS_ok (by omega), show tabl exS 4 = [0, 3, 2, 4] by decide +kernel] at HU
  rw [tE_ok exS_ok (by omega)]
  repeat' ((conv => whnf); first | (refine Dr.quiet tyOk (by kernel_rfl) ?_) | (refine Rng.mk (by omega) ?_) | (refine Split.pos (by omega) ?_) | (refine Split.neg (by omega) ?_) | (refine Split.mk (fun h => ?_) (fun h => ?_)) | (refine Need.mk (by omega) ?_) | (refine Ints.ln (by assumption) ?_) | (refine Mat.ln (by assumption) ?_) | (refine Ints.ln (Mat.row (by assumption) _ (by omega)) ?_) | (refine Ints.ix (by assumption) (by omega) ?_) | (refine Mat.ix (by assumption) (by omega) ?_) | (refine Ints.ix (Mat.row (by assumption) _ (by omega)) (by omega) ?_) | (refine Ints.ix (c := 0) (by assumption) (by omega) ?_) | (refine Mat.ix (c := 0) (by assumption) (by omega) ?_) | (refine Ints.ix (c := 0) (Mat.row (by assumption) _ (by omega)) (by omega) ?_) | (refine Ints.ixI (by assumption) (by omega) ?_) | (refine Mat.ixI (by assumption) (by omega) ?_) | (refine Ints.ixI (Mat.row (by assumption) _ (by omega)) (by omega) ?_) | (refine Ints.ld (by assumption) (by omega) ?_) | (refine Mat.ld (by assumption) (by omega) ?_) | (refine Ints.ld (Mat.row (by assumption) _ (by omega)) (by omega) ?_) | (refine At.ld (by assumption) rfl ?_) | (refine At.ldN (by assumption) rfl ?_) | (refine Prs.ln (by assumption) ?_) | (refine Trs.ln (by assumption) ?_) | (refine Prs.ix (by assumption) (by omega) ?_) | (refine Trs.ix (by assumption) (by omega) ?_) | (refine Prs.ldN (by assumption) (by omega) ?_) | (refine Trs.ldN (by assumption) (by omega) ?_) | (refine At.ldN (Blk.at (by assumption)) rfl ?_) | (refine At.ld (Blk.at (by assumption)) rfl ?_) | (refine IxA.mk (by omega) ?_) | (refine Sl.ln (Own.sl (by assumption)) ?_) | (refine Ints.ix (Own.sl (by assumption)) (by omega) ?_) | (refine Ints.ixI (Own.sl (by assumption)) (by omega) ?_) | (refine Ints.ld (Own.sl (by assumption)) (by omega) ?_))
  conv => whnf
  refine VC.rc (example31_rc) ?_
  rintro _ w8 E8 ⟨_, HM⟩
  replace EE := EE.ext E8
  replace HA := HA.ext E8
  replace HT := HT.ext E8
  replace HU := HU.ext E8
  have c1 := gaccept_pc HM.mat (Own.sl HA) (Own.sl HU)
  rw [acB_ok exS_ok, tf_t (p := accP exS _ _) exS_acc, exS_ok] at c1
  repeat' ((conv => whnf); first | (refine Dr.quiet tyOk (by kernel_rfl) ?_) | (refine VC.pure c1 ?_) | (refine Rng.mk (by omega) ?_) | (refine Split.pos (by omega) ?_) | (refine Split.neg (by omega) ?_) | (refine Split.mk (fun h => ?_) (fun h => ?_)) | (refine Need.mk (by omega) ?_) | (refine Ints.ln (by assumption) ?_) | (refine Mat.ln (by assumption) ?_) | (refine Ints.ln (Mat.row (by assumption) _ (by omega)) ?_) | (refine Ints.ix (by assumption) (by omega) ?_) | (refine Mat.ix (by assumption) (by omega) ?_) | (refine Ints.ix (Mat.row (by assumption) _ (by omega)) (by omega) ?_) | (refine Ints.ix (c := 0) (by assumption) (by omega) ?_) | (refine Mat.ix (c := 0) (by assumption) (by omega) ?_) | (refine Ints.ix (c := 0) (Mat.row (by assumption) _ (by omega)) (by omega) ?_) | (refine Ints.ixI (by assumption) (by omega) ?_) | (refine Mat.ixI (by assumption) (by omega) ?_) | (refine Ints.ixI (Mat.row (by assumption) _ (by omega)) (by omega) ?_) | (refine Ints.ld (by assumption) (by omega) ?_) | (refine Mat.ld (by assumption) (by omega) ?_) | (refine Ints.ld (Mat.row (by assumption) _ (by omega)) (by omega) ?_) | (refine At.ld (by assumption) rfl ?_) | (refine At.ldN (by assumption) rfl ?_) | (refine Prs.ln (by assumption) ?_) | (refine Trs.ln (by assumption) ?_) | (refine Prs.ix (by assumption) (by omega) ?_) | (refine Trs.ix (by assumption) (by omega) ?_) | (refine Prs.ldN (by assumption) (by omega) ?_) | (refine Trs.ldN (by assumption) (by omega) ?_) | (refine At.ldN (Blk.at (by assumption)) rfl ?_) | (refine At.ld (Blk.at (by assumption)) rfl ?_) | (refine IxA.mk (by omega) ?_) | (refine Sl.ln (Own.sl (by assumption)) ?_) | (refine Ints.ix (Own.sl (by assumption)) (by omega) ?_) | (refine Ints.ixI (Own.sl (by assumption)) (by omega) ?_) | (refine Ints.ld (Own.sl (by assumption)) (by omega) ?_))
  conv => whnf
  refine VE.litI [1, 0, 0] Try.underlying24 eInt (by first | decide | simp) fun x1 w9 E9 X1 _ => ?_
  replace X1 := X1 0 (Nat.zero_le _)
  replace EE := EE.ext E9
  replace HA := HA.ext E9
  replace HT := HT.ext E9
  replace HU := HU.ext E9
  replace HM := HM.ext E9
  have a1 := sints_pc (Own.sl HA) (Own.sl X1)
  rw [tf_t rfl] at a1
  conv => whnf
  refine VC.pure a1 ?_
  repeat' ((conv => whnf); first | (refine Dr.quiet tyOk (by kernel_rfl) ?_) | (refine Rng.mk (by omega) ?_) | (refine Split.pos (by omega) ?_) | (refine Split.neg (by omega) ?_) | (refine Split.mk (fun h => ?_) (fun h => ?_)) | (refine Need.mk (by omega) ?_) | (refine Ints.ln (by assumption) ?_) | (refine Mat.ln (by assumption) ?_) | (refine Ints.ln (Mat.row (by assumption) _ (by omega)) ?_) | (refine Ints.ix (by assumption) (by omega) ?_) | (refine Mat.ix (by assumption) (by omega) ?_) | (refine Ints.ix (Mat.row (by assumption) _ (by omega)) (by omega) ?_) | (refine Ints.ix (c := 0) (by assumption) (by omega) ?_) | (refine Mat.ix (c := 0) (by assumption) (by omega) ?_) | (refine Ints.ix (c := 0) (Mat.row (by assumption) _ (by omega)) (by omega) ?_) | (refine Ints.ixI (by assumption) (by omega) ?_) | (refine Mat.ixI (by assumption) (by omega) ?_) | (refine Ints.ixI (Mat.row (by assumption) _ (by omega)) (by omega) ?_) | (refine Ints.ld (by assumption) (by omega) ?_) | (refine Mat.ld (by assumption) (by omega) ?_) | (refine Ints.ld (Mat.row (by assumption) _ (by omega)) (by omega) ?_) | (refine At.ld (by assumption) rfl ?_) | (refine At.ldN (by assumption) rfl ?_) | (refine Prs.ln (by assumption) ?_) | (refine Trs.ln (by assumption) ?_) | (refine Prs.ix (by assumption) (by omega) ?_) | (refine Trs.ix (by assumption) (by omega) ?_) | (refine Prs.ldN (by assumption) (by omega) ?_) | (refine Trs.ldN (by assumption) (by omega) ?_) | (refine At.ldN (Blk.at (by assumption)) rfl ?_) | (refine At.ld (Blk.at (by assumption)) rfl ?_) | (refine IxA.mk (by omega) ?_) | (refine Sl.ln (Own.sl (by assumption)) ?_) | (refine Ints.ix (Own.sl (by assumption)) (by omega) ?_) | (refine Ints.ixI (Own.sl (by assumption)) (by omega) ?_) | (refine Ints.ld (Own.sl (by assumption)) (by omega) ?_))
  conv => whnf
  refine VE.litI [0, 2, 1, 3] Try.underlying24 eInt (by first | decide | simp) fun x2 w10 E10 X2 _ => ?_
  replace X2 := X2 0 (Nat.zero_le _)
  replace EE := EE.ext E10
  replace HA := HA.ext E10
  replace HT := HT.ext E10
  replace HU := HU.ext E10
  replace HM := HM.ext E10
  replace X1 := X1.ext E10
  have a2 := sints_pc (Own.sl HT) (Own.sl X2)
  rw [tf_t rfl] at a2
  conv => whnf
  refine VC.pure a2 ?_
  repeat' ((conv => whnf); first | (refine Dr.quiet tyOk (by kernel_rfl) ?_) | (refine Rng.mk (by omega) ?_) | (refine Split.pos (by omega) ?_) | (refine Split.neg (by omega) ?_) | (refine Split.mk (fun h => ?_) (fun h => ?_)) | (refine Need.mk (by omega) ?_) | (refine Ints.ln (by assumption) ?_) | (refine Mat.ln (by assumption) ?_) | (refine Ints.ln (Mat.row (by assumption) _ (by omega)) ?_) | (refine Ints.ix (by assumption) (by omega) ?_) | (refine Mat.ix (by assumption) (by omega) ?_) | (refine Ints.ix (Mat.row (by assumption) _ (by omega)) (by omega) ?_) | (refine Ints.ix (c := 0) (by assumption) (by omega) ?_) | (refine Mat.ix (c := 0) (by assumption) (by omega) ?_) | (refine Ints.ix (c := 0) (Mat.row (by assumption) _ (by omega)) (by omega) ?_) | (refine Ints.ixI (by assumption) (by omega) ?_) | (refine Mat.ixI (by assumption) (by omega) ?_) | (refine Ints.ixI (Mat.row (by assumption) _ (by omega)) (by omega) ?_) | (refine Ints.ld (by assumption) (by omega) ?_) | (refine Mat.ld (by assumption) (by omega) ?_) | (refine Ints.ld (Mat.row (by assumption) _ (by omega)) (by omega) ?_) | (refine At.ld (by assumption) rfl ?_) | (refine At.ldN (by assumption) rfl ?_) | (refine Prs.ln (by assumption) ?_) | (refine Trs.ln (by assumption) ?_) | (refine Prs.ix (by assumption) (by omega) ?_) | (refine Trs.ix (by assumption) (by omega) ?_) | (refine Prs.ldN (by assumption) (by omega) ?_) | (refine Trs.ldN (by assumption) (by omega) ?_) | (refine At.ldN (Blk.at (by assumption)) rfl ?_) | (refine At.ld (Blk.at (by assumption)) rfl ?_) | (refine IxA.mk (by omega) ?_) | (refine Sl.ln (Own.sl (by assumption)) ?_) | (refine Ints.ix (Own.sl (by assumption)) (by omega) ?_) | (refine Ints.ixI (Own.sl (by assumption)) (by omega) ?_) | (refine Ints.ld (Own.sl (by assumption)) (by omega) ?_))
  conv => whnf
  refine VE.litI [0, 3, 2, 4] Try.underlying24 eInt (by first | decide | simp) fun x3 w11 E11 X3 _ => ?_
  replace X3 := X3 0 (Nat.zero_le _)
  replace EE := EE.ext E11
  replace HA := HA.ext E11
  replace HT := HT.ext E11
  replace HU := HU.ext E11
  replace HM := HM.ext E11
  replace X1 := X1.ext E11
  replace X2 := X2.ext E11
  have a3 := sints_pc (Own.sl HU) (Own.sl X3)
  rw [tf_t rfl] at a3
  conv => whnf
  refine VC.pure a3 ?_
  repeat' ((conv => whnf); first | (refine Dr.quiet tyOk (by kernel_rfl) ?_) | (refine Rng.mk (by omega) ?_) | (refine Split.pos (by omega) ?_) | (refine Split.neg (by omega) ?_) | (refine Split.mk (fun h => ?_) (fun h => ?_)) | (refine Need.mk (by omega) ?_) | (refine Ints.ln (by assumption) ?_) | (refine Mat.ln (by assumption) ?_) | (refine Ints.ln (Mat.row (by assumption) _ (by omega)) ?_) | (refine Ints.ix (by assumption) (by omega) ?_) | (refine Mat.ix (by assumption) (by omega) ?_) | (refine Ints.ix (Mat.row (by assumption) _ (by omega)) (by omega) ?_) | (refine Ints.ix (c := 0) (by assumption) (by omega) ?_) | (refine Mat.ix (c := 0) (by assumption) (by omega) ?_) | (refine Ints.ix (c := 0) (Mat.row (by assumption) _ (by omega)) (by omega) ?_) | (refine Ints.ixI (by assumption) (by omega) ?_) | (refine Mat.ixI (by assumption) (by omega) ?_) | (refine Ints.ixI (Mat.row (by assumption) _ (by omega)) (by omega) ?_) | (refine Ints.ld (by assumption) (by omega) ?_) | (refine Mat.ld (by assumption) (by omega) ?_) | (refine Ints.ld (Mat.row (by assumption) _ (by omega)) (by omega) ?_) | (refine At.ld (by assumption) rfl ?_) | (refine At.ldN (by assumption) rfl ?_) | (refine Prs.ln (by assumption) ?_) | (refine Trs.ln (by assumption) ?_) | (refine Prs.ix (by assumption) (by omega) ?_) | (refine Trs.ix (by assumption) (by omega) ?_) | (refine Prs.ldN (by assumption) (by omega) ?_) | (refine Trs.ldN (by assumption) (by omega) ?_) | (refine At.ldN (Blk.at (by assumption)) rfl ?_) | (refine At.ld (Blk.at (by assumption)) rfl ?_) | (refine IxA.mk (by omega) ?_) | (refine Sl.ln (Own.sl (by assumption)) ?_) | (refine Ints.ix (Own.sl (by assumption)) (by omega) ?_) | (refine Ints.ixI (Own.sl (by assumption)) (by omega) ?_) | (refine Ints.ld (Own.sl (by assumption)) (by omega) ?_))
  exact ⟨rfl, EE⟩
end Go.Proofs.Ytclbiabiiknolaa
