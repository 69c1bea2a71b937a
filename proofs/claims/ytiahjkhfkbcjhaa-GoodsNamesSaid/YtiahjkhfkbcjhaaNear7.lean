/- Shares of poor agents: plain functions and the reference's Share. -/
import Derived.Test.YtiahjkhfkbcjhaaNear6
set_option linter.unusedVariables false
set_option linter.unusedSimpArgs false
namespace Go.Proofs.Ytiahjkhfkbcjhaa
open Go.Eng
set_option maxRecDepth 100000
set_option maxHeartbeats 4000000

theorem worth_set {a r : List Int} {k x : Int} {q : Nat} (hq : q < a.length) : ∀ c : Nat, worth (a.set q x) r k c = worth a r k c + if q < c then ((if x = k then r.getD q 0 else 0) - (if a.getD q 0 = k then r.getD q 0 else 0)) else 0
  | 0 => by simp [worth]
  | c + 1 => by
    have ih := worth_set (r := r) (k := k) (x := x) hq c
    have hs := set_get (x := x) (k := c) hq
    simp only [worth, ih, hs]
    by_cases h1 : c = q
    · subst h1
      rw [if_pos rfl, if_neg (by omega : ¬ c < c), if_pos (by omega : c < c + 1)]
      omega
    · rw [if_neg h1]
      by_cases h2 : q < c
      · rw [if_pos h2, if_pos (by omega : q < c + 1)]; omega
      · rw [if_neg h2, if_neg (by omega : ¬ q < c + 1)]; omega
theorem wth_set {rr : List (List Int)} {a : List Int} {i q : Nat} {k x : Int} (hq : q < a.length) : wth rr (a.set q x) i k = wth rr a i k + ((if x = k then val rr i q else 0) - (if a.getD q 0 = k then val rr i q else 0)) := by
  unfold wth
  rw [worth_set (by simpa using hq), List.length_set, if_pos hq]
  rfl
theorem wth_gain {rr : List (List Int)} {a : List Int} {i q : Nat} (hq : q < a.length) (h : a.getD q 0 ≠ i) : wth rr (a.set q i) i i = wth rr a i i + val rr i q := by
  rw [wth_set hq, if_pos rfl, if_neg h]; omega

def sP (rr : List (List Int)) (a : List Int) (i j : Nat) : Bool := !decide (a.getD j 0 = i) && decide (allv rr i ≤ (rr.length : Int) * (wth rr a i i + val rr i j))
def shG (rr : List (List Int)) (a : List Int) (i : Nat) : Int := firstFrom (sP rr a i) a.length 0
def shMOf (rr : List (List Int)) (a : List Int) (i : Nat) : List T3 := if 0 ≤ shG rr a i then [((i : Int), a.getD (shG rr a i).toNat 0, shG rr a i)] else []
def shXOf (rr : List (List Int)) (a : List Int) (i : Nat) : List Int := if 0 ≤ shG rr a i then [] else [(i : Int)]
noncomputable def shM (rr : List (List Int)) (a : List Int) : List T3 := (poorR rr a).flatMap (fun x => shMOf rr a x.toNat)
noncomputable def shX (rr : List (List Int)) (a : List Int) : List Int := (poorR rr a).flatMap (fun x => shXOf rr a x.toNat)
theorem shMOf_len (rr : List (List Int)) (a : List Int) (i : Nat) : (shMOf rr a i).length ≤ 1 := by unfold shMOf; split <;> simp
theorem shXOf_len (rr : List (List Int)) (a : List Int) (i : Nat) : (shXOf rr a i).length ≤ 1 := by unfold shXOf; split <;> simp
theorem flat_filt {β : Type} {p : Nat → Bool} {g : Nat → List β} : ∀ c : Nat, (filt p c).flatMap (fun x => g x.toNat) = gRow (fun _ (k : Nat) => if p k = true then g k else []) 0 c
  | 0 => rfl
  | c + 1 => by
    simp only [filt, gRow, List.flatMap_append, flat_filt c]
    congr 1
    split <;> simp
def pM (rr : List (List Int)) (a : List Int) (_ k : Nat) : List T3 := if isPoor rr a k = true then shMOf rr a k else []
def pX (rr : List (List Int)) (a : List Int) (_ k : Nat) : List Int := if isPoor rr a k = true then shXOf rr a k else []
theorem pM_len (rr : List (List Int)) (a : List Int) (i k : Nat) : (pM rr a i k).length ≤ 1 := by unfold pM; split <;> simp [shMOf_len]
theorem pX_len (rr : List (List Int)) (a : List Int) (i k : Nat) : (pX rr a i k).length ≤ 1 := by unfold pX; split <;> simp [shXOf_len]
theorem shM_g {rr : List (List Int)} {a : List Int} (hv : vld rr a = 0) : shM rr a = gRow (pM rr a) 0 rr.length := by rw [shM, poorR, if_pos hv]; exact flat_filt _
theorem shX_g {rr : List (List Int)} {a : List Int} (hv : vld rr a = 0) : shX rr a = gRow (pX rr a) 0 rr.length := by rw [shX, poorR, if_pos hv]; exact flat_filt _
theorem enough_no {rr : List (List Int)} {a : List Int} {i : Nat} : enough rr a i (-1) ↔ ¬ isPoor rr a i = true := by
  unfold enough isPoor
  rw [if_neg (by omega), Int.add_zero, decide_eq_true_eq]; omega
theorem sP_iff {rr : List (List Int)} {a : List Int} {i j : Nat} : sP rr a i j = true ↔ a.getD j 0 ≠ i ∧ enough rr a i j := by
  unfold sP enough
  rw [if_pos (by omega), Int.toNat_natCast]
  simp only [Bool.and_eq_true, decide_eq_true_eq, Bool.not_eq_true', decide_eq_false_iff_not, ne_eq]

theorem rshare_rc {w : World} {gv av : Value} {vs : List Value} {rr : List (List Int)} {a : List Int} (Hg : Mat w gv vs rr) (Ha : Ints w av a) :
    RC Try.prog 43 [.agg #[gv], av] w NoB (fun u w' => ∃ mv xv, u = .tuple #[mv, xv, .int .i64 (vld rr a)] ∧ OT w.heap.size w' mv (shM rr a) ∧ OI w' xv (shX rr a)) := by
  refine RC.mk tyOk Try.func43 rfl (by kernel_rfl) fun w1 E1 => ?_
  replace Hg := Hg.ext E1
  replace Ha := Ha.ext E1
  have EE := Ext.refl w1
  refine Bx.agg fun b2 w2 E2 hb2 Hb _ => ?_
  replace Hg := Hg.ext E2
  replace Ha := Ha.ext E2
  replace EE := EE.ext E2
  have cv := rvalid_pc Hg Ha
  have hla := Ha.le
  by_cases hv : vld rr a = 0
  · have hal := al_of_vld hv
    have hn := hal.n6
    have hm := hal.m10
    have hlen := hal.len
    have hrow := hal.row
    rw [shM_g hv, shX_g hv]
    repeat' (conv => whnf
             first
             | (refine Dr.quiet tyOk (by kernel_rfl) ?_)
             | (refine VC.pure cv ?_)
             | (refine Rng.mk (by omega) ?_)
             | (refine Split.pos (by omega) ?_)
             | (refine Split.neg (by omega) ?_)
             | (refine Split.mk (fun h => ?_) (fun h => ?_))
             | (refine Need.mk (by omega) ?_)
             | (refine Ints.ln (by assumption) ?_)
             | (refine Mat.ln (by assumption) ?_)
             | (refine Ints.ln (Mat.row (by assumption) _ (by omega)) ?_)
             | (refine Ints.ix (by assumption) (by omega) ?_)
             | (refine Mat.ix (by assumption) (by omega) ?_)
             | (refine Ints.ix (Mat.row (by assumption) _ (by omega)) (by omega) ?_)
             | (refine Ints.ix (c := 0) (by assumption) (by omega) ?_)
             | (refine Mat.ix (c := 0) (by assumption) (by omega) ?_)
             | (refine Ints.ix (c := 0) (Mat.row (by assumption) _ (by omega)) (by omega) ?_)
             | (refine Ints.ixI (by assumption) (by omega) ?_)
             | (refine Mat.ixI (by assumption) (by omega) ?_)
             | (refine Ints.ixI (Mat.row (by assumption) _ (by omega)) (by omega) ?_)
             | (refine Ints.ld (by assumption) (by omega) ?_)
             | (refine Mat.ld (by assumption) (by omega) ?_)
             | (refine Ints.ld (Mat.row (by assumption) _ (by omega)) (by omega) ?_)
             | (refine At.ld (by assumption) rfl ?_)
             | (refine At.ldN (by assumption) rfl ?_)
             | (refine Prs.ln (by assumption) ?_)
             | (refine Trs.ln (by assumption) ?_)
             | (refine Prs.ix (by assumption) (by omega) ?_)
             | (refine Trs.ix (by assumption) (by omega) ?_)
             | (refine Prs.ldN (by assumption) (by omega) ?_)
             | (refine Trs.ldN (by assumption) (by omega) ?_)
             | (refine At.ldN (Blk.at (by assumption)) rfl ?_)
             | (refine At.ld (Blk.at (by assumption)) rfl ?_)
             | (refine IxA.mk (by omega) ?_)
             | (refine Sl.ln (Own.sl (by assumption)) ?_))
    have Hg__1 := Hg
    have Ha__1 := Ha
    have EE__1 := EE
    have Hb__1 := Hb
    have hz1 := Nat.le_trans E1.size EE.size
    refine Lp.mk tyOk [false, false, false, false, false, false, false, true, true, true, true, false, false, false, false, false, false, false, true, true, true, true, true, true, true, true, true, true, true, true, true, true, true, true, true, true, true, true, true, true, true, true, true, true, true, true, true, true, true, true, true, true, true, true, true, true, true, true, true, true, true, true, true, true, true, true, true, true, true] (fun m fr wr => getK fr 9 fun i => getK fr 7 fun mv => getK fr 8 fun xv => ∃ c : Nat, c ≤ rr.length ∧ m = rr.length - c ∧ i = .int .i64 (c : Int) ∧ (OT w2.heap.size wr mv (gRow (pM rr a) 0 c)) ∧ (Own w2.heap.size 3 1 wr xv (gRow (pX rr a) 0 c).length ((gRow (pX rr a) 0 c).map i64v)) ∧ Ext w2 wr) (rr.length) ?_ ?_
    · exact ⟨0, Nat.zero_le _, rfl, rfl, Own.nil, Own.nil, Ext.refl _⟩
    · intro m w3 u7 u8 u9 u10 u18 u19 u20 u21 u22 u23 u24 u25 u26 u27 u28 u29 u30 u31 u32 u33 u34 u35 u36 u37 u38 u39 u40 u41 u42 u43 u44 u45 u46 u47 u48 u49 u50 u51 u52 u53 u54 u55 u56 u57 u58 u59 u60 u61 u62 u63 u64 u65 u66 u67 u68 hR
      obtain ⟨c, hc, rfl, rfl, Hm, Hx, EL1⟩ := hR
      replace Hg := Hg__1.ext EL1
      replace Ha := Ha__1.ext EL1
      replace EE := EE__1.ext EL1
      replace Hb := Hb__1.ext EL1
      have hT := gRow_len (pM_len rr a 0) c
      have hT2 := gRow_len (pX_len rr a 0) c
      have cN := fun (h1 : c < rr.length) => enough_pc (good := -1) Hg Ha hal h1 (by omega)
      by_cases hp : isPoor rr a c = true
      · rw [tf_f (fun h => enough_no.1 h hp)] at cN
        have eM : pM rr a 0 c = shMOf rr a c := by unfold pM; rw [if_pos hp]
        have eX : pX rr a 0 c = shXOf rr a c := by unfold pX; rw [if_pos hp]
        repeat' (conv => whnf
                 first
                 | (refine Dr.quiet tyOk (by kernel_rfl) ?_)
                 | (refine VC.pure (cN (by omega)) ?_)
                 | (refine Rng.mk (by omega) ?_)
                 | (refine Split.pos (by omega) ?_)
                 | (refine Split.neg (by omega) ?_)
                 | (refine Split.mk (fun h => ?_) (fun h => ?_))
                 | (refine Need.mk (by omega) ?_)
                 | (refine Ints.ln (by assumption) ?_)
                 | (refine Mat.ln (by assumption) ?_)
                 | (refine Ints.ln (Mat.row (by assumption) _ (by omega)) ?_)
                 | (refine Ints.ix (by assumption) (by omega) ?_)
                 | (refine Mat.ix (by assumption) (by omega) ?_)
                 | (refine Ints.ix (Mat.row (by assumption) _ (by omega)) (by omega) ?_)
                 | (refine Ints.ix (c := 0) (by assumption) (by omega) ?_)
                 | (refine Mat.ix (c := 0) (by assumption) (by omega) ?_)
                 | (refine Ints.ix (c := 0) (Mat.row (by assumption) _ (by omega)) (by omega) ?_)
                 | (refine Ints.ixI (by assumption) (by omega) ?_)
                 | (refine Mat.ixI (by assumption) (by omega) ?_)
                 | (refine Ints.ixI (Mat.row (by assumption) _ (by omega)) (by omega) ?_)
                 | (refine Ints.ld (by assumption) (by omega) ?_)
                 | (refine Mat.ld (by assumption) (by omega) ?_)
                 | (refine Ints.ld (Mat.row (by assumption) _ (by omega)) (by omega) ?_)
                 | (refine At.ld (by assumption) rfl ?_)
                 | (refine At.ldN (by assumption) rfl ?_)
                 | (refine Prs.ln (by assumption) ?_)
                 | (refine Trs.ln (by assumption) ?_)
                 | (refine Prs.ix (by assumption) (by omega) ?_)
                 | (refine Trs.ix (by assumption) (by omega) ?_)
                 | (refine Prs.ldN (by assumption) (by omega) ?_)
                 | (refine Trs.ldN (by assumption) (by omega) ?_)
                 | (refine At.ldN (Blk.at (by assumption)) rfl ?_)
                 | (refine At.ld (Blk.at (by assumption)) rfl ?_)
                 | (refine IxA.mk (by omega) ?_)
                 | (refine Sl.ln (Own.sl (by assumption)) ?_))
        · refine Lp.mk tyOk [false, false, false, false, false, false, false, false, false, false, true, false, false, false, false, false, false, false, false, false, false, false, false, false, false, false, false, false, false, true, true, true, true, true, true, true, true, true, true, true, true, true, true, true, true, true, true, true, true, true, true] (fun m fr wr => getK fr 10 fun g => ∃ q : Nat, q ≤ a.length ∧ m = a.length - q ∧ g = .int .i64 (q : Int) ∧ (∀ j, j < q → sP rr a c j = false) ∧ wr = w3) (a.length) ?_ ?_
          · exact ⟨0, Nat.zero_le _, rfl, rfl, (by first | exact fun _ hi => absurd hi (Nat.not_lt_zero _) | exact fun _ _ hi => absurd hi (Nat.not_lt_zero _) | assumption | exact Own.nil | omega | simp), rfl⟩
          · intro m w4 u10 u29 u30 u31 u32 u33 u34 u35 u36 u37 u38 u39 u40 u41 u42 u43 u44 u45 u46 u47 u48 u49 u50 hR
            obtain ⟨q, hq, rfl, rfl, hq, rfl⟩ := hR
            have cC := fun (h1 : q < a.length) => enough_pc (i := c) (good := (q : Int)) Hg Ha hal (by omega) (by omega)
            have hmiss : q = a.length → ¬ 0 ≤ shG rr a c := fun h => by subst h; unfold shG; rw [first_no hq]; omega
            by_cases hen : enough rr a c q
            · rw [tf_t hen] at cC
              repeat' (conv => whnf
                       first
                       | (refine Dr.quiet tyOk (by kernel_rfl) ?_)
                       | (refine VC.pure (cC (by omega)) ?_)
                       | (refine VS.b3 Try.underlying74 eMark (by decide +kernel) ⟨rfl, rfl, rfl⟩ ?_)
                       | (refine Rng.mk (by omega) ?_)
                       | (refine Split.pos (by omega) ?_)
                       | (refine Split.neg (by omega) ?_)
                       | (refine Split.mk (fun h => ?_) (fun h => ?_))
                       | (refine Need.mk (by omega) ?_)
                       | (refine Ints.ln (by assumption) ?_)
                       | (refine Mat.ln (by assumption) ?_)
                       | (refine Ints.ln (Mat.row (by assumption) _ (by omega)) ?_)
                       | (refine Ints.ix (by assumption) (by omega) ?_)
                       | (refine Mat.ix (by assumption) (by omega) ?_)
                       | (refine Ints.ix (Mat.row (by assumption) _ (by omega)) (by omega) ?_)
                       | (refine Ints.ix (c := 0) (by assumption) (by omega) ?_)
                       | (refine Mat.ix (c := 0) (by assumption) (by omega) ?_)
                       | (refine Ints.ix (c := 0) (Mat.row (by assumption) _ (by omega)) (by omega) ?_)
                       | (refine Ints.ixI (by assumption) (by omega) ?_)
                       | (refine Mat.ixI (by assumption) (by omega) ?_)
                       | (refine Ints.ixI (Mat.row (by assumption) _ (by omega)) (by omega) ?_)
                       | (refine Ints.ld (by assumption) (by omega) ?_)
                       | (refine Mat.ld (by assumption) (by omega) ?_)
                       | (refine Ints.ld (Mat.row (by assumption) _ (by omega)) (by omega) ?_)
                       | (refine At.ld (by assumption) rfl ?_)
                       | (refine At.ldN (by assumption) rfl ?_)
                       | (refine Prs.ln (by assumption) ?_)
                       | (refine Trs.ln (by assumption) ?_)
                       | (refine Prs.ix (by assumption) (by omega) ?_)
                       | (refine Trs.ix (by assumption) (by omega) ?_)
                       | (refine Prs.ldN (by assumption) (by omega) ?_)
                       | (refine Trs.ldN (by assumption) (by omega) ?_)
                       | (refine At.ldN (Blk.at (by assumption)) rfl ?_)
                       | (refine At.ld (Blk.at (by assumption)) rfl ?_)
                       | (refine IxA.mk (by omega) ?_)
                       | (refine Sl.ln (Own.sl (by assumption)) ?_))
              · refine ⟨_, (by omega : a.length - (q + 1) < a.length - q), rfl, q + 1, by omega, rfl, rfl, all_succ hq (boolF (fun h => (sP_iff.1 h).1 (by omega))), rfl⟩
              · have hg : sP rr a c q = true := sP_iff.2 ⟨by omega, hen⟩
                have ef : shG rr a c = q := by unfold shG; rw [first_at hq (by omega) hg]
                have hf : 0 ≤ shG rr a c := by omega
                refine VE.lit1A Try.underlying58 eMark rfl (by decide) fun lv w5 E5 Hl => ?_
                replace Hg := Hg.ext E5
                replace Ha := Ha.ext E5
                replace EE := EE.ext E5
                replace Hb := Hb.ext E5
                replace EL1 := EL1.ext E5
                replace Hm := Hm.ext E5
                replace Hx := Hx.ext E5
                conv => whnf
                refine VE.app Try.underlying58 eMark rfl (by omega) Hm EL1 rfl Hl (by simp [Value.oneCell']) (by first | omega | (simp only [List.length_map, List.length_range]; omega) | (simp; omega)) (by first | omega | (simp only [List.length_map, List.length_range]; omega) | (simp; omega)) fun v8 w6 E6 G6 H8 => ?_
                replace Hx := Own.gr Hx G6 (fun k hk hS => Own.ne Hm Hx (by decide) k hS hk)
                replace Hg := Hg__1.ext E6
                replace Ha := Ha__1.ext E6
                replace EE := EE__1.ext E6
                replace Hb := Hb__1.ext E6
                replace EL1 := E6
                repeat' (conv => whnf
                         first
                         | (refine Dr.quiet tyOk (by kernel_rfl) ?_)
                         | (refine Rng.mk (by omega) ?_)
                         | (refine Split.pos (by omega) ?_)
                         | (refine Split.neg (by omega) ?_)
                         | (refine Split.mk (fun h => ?_) (fun h => ?_))
                         | (refine Need.mk (by omega) ?_)
                         | (refine Ints.ln (by assumption) ?_)
                         | (refine Mat.ln (by assumption) ?_)
                         | (refine Ints.ln (Mat.row (by assumption) _ (by omega)) ?_)
                         | (refine Ints.ix (by assumption) (by omega) ?_)
                         | (refine Mat.ix (by assumption) (by omega) ?_)
                         | (refine Ints.ix (Mat.row (by assumption) _ (by omega)) (by omega) ?_)
                         | (refine Ints.ix (c := 0) (by assumption) (by omega) ?_)
                         | (refine Mat.ix (c := 0) (by assumption) (by omega) ?_)
                         | (refine Ints.ix (c := 0) (Mat.row (by assumption) _ (by omega)) (by omega) ?_)
                         | (refine Ints.ixI (by assumption) (by omega) ?_)
                         | (refine Mat.ixI (by assumption) (by omega) ?_)
                         | (refine Ints.ixI (Mat.row (by assumption) _ (by omega)) (by omega) ?_)
                         | (refine Ints.ld (by assumption) (by omega) ?_)
                         | (refine Mat.ld (by assumption) (by omega) ?_)
                         | (refine Ints.ld (Mat.row (by assumption) _ (by omega)) (by omega) ?_)
                         | (refine At.ld (by assumption) rfl ?_)
                         | (refine At.ldN (by assumption) rfl ?_)
                         | (refine Prs.ln (by assumption) ?_)
                         | (refine Trs.ln (by assumption) ?_)
                         | (refine Prs.ix (by assumption) (by omega) ?_)
                         | (refine Trs.ix (by assumption) (by omega) ?_)
                         | (refine Prs.ldN (by assumption) (by omega) ?_)
                         | (refine Trs.ldN (by assumption) (by omega) ?_)
                         | (refine At.ldN (Blk.at (by assumption)) rfl ?_)
                         | (refine At.ld (Blk.at (by assumption)) rfl ?_)
                         | (refine IxA.mk (by omega) ?_)
                         | (refine Sl.ln (Own.sl (by assumption)) ?_))
                refine ⟨_, (by omega : rr.length - (c + 1) < rr.length - c), rfl, c + 1, by omega, rfl, rfl, ?_, ?_, EL1⟩
                · simp only [gRow, eM, shMOf, if_pos hf, ef, Int.toNat_natCast]
                  rw [flat3_snoc] at H8
                  exact OT.of H8
                · simp only [gRow, eX, shXOf, if_pos hf, List.append_nil]; exact Hx
              · obtain rfl : q = a.length := by omega
                have hf := hmiss rfl
                repeat' (conv => whnf
                         first
                         | (refine Dr.quiet tyOk (by kernel_rfl) ?_)
                         | (refine Rng.mk (by omega) ?_)
                         | (refine Split.pos (by omega) ?_)
                         | (refine Split.neg (by omega) ?_)
                         | (refine Split.mk (fun h => ?_) (fun h => ?_))
                         | (refine Need.mk (by omega) ?_)
                         | (refine Ints.ln (by assumption) ?_)
                         | (refine Mat.ln (by assumption) ?_)
                         | (refine Ints.ln (Mat.row (by assumption) _ (by omega)) ?_)
                         | (refine Ints.ix (by assumption) (by omega) ?_)
                         | (refine Mat.ix (by assumption) (by omega) ?_)
                         | (refine Ints.ix (Mat.row (by assumption) _ (by omega)) (by omega) ?_)
                         | (refine Ints.ix (c := 0) (by assumption) (by omega) ?_)
                         | (refine Mat.ix (c := 0) (by assumption) (by omega) ?_)
                         | (refine Ints.ix (c := 0) (Mat.row (by assumption) _ (by omega)) (by omega) ?_)
                         | (refine Ints.ixI (by assumption) (by omega) ?_)
                         | (refine Mat.ixI (by assumption) (by omega) ?_)
                         | (refine Ints.ixI (Mat.row (by assumption) _ (by omega)) (by omega) ?_)
                         | (refine Ints.ld (by assumption) (by omega) ?_)
                         | (refine Mat.ld (by assumption) (by omega) ?_)
                         | (refine Ints.ld (Mat.row (by assumption) _ (by omega)) (by omega) ?_)
                         | (refine At.ld (by assumption) rfl ?_)
                         | (refine At.ldN (by assumption) rfl ?_)
                         | (refine Prs.ln (by assumption) ?_)
                         | (refine Trs.ln (by assumption) ?_)
                         | (refine Prs.ix (by assumption) (by omega) ?_)
                         | (refine Trs.ix (by assumption) (by omega) ?_)
                         | (refine Prs.ldN (by assumption) (by omega) ?_)
                         | (refine Trs.ldN (by assumption) (by omega) ?_)
                         | (refine At.ldN (Blk.at (by assumption)) rfl ?_)
                         | (refine At.ld (Blk.at (by assumption)) rfl ?_)
                         | (refine IxA.mk (by omega) ?_)
                         | (refine Sl.ln (Own.sl (by assumption)) ?_))
                refine VE.lit1 Try.underlying25 eInt (rfl) fun lv w7 E7 Hl => ?_
                replace Hg := Hg.ext E7
                replace Ha := Ha.ext E7
                replace EE := EE.ext E7
                replace Hb := Hb.ext E7
                replace EL1 := EL1.ext E7
                replace Hm := Hm.ext E7
                replace Hx := Hx.ext E7
                conv => whnf
                refine VE.app Try.underlying25 eInt rfl (by omega) Hx EL1 rfl Hl (by simp [Value.oneCell']) (by first | omega | (simp only [List.length_map, List.length_range]; omega) | (simp; omega)) (by first | omega | (simp only [List.length_map, List.length_range]; omega) | (simp; omega)) fun v8 w8 E8 G8 H8 => ?_
                replace Hm := Own.gr Hm G8 (fun k hk hS => Own.ne Hx Hm (by decide) k hS hk)
                replace Hg := Hg__1.ext E8
                replace Ha := Ha__1.ext E8
                replace EE := EE__1.ext E8
                replace Hb := Hb__1.ext E8
                replace EL1 := E8
                repeat' (conv => whnf
                         first
                         | (refine Dr.quiet tyOk (by kernel_rfl) ?_)
                         | (refine Rng.mk (by omega) ?_)
                         | (refine Split.pos (by omega) ?_)
                         | (refine Split.neg (by omega) ?_)
                         | (refine Split.mk (fun h => ?_) (fun h => ?_))
                         | (refine Need.mk (by omega) ?_)
                         | (refine Ints.ln (by assumption) ?_)
                         | (refine Mat.ln (by assumption) ?_)
                         | (refine Ints.ln (Mat.row (by assumption) _ (by omega)) ?_)
                         | (refine Ints.ix (by assumption) (by omega) ?_)
                         | (refine Mat.ix (by assumption) (by omega) ?_)
                         | (refine Ints.ix (Mat.row (by assumption) _ (by omega)) (by omega) ?_)
                         | (refine Ints.ix (c := 0) (by assumption) (by omega) ?_)
                         | (refine Mat.ix (c := 0) (by assumption) (by omega) ?_)
                         | (refine Ints.ix (c := 0) (Mat.row (by assumption) _ (by omega)) (by omega) ?_)
                         | (refine Ints.ixI (by assumption) (by omega) ?_)
                         | (refine Mat.ixI (by assumption) (by omega) ?_)
                         | (refine Ints.ixI (Mat.row (by assumption) _ (by omega)) (by omega) ?_)
                         | (refine Ints.ld (by assumption) (by omega) ?_)
                         | (refine Mat.ld (by assumption) (by omega) ?_)
                         | (refine Ints.ld (Mat.row (by assumption) _ (by omega)) (by omega) ?_)
                         | (refine At.ld (by assumption) rfl ?_)
                         | (refine At.ldN (by assumption) rfl ?_)
                         | (refine Prs.ln (by assumption) ?_)
                         | (refine Trs.ln (by assumption) ?_)
                         | (refine Prs.ix (by assumption) (by omega) ?_)
                         | (refine Trs.ix (by assumption) (by omega) ?_)
                         | (refine Prs.ldN (by assumption) (by omega) ?_)
                         | (refine Trs.ldN (by assumption) (by omega) ?_)
                         | (refine At.ldN (Blk.at (by assumption)) rfl ?_)
                         | (refine At.ld (Blk.at (by assumption)) rfl ?_)
                         | (refine IxA.mk (by omega) ?_)
                         | (refine Sl.ln (Own.sl (by assumption)) ?_))
                refine ⟨_, (by omega : rr.length - (c + 1) < rr.length - c), rfl, c + 1, by omega, rfl, rfl, ?_, ?_, EL1⟩
                · simp only [gRow, eM, shMOf, if_neg hf, List.append_nil]; exact Hm
                · simp only [gRow, eX, shXOf, if_neg hf, List.map_append, List.length_append]; exact H8
            · rw [tf_f hen] at cC
              repeat' (conv => whnf
                       first
                       | (refine Dr.quiet tyOk (by kernel_rfl) ?_)
                       | (refine VC.pure (cC (by omega)) ?_)
                       | (refine Rng.mk (by omega) ?_)
                       | (refine Split.pos (by omega) ?_)
                       | (refine Split.neg (by omega) ?_)
                       | (refine Split.mk (fun h => ?_) (fun h => ?_))
                       | (refine Need.mk (by omega) ?_)
                       | (refine Ints.ln (by assumption) ?_)
                       | (refine Mat.ln (by assumption) ?_)
                       | (refine Ints.ln (Mat.row (by assumption) _ (by omega)) ?_)
                       | (refine Ints.ix (by assumption) (by omega) ?_)
                       | (refine Mat.ix (by assumption) (by omega) ?_)
                       | (refine Ints.ix (Mat.row (by assumption) _ (by omega)) (by omega) ?_)
                       | (refine Ints.ix (c := 0) (by assumption) (by omega) ?_)
                       | (refine Mat.ix (c := 0) (by assumption) (by omega) ?_)
                       | (refine Ints.ix (c := 0) (Mat.row (by assumption) _ (by omega)) (by omega) ?_)
                       | (refine Ints.ixI (by assumption) (by omega) ?_)
                       | (refine Mat.ixI (by assumption) (by omega) ?_)
                       | (refine Ints.ixI (Mat.row (by assumption) _ (by omega)) (by omega) ?_)
                       | (refine Ints.ld (by assumption) (by omega) ?_)
                       | (refine Mat.ld (by assumption) (by omega) ?_)
                       | (refine Ints.ld (Mat.row (by assumption) _ (by omega)) (by omega) ?_)
                       | (refine At.ld (by assumption) rfl ?_)
                       | (refine At.ldN (by assumption) rfl ?_)
                       | (refine Prs.ln (by assumption) ?_)
                       | (refine Trs.ln (by assumption) ?_)
                       | (refine Prs.ix (by assumption) (by omega) ?_)
                       | (refine Trs.ix (by assumption) (by omega) ?_)
                       | (refine Prs.ldN (by assumption) (by omega) ?_)
                       | (refine Trs.ldN (by assumption) (by omega) ?_)
                       | (refine At.ldN (Blk.at (by assumption)) rfl ?_)
                       | (refine At.ld (Blk.at (by assumption)) rfl ?_)
                       | (refine IxA.mk (by omega) ?_)
                       | (refine Sl.ln (Own.sl (by assumption)) ?_))
              · refine ⟨_, (by omega : a.length - (q + 1) < a.length - q), rfl, q + 1, by omega, rfl, rfl, all_succ hq (boolF (fun h => (sP_iff.1 h).1 (by omega))), rfl⟩
              · refine ⟨_, (by omega : a.length - (q + 1) < a.length - q), rfl, q + 1, by omega, rfl, rfl, all_succ hq (boolF (fun h => hen (sP_iff.1 h).2)), rfl⟩
              · obtain rfl : q = a.length := by omega
                have hf := hmiss rfl
                repeat' (conv => whnf
                         first
                         | (refine Dr.quiet tyOk (by kernel_rfl) ?_)
                         | (refine Rng.mk (by omega) ?_)
                         | (refine Split.pos (by omega) ?_)
                         | (refine Split.neg (by omega) ?_)
                         | (refine Split.mk (fun h => ?_) (fun h => ?_))
                         | (refine Need.mk (by omega) ?_)
                         | (refine Ints.ln (by assumption) ?_)
                         | (refine Mat.ln (by assumption) ?_)
                         | (refine Ints.ln (Mat.row (by assumption) _ (by omega)) ?_)
                         | (refine Ints.ix (by assumption) (by omega) ?_)
                         | (refine Mat.ix (by assumption) (by omega) ?_)
                         | (refine Ints.ix (Mat.row (by assumption) _ (by omega)) (by omega) ?_)
                         | (refine Ints.ix (c := 0) (by assumption) (by omega) ?_)
                         | (refine Mat.ix (c := 0) (by assumption) (by omega) ?_)
                         | (refine Ints.ix (c := 0) (Mat.row (by assumption) _ (by omega)) (by omega) ?_)
                         | (refine Ints.ixI (by assumption) (by omega) ?_)
                         | (refine Mat.ixI (by assumption) (by omega) ?_)
                         | (refine Ints.ixI (Mat.row (by assumption) _ (by omega)) (by omega) ?_)
                         | (refine Ints.ld (by assumption) (by omega) ?_)
                         | (refine Mat.ld (by assumption) (by omega) ?_)
                         | (refine Ints.ld (Mat.row (by assumption) _ (by omega)) (by omega) ?_)
                         | (refine At.ld (by assumption) rfl ?_)
                         | (refine At.ldN (by assumption) rfl ?_)
                         | (refine Prs.ln (by assumption) ?_)
                         | (refine Trs.ln (by assumption) ?_)
                         | (refine Prs.ix (by assumption) (by omega) ?_)
                         | (refine Trs.ix (by assumption) (by omega) ?_)
                         | (refine Prs.ldN (by assumption) (by omega) ?_)
                         | (refine Trs.ldN (by assumption) (by omega) ?_)
                         | (refine At.ldN (Blk.at (by assumption)) rfl ?_)
                         | (refine At.ld (Blk.at (by assumption)) rfl ?_)
                         | (refine IxA.mk (by omega) ?_)
                         | (refine Sl.ln (Own.sl (by assumption)) ?_))
                refine VE.lit1 Try.underlying25 eInt (rfl) fun lv w9 E9 Hl => ?_
                replace Hg := Hg.ext E9
                replace Ha := Ha.ext E9
                replace EE := EE.ext E9
                replace Hb := Hb.ext E9
                replace EL1 := EL1.ext E9
                replace Hm := Hm.ext E9
                replace Hx := Hx.ext E9
                conv => whnf
                refine VE.app Try.underlying25 eInt rfl (by omega) Hx EL1 rfl Hl (by simp [Value.oneCell']) (by first | omega | (simp only [List.length_map, List.length_range]; omega) | (simp; omega)) (by first | omega | (simp only [List.length_map, List.length_range]; omega) | (simp; omega)) fun v8 w10 E10 G10 H8 => ?_
                replace Hm := Own.gr Hm G10 (fun k hk hS => Own.ne Hx Hm (by decide) k hS hk)
                replace Hg := Hg__1.ext E10
                replace Ha := Ha__1.ext E10
                replace EE := EE__1.ext E10
                replace Hb := Hb__1.ext E10
                replace EL1 := E10
                repeat' (conv => whnf
                         first
                         | (refine Dr.quiet tyOk (by kernel_rfl) ?_)
                         | (refine Rng.mk (by omega) ?_)
                         | (refine Split.pos (by omega) ?_)
                         | (refine Split.neg (by omega) ?_)
                         | (refine Split.mk (fun h => ?_) (fun h => ?_))
                         | (refine Need.mk (by omega) ?_)
                         | (refine Ints.ln (by assumption) ?_)
                         | (refine Mat.ln (by assumption) ?_)
                         | (refine Ints.ln (Mat.row (by assumption) _ (by omega)) ?_)
                         | (refine Ints.ix (by assumption) (by omega) ?_)
                         | (refine Mat.ix (by assumption) (by omega) ?_)
                         | (refine Ints.ix (Mat.row (by assumption) _ (by omega)) (by omega) ?_)
                         | (refine Ints.ix (c := 0) (by assumption) (by omega) ?_)
                         | (refine Mat.ix (c := 0) (by assumption) (by omega) ?_)
                         | (refine Ints.ix (c := 0) (Mat.row (by assumption) _ (by omega)) (by omega) ?_)
                         | (refine Ints.ixI (by assumption) (by omega) ?_)
                         | (refine Mat.ixI (by assumption) (by omega) ?_)
                         | (refine Ints.ixI (Mat.row (by assumption) _ (by omega)) (by omega) ?_)
                         | (refine Ints.ld (by assumption) (by omega) ?_)
                         | (refine Mat.ld (by assumption) (by omega) ?_)
                         | (refine Ints.ld (Mat.row (by assumption) _ (by omega)) (by omega) ?_)
                         | (refine At.ld (by assumption) rfl ?_)
                         | (refine At.ldN (by assumption) rfl ?_)
                         | (refine Prs.ln (by assumption) ?_)
                         | (refine Trs.ln (by assumption) ?_)
                         | (refine Prs.ix (by assumption) (by omega) ?_)
                         | (refine Trs.ix (by assumption) (by omega) ?_)
                         | (refine Prs.ldN (by assumption) (by omega) ?_)
                         | (refine Trs.ldN (by assumption) (by omega) ?_)
                         | (refine At.ldN (Blk.at (by assumption)) rfl ?_)
                         | (refine At.ld (Blk.at (by assumption)) rfl ?_)
                         | (refine IxA.mk (by omega) ?_)
                         | (refine Sl.ln (Own.sl (by assumption)) ?_))
                refine ⟨_, (by omega : rr.length - (c + 1) < rr.length - c), rfl, c + 1, by omega, rfl, rfl, ?_, ?_, EL1⟩
                · simp only [gRow, eM, shMOf, if_neg hf, List.append_nil]; exact Hm
                · simp only [gRow, eX, shXOf, if_neg hf, List.map_append, List.length_append]; exact H8
        · obtain rfl : c = rr.length := by omega
          refine ⟨EE, _, _, by rw [hv], ?_⟩
          exact ⟨Own.base Hm hz1, OI.of Hx⟩
      · rw [tf_t (enough_no.2 hp)] at cN
        have eM : pM rr a 0 c = [] := by unfold pM; rw [if_neg hp]
        have eX : pX rr a 0 c = [] := by unfold pX; rw [if_neg hp]
        repeat' (conv => whnf
                 first
                 | (refine Dr.quiet tyOk (by kernel_rfl) ?_)
                 | (refine VC.pure (cN (by omega)) ?_)
                 | (refine Rng.mk (by omega) ?_)
                 | (refine Split.pos (by omega) ?_)
                 | (refine Split.neg (by omega) ?_)
                 | (refine Split.mk (fun h => ?_) (fun h => ?_))
                 | (refine Need.mk (by omega) ?_)
                 | (refine Ints.ln (by assumption) ?_)
                 | (refine Mat.ln (by assumption) ?_)
                 | (refine Ints.ln (Mat.row (by assumption) _ (by omega)) ?_)
                 | (refine Ints.ix (by assumption) (by omega) ?_)
                 | (refine Mat.ix (by assumption) (by omega) ?_)
                 | (refine Ints.ix (Mat.row (by assumption) _ (by omega)) (by omega) ?_)
                 | (refine Ints.ix (c := 0) (by assumption) (by omega) ?_)
                 | (refine Mat.ix (c := 0) (by assumption) (by omega) ?_)
                 | (refine Ints.ix (c := 0) (Mat.row (by assumption) _ (by omega)) (by omega) ?_)
                 | (refine Ints.ixI (by assumption) (by omega) ?_)
                 | (refine Mat.ixI (by assumption) (by omega) ?_)
                 | (refine Ints.ixI (Mat.row (by assumption) _ (by omega)) (by omega) ?_)
                 | (refine Ints.ld (by assumption) (by omega) ?_)
                 | (refine Mat.ld (by assumption) (by omega) ?_)
                 | (refine Ints.ld (Mat.row (by assumption) _ (by omega)) (by omega) ?_)
                 | (refine At.ld (by assumption) rfl ?_)
                 | (refine At.ldN (by assumption) rfl ?_)
                 | (refine Prs.ln (by assumption) ?_)
                 | (refine Trs.ln (by assumption) ?_)
                 | (refine Prs.ix (by assumption) (by omega) ?_)
                 | (refine Trs.ix (by assumption) (by omega) ?_)
                 | (refine Prs.ldN (by assumption) (by omega) ?_)
                 | (refine Trs.ldN (by assumption) (by omega) ?_)
                 | (refine At.ldN (Blk.at (by assumption)) rfl ?_)
                 | (refine At.ld (Blk.at (by assumption)) rfl ?_)
                 | (refine IxA.mk (by omega) ?_)
                 | (refine Sl.ln (Own.sl (by assumption)) ?_))
        · refine ⟨_, (by omega : rr.length - (c + 1) < rr.length - c), rfl, c + 1, by omega, rfl, rfl, ?_, ?_, EL1⟩
          · simpa only [gRow, eM, List.append_nil] using Hm
          · simpa only [gRow, eX, List.append_nil] using Hx
        · obtain rfl : c = rr.length := by omega
          refine ⟨EE, _, _, by rw [hv], ?_⟩
          exact ⟨Own.base Hm hz1, OI.of Hx⟩
  · repeat' (conv => whnf
             first
             | (refine Dr.quiet tyOk (by kernel_rfl) ?_)
             | (refine VC.pure cv ?_)
             | (refine Rng.mk (by omega) ?_)
             | (refine Split.pos (by omega) ?_)
             | (refine Split.neg (by omega) ?_)
             | (refine Split.mk (fun h => ?_) (fun h => ?_))
             | (refine Need.mk (by omega) ?_)
             | (refine Ints.ln (by assumption) ?_)
             | (refine Mat.ln (by assumption) ?_)
             | (refine Ints.ln (Mat.row (by assumption) _ (by omega)) ?_)
             | (refine Ints.ix (by assumption) (by omega) ?_)
             | (refine Mat.ix (by assumption) (by omega) ?_)
             | (refine Ints.ix (Mat.row (by assumption) _ (by omega)) (by omega) ?_)
             | (refine Ints.ix (c := 0) (by assumption) (by omega) ?_)
             | (refine Mat.ix (c := 0) (by assumption) (by omega) ?_)
             | (refine Ints.ix (c := 0) (Mat.row (by assumption) _ (by omega)) (by omega) ?_)
             | (refine Ints.ixI (by assumption) (by omega) ?_)
             | (refine Mat.ixI (by assumption) (by omega) ?_)
             | (refine Ints.ixI (Mat.row (by assumption) _ (by omega)) (by omega) ?_)
             | (refine Ints.ld (by assumption) (by omega) ?_)
             | (refine Mat.ld (by assumption) (by omega) ?_)
             | (refine Ints.ld (Mat.row (by assumption) _ (by omega)) (by omega) ?_)
             | (refine At.ld (by assumption) rfl ?_)
             | (refine At.ldN (by assumption) rfl ?_)
             | (refine Prs.ln (by assumption) ?_)
             | (refine Trs.ln (by assumption) ?_)
             | (refine Prs.ix (by assumption) (by omega) ?_)
             | (refine Trs.ix (by assumption) (by omega) ?_)
             | (refine Prs.ldN (by assumption) (by omega) ?_)
             | (refine Trs.ldN (by assumption) (by omega) ?_)
             | (refine At.ldN (Blk.at (by assumption)) rfl ?_)
             | (refine At.ld (Blk.at (by assumption)) rfl ?_)
             | (refine IxA.mk (by omega) ?_)
             | (refine Sl.ln (Own.sl (by assumption)) ?_))
    refine ⟨EE, _, _, rfl, ?_⟩
    rw [shM, shX, poorR, if_neg hv]
    exact ⟨Own.nil, Own.nil⟩
end Go.Proofs.Ytiahjkhfkbcjhaa
