/- Contract: goods.Pass. -/
import Derived.Test.YtiahjkhfkbcjhaaPass2
set_option linter.unusedVariables false
set_option linter.unusedSimpArgs false
namespace Go.Proofs.Ytiahjkhfkbcjhaa
open Go.Eng
set_option maxRecDepth 100000
set_option maxHeartbeats 4000000

/-- the places of the agents in the first c of an order -/
def toTo (o : List Int) (n c : Nat) : List Int := (List.range n).map fun k : Nat => lastTo o k c
theorem toTo_len (o : List Int) (n c : Nat) : (toTo o n c).length = n := by simp [toTo]
theorem toTo_zero (o : List Int) (n : Nat) : toTo o n 0 = List.replicate n (-1) := by rw [List.eq_replicate_iff]; simp [toTo, lastTo]
theorem toTo_get {o : List Int} {n c k : Nat} (h : k < n) : (toTo o n c).getD k 0 = lastTo o k c := by simp [toTo, List.getD, h]
theorem toTo_set {o : List Int} {n c : Nat} (h0 : 0 ≤ o.getD c 0) : (toTo o n c).set (o.getD c 0).toNat (c : Int) = toTo o n (c + 1) := by
  apply List.ext_getElem
  · simp [toTo]
  · intro i h1 h2
    rw [List.getElem_set]
    simp only [toTo, List.getElem_map, List.getElem_range, lastTo]
    by_cases e : o.getD c 0 = (i : Int)
    · rw [if_pos e, if_pos (by omega)]
    · rw [if_neg e, if_neg (by omega)]
theorem asg_to {o : List Int} {n : Nat} (hl : o.length = n) (hw : ∀ i, i < o.length → 0 ≤ o.getD i 0 ∧ o.getD i 0 < n) : asg o n ↔ ¬ (-1 : Int) ∈ toTo o n o.length := by
  rw [asg_iff hl, mem_getD]
  constructor
  · rintro ⟨_, h2⟩ ⟨k, hk, e⟩
    rw [toTo_len] at hk
    rw [toTo_get hk, lastTo_neg] at e
    obtain ⟨i, hi, e2⟩ := h2 k hk
    exact e i (by omega) e2
  · intro h
    refine ⟨fun i hi => hw i (by omega), fun j hj => Classical.byContradiction fun hn => h ⟨j, by rw [toTo_len]; exact hj, ?_⟩⟩
    rw [toTo_get hj, lastTo_neg]
    exact fun i hi e => hn ⟨i, by omega, e⟩

theorem gpass_rc {w : World} {gv av ov : Value} {vs : List Value} {rr : List (List Int)} {a o : List Int} (Hg : Mat w gv vs rr) (Ha : Ints w av a) (Ho : Ints w ov o) :
    RC Try.prog 34 [.agg #[gv], av, ov] w NoB (fun u w' => ∃ v, u = .tuple #[v, .int .i64 (passE rr a o)] ∧ OI w' v (passR rr a o)) := by
  refine RC.mk tyOk Try.func34 rfl (by kernel_rfl) fun w1 E1 => ?_
  replace Hg := Hg.ext E1
  replace Ha := Ha.ext E1
  replace Ho := Ho.ext E1
  refine Bx.agg fun b w2 E2 _ Hb _ => ?_
  replace Hg := Hg.ext E2
  replace Ha := Ha.ext E2
  replace Ho := Ho.ext E2
  by_cases hv : vld rr a = 0
  · have hal := al_of_vld hv
    have hn := hal.n6
    have hm := hal.m10
    have hlen := hal.len
    repeat' (conv => whnf
             first
             | (refine Dr.quiet tyOk (by kernel_rfl) ?_)
             | (refine VC.pure (gvalid_pc Hg Ha) ?_)
             | (refine Rng.mk (by omega) ?_)
             | (refine Split.pos (by omega) ?_)
             | (refine Split.neg (by omega) ?_)
             | (refine Split.mk (fun h => ?_) (fun h => ?_))
             | (refine Need.mk (by omega) ?_)
             | (refine Ints.ln (by assumption) ?_)
             | (refine Mat.ln (by assumption) ?_)
             | (refine Ints.ln (Mat.row (by assumption) _ (by omega)) ?_)
             | (refine Ints.ix (by assumption) (by omega) ?_)
             | (refine Mat.ix (by assumption) (by omega) ?_)
             | (refine Ints.ix (Mat.row (by assumption) _ (by omega)) (by omega) ?_)
             | (refine Ints.ix (c := 0) (by assumption) (by omega) ?_)
             | (refine Mat.ix (c := 0) (by assumption) (by omega) ?_)
             | (refine Ints.ix (c := 0) (Mat.row (by assumption) _ (by omega)) (by omega) ?_)
             | (refine Ints.ixI (by assumption) (by omega) ?_)
             | (refine Mat.ixI (by assumption) (by omega) ?_)
             | (refine Ints.ixI (Mat.row (by assumption) _ (by omega)) (by omega) ?_)
             | (refine Ints.ld (by assumption) (by omega) ?_)
             | (refine Mat.ld (by assumption) (by omega) ?_)
             | (refine Ints.ld (Mat.row (by assumption) _ (by omega)) (by omega) ?_)
             | (refine At.ld (by assumption) rfl ?_)
             | (refine At.ldN (by assumption) rfl ?_))
    conv => whnf
    refine VE.litI [-1] Try.underlying25 eInt (by simp) fun l1 w3 E3 H1 _ => ?_
    replace H1 := H1 0 (Nat.zero_le _)
    replace Hg := Hg.ext E3
    replace Ha := Ha.ext E3
    replace Ho := Ho.ext E3
    replace Hb := Hb.ext E3
    repeat' (conv => whnf
             first
             | (refine Dr.quiet tyOk (by kernel_rfl) ?_)
             | (refine Rng.mk (by omega) ?_)
             | (refine Split.pos (by omega) ?_)
             | (refine Split.neg (by omega) ?_)
             | (refine Split.mk (fun h => ?_) (fun h => ?_))
             | (refine Need.mk (by omega) ?_)
             | (refine Ints.ln (by assumption) ?_)
             | (refine Mat.ln (by assumption) ?_)
             | (refine Ints.ln (Mat.row (by assumption) _ (by omega)) ?_)
             | (refine Ints.ix (by assumption) (by omega) ?_)
             | (refine Mat.ix (by assumption) (by omega) ?_)
             | (refine Ints.ix (Mat.row (by assumption) _ (by omega)) (by omega) ?_)
             | (refine Ints.ix (c := 0) (by assumption) (by omega) ?_)
             | (refine Mat.ix (c := 0) (by assumption) (by omega) ?_)
             | (refine Ints.ix (c := 0) (Mat.row (by assumption) _ (by omega)) (by omega) ?_)
             | (refine Ints.ixI (by assumption) (by omega) ?_)
             | (refine Mat.ixI (by assumption) (by omega) ?_)
             | (refine Ints.ixI (Mat.row (by assumption) _ (by omega)) (by omega) ?_)
             | (refine Ints.ld (by assumption) (by omega) ?_)
             | (refine Mat.ld (by assumption) (by omega) ?_)
             | (refine Ints.ld (Mat.row (by assumption) _ (by omega)) (by omega) ?_)
             | (refine At.ld (by assumption) rfl ?_)
             | (refine At.ldN (by assumption) rfl ?_))
    refine VC.rc (repeat_rc (Own.sl H1) (by omega)) ?_
    rintro tv w4 E4 ⟨_, Ht⟩
    replace Ht := Ht _ (Nat.le_refl _)
    rw [← toTo_zero o] at Ht
    have Ho3 := Ho
    have Ha3 := Ha
    replace Hg := Hg.ext E4
    replace Ha := Ha.ext E4
    replace Ho := Ho.ext E4
    replace Hb := Hb.ext E4
    have HtI : Ints w4 tv (toTo o rr.length 0) := by unfold Ints; rw [toTo_len]; exact Own.sl Ht
    have htl := toTo_len o rr.length 0
    have c1 := within_pc (lo := 0) (hi := ((toTo o rr.length 0).length : Int)) Ho
    have eN : ¬ asg o rr.length → passE rr a o = 2 ∧ passR rr a o = [] := fun h => ⟨by unfold passE; rw [if_neg (by omega), if_neg h], by unfold passR; rw [if_neg (fun hh => h hh.2)]⟩
    by_cases hl : o.length = rr.length
    · by_cases hw : ∀ i, i < o.length → 0 ≤ o.getD i 0 ∧ o.getD i 0 < ((toTo o rr.length 0).length : Int)
      · rw [tf_t hw] at c1
        have hw2 : ∀ i, i < o.length → 0 ≤ o.getD i 0 ∧ o.getD i 0 < (rr.length : Int) := by rw [htl] at hw; exact hw
        repeat' (conv => whnf
                 first
                 | (refine Dr.quiet tyOk (by kernel_rfl) ?_)
                 | (refine VC.pure c1 ?_)
                 | (refine Rng.mk (by omega) ?_)
                 | (refine Split.pos (by omega) ?_)
                 | (refine Split.neg (by omega) ?_)
                 | (refine Split.mk (fun h => ?_) (fun h => ?_))
                 | (refine Need.mk (by omega) ?_)
                 | (refine Ints.ln (by assumption) ?_)
                 | (refine Mat.ln (by assumption) ?_)
                 | (refine Ints.ln (Mat.row (by assumption) _ (by omega)) ?_)
                 | (refine Ints.ix (by assumption) (by omega) ?_)
                 | (refine Mat.ix (by assumption) (by omega) ?_)
                 | (refine Ints.ix (Mat.row (by assumption) _ (by omega)) (by omega) ?_)
                 | (refine Ints.ix (c := 0) (by assumption) (by omega) ?_)
                 | (refine Mat.ix (c := 0) (by assumption) (by omega) ?_)
                 | (refine Ints.ix (c := 0) (Mat.row (by assumption) _ (by omega)) (by omega) ?_)
                 | (refine Ints.ixI (by assumption) (by omega) ?_)
                 | (refine Mat.ixI (by assumption) (by omega) ?_)
                 | (refine Ints.ixI (Mat.row (by assumption) _ (by omega)) (by omega) ?_)
                 | (refine Ints.ld (by assumption) (by omega) ?_)
                 | (refine Mat.ld (by assumption) (by omega) ?_)
                 | (refine Ints.ld (Mat.row (by assumption) _ (by omega)) (by omega) ?_)
                 | (refine At.ld (by assumption) rfl ?_)
                 | (refine At.ldN (by assumption) rfl ?_))
        have Ho4 := Ho
        have Ha4 := Ha
        refine Lp.mk tyOk [false, false, false, false, false, false, false, false, false, false, true, true, false, false, false, false, false, false, false, false, false, false, false, false, false, false, false, false, false, false, false, false, false, false, false, false, false, false, false, false, true, true, true, true, true, true, true, true, true, true] (fun m fr wr => getK fr 40 fun j => ∃ c : Nat, c ≤ o.length ∧ m = o.length - c ∧ j = .int .i64 (c : Int) ∧ Ext w3 wr ∧ Own w3.heap.size 3 1 wr tv rr.length ((toTo o rr.length c).map i64v)) o.length ?_ ?_
        · exact ⟨0, Nat.zero_le _, rfl, rfl, E4, Ht⟩
        · intro m w5 u10 u11 u40 u41 u42 u43 u44 u45 u46 u47 u48 u49 hR
          obtain ⟨c, hc, rfl, rfl, E5, Hr⟩ := hR
          have hwc := hw2 c
          have E45 : Ext w3 w5 := E5
          replace Ho := Ho3.ext E5
          replace Ha := Ha3.ext E5
          have hrl := toTo_len o rr.length c
          have HrI : Ints w5 tv (toTo o rr.length c) := by unfold Ints; rw [hrl]; exact Own.sl Hr
          repeat' (conv => whnf
                   first
                   | (refine Dr.quiet tyOk (by kernel_rfl) ?_)
                   | (refine Rng.mk (by omega) ?_)
                   | (refine Split.pos (by omega) ?_)
                   | (refine Split.neg (by omega) ?_)
                   | (refine Split.mk (fun h => ?_) (fun h => ?_))
                   | (refine Need.mk (by omega) ?_)
                   | (refine Ints.ln (by assumption) ?_)
                   | (refine Mat.ln (by assumption) ?_)
                   | (refine Ints.ln (Mat.row (by assumption) _ (by omega)) ?_)
                   | (refine Ints.ix (by assumption) (by omega) ?_)
                   | (refine Mat.ix (by assumption) (by omega) ?_)
                   | (refine Ints.ix (Mat.row (by assumption) _ (by omega)) (by omega) ?_)
                   | (refine Ints.ix (c := 0) (by assumption) (by omega) ?_)
                   | (refine Mat.ix (c := 0) (by assumption) (by omega) ?_)
                   | (refine Ints.ix (c := 0) (Mat.row (by assumption) _ (by omega)) (by omega) ?_)
                   | (refine Ints.ixI (by assumption) (by omega) ?_)
                   | (refine Mat.ixI (by assumption) (by omega) ?_)
                   | (refine Ints.ixI (Mat.row (by assumption) _ (by omega)) (by omega) ?_)
                   | (refine Ints.ld (by assumption) (by omega) ?_)
                   | (refine Mat.ld (by assumption) (by omega) ?_)
                   | (refine Ints.ld (Mat.row (by assumption) _ (by omega)) (by omega) ?_)
                   | (refine At.ld (by assumption) rfl ?_)
                   | (refine At.ldN (by assumption) rfl ?_))
          · refine Own.set Hr (by rw [List.length_map, hrl]; omega) rfl fun w6 G6 H6 => ?_
            have E6 := Own.keep Hr E5 (Nat.le_refl _) G6
            rw [set_map, toTo_set (by omega)] at H6
            repeat' (conv => whnf
                     first
                     | (refine Dr.quiet tyOk (by kernel_rfl) ?_)
                     | (refine Rng.mk (by omega) ?_)
                     | (refine Split.pos (by omega) ?_)
                     | (refine Split.neg (by omega) ?_)
                     | (refine Split.mk (fun h => ?_) (fun h => ?_))
                     | (refine Need.mk (by omega) ?_)
                     | (refine Ints.ln (by assumption) ?_)
                     | (refine Mat.ln (by assumption) ?_)
                     | (refine Ints.ln (Mat.row (by assumption) _ (by omega)) ?_)
                     | (refine Ints.ix (by assumption) (by omega) ?_)
                     | (refine Mat.ix (by assumption) (by omega) ?_)
                     | (refine Ints.ix (Mat.row (by assumption) _ (by omega)) (by omega) ?_)
                     | (refine Ints.ix (c := 0) (by assumption) (by omega) ?_)
                     | (refine Mat.ix (c := 0) (by assumption) (by omega) ?_)
                     | (refine Ints.ix (c := 0) (Mat.row (by assumption) _ (by omega)) (by omega) ?_)
                     | (refine Ints.ixI (by assumption) (by omega) ?_)
                     | (refine Mat.ixI (by assumption) (by omega) ?_)
                     | (refine Ints.ixI (Mat.row (by assumption) _ (by omega)) (by omega) ?_)
                     | (refine Ints.ld (by assumption) (by omega) ?_)
                     | (refine Mat.ld (by assumption) (by omega) ?_)
                     | (refine Ints.ld (Mat.row (by assumption) _ (by omega)) (by omega) ?_)
                     | (refine At.ld (by assumption) rfl ?_)
                     | (refine At.ldN (by assumption) rfl ?_))
            exact ⟨_, (by omega : o.length - (c + 1) < o.length - c), rfl, c + 1, by omega, rfl, rfl, E6, H6⟩
          · obtain rfl : c = o.length := by omega
            have cC := contains_pc (x := -1) HrI
            by_cases hmem : (-1 : Int) ∈ toTo o rr.length o.length
            · rw [tf_t hmem] at cC
              have hna : ¬ asg o rr.length := fun h => (asg_to hl hw2).1 h hmem
              rw [(eN hna).1, (eN hna).2]
              refine VC.pure cC ?_
              repeat' (conv => whnf
                       first
                       | (refine Dr.quiet tyOk (by kernel_rfl) ?_)
                       | (refine Rng.mk (by omega) ?_)
                       | (refine Split.pos (by omega) ?_)
                       | (refine Split.neg (by omega) ?_)
                       | (refine Split.mk (fun h => ?_) (fun h => ?_))
                       | (refine Need.mk (by omega) ?_)
                       | (refine Ints.ln (by assumption) ?_)
                       | (refine Mat.ln (by assumption) ?_)
                       | (refine Ints.ln (Mat.row (by assumption) _ (by omega)) ?_)
                       | (refine Ints.ix (by assumption) (by omega) ?_)
                       | (refine Mat.ix (by assumption) (by omega) ?_)
                       | (refine Ints.ix (Mat.row (by assumption) _ (by omega)) (by omega) ?_)
                       | (refine Ints.ix (c := 0) (by assumption) (by omega) ?_)
                       | (refine Mat.ix (c := 0) (by assumption) (by omega) ?_)
                       | (refine Ints.ix (c := 0) (Mat.row (by assumption) _ (by omega)) (by omega) ?_)
                       | (refine Ints.ixI (by assumption) (by omega) ?_)
                       | (refine Mat.ixI (by assumption) (by omega) ?_)
                       | (refine Ints.ixI (Mat.row (by assumption) _ (by omega)) (by omega) ?_)
                       | (refine Ints.ld (by assumption) (by omega) ?_)
                       | (refine Mat.ld (by assumption) (by omega) ?_)
                       | (refine Ints.ld (Mat.row (by assumption) _ (by omega)) (by omega) ?_)
                       | (refine At.ld (by assumption) rfl ?_)
                       | (refine At.ldN (by assumption) rfl ?_))
              exact ⟨E2.trans (E3.trans E5), _, rfl, Own.nil⟩
            · rw [tf_f hmem] at cC
              have hasg : asg o rr.length := (asg_to hl hw2).2 hmem
              have eE : passE rr a o = 0 := by unfold passE; rw [if_neg (by omega), if_pos hasg]
              have eR : passR rr a o = passV a o := by unfold passR; rw [if_pos ⟨hv, hasg⟩]
              rw [eE, eR]
              refine VC.pure cC ?_
              repeat' (conv => whnf
                       first
                       | (refine Dr.quiet tyOk (by kernel_rfl) ?_)
                       | (refine Rng.mk (by omega) ?_)
                       | (refine Split.pos (by omega) ?_)
                       | (refine Split.neg (by omega) ?_)
                       | (refine Split.mk (fun h => ?_) (fun h => ?_))
                       | (refine Need.mk (by omega) ?_)
                       | (refine Ints.ln (by assumption) ?_)
                       | (refine Mat.ln (by assumption) ?_)
                       | (refine Ints.ln (Mat.row (by assumption) _ (by omega)) ?_)
                       | (refine Ints.ix (by assumption) (by omega) ?_)
                       | (refine Mat.ix (by assumption) (by omega) ?_)
                       | (refine Ints.ix (Mat.row (by assumption) _ (by omega)) (by omega) ?_)
                       | (refine Ints.ix (c := 0) (by assumption) (by omega) ?_)
                       | (refine Mat.ix (c := 0) (by assumption) (by omega) ?_)
                       | (refine Ints.ix (c := 0) (Mat.row (by assumption) _ (by omega)) (by omega) ?_)
                       | (refine Ints.ixI (by assumption) (by omega) ?_)
                       | (refine Mat.ixI (by assumption) (by omega) ?_)
                       | (refine Ints.ixI (Mat.row (by assumption) _ (by omega)) (by omega) ?_)
                       | (refine Ints.ld (by assumption) (by omega) ?_)
                       | (refine Mat.ld (by assumption) (by omega) ?_)
                       | (refine Ints.ld (Mat.row (by assumption) _ (by omega)) (by omega) ?_)
                       | (refine At.ld (by assumption) rfl ?_)
                       | (refine At.ldN (by assumption) rfl ?_))
              have Ha5 := Ha
              have HrI5 := HrI
              refine Lp.mk tyOk [false, false, false, false, false, false, false, false, false, false, false, false, true, false, true, false, false, false, false, false, false, false, false, false, false, false, false, false, false, false, false, false, false, false, false, false, false, false, false, false, false, false, false, false, false, false, false, false, false, false, false, false, false, false, true, true, true, true, true, true, true, true, true, true, true, true, true, true, true] (fun m fr wr => getK fr 54 fun k => getK fr 12 fun v => ∃ c : Nat, c ≤ a.length ∧ m = a.length - c ∧ k = .int .i64 (c : Int) ∧ Ext w5 wr ∧ Own w5.heap.size 3 1 wr v c (((List.range c).map fun k => lastTo o (a.getD k 0) o.length).map i64v)) a.length ?_ ?_
              · exact ⟨0, Nat.zero_le _, rfl, rfl, Ext.refl _, Own.nil⟩
              · intro m w6 u12 u14 u54 u55 u56 u57 u58 u59 u60 u61 u62 u63 u64 u65 u66 u67 u68 hR
                obtain ⟨c, hc, rfl, rfl, E6, Hv⟩ := hR
                replace Ha := Ha5.ext E6
                replace HrI := HrI5.ext E6
                have hrg := hal.rng c
                have hget : ∀ x : Int, 0 ≤ x → x < rr.length → (toTo o rr.length o.length).getD x.toNat 0 = lastTo o x o.length := fun x h0 h1 => by
                  rw [toTo_get (by omega)]; congr 1; omega
                have hneg : a.getD c 0 < 0 → lastTo o (a.getD c 0) o.length = -1 := fun h => lastTo_neg.2 fun i hi e => by have := hw2 i hi; omega
                repeat' (conv => whnf
                         first
                         | (refine Dr.quiet tyOk (by kernel_rfl) ?_)
                         | (refine Rng.mk (by omega) ?_)
                         | (refine Split.pos (by omega) ?_)
                         | (refine Split.neg (by omega) ?_)
                         | (refine Split.mk (fun h => ?_) (fun h => ?_))
                         | (refine Need.mk (by omega) ?_)
                         | (refine Ints.ln (by assumption) ?_)
                         | (refine Mat.ln (by assumption) ?_)
                         | (refine Ints.ln (Mat.row (by assumption) _ (by omega)) ?_)
                         | (refine Ints.ix (by assumption) (by omega) ?_)
                         | (refine Mat.ix (by assumption) (by omega) ?_)
                         | (refine Ints.ix (Mat.row (by assumption) _ (by omega)) (by omega) ?_)
                         | (refine Ints.ix (c := 0) (by assumption) (by omega) ?_)
                         | (refine Mat.ix (c := 0) (by assumption) (by omega) ?_)
                         | (refine Ints.ix (c := 0) (Mat.row (by assumption) _ (by omega)) (by omega) ?_)
                         | (refine Ints.ixI (by assumption) (by omega) ?_)
                         | (refine Mat.ixI (by assumption) (by omega) ?_)
                         | (refine Ints.ixI (Mat.row (by assumption) _ (by omega)) (by omega) ?_)
                         | (refine Ints.ld (by assumption) (by omega) ?_)
                         | (refine Mat.ld (by assumption) (by omega) ?_)
                         | (refine Ints.ld (Mat.row (by assumption) _ (by omega)) (by omega) ?_)
                         | (refine At.ld (by assumption) rfl ?_)
                         | (refine At.ldN (by assumption) rfl ?_))
                · refine VE.lit1 Try.underlying25 eInt (rfl) fun lv w7 E7 Hl => ?_
                  replace Hv := Hv.ext E7
                  conv => whnf
                  refine VE.app Try.underlying25 eInt rfl (by omega) Hv (E6.trans E7) rfl Hl (by simp [Value.oneCell']) (by first | omega | (simp only [List.length_map, List.length_range]; omega)) (by first | omega | (simp only [List.length_map, List.length_range]; omega)) fun v8 w8 E8 G8 H8 => ?_
                  repeat' (conv => whnf
                           first
                           | (refine Dr.quiet tyOk (by kernel_rfl) ?_)
                           | (refine Rng.mk (by omega) ?_)
                           | (refine Split.pos (by omega) ?_)
                           | (refine Split.neg (by omega) ?_)
                           | (refine Split.mk (fun h => ?_) (fun h => ?_))
                           | (refine Need.mk (by omega) ?_)
                           | (refine Ints.ln (by assumption) ?_)
                           | (refine Mat.ln (by assumption) ?_)
                           | (refine Ints.ln (Mat.row (by assumption) _ (by omega)) ?_)
                           | (refine Ints.ix (by assumption) (by omega) ?_)
                           | (refine Mat.ix (by assumption) (by omega) ?_)
                           | (refine Ints.ix (Mat.row (by assumption) _ (by omega)) (by omega) ?_)
                           | (refine Ints.ix (c := 0) (by assumption) (by omega) ?_)
                           | (refine Mat.ix (c := 0) (by assumption) (by omega) ?_)
                           | (refine Ints.ix (c := 0) (Mat.row (by assumption) _ (by omega)) (by omega) ?_)
                           | (refine Ints.ixI (by assumption) (by omega) ?_)
                           | (refine Mat.ixI (by assumption) (by omega) ?_)
                           | (refine Ints.ixI (Mat.row (by assumption) _ (by omega)) (by omega) ?_)
                           | (refine Ints.ld (by assumption) (by omega) ?_)
                           | (refine Mat.ld (by assumption) (by omega) ?_)
                           | (refine Ints.ld (Mat.row (by assumption) _ (by omega)) (by omega) ?_)
                           | (refine At.ld (by assumption) rfl ?_)
                           | (refine At.ldN (by assumption) rfl ?_))
                  refine ⟨_, (by omega : a.length - (c + 1) < a.length - c), rfl, c + 1, by omega, rfl, rfl, E8, ?_⟩
                  rw [map_range_succ, List.map_append, ← hget (a.getD c 0) (by omega) (by omega)]
                  exact H8
                · refine VE.lit1 Try.underlying25 eInt (rfl) fun lv w7 E7 Hl => ?_
                  replace Hv := Hv.ext E7
                  conv => whnf
                  refine VE.app Try.underlying25 eInt rfl (by omega) Hv (E6.trans E7) rfl Hl (by simp [Value.oneCell']) (by first | omega | (simp only [List.length_map, List.length_range]; omega)) (by first | omega | (simp only [List.length_map, List.length_range]; omega)) fun v8 w8 E8 G8 H8 => ?_
                  repeat' (conv => whnf
                           first
                           | (refine Dr.quiet tyOk (by kernel_rfl) ?_)
                           | (refine Rng.mk (by omega) ?_)
                           | (refine Split.pos (by omega) ?_)
                           | (refine Split.neg (by omega) ?_)
                           | (refine Split.mk (fun h => ?_) (fun h => ?_))
                           | (refine Need.mk (by omega) ?_)
                           | (refine Ints.ln (by assumption) ?_)
                           | (refine Mat.ln (by assumption) ?_)
                           | (refine Ints.ln (Mat.row (by assumption) _ (by omega)) ?_)
                           | (refine Ints.ix (by assumption) (by omega) ?_)
                           | (refine Mat.ix (by assumption) (by omega) ?_)
                           | (refine Ints.ix (Mat.row (by assumption) _ (by omega)) (by omega) ?_)
                           | (refine Ints.ix (c := 0) (by assumption) (by omega) ?_)
                           | (refine Mat.ix (c := 0) (by assumption) (by omega) ?_)
                           | (refine Ints.ix (c := 0) (Mat.row (by assumption) _ (by omega)) (by omega) ?_)
                           | (refine Ints.ixI (by assumption) (by omega) ?_)
                           | (refine Mat.ixI (by assumption) (by omega) ?_)
                           | (refine Ints.ixI (Mat.row (by assumption) _ (by omega)) (by omega) ?_)
                           | (refine Ints.ld (by assumption) (by omega) ?_)
                           | (refine Mat.ld (by assumption) (by omega) ?_)
                           | (refine Ints.ld (Mat.row (by assumption) _ (by omega)) (by omega) ?_)
                           | (refine At.ld (by assumption) rfl ?_)
                           | (refine At.ldN (by assumption) rfl ?_))
                  refine ⟨_, (by omega : a.length - (c + 1) < a.length - c), rfl, c + 1, by omega, rfl, rfl, E8, ?_⟩
                  have e1 : lastTo o (a.getD c 0) o.length = a.getD c 0 := by rw [hneg (by omega)]; omega
                  rw [map_range_succ, List.map_append, e1]
                  exact H8
                · obtain rfl : c = a.length := by omega
                  exact ⟨E2.trans (E3.trans (E5.trans E6)), _, rfl, OI.of Hv⟩
      · rw [tf_f hw] at c1
        rw [htl] at hw
        have hna : ¬ asg o rr.length := fun h => hw (by rw [hl]; exact ((asg_iff hl).1 h).1)
        rw [(eN hna).1, (eN hna).2]
        repeat' (conv => whnf
                 first
                 | (refine Dr.quiet tyOk (by kernel_rfl) ?_)
                 | (refine VC.pure c1 ?_)
                 | (refine Rng.mk (by omega) ?_)
                 | (refine Split.pos (by omega) ?_)
                 | (refine Split.neg (by omega) ?_)
                 | (refine Split.mk (fun h => ?_) (fun h => ?_))
                 | (refine Need.mk (by omega) ?_)
                 | (refine Ints.ln (by assumption) ?_)
                 | (refine Mat.ln (by assumption) ?_)
                 | (refine Ints.ln (Mat.row (by assumption) _ (by omega)) ?_)
                 | (refine Ints.ix (by assumption) (by omega) ?_)
                 | (refine Mat.ix (by assumption) (by omega) ?_)
                 | (refine Ints.ix (Mat.row (by assumption) _ (by omega)) (by omega) ?_)
                 | (refine Ints.ix (c := 0) (by assumption) (by omega) ?_)
                 | (refine Mat.ix (c := 0) (by assumption) (by omega) ?_)
                 | (refine Ints.ix (c := 0) (Mat.row (by assumption) _ (by omega)) (by omega) ?_)
                 | (refine Ints.ixI (by assumption) (by omega) ?_)
                 | (refine Mat.ixI (by assumption) (by omega) ?_)
                 | (refine Ints.ixI (Mat.row (by assumption) _ (by omega)) (by omega) ?_)
                 | (refine Ints.ld (by assumption) (by omega) ?_)
                 | (refine Mat.ld (by assumption) (by omega) ?_)
                 | (refine Ints.ld (Mat.row (by assumption) _ (by omega)) (by omega) ?_)
                 | (refine At.ld (by assumption) rfl ?_)
                 | (refine At.ldN (by assumption) rfl ?_))
        exact ⟨E2.trans (E3.trans E4), _, rfl, Own.nil⟩
    · have hna : ¬ asg o rr.length := fun h => hl h.1
      rw [(eN hna).1, (eN hna).2]
      repeat' (conv => whnf
               first
               | (refine Dr.quiet tyOk (by kernel_rfl) ?_)
               | (refine Rng.mk (by omega) ?_)
               | (refine Split.pos (by omega) ?_)
               | (refine Split.neg (by omega) ?_)
               | (refine Split.mk (fun h => ?_) (fun h => ?_))
               | (refine Need.mk (by omega) ?_)
               | (refine Ints.ln (by assumption) ?_)
               | (refine Mat.ln (by assumption) ?_)
               | (refine Ints.ln (Mat.row (by assumption) _ (by omega)) ?_)
               | (refine Ints.ix (by assumption) (by omega) ?_)
               | (refine Mat.ix (by assumption) (by omega) ?_)
               | (refine Ints.ix (Mat.row (by assumption) _ (by omega)) (by omega) ?_)
               | (refine Ints.ix (c := 0) (by assumption) (by omega) ?_)
               | (refine Mat.ix (c := 0) (by assumption) (by omega) ?_)
               | (refine Ints.ix (c := 0) (Mat.row (by assumption) _ (by omega)) (by omega) ?_)
               | (refine Ints.ixI (by assumption) (by omega) ?_)
               | (refine Mat.ixI (by assumption) (by omega) ?_)
               | (refine Ints.ixI (Mat.row (by assumption) _ (by omega)) (by omega) ?_)
               | (refine Ints.ld (by assumption) (by omega) ?_)
               | (refine Mat.ld (by assumption) (by omega) ?_)
               | (refine Ints.ld (Mat.row (by assumption) _ (by omega)) (by omega) ?_)
               | (refine At.ld (by assumption) rfl ?_)
               | (refine At.ldN (by assumption) rfl ?_))
      exact ⟨E2.trans (E3.trans E4), _, rfl, Own.nil⟩
  · have eE : passE rr a o = vld rr a := by unfold passE; rw [if_pos hv]
    have eR : passR rr a o = [] := by unfold passR; rw [if_neg (fun h => hv h.1)]
    rw [eE, eR]
    repeat' (conv => whnf
             first
             | (refine Dr.quiet tyOk (by kernel_rfl) ?_)
             | (refine VC.pure (gvalid_pc Hg Ha) ?_)
             | (refine Rng.mk (by omega) ?_)
             | (refine Split.pos (by omega) ?_)
             | (refine Split.neg (by omega) ?_)
             | (refine Split.mk (fun h => ?_) (fun h => ?_))
             | (refine Need.mk (by omega) ?_)
             | (refine Ints.ln (by assumption) ?_)
             | (refine Mat.ln (by assumption) ?_)
             | (refine Ints.ln (Mat.row (by assumption) _ (by omega)) ?_)
             | (refine Ints.ix (by assumption) (by omega) ?_)
             | (refine Mat.ix (by assumption) (by omega) ?_)
             | (refine Ints.ix (Mat.row (by assumption) _ (by omega)) (by omega) ?_)
             | (refine Ints.ix (c := 0) (by assumption) (by omega) ?_)
             | (refine Mat.ix (c := 0) (by assumption) (by omega) ?_)
             | (refine Ints.ix (c := 0) (Mat.row (by assumption) _ (by omega)) (by omega) ?_)
             | (refine Ints.ixI (by assumption) (by omega) ?_)
             | (refine Mat.ixI (by assumption) (by omega) ?_)
             | (refine Ints.ixI (Mat.row (by assumption) _ (by omega)) (by omega) ?_)
             | (refine Ints.ld (by assumption) (by omega) ?_)
             | (refine Mat.ld (by assumption) (by omega) ?_)
             | (refine Ints.ld (Mat.row (by assumption) _ (by omega)) (by omega) ?_)
             | (refine At.ld (by assumption) rfl ?_)
             | (refine At.ldN (by assumption) rfl ?_))
    exact ⟨E2, _, rfl, Own.nil⟩
end Go.Proofs.Ytiahjkhfkbcjhaa
