/- The statement GoodsSums. -/
import Derived.Test.YtiahjkhfkbcjhaaRows
import Derived.Test.YtiahjkhfkbcjhaaEngL
import Derived.Test.YtiahjkhfkbcjhaaL16b
import Derived.Test.YtiahjkhfkbcjhaaPlain16
import Derived.ProofKit
namespace Go.Proofs.Ytiahjkhfkbcjhaa
open Go.Eng
set_option maxRecDepth 100000
set_option maxHeartbeats 4000000

theorem sums_pc {w : World} {gv av : Value} {vs : List Value} {rr : List (List Int)} {a : List Int} (Hg : Mat w gv vs rr) (Ha : Ints w av a) : PC Try.prog 5 [.agg #[gv], av] w (.bool true) := by
  refine PC.mk tyOk Try.func5 rfl (by kernel_rfl) fun w1 E1 => ?_
  replace Hg := Hg.ext E1
  replace Ha := Ha.ext E1
  refine Bx.agg fun b w2 E2 _ Hb _ => ?_
  replace Hg := Hg.ext E2
  replace Ha := Ha.ext E2
  have cf := fit_pc Hg Ha
  by_cases hf : ¬ great rr a ∧ vld rr a = 0
  · rw [tf_t hf] at cf
    have hv := hf.2
    have hal := al_of_vld hv
    have hn := hal.n6
    have hm := hal.m10
    have hlen := hal.len
    repeat' (conv => whnf
             first
             | (refine Dr.quiet tyOk (by kernel_rfl) ?_)
             | (refine VC.pure alive_pc ?_)
             | (refine VC.pure cf ?_)
             | (refine Rng.mk (by omega) ?_)
             | (refine Split.pos (by omega) ?_)
             | (refine Split.neg (by omega) ?_)
             | (refine Split.mk (fun h => ?_) (fun h => ?_))
             | (refine Need.mk (by omega) ?_)
             | (refine Ints.ln (by assumption) ?_)
             | (refine Mat.ln (by assumption) ?_)
             | (refine Ints.ln (Mat.row (by assumption) _ (by omega)) ?_)
             | (refine Ints.ix (by assumption) (by omega) ?_)
             | (refine Mat.ix (by assumption) (by omega) ?_)
             | (refine Ints.ix (Mat.row (by assumption) _ (by omega)) (by omega) ?_)
             | (refine Ints.ix (c := 0) (by assumption) (by omega) ?_)
             | (refine Mat.ix (c := 0) (by assumption) (by omega) ?_)
             | (refine Ints.ix (c := 0) (Mat.row (by assumption) _ (by omega)) (by omega) ?_)
             | (refine Ints.ixI (by assumption) (by omega) ?_)
             | (refine Mat.ixI (by assumption) (by omega) ?_)
             | (refine Ints.ixI (Mat.row (by assumption) _ (by omega)) (by omega) ?_)
             | (refine Ints.ld (by assumption) (by omega) ?_)
             | (refine Mat.ld (by assumption) (by omega) ?_)
             | (refine Ints.ld (Mat.row (by assumption) _ (by omega)) (by omega) ?_)
             | (refine At.ld (by assumption) rfl ?_)
             | (refine At.ldN (by assumption) rfl ?_))
    refine VC.rc (gvalues_rc Hg Ha) ?_
    rintro _ w3 E3 ⟨vv, us, rfl, HO⟩
    rw [valsR, if_pos hv] at HO
    rw [hv]
    replace Hg := Hg.ext E3
    replace Ha := Ha.ext E3
    replace Hb := Hb.ext E3
    repeat' (conv => whnf
             first
             | (refine Dr.quiet tyOk (by kernel_rfl) ?_)
             | (refine Rng.mk (by omega) ?_)
             | (refine Split.pos (by omega) ?_)
             | (refine Split.neg (by omega) ?_)
             | (refine Split.mk (fun h => ?_) (fun h => ?_))
             | (refine Need.mk (by omega) ?_)
             | (refine Ints.ln (by assumption) ?_)
             | (refine Mat.ln (by assumption) ?_)
             | (refine Ints.ln (Mat.row (by assumption) _ (by omega)) ?_)
             | (refine Ints.ix (by assumption) (by omega) ?_)
             | (refine Mat.ix (by assumption) (by omega) ?_)
             | (refine Ints.ix (Mat.row (by assumption) _ (by omega)) (by omega) ?_)
             | (refine Ints.ix (c := 0) (by assumption) (by omega) ?_)
             | (refine Mat.ix (c := 0) (by assumption) (by omega) ?_)
             | (refine Ints.ix (c := 0) (Mat.row (by assumption) _ (by omega)) (by omega) ?_)
             | (refine Ints.ixI (by assumption) (by omega) ?_)
             | (refine Mat.ixI (by assumption) (by omega) ?_)
             | (refine Ints.ixI (Mat.row (by assumption) _ (by omega)) (by omega) ?_)
             | (refine Ints.ld (by assumption) (by omega) ?_)
             | (refine Mat.ld (by assumption) (by omega) ?_)
             | (refine Ints.ld (Mat.row (by assumption) _ (by omega)) (by omega) ?_)
             | (refine At.ld (by assumption) rfl ?_)
             | (refine At.ldN (by assumption) rfl ?_))
    refine VC.rc (genvies_rc Hg Ha) ?_
    rintro _ w4 E4 ⟨xv, rfl, HX⟩
    rw [envsR, if_pos hv] at HX
    rw [hv]
    replace Hg := Hg.ext E4
    replace Ha := Ha.ext E4
    replace Hb := Hb.ext E4
    replace HO := HO.ext E4
    repeat' (conv => whnf
             first
             | (refine Dr.quiet tyOk (by kernel_rfl) ?_)
             | (refine Rng.mk (by omega) ?_)
             | (refine Split.pos (by omega) ?_)
             | (refine Split.neg (by omega) ?_)
             | (refine Split.mk (fun h => ?_) (fun h => ?_))
             | (refine Need.mk (by omega) ?_)
             | (refine Ints.ln (by assumption) ?_)
             | (refine Mat.ln (by assumption) ?_)
             | (refine Ints.ln (Mat.row (by assumption) _ (by omega)) ?_)
             | (refine Ints.ix (by assumption) (by omega) ?_)
             | (refine Mat.ix (by assumption) (by omega) ?_)
             | (refine Ints.ix (Mat.row (by assumption) _ (by omega)) (by omega) ?_)
             | (refine Ints.ix (c := 0) (by assumption) (by omega) ?_)
             | (refine Mat.ix (c := 0) (by assumption) (by omega) ?_)
             | (refine Ints.ix (c := 0) (Mat.row (by assumption) _ (by omega)) (by omega) ?_)
             | (refine Ints.ixI (by assumption) (by omega) ?_)
             | (refine Mat.ixI (by assumption) (by omega) ?_)
             | (refine Ints.ixI (Mat.row (by assumption) _ (by omega)) (by omega) ?_)
             | (refine Ints.ld (by assumption) (by omega) ?_)
             | (refine Mat.ld (by assumption) (by omega) ?_)
             | (refine Ints.ld (Mat.row (by assumption) _ (by omega)) (by omega) ?_)
             | (refine At.ld (by assumption) rfl ?_)
             | (refine At.ldN (by assumption) rfl ?_))
    refine VC.rc (gpoor_rc Hg Ha) ?_
    rintro _ w5 E5 ⟨pv, rfl, HP⟩
    rw [poorR, if_pos hv] at HP
    rw [hv]
    replace Hg := Hg.ext E5
    replace Ha := Ha.ext E5
    replace Hb := Hb.ext E5
    replace HO := HO.ext E5
    replace HX := HX.ext E5
    have HXP : Prs w5 xv (envs rr a) := Own.sl HX
    have HPI : Ints w5 pv (poor rr a) := Own.sl HP
    have HV : Mat w5 vv us (vals rr a) := HO.mat
    have lx := HXP.le
    have lp := HPI.le
    have hvl := vals_len rr a
    repeat' (conv => whnf
             first
             | (refine Dr.quiet tyOk (by kernel_rfl) ?_)
             | (refine Rng.mk (by omega) ?_)
             | (refine Split.pos (by omega) ?_)
             | (refine Split.neg (by omega) ?_)
             | (refine Split.mk (fun h => ?_) (fun h => ?_))
             | (refine Need.mk (by omega) ?_)
             | (refine Ints.ln (by assumption) ?_)
             | (refine Mat.ln (by assumption) ?_)
             | (refine Ints.ln (Mat.row (by assumption) _ (by omega)) ?_)
             | (refine Ints.ix (by assumption) (by omega) ?_)
             | (refine Mat.ix (by assumption) (by omega) ?_)
             | (refine Ints.ix (Mat.row (by assumption) _ (by omega)) (by omega) ?_)
             | (refine Ints.ix (c := 0) (by assumption) (by omega) ?_)
             | (refine Mat.ix (c := 0) (by assumption) (by omega) ?_)
             | (refine Ints.ix (c := 0) (Mat.row (by assumption) _ (by omega)) (by omega) ?_)
             | (refine Ints.ixI (by assumption) (by omega) ?_)
             | (refine Mat.ixI (by assumption) (by omega) ?_)
             | (refine Ints.ixI (Mat.row (by assumption) _ (by omega)) (by omega) ?_)
             | (refine Ints.ld (by assumption) (by omega) ?_)
             | (refine Mat.ld (by assumption) (by omega) ?_)
             | (refine Ints.ld (Mat.row (by assumption) _ (by omega)) (by omega) ?_)
             | (refine At.ld (by assumption) rfl ?_)
             | (refine At.ldN (by assumption) rfl ?_))
    refine Lp.mk tyOk [false, false, false, false, true, false, false, false, false, false, false, false, true, true, true, true, true, true, true, false, false, false, false, false, false, false, false, false, false, false, false, false, false, false, false, false, false, false, false, false, false, false, false, false, false, false, false, false, false, false, false, false, false, false, false, false, false, false, false, false, false, false, false, false, false, true, true, true, true, true, true, true, true, true, true, true, true, true, true, true, true, true, true, true, true, true, true, true, true, true, true, true, true, true, true, true, true, true, true, true, true, true, true, true, true, true, true, true, true, true, true, true, true, true, true, true, true, true, true, true, true, true, true, true, true, true, true, true, true, true, true, true, true, true, true, true, true, true, true, true, true, true, true, true, true, true, true, true, true, true, true, true, true, true, true, true, true, true, true, true, true, true, true, true, true, true, true, true, true, true, true, true, true, true, true, true, true] (fun m fr wr => getK fr 14 fun i => getK fr 12 fun x => getK fr 13 fun p => ∃ c : Nat, c ≤ rr.length ∧ m = rr.length - c ∧ i = .int .i64 (c : Int) ∧ x = .int .i64 ((envTo (fun i (k : Nat) => wth rr a i k) rr.length c).length : Int) ∧ p = .int .i64 ((filt (isPoor rr a) c).length : Int) ∧ Ext w5 wr) rr.length ?_ ?_
    · exact ⟨0, Nat.zero_le _, rfl, rfl, rfl, rfl, Ext.refl _⟩
    · intro m w6 u4 u12 u13 u14 u15 u16 u17 u18 u65 u66 u67 u68 u69 u70 u71 u72 u73 u74 u75 u76 u77 u78 u79 u80 u81 u82 u83 u84 u85 u86 u87 u88 u89 u90 u91 u92 u93 u94 u95 u96 u97 u98 u99 u100 u101 u102 u103 u104 u105 u106 u107 u108 u109 u110 u111 u112 u113 u114 u115 u116 u117 u118 u119 u120 u121 u122 u123 u124 u125 u126 u127 u128 u129 u130 u131 u132 u133 u134 u135 u136 u137 u138 u139 u140 u141 u142 u143 u144 u145 u146 u147 u148 u149 u150 u151 u152 u153 u154 u155 u156 u157 u158 u159 u160 u161 u162 u163 u164 u165 u166 u167 u168 u169 u170 u171 u172 u173 u174 u175 u176 hR
      obtain ⟨c, hcl, rfl, rfl, rfl, rfl, E6⟩ := hR
      have hrl := vals_rlen (rr := rr) (a := a) (i := c)
      have Hg5 := Hg
      have Ha5 := Ha
      have HV5 := HV
      have HXP5 := HXP
      have HPI5 := HPI
      have Hb5 := Hb
      have hend1 : c = rr.length → (envTo (fun i (k : Nat) => wth rr a i k) rr.length c).length = (envs rr a).length := fun h => by rw [h]; rfl
      have hend2 : c = rr.length → (filt (isPoor rr a) c).length = (poor rr a).length := fun h => by rw [h]; rfl
      replace Hg := Hg.ext E6
      replace Ha := Ha.ext E6
      replace HV := HV.ext E6
      replace HXP := HXP.ext E6
      replace HPI := HPI.ext E6
      replace Hb := Hb.ext E6
      repeat' (conv => whnf
               first
               | (refine Dr.quiet tyOk (by kernel_rfl) ?_)
               | (refine Prs.ln (by assumption) ?_)
               | (refine Rng.mk (by omega) ?_)
               | (refine Split.pos (by omega) ?_)
               | (refine Split.neg (by omega) ?_)
               | (refine Split.mk (fun h => ?_) (fun h => ?_))
               | (refine Need.mk (by omega) ?_)
               | (refine Ints.ln (by assumption) ?_)
               | (refine Mat.ln (by assumption) ?_)
               | (refine Ints.ln (Mat.row (by assumption) _ (by omega)) ?_)
               | (refine Ints.ix (by assumption) (by omega) ?_)
               | (refine Mat.ix (by assumption) (by omega) ?_)
               | (refine Ints.ix (Mat.row (by assumption) _ (by omega)) (by omega) ?_)
               | (refine Ints.ix (c := 0) (by assumption) (by omega) ?_)
               | (refine Mat.ix (c := 0) (by assumption) (by omega) ?_)
               | (refine Ints.ix (c := 0) (Mat.row (by assumption) _ (by omega)) (by omega) ?_)
               | (refine Ints.ixI (by assumption) (by omega) ?_)
               | (refine Mat.ixI (by assumption) (by omega) ?_)
               | (refine Ints.ixI (Mat.row (by assumption) _ (by omega)) (by omega) ?_)
               | (refine Ints.ld (by assumption) (by omega) ?_)
               | (refine Mat.ld (by assumption) (by omega) ?_)
               | (refine Ints.ld (Mat.row (by assumption) _ (by omega)) (by omega) ?_)
               | (refine At.ld (by assumption) rfl ?_)
               | (refine At.ldN (by assumption) rfl ?_))
      · have hcn : c < rr.length := by omega
        have hrow := hal.row c hcn
        refine Lp.mk tyOk [false, false, false, false, false, false, false, false, false, false, false, false, false, false, false, false, true, true, false, false, false, false, false, false, false, false, false, false, false, false, false, false, false, false, false, false, false, false, false, false, false, false, false, false, false, false, false, false, false, false, false, false, false, false, false, false, false, false, false, false, false, false, false, false, false, false, false, false, false, false, false, false, false, false, false, false, false, false, false, true, true, true, true, true, true, true, true, true, true, true, true, true, true, true, true, true, true, true, true, true] (fun m fr wr => getK fr 16 fun s => getK fr 17 fun k => ∃ c2 : Nat, c2 ≤ a.length ∧ m = a.length - c2 ∧ k = .int .i64 (c2 : Int) ∧ s = .int .i64 (someTo a (rr.getD c []) c2) ∧ Ext w5 wr) a.length ?_ ?_
        · exact ⟨0, Nat.zero_le _, rfl, rfl, rfl, E6⟩
        · intro m w7 u16 u17 u79 u80 u81 u82 u83 u84 u85 u86 u87 u88 u89 u90 u91 u92 u93 u94 u95 u96 u97 u98 u99 hR
          obtain ⟨c2, hc2, rfl, rfl, rfl, E7⟩ := hR
          replace Hg := Hg5.ext E7
          replace Ha := Ha5.ext E7
          replace HV := HV5.ext E7
          replace Hb := Hb5.ext E7
          have hsb := someTo_bd (a := a) (fun j => hal.val c j) c2
          have hvb : 0 ≤ (rr.getD c []).getD c2 0 ∧ (rr.getD c []).getD c2 0 ≤ 1000 := hal.val c c2
          repeat' (conv => whnf
                   first
                   | (refine Dr.quiet tyOk (by kernel_rfl) ?_)
                   | (refine Rng.mk (by omega) ?_)
                   | (refine Split.pos (by omega) ?_)
                   | (refine Split.neg (by omega) ?_)
                   | (refine Split.mk (fun h => ?_) (fun h => ?_))
                   | (refine Need.mk (by omega) ?_)
                   | (refine Ints.ln (by assumption) ?_)
                   | (refine Mat.ln (by assumption) ?_)
                   | (refine Ints.ln (Mat.row (by assumption) _ (by omega)) ?_)
                   | (refine Ints.ix (by assumption) (by omega) ?_)
                   | (refine Mat.ix (by assumption) (by omega) ?_)
                   | (refine Ints.ix (Mat.row (by assumption) _ (by omega)) (by omega) ?_)
                   | (refine Ints.ix (c := 0) (by assumption) (by omega) ?_)
                   | (refine Mat.ix (c := 0) (by assumption) (by omega) ?_)
                   | (refine Ints.ix (c := 0) (Mat.row (by assumption) _ (by omega)) (by omega) ?_)
                   | (refine Ints.ixI (by assumption) (by omega) ?_)
                   | (refine Mat.ixI (by assumption) (by omega) ?_)
                   | (refine Ints.ixI (Mat.row (by assumption) _ (by omega)) (by omega) ?_)
                   | (refine Ints.ld (by assumption) (by omega) ?_)
                   | (refine Mat.ld (by assumption) (by omega) ?_)
                   | (refine Ints.ld (Mat.row (by assumption) _ (by omega)) (by omega) ?_)
                   | (refine At.ld (by assumption) rfl ?_)
                   | (refine At.ldN (by assumption) rfl ?_))
          · refine ⟨_, (by omega : a.length - (c2 + 1) < a.length - c2), rfl, c2 + 1, by omega, rfl, rfl, ?_, E7⟩
            simp only [someTo, if_pos ‹0 ≤ a.getD c2 0›]
          · refine ⟨_, (by omega : a.length - (c2 + 1) < a.length - c2), rfl, c2 + 1, by omega, rfl, rfl, ?_, E7⟩
            simp only [someTo, if_neg ‹¬ 0 ≤ a.getD c2 0›, Int.add_zero]
          · obtain rfl : c2 = a.length := by omega
            repeat' (conv => whnf
                     first
                     | (refine Dr.quiet tyOk (by kernel_rfl) ?_)
                     | (refine Rng.mk (by omega) ?_)
                     | (refine Split.pos (by omega) ?_)
                     | (refine Split.neg (by omega) ?_)
                     | (refine Split.mk (fun h => ?_) (fun h => ?_))
                     | (refine Need.mk (by omega) ?_)
                     | (refine Ints.ln (by assumption) ?_)
                     | (refine Mat.ln (by assumption) ?_)
                     | (refine Ints.ln (Mat.row (by assumption) _ (by omega)) ?_)
                     | (refine Ints.ix (by assumption) (by omega) ?_)
                     | (refine Mat.ix (by assumption) (by omega) ?_)
                     | (refine Ints.ix (Mat.row (by assumption) _ (by omega)) (by omega) ?_)
                     | (refine Ints.ix (c := 0) (by assumption) (by omega) ?_)
                     | (refine Mat.ix (c := 0) (by assumption) (by omega) ?_)
                     | (refine Ints.ix (c := 0) (Mat.row (by assumption) _ (by omega)) (by omega) ?_)
                     | (refine Ints.ixI (by assumption) (by omega) ?_)
                     | (refine Mat.ixI (by assumption) (by omega) ?_)
                     | (refine Ints.ixI (Mat.row (by assumption) _ (by omega)) (by omega) ?_)
                     | (refine Ints.ld (by assumption) (by omega) ?_)
                     | (refine Mat.ld (by assumption) (by omega) ?_)
                     | (refine Ints.ld (Mat.row (by assumption) _ (by omega)) (by omega) ?_)
                     | (refine At.ld (by assumption) rfl ?_)
                     | (refine At.ldN (by assumption) rfl ?_))
            refine Lp.mk tyOk [false, false, false, false, true, false, false, false, false, false, false, false, true, false, false, true, false, false, true, false, false, false, false, false, false, false, false, false, false, false, false, false, false, false, false, false, false, false, false, false, false, false, false, false, false, false, false, false, false, false, false, false, false, false, false, false, false, false, false, false, false, false, false, false, false, false, false, false, false, false, false, false, false, false, false, false, false, false, false, false, false, false, false, false, false, false, false, false, false, false, false, false, false, false, false, false, false, false, false, false, true, true, true, true, true, true, true, true, true, true, true, true, true, true, true, true, true, true, true, true, true, true, true, true, true, true, true, true, true, true, true, true, true, true, true, true, true, true, true, true, true, true, true, true, true, true] (fun m fr wr => getK fr 15 fun l => getK fr 12 fun x => getK fr 18 fun k => ∃ c3 : Nat, c3 ≤ rr.length ∧ m = rr.length - c3 ∧ k = .int .i64 (c3 : Int) ∧ l = .int .i64 (sumK (fun k : Nat => wth rr a c k) c3) ∧ x = .int .i64 ((envTo (fun i (k : Nat) => wth rr a i k) rr.length c ++ envRow (fun k : Nat => wth rr a c k) c c3).length : Int) ∧ Ext w5 wr) rr.length ?_ ?_
            · exact ⟨0, Nat.zero_le _, rfl, rfl, rfl, by simp [envRow], E7⟩
            · intro m w8 u4 u12 u15 u18 u100 u101 u102 u103 u104 u105 u106 u107 u108 u109 u110 u111 u112 u113 u114 u115 u116 u117 u118 u119 u120 u121 u122 u123 u124 u125 u126 u127 u128 u129 u130 u131 u132 u133 u134 u135 u136 u137 u138 u139 u140 u141 u142 u143 u144 u145 hR
              obtain ⟨c3, hc3, rfl, rfl, rfl, rfl, E8⟩ := hR
              replace Hg := Hg5.ext E8
              replace Ha := Ha5.ext E8
              replace HV := HV5.ext E8
              replace HXP := HXP5.ext E8
              replace HPI := HPI5.ext E8
              replace Hb := Hb5.ext E8
              have hkb := sumK_bd (f := fun k : Nat => wth rr a c k) (X := 10000) (fun k => by have := wth_bd (a := a) hal.toGd c k; omega) c3
              have hs3 : c3 = rr.length → sumK (fun k : Nat => wth rr a c k) c3 = someTo a (rr.getD c []) a.length := fun h => by rw [h]; exact sum_wth hv c
              have hkb3 := wth_bd (a := a) hal.toGd c c3
              have e1 := vals_get (rr := rr) (a := a) (i := c) (k := c3)
              have e2 := vals_get (rr := rr) (a := a) (i := c) (k := c)
              have hw := wth_bd (a := a) hal.toGd c c
              have hmul := mul_bd (n := (rr.length : Int)) (N := 6) (X := 10000) (by omega) (by omega) hw.1 (by omega)
              have hmv : (0 ≤ ((vals rr a).getD c []).getD c 0 * ((vals rr a).length : Int) ∧ ((vals rr a).getD c []).getD c 0 * ((vals rr a).length : Int) ≤ 60000) ∧ (isPoor rr a c = true ↔ ((vals rr a).getD c []).getD c 0 * ((vals rr a).length : Int) < allv rr c) := by
                rw [e2 hcn hcn, hvl, Int.mul_comm]
                refine ⟨⟨hmul.1, by omega⟩, ?_⟩
                simp [isPoor]
              have hav := sumTo_bd (fun j => hal.val c j) (rr.getD c []).length
              have hat : c3 < rr.length → wth rr a c c < wth rr a c c3 → (envTo (fun i (k : Nat) => wth rr a i k) rr.length c ++ envRow (fun k : Nat => wth rr a c k) c c3).length < (envs rr a).length ∧ ((envs rr a).getD (envTo (fun i (k : Nat) => wth rr a i k) rr.length c ++ envRow (fun k : Nat => wth rr a c k) c c3).length (0, 0)).1 = (c : Int) ∧ ((envs rr a).getD (envTo (fun i (k : Nat) => wth rr a i k) rr.length c ++ envRow (fun k : Nat => wth rr a c k) c c3).length (0, 0)).2 = (c3 : Int) := fun h1 h2 => by
                have := env_at (f := fun i (k : Nat) => wth rr a i k) hcn h1 h2
                refine ⟨this.1, ?_⟩
                rw [envs, this.2]
                exact ⟨rfl, rfl⟩
              have hstep : (envTo (fun i (k : Nat) => wth rr a i k) rr.length c ++ envRow (fun k : Nat => wth rr a c k) c (c3 + 1)).length = (envTo (fun i (k : Nat) => wth rr a i k) rr.length c ++ envRow (fun k : Nat => wth rr a c k) c c3).length + if wth rr a c c < wth rr a c c3 then 1 else 0 := by
                simp only [envRow, List.length_append]; split <;> simp <;> omega
              by_cases hp : isPoor rr a c = true
              · have hq := hmv.2.1 hp
                have hfa := filt_at (p := isPoor rr a) hcn hp
                have hfb : (filt (isPoor rr a) c).length < (poor rr a).length ∧ (poor rr a).getD (filt (isPoor rr a) c).length 0 = (c : Int) := hfa
                have hfs : (filt (isPoor rr a) (c + 1)).length = (filt (isPoor rr a) c).length + 1 := by simp only [filt, if_pos hp]; simp
                repeat' (conv => whnf
                         first
                         | (refine Dr.quiet tyOk (by kernel_rfl) ?_)
                         | (refine Prs.ln HXP ?_)
                         | (refine Prs.ix HXP (by omega) ?_)
                         | (refine Prs.ldN HXP (by omega) ?_)
                         | (refine VS.arr2 Try.underlying51 ePair cells3 ?_)
                         | (refine VS.ne2 Try.underlying51 Try.underlying3 cells3 (by kernel_rfl) ?_)
                         | (refine VCQ.pure (rall_pc Hg (by omega) hal.val (by omega)) ?_)
                         | (refine Rng.mk (by omega) ?_)
                         | (refine Split.pos (by omega) ?_)
                         | (refine Split.neg (by omega) ?_)
                         | (refine Split.mk (fun h => ?_) (fun h => ?_))
                         | (refine Need.mk (by omega) ?_)
                         | (refine Ints.ln (by assumption) ?_)
                         | (refine Mat.ln (by assumption) ?_)
                         | (refine Ints.ln (Mat.row (by assumption) _ (by omega)) ?_)
                         | (refine Ints.ix (by assumption) (by omega) ?_)
                         | (refine Mat.ix (by assumption) (by omega) ?_)
                         | (refine Ints.ix (Mat.row (by assumption) _ (by omega)) (by omega) ?_)
                         | (refine Ints.ix (c := 0) (by assumption) (by omega) ?_)
                         | (refine Mat.ix (c := 0) (by assumption) (by omega) ?_)
                         | (refine Ints.ix (c := 0) (Mat.row (by assumption) _ (by omega)) (by omega) ?_)
                         | (refine Ints.ixI (by assumption) (by omega) ?_)
                         | (refine Mat.ixI (by assumption) (by omega) ?_)
                         | (refine Ints.ixI (Mat.row (by assumption) _ (by omega)) (by omega) ?_)
                         | (refine Ints.ld (by assumption) (by omega) ?_)
                         | (refine Mat.ld (by assumption) (by omega) ?_)
                         | (refine Ints.ld (Mat.row (by assumption) _ (by omega)) (by omega) ?_)
                         | (refine At.ld (by assumption) rfl ?_)
                         | (refine At.ldN (by assumption) rfl ?_))
                · have hcl3 : c3 < rr.length := by omega
                  have hlt : wth rr a c c < wth rr a c c3 := by have := e1 hcn hcl3; have := e2 hcn hcn; omega
                  exact ⟨_, (by omega : rr.length - (c3 + 1) < rr.length - c3), rfl, c3 + 1, by omega, rfl, rfl, by rw [e1 hcn hcl3] <;> rfl, by rw [hstep, if_pos hlt] <;> rfl, E8⟩
                · have hcl3 : c3 < rr.length := by omega
                  have hlt : ¬ wth rr a c c < wth rr a c c3 := by have := e1 hcn hcl3; have := e2 hcn hcn; omega
                  exact ⟨_, (by omega : rr.length - (c3 + 1) < rr.length - c3), rfl, c3 + 1, by omega, rfl, rfl, by rw [e1 hcn hcl3] <;> rfl, by rw [hstep, if_neg hlt] <;> rfl, E8⟩
                · obtain rfl : c3 = rr.length := by omega
                  exact ⟨_, (by omega : rr.length - (c + 1) < rr.length - c), rfl, c + 1, by omega, rfl, rfl, rfl, by rw [hfs] <;> rfl, E8⟩
              · have hq := mt hmv.2.2 hp
                have hfs : (filt (isPoor rr a) (c + 1)).length = (filt (isPoor rr a) c).length := by simp only [filt, if_neg hp]; simp
                repeat' (conv => whnf
                         first
                         | (refine Dr.quiet tyOk (by kernel_rfl) ?_)
                         | (refine Prs.ln HXP ?_)
                         | (refine Prs.ix HXP (by omega) ?_)
                         | (refine Prs.ldN HXP (by omega) ?_)
                         | (refine VS.arr2 Try.underlying51 ePair cells3 ?_)
                         | (refine VS.ne2 Try.underlying51 Try.underlying3 cells3 (by kernel_rfl) ?_)
                         | (refine VCQ.pure (rall_pc Hg (by omega) hal.val (by omega)) ?_)
                         | (refine Rng.mk (by omega) ?_)
                         | (refine Split.pos (by omega) ?_)
                         | (refine Split.neg (by omega) ?_)
                         | (refine Split.mk (fun h => ?_) (fun h => ?_))
                         | (refine Need.mk (by omega) ?_)
                         | (refine Ints.ln (by assumption) ?_)
                         | (refine Mat.ln (by assumption) ?_)
                         | (refine Ints.ln (Mat.row (by assumption) _ (by omega)) ?_)
                         | (refine Ints.ix (by assumption) (by omega) ?_)
                         | (refine Mat.ix (by assumption) (by omega) ?_)
                         | (refine Ints.ix (Mat.row (by assumption) _ (by omega)) (by omega) ?_)
                         | (refine Ints.ix (c := 0) (by assumption) (by omega) ?_)
                         | (refine Mat.ix (c := 0) (by assumption) (by omega) ?_)
                         | (refine Ints.ix (c := 0) (Mat.row (by assumption) _ (by omega)) (by omega) ?_)
                         | (refine Ints.ixI (by assumption) (by omega) ?_)
                         | (refine Mat.ixI (by assumption) (by omega) ?_)
                         | (refine Ints.ixI (Mat.row (by assumption) _ (by omega)) (by omega) ?_)
                         | (refine Ints.ld (by assumption) (by omega) ?_)
                         | (refine Mat.ld (by assumption) (by omega) ?_)
                         | (refine Ints.ld (Mat.row (by assumption) _ (by omega)) (by omega) ?_)
                         | (refine At.ld (by assumption) rfl ?_)
                         | (refine At.ldN (by assumption) rfl ?_))
                · have hcl3 : c3 < rr.length := by omega
                  have hlt : wth rr a c c < wth rr a c c3 := by have := e1 hcn hcl3; have := e2 hcn hcn; omega
                  exact ⟨_, (by omega : rr.length - (c3 + 1) < rr.length - c3), rfl, c3 + 1, by omega, rfl, rfl, by rw [e1 hcn hcl3] <;> rfl, by rw [hstep, if_pos hlt] <;> rfl, E8⟩
                · have hcl3 : c3 < rr.length := by omega
                  have hlt : ¬ wth rr a c c < wth rr a c c3 := by have := e1 hcn hcl3; have := e2 hcn hcn; omega
                  exact ⟨_, (by omega : rr.length - (c3 + 1) < rr.length - c3), rfl, c3 + 1, by omega, rfl, rfl, by rw [e1 hcn hcl3] <;> rfl, by rw [hstep, if_neg hlt] <;> rfl, E8⟩
                · obtain rfl : c3 = rr.length := by omega
                  exact ⟨_, (by omega : rr.length - (c + 1) < rr.length - c), rfl, c + 1, by omega, rfl, rfl, rfl, by rw [hfs] <;> rfl, E8⟩
      · obtain rfl : c = rr.length := by omega
        exact ⟨rfl, E2.trans (E3.trans (E4.trans (E5.trans E6)))⟩
  · rw [tf_f hf] at cf
    repeat' (conv => whnf
             first
             | (refine Dr.quiet tyOk (by kernel_rfl) ?_)
             | (refine VC.pure alive_pc ?_)
             | (refine VC.pure cf ?_)
             | (refine Rng.mk (by omega) ?_)
             | (refine Split.pos (by omega) ?_)
             | (refine Split.neg (by omega) ?_)
             | (refine Split.mk (fun h => ?_) (fun h => ?_))
             | (refine Need.mk (by omega) ?_)
             | (refine Ints.ln (by assumption) ?_)
             | (refine Mat.ln (by assumption) ?_)
             | (refine Ints.ln (Mat.row (by assumption) _ (by omega)) ?_)
             | (refine Ints.ix (by assumption) (by omega) ?_)
             | (refine Mat.ix (by assumption) (by omega) ?_)
             | (refine Ints.ix (Mat.row (by assumption) _ (by omega)) (by omega) ?_)
             | (refine Ints.ix (c := 0) (by assumption) (by omega) ?_)
             | (refine Mat.ix (c := 0) (by assumption) (by omega) ?_)
             | (refine Ints.ix (c := 0) (Mat.row (by assumption) _ (by omega)) (by omega) ?_)
             | (refine Ints.ixI (by assumption) (by omega) ?_)
             | (refine Mat.ixI (by assumption) (by omega) ?_)
             | (refine Ints.ixI (Mat.row (by assumption) _ (by omega)) (by omega) ?_)
             | (refine Ints.ld (by assumption) (by omega) ?_)
             | (refine Mat.ld (by assumption) (by omega) ?_)
             | (refine Ints.ld (Mat.row (by assumption) _ (by omega)) (by omega) ?_)
             | (refine At.ld (by assumption) rfl ?_)
             | (refine At.ldN (by assumption) rfl ?_))
    exact ⟨rfl, E2⟩
open Go.ChangeShapes Go.WideShapes Go.ChangeAt Go.RowKit Go.Eng in
theorem goodsSums_lifted (os : Os) (started : os.Started) (H : Type) (enc : TypeId × Value → H) :
    ReturnsInHanded {} Try.checked os 5 .any (Rows.goodsSumsSpec.pre6 enc Try.prog Try.f5 Rows.goodsSumsRow.domain false) (Rows.goodsSumsSpec.post enc Try.prog Try.f5 false true false false) := by
  refine returnsInHanded_of_change (C := Try.checked) own started (by kernel_rfl) Try.func5
    (ChangeSpec.witness6 (enc := enc) (C := Try.checked) false ⟨#[], #[.agg #[.slice none 0 0], .slice none 0 0], []⟩ 8 (by kernel_rfl) (by kernel_rfl) (by kernel_rfl) (by kernel_rfl)) ?_
  intro W base args ds gs before hval0 hW hcnd _
  have hval : ∀ (j : Nat) t v, Try.f5.params[j]? = some t → args[j]? = some v → Value.okWide Try.prog W .any base t v := hval0
  have hW' := hW
  obtain ⟨p, q, hA0, hV, e0, hfz, hnd⟩ := hW
  have hA : DataW.TrodAll enc Try.prog W 0 (fun _ => true) true Try.f5.params.toList args.toList ds p := hA0
  rw [Try.params5] at hA hval
  clear hfz hnd hV e0 hval0
  obtain ⟨v0, vs0, d0, ds0, p0, q0, e0, rfl, f0, h0, t0⟩ := trodAll_cons hA
  obtain ⟨v1, vs1, d1, ds1, p1, q1, e1, rfl, f1, h1, t1⟩ := trodAll_cons t0
  subst e1
  obtain ⟨ee, rfl, _⟩ := trodAll_nil t1
  subst ee
  obtain rfl : args = #[v0, v1] := Array.toList_inj.1 (by simpa using e0)
  obtain ⟨g0, s0, r0, rfl, H0, R0⟩ := open_G Try.underlying24 rfl (by kernel_rfl) (by kernel_rfl) Try.underlying22 Try.underlying25 Try.underlying3 (by kernel_rfl) (by kernel_rfl) (hval 0 24 _ rfl rfl) h0
  obtain ⟨l1, H1, R1⟩ := open_L Try.underlying25 Try.underlying3 (by kernel_rfl) (hval 1 25 _ rfl rfl) h1
  exact law_calls laidOut (by rw [Try.params5]; intro t ht; revert t; decide +kernel) rfl Try.underlying4 rfl ⟨rfl, rfl, rfl⟩ hW' (sums_pc H0 H1)

theorem goodsSums_holds : Rows.GoodsSumsSaid :=
  OpenClaim.holds_of_wide 5 Try.f5 rfl rfl rfl rfl rfl rfl rfl ⟨rfl, rfl, rfl, rfl, rfl⟩ rfl rfl rfl rfl rfl (by kernel_rfl) Try.func5 (by kernel_rfl)
    (of_decide_eq_true (by kernel_rfl)) (by unfold Func.isWrapper; first | (rw [if_pos (by decide +kernel)]; kernel_rfl) | (rw [if_neg (by decide +kernel)]; exact ⟨rfl, rfl⟩))
    (fun os started H enc _ => goodsSums_lifted os started H enc)
end Go.Proofs.Ytiahjkhfkbcjhaa
