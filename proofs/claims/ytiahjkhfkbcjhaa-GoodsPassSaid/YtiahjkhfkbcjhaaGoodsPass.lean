/- The statement GoodsPass. -/
import Derived.Test.YtiahjkhfkbcjhaaRows
import Derived.Test.YtiahjkhfkbcjhaaEngL
import Derived.Test.YtiahjkhfkbcjhaaL16b
import Derived.Test.YtiahjkhfkbcjhaaPlain16c
import Derived.Test.YtiahjkhfkbcjhaaPass3
import Derived.ProofKit
namespace Go.Proofs.Ytiahjkhfkbcjhaa
open Go.Eng
set_option maxRecDepth 100000
set_option maxHeartbeats 8000000

/-- the inverse order, of the first c agents -/
def bkTo (o : List Int) (n c : Nat) : List Int := (List.range n).map fun k : Nat => if lastTo o k c = -1 then 0 else lastTo o k c
theorem bkTo_len (o : List Int) (n c : Nat) : (bkTo o n c).length = n := by simp [bkTo]
theorem bkTo_zero (o : List Int) (n : Nat) : (bkTo o n 0).map i64v = List.replicate n (.int .i64 0) := by rw [List.eq_replicate_iff]; simp [bkTo, lastTo, i64v]
theorem bkTo_set {o : List Int} {n c : Nat} (h0 : 0 ≤ o.getD c 0) : (bkTo o n c).set (o.getD c 0).toNat (c : Int) = bkTo o n (c + 1) := by
  apply List.ext_getElem
  · simp [bkTo]
  · intro i h1 h2
    rw [List.getElem_set]
    simp only [bkTo, List.getElem_map, List.getElem_range, lastTo]
    by_cases e : o.getD c 0 = (i : Int)
    · rw [if_pos e, if_pos (by omega), if_neg (by omega)]
    · rw [if_neg e, if_neg (by omega)]
theorem bkTo_all {o : List Int} {n : Nat} (ho : asg o n) : bkTo o n n = backV o n := by
  apply List.map_congr_left
  intro k hk
  have := last_in ho (List.mem_range.1 hk)
  rw [if_neg (by omega)]

theorem passes_pc {w : World} {gv av ov : Value} {vs : List Value} {rr : List (List Int)} {a o : List Int} {good agent : Int} (Hg : Mat w gv vs rr) (Ha : Ints w av a) (Ho : Ints w ov o) : PC Try.prog 14 [.agg #[gv], av, ov, .int .i64 good, .int .i64 agent] w (.bool true) := by
  refine PC.mk tyOk Try.func14 rfl (by kernel_rfl) fun w1 E1 => ?_
  replace Hg := Hg.ext E1
  replace Ha := Ha.ext E1
  replace Ho := Ho.ext E1
  refine Bx.agg fun b w2 E2 _ Hb _ => ?_
  replace Hg := Hg.ext E2
  replace Ha := Ha.ext E2
  replace Ho := Ho.ext E2
  have cf := fit_pc Hg Ha
  have ca := assigned_pc (n := rr.length) Ho
  by_cases hf : ¬ great rr a ∧ vld rr a = 0
  · rw [tf_t hf] at cf
    by_cases hasg : asg o rr.length
    · rw [tf_t hasg] at ca
      have hv := hf.2
      have hal := al_of_vld hv
      have hn := hal.n6
      have hm := hal.m10
      have hlen := hal.len
      have hol := hasg.1
      have hvb := vld_pass hv hasg
      have hbl := passV_len a o
      have eE : passE rr a o = 0 := by unfold passE; rw [if_neg (by omega), if_pos hasg]
      have eR : passR rr a o = passV a o := by unfold passR; rw [if_pos ⟨hv, hasg⟩]
      have hbk := back_asg hasg
      have eE2 : passE rr (passV a o) (backV o rr.length) = 0 := by unfold passE; rw [if_neg (by omega), if_pos hbk]
      have eR2 : passR rr (passV a o) (backV o rr.length) = a := by unfold passR; rw [if_pos ⟨hvb, hbk⟩]; exact pass_back hv hasg
      repeat' (conv => whnf
               first
               | (refine Dr.quiet tyOk (by kernel_rfl) ?_)
               | (refine VC.pure alive_pc ?_)
               | (refine VC.pure cf ?_)
               | (refine VC.pure ca ?_)
               | (refine Rng.mk (by omega) ?_)
               | (refine Split.pos (by omega) ?_)
               | (refine Split.neg (by omega) ?_)
               | (refine Split.mk (fun h => ?_) (fun h => ?_))
               | (refine Need.mk (by omega) ?_)
               | (refine Ints.ln (by assumption) ?_)
               | (refine Mat.ln (by assumption) ?_)
               | (refine Ints.ln (Mat.row (by assumption) _ (by omega)) ?_)
               | (refine Ints.ix (by assumption) (by omega) ?_)
               | (refine Mat.ix (by assumption) (by omega) ?_)
               | (refine Ints.ix (Mat.row (by assumption) _ (by omega)) (by omega) ?_)
               | (refine Ints.ix (c := 0) (by assumption) (by omega) ?_)
               | (refine Mat.ix (c := 0) (by assumption) (by omega) ?_)
               | (refine Ints.ix (c := 0) (Mat.row (by assumption) _ (by omega)) (by omega) ?_)
               | (refine Ints.ixI (by assumption) (by omega) ?_)
               | (refine Mat.ixI (by assumption) (by omega) ?_)
               | (refine Ints.ixI (Mat.row (by assumption) _ (by omega)) (by omega) ?_)
               | (refine Ints.ld (by assumption) (by omega) ?_)
               | (refine Mat.ld (by assumption) (by omega) ?_)
               | (refine Ints.ld (Mat.row (by assumption) _ (by omega)) (by omega) ?_)
               | (refine At.ld (by assumption) rfl ?_)
               | (refine At.ldN (by assumption) rfl ?_))
      refine VC.rc (gpass_rc Hg Ha Ho) ?_
      rintro _ w3 E3 ⟨bv, rfl, HB⟩
      rw [eE]
      rw [eR] at HB
      replace Hg := Hg.ext E3
      replace Ha := Ha.ext E3
      replace Ho := Ho.ext E3
      replace Hb := Hb.ext E3
      have cb := rvalid_pc Hg (Own.sl HB)
      rw [hvb] at cb
      have Ho3 := Ho
      have Hg3 := Hg
      have Ha3 := Ha
      have Hb3 := Hb
      have HB3 := HB
      repeat' (conv => whnf
               first
               | (refine Dr.quiet tyOk (by kernel_rfl) ?_)
               | (refine VC.pure cb ?_)
               | (refine Rng.mk (by omega) ?_)
               | (refine Split.pos (by omega) ?_)
               | (refine Split.neg (by omega) ?_)
               | (refine Split.mk (fun h => ?_) (fun h => ?_))
               | (refine Need.mk (by omega) ?_)
               | (refine Ints.ln (by assumption) ?_)
               | (refine Mat.ln (by assumption) ?_)
               | (refine Ints.ln (Mat.row (by assumption) _ (by omega)) ?_)
               | (refine Ints.ix (by assumption) (by omega) ?_)
               | (refine Mat.ix (by assumption) (by omega) ?_)
               | (refine Ints.ix (Mat.row (by assumption) _ (by omega)) (by omega) ?_)
               | (refine Ints.ix (c := 0) (by assumption) (by omega) ?_)
               | (refine Mat.ix (c := 0) (by assumption) (by omega) ?_)
               | (refine Ints.ix (c := 0) (Mat.row (by assumption) _ (by omega)) (by omega) ?_)
               | (refine Ints.ixI (by assumption) (by omega) ?_)
               | (refine Mat.ixI (by assumption) (by omega) ?_)
               | (refine Ints.ixI (Mat.row (by assumption) _ (by omega)) (by omega) ?_)
               | (refine Ints.ld (by assumption) (by omega) ?_)
               | (refine Mat.ld (by assumption) (by omega) ?_)
               | (refine Ints.ld (Mat.row (by assumption) _ (by omega)) (by omega) ?_)
               | (refine At.ld (by assumption) rfl ?_)
               | (refine At.ldN (by assumption) rfl ?_))
      refine VE.made Try.underlying25 eInt rfl (by omega) (by omega) fun rv w4 E4 Hmk _ => ?_
      have Hr0 := Hmk _ (Nat.le_refl _)
      rw [← bkTo_zero o] at Hr0
      replace Hg := Hg.ext E4
      replace Ha := Ha.ext E4
      replace Ho := Ho.ext E4
      replace Hb := Hb.ext E4
      replace HB := HB.ext E4
      conv => whnf
      refine Lp.mk tyOk [false, false, false, false, false, false, false, false, false, false, false, false, false, false, false, true, false, false, false, false, false, false, false, false, false, false, false, false, false, false, false, false, false, false, false, false, false, false, false, false, false, false, false, false, false, false, false, false, false, false, false, false, false, false, false, false, false, false, false, false, false, false, false, true, true, true, true, true, true, true, true, true, true, true, true, true] (fun m fr wr => getK fr 15 fun i => ∃ c : Nat, c ≤ o.length ∧ m = o.length - c ∧ i = .int .i64 (c : Int) ∧ Ext w3 wr ∧ Own w3.heap.size 3 1 wr rv o.length ((bkTo o o.length c).map i64v)) o.length ?_ ?_
      · exact ⟨0, Nat.zero_le _, rfl, rfl, E4, Hr0⟩
      · intro m w5 u15 u63 u64 u65 u66 u67 u68 u69 u70 u71 u72 u73 u74 u75 hR
        obtain ⟨c, hc, rfl, rfl, E5, Hr⟩ := hR
        replace Ho := Ho3.ext E5
        replace Hg := Hg3.ext E5
        replace Ha := Ha3.ext E5
        replace Hb := Hb3.ext E5
        replace HB := HB3.ext E5
        have hrl := bkTo_len o o.length c
        have HrI : Ints w5 rv (bkTo o o.length c) := by unfold Ints; rw [hrl]; exact Own.sl Hr
        have hoc := ((asg_iff hasg.1).1 hasg).1 c
        repeat' (conv => whnf
                 first
                 | (refine Dr.quiet tyOk (by kernel_rfl) ?_)
                 | (refine Rng.mk (by omega) ?_)
                 | (refine Split.pos (by omega) ?_)
                 | (refine Split.neg (by omega) ?_)
                 | (refine Split.mk (fun h => ?_) (fun h => ?_))
                 | (refine Need.mk (by omega) ?_)
                 | (refine Ints.ln (by assumption) ?_)
                 | (refine Mat.ln (by assumption) ?_)
                 | (refine Ints.ln (Mat.row (by assumption) _ (by omega)) ?_)
                 | (refine Ints.ix (by assumption) (by omega) ?_)
                 | (refine Mat.ix (by assumption) (by omega) ?_)
                 | (refine Ints.ix (Mat.row (by assumption) _ (by omega)) (by omega) ?_)
                 | (refine Ints.ix (c := 0) (by assumption) (by omega) ?_)
                 | (refine Mat.ix (c := 0) (by assumption) (by omega) ?_)
                 | (refine Ints.ix (c := 0) (Mat.row (by assumption) _ (by omega)) (by omega) ?_)
                 | (refine Ints.ixI (by assumption) (by omega) ?_)
                 | (refine Mat.ixI (by assumption) (by omega) ?_)
                 | (refine Ints.ixI (Mat.row (by assumption) _ (by omega)) (by omega) ?_)
                 | (refine Ints.ld (by assumption) (by omega) ?_)
                 | (refine Mat.ld (by assumption) (by omega) ?_)
                 | (refine Ints.ld (Mat.row (by assumption) _ (by omega)) (by omega) ?_)
                 | (refine At.ld (by assumption) rfl ?_)
                 | (refine At.ldN (by assumption) rfl ?_))
        · refine Own.set Hr (by rw [List.length_map, hrl]; omega) rfl fun w6 G6 H6 => ?_
          have E6 := Own.keep Hr E5 (Nat.le_refl _) G6
          rw [set_map, bkTo_set (by omega)] at H6
          repeat' (conv => whnf
                   first
                   | (refine Dr.quiet tyOk (by kernel_rfl) ?_)
                   | (refine Rng.mk (by omega) ?_)
                   | (refine Split.pos (by omega) ?_)
                   | (refine Split.neg (by omega) ?_)
                   | (refine Split.mk (fun h => ?_) (fun h => ?_))
                   | (refine Need.mk (by omega) ?_)
                   | (refine Ints.ln (by assumption) ?_)
                   | (refine Mat.ln (by assumption) ?_)
                   | (refine Ints.ln (Mat.row (by assumption) _ (by omega)) ?_)
                   | (refine Ints.ix (by assumption) (by omega) ?_)
                   | (refine Mat.ix (by assumption) (by omega) ?_)
                   | (refine Ints.ix (Mat.row (by assumption) _ (by omega)) (by omega) ?_)
                   | (refine Ints.ix (c := 0) (by assumption) (by omega) ?_)
                   | (refine Mat.ix (c := 0) (by assumption) (by omega) ?_)
                   | (refine Ints.ix (c := 0) (Mat.row (by assumption) _ (by omega)) (by omega) ?_)
                   | (refine Ints.ixI (by assumption) (by omega) ?_)
                   | (refine Mat.ixI (by assumption) (by omega) ?_)
                   | (refine Ints.ixI (Mat.row (by assumption) _ (by omega)) (by omega) ?_)
                   | (refine Ints.ld (by assumption) (by omega) ?_)
                   | (refine Mat.ld (by assumption) (by omega) ?_)
                   | (refine Ints.ld (Mat.row (by assumption) _ (by omega)) (by omega) ?_)
                   | (refine At.ld (by assumption) rfl ?_)
                   | (refine At.ldN (by assumption) rfl ?_))
          exact ⟨_, (by omega : o.length - (c + 1) < o.length - c), rfl, c + 1, by omega, rfl, rfl, E6, H6⟩
        · obtain rfl : c = o.length := by omega
          rw [hol] at HrI
          rw [bkTo_all hasg] at HrI
          refine VC.rc (gpass_rc Hg (Own.sl HB) HrI) ?_
          rintro _ w6 E6 ⟨cv, rfl, HC⟩
          rw [eE2]
          rw [eR2] at HC
          replace Ho := Ho.ext E6
          replace Hg := Hg.ext E6
          replace Ha := Ha.ext E6
          replace Hb := Hb.ext E6
          replace HB := HB.ext E6
          repeat' (conv => whnf
                   first
                   | (refine Dr.quiet tyOk (by kernel_rfl) ?_)
                   | (refine Rng.mk (by omega) ?_)
                   | (refine Split.pos (by omega) ?_)
                   | (refine Split.neg (by omega) ?_)
                   | (refine Split.mk (fun h => ?_) (fun h => ?_))
                   | (refine Need.mk (by omega) ?_)
                   | (refine Ints.ln (by assumption) ?_)
                   | (refine Mat.ln (by assumption) ?_)
                   | (refine Ints.ln (Mat.row (by assumption) _ (by omega)) ?_)
                   | (refine Ints.ix (by assumption) (by omega) ?_)
                   | (refine Mat.ix (by assumption) (by omega) ?_)
                   | (refine Ints.ix (Mat.row (by assumption) _ (by omega)) (by omega) ?_)
                   | (refine Ints.ix (c := 0) (by assumption) (by omega) ?_)
                   | (refine Mat.ix (c := 0) (by assumption) (by omega) ?_)
                   | (refine Ints.ix (c := 0) (Mat.row (by assumption) _ (by omega)) (by omega) ?_)
                   | (refine Ints.ixI (by assumption) (by omega) ?_)
                   | (refine Mat.ixI (by assumption) (by omega) ?_)
                   | (refine Ints.ixI (Mat.row (by assumption) _ (by omega)) (by omega) ?_)
                   | (refine Ints.ld (by assumption) (by omega) ?_)
                   | (refine Mat.ld (by assumption) (by omega) ?_)
                   | (refine Ints.ld (Mat.row (by assumption) _ (by omega)) (by omega) ?_)
                   | (refine At.ld (by assumption) rfl ?_)
                   | (refine At.ldN (by assumption) rfl ?_))
          refine VC.rc (gvalues_rc Hg Ha) ?_
          rintro _ w7 E7 ⟨vv, us, rfl, HV⟩
          rw [valsR, if_pos hv] at HV
          rw [hv]
          replace Ho := Ho.ext E7
          replace Hg := Hg.ext E7
          replace Ha := Ha.ext E7
          replace Hb := Hb.ext E7
          replace HB := HB.ext E7
          replace HC := HC.ext E7
          repeat' (conv => whnf
                   first
                   | (refine Dr.quiet tyOk (by kernel_rfl) ?_)
                   | (refine Rng.mk (by omega) ?_)
                   | (refine Split.pos (by omega) ?_)
                   | (refine Split.neg (by omega) ?_)
                   | (refine Split.mk (fun h => ?_) (fun h => ?_))
                   | (refine Need.mk (by omega) ?_)
                   | (refine Ints.ln (by assumption) ?_)
                   | (refine Mat.ln (by assumption) ?_)
                   | (refine Ints.ln (Mat.row (by assumption) _ (by omega)) ?_)
                   | (refine Ints.ix (by assumption) (by omega) ?_)
                   | (refine Mat.ix (by assumption) (by omega) ?_)
                   | (refine Ints.ix (Mat.row (by assumption) _ (by omega)) (by omega) ?_)
                   | (refine Ints.ix (c := 0) (by assumption) (by omega) ?_)
                   | (refine Mat.ix (c := 0) (by assumption) (by omega) ?_)
                   | (refine Ints.ix (c := 0) (Mat.row (by assumption) _ (by omega)) (by omega) ?_)
                   | (refine Ints.ixI (by assumption) (by omega) ?_)
                   | (refine Mat.ixI (by assumption) (by omega) ?_)
                   | (refine Ints.ixI (Mat.row (by assumption) _ (by omega)) (by omega) ?_)
                   | (refine Ints.ld (by assumption) (by omega) ?_)
                   | (refine Mat.ld (by assumption) (by omega) ?_)
                   | (refine Ints.ld (Mat.row (by assumption) _ (by omega)) (by omega) ?_)
                   | (refine At.ld (by assumption) rfl ?_)
                   | (refine At.ldN (by assumption) rfl ?_))
          refine VC.rc (gvalues_rc Hg (Own.sl HB)) ?_
          rintro _ w8 E8 ⟨wv, us2, rfl, HW⟩
          rw [valsR, if_pos hvb] at HW
          rw [hvb]
          replace Ho := Ho.ext E8
          replace Hg := Hg.ext E8
          replace Ha := Ha.ext E8
          replace Hb := Hb.ext E8
          replace HB := HB.ext E8
          replace HC := HC.ext E8
          replace HV := HV.ext E8
          have HVm : Mat w8 vv us (vals rr a) := HV.mat
          have HWm : Mat w8 wv us2 (vals rr (passV a o)) := HW.mat
          have hvl := vals_len rr a
          have hwl := vals_len rr (passV a o)
          have cs := same_pc (Own.sl HC) Ha
          rw [tf_t rfl] at cs
          repeat' (conv => whnf
                   first
                   | (refine Dr.quiet tyOk (by kernel_rfl) ?_)
                   | (refine VC.pure cs ?_)
                   | (refine Rng.mk (by omega) ?_)
                   | (refine Split.pos (by omega) ?_)
                   | (refine Split.neg (by omega) ?_)
                   | (refine Split.mk (fun h => ?_) (fun h => ?_))
                   | (refine Need.mk (by omega) ?_)
                   | (refine Ints.ln (by assumption) ?_)
                   | (refine Mat.ln (by assumption) ?_)
                   | (refine Ints.ln (Mat.row (by assumption) _ (by omega)) ?_)
                   | (refine Ints.ix (by assumption) (by omega) ?_)
                   | (refine Mat.ix (by assumption) (by omega) ?_)
                   | (refine Ints.ix (Mat.row (by assumption) _ (by omega)) (by omega) ?_)
                   | (refine Ints.ix (c := 0) (by assumption) (by omega) ?_)
                   | (refine Mat.ix (c := 0) (by assumption) (by omega) ?_)
                   | (refine Ints.ix (c := 0) (Mat.row (by assumption) _ (by omega)) (by omega) ?_)
                   | (refine Ints.ixI (by assumption) (by omega) ?_)
                   | (refine Mat.ixI (by assumption) (by omega) ?_)
                   | (refine Ints.ixI (Mat.row (by assumption) _ (by omega)) (by omega) ?_)
                   | (refine Ints.ld (by assumption) (by omega) ?_)
                   | (refine Mat.ld (by assumption) (by omega) ?_)
                   | (refine Ints.ld (Mat.row (by assumption) _ (by omega)) (by omega) ?_)
                   | (refine At.ld (by assumption) rfl ?_)
                   | (refine At.ldN (by assumption) rfl ?_))
          have HVm8 := HVm
          have HWm8 := HWm
          have Ho8 := Ho
          have Hg8 := Hg
          have Ha8 := Ha
          have Hb8 := Hb
          refine Lp.mk tyOk [false, false, false, false, false, false, false, false, false, false, true, false, false, false, false, false, false, false, false, false, false, false, true, false, false, false, false, false, false, false, false, false, false, false, false, false, false, false, false, false, false, false, false, false, false, false, false, false, false, false, false, false, false, false, false, false, false, false, false, false, false, false, false, false, false, false, false, false, false, false, false, false, false, false, false, false, false, false, false, false, false, false, false, false, false, false, false, false, false, false, false, false, false, false, false, false, false, false, false, false, false, false, false, false, false, false, false, false, false, false, false, false, false, false, false, false, false, false, false, false, false, false, false, false, false, false, false, true, true, true, true, true, true, true, true, true, true, true, true, true, true, true, true, true, true, true, true, true, true, true, true, true, true, true, true, true, true, true, true, true, true, true, true, true, true, true, true, true, true, true, true] (fun m fr wr => getK fr 22 fun i => ∃ c : Nat, c ≤ rr.length ∧ m = rr.length - c ∧ i = .int .i64 (c : Int) ∧ Ext w8 wr) rr.length ?_ ?_
          · exact ⟨0, Nat.zero_le _, rfl, rfl, Ext.refl _⟩
          · intro m w9 u10 u22 u127 u128 u129 u130 u131 u132 u133 u134 u135 u136 u137 u138 u139 u140 u141 u142 u143 u144 u145 u146 u147 u148 u149 u150 u151 u152 u153 u154 u155 u156 u157 u158 u159 u160 u161 u162 u163 u164 u165 u166 u167 u168 u169 u170 hR
            obtain ⟨c, hc, rfl, rfl, E9⟩ := hR
            replace HVm := HVm8.ext E9
            replace HWm := HWm8.ext E9
            replace Ho := Ho8.ext E9
            replace Hg := Hg8.ext E9
            replace Ha := Ha8.ext E9
            replace Hb := Hb8.ext E9
            have hr1 := vals_rlen (rr := rr) (a := a) (i := c)
            have hr2 := vals_rlen (rr := rr) (a := passV a o) (i := c)
            have hoc2 := ((asg_iff hasg.1).1 hasg).1 c
            have hkey : c < rr.length → ((vals rr (passV a o)).getD c []).getD c 0 = ((vals rr a).getD c []).getD (o.getD c 0).toNat 0 := fun h => by
              have := hoc2 h
              rw [vals_get h h, vals_get h (by omega), wth_pass hv hasg h, Int.toNat_of_nonneg this.1]
            repeat' (conv => whnf
                     first
                     | (refine Dr.quiet tyOk (by kernel_rfl) ?_)
                     | (refine Rng.mk (by omega) ?_)
                     | (refine Split.pos (by omega) ?_)
                     | (refine Split.neg (by omega) ?_)
                     | (refine Split.mk (fun h => ?_) (fun h => ?_))
                     | (refine Need.mk (by omega) ?_)
                     | (refine Ints.ln (by assumption) ?_)
                     | (refine Mat.ln (by assumption) ?_)
                     | (refine Ints.ln (Mat.row (by assumption) _ (by omega)) ?_)
                     | (refine Ints.ix (by assumption) (by omega) ?_)
                     | (refine Mat.ix (by assumption) (by omega) ?_)
                     | (refine Ints.ix (Mat.row (by assumption) _ (by omega)) (by omega) ?_)
                     | (refine Ints.ix (c := 0) (by assumption) (by omega) ?_)
                     | (refine Mat.ix (c := 0) (by assumption) (by omega) ?_)
                     | (refine Ints.ix (c := 0) (Mat.row (by assumption) _ (by omega)) (by omega) ?_)
                     | (refine Ints.ixI (by assumption) (by omega) ?_)
                     | (refine Mat.ixI (by assumption) (by omega) ?_)
                     | (refine Ints.ixI (Mat.row (by assumption) _ (by omega)) (by omega) ?_)
                     | (refine Ints.ld (by assumption) (by omega) ?_)
                     | (refine Mat.ld (by assumption) (by omega) ?_)
                     | (refine Ints.ld (Mat.row (by assumption) _ (by omega)) (by omega) ?_)
                     | (refine At.ld (by assumption) rfl ?_)
                     | (refine At.ldN (by assumption) rfl ?_))
            · exact ⟨_, (by omega : rr.length - (c + 1) < rr.length - c), rfl, c + 1, by omega, rfl, rfl, E9⟩
            · obtain rfl : c = rr.length := by omega
              refine VC.rc (ggive_rc (good := good) (agent := agent) Hg Ha) ?_
              rintro _ w10 E10 ⟨dv, rfl, HD⟩
              replace Hg := Hg.ext E10
              replace Ha := Ha.ext E10
              replace Hb := Hb.ext E10
              have EE := E2.trans (E3.trans (E5.trans (E6.trans (E7.trans (E8.trans (E9.trans E10))))))
              by_cases hok : giveOk rr a good agent
              · have eG : giveE rr a good agent = 0 := by unfold giveE; rw [if_neg (by omega), if_pos hok]
                have eGR : giveR rr a good agent = a.set good.toNat agent := by unfold giveR; rw [if_pos ⟨hv, hok⟩]
                rw [eG]
                rw [eGR] at HD
                have hvd := vld_give hv hok
                have cd := rvalid_pc Hg (Own.sl HD)
                rw [hvd] at cd
                have HDI : Ints w10 dv (a.set good.toNat agent) := Own.sl HD
                have hdl : (a.set good.toNat agent).length = a.length := List.length_set
                obtain ⟨o1, o2, o3, o4⟩ := id hok
                have hdg : (a.set good.toNat agent).getD good.toNat 0 = agent := by rw [set_get (by omega), if_pos rfl]
                have hrg := hal.rng good.toNat (by omega)
                have hok2 : giveOk rr (a.set good.toNat agent) good (a.getD good.toNat 0) := ⟨o1, by omega, hrg.1, hrg.2⟩
                have eH : giveE rr (a.set good.toNat agent) good (a.getD good.toNat 0) = 0 := by unfold giveE; rw [if_neg (by omega), if_pos hok2]
                have eHR : giveR rr (a.set good.toNat agent) good (a.getD good.toNat 0) = a := by unfold giveR; rw [if_pos ⟨hvd, hok2⟩]; exact give_back (by omega)
                repeat' (conv => whnf
                         first
                         | (refine Dr.plan 209 [7] (.q 0 (.q 1 (.q 2 (.q 3 (.q 4 (.q 5 (.q 6 (.e 7 (.q 8 (.q 9 (.q 10 (.q 11 (.q 12 .nil))))) .nil)))))))) tyOk rfl (by kernel_rfl) ?_)
                         | (refine Dr.quiet tyOk (by kernel_rfl) ?_)
                         | (refine VC.pure cd ?_)
                         | (refine Rng.mk (by omega) ?_)
                         | (refine Split.pos (by omega) ?_)
                         | (refine Split.neg (by omega) ?_)
                         | (refine Split.mk (fun h => ?_) (fun h => ?_))
                         | (refine Need.mk (by omega) ?_)
                         | (refine Ints.ln (by assumption) ?_)
                         | (refine Mat.ln (by assumption) ?_)
                         | (refine Ints.ln (Mat.row (by assumption) _ (by omega)) ?_)
                         | (refine Ints.ix (by assumption) (by omega) ?_)
                         | (refine Mat.ix (by assumption) (by omega) ?_)
                         | (refine Ints.ix (Mat.row (by assumption) _ (by omega)) (by omega) ?_)
                         | (refine Ints.ix (c := 0) (by assumption) (by omega) ?_)
                         | (refine Mat.ix (c := 0) (by assumption) (by omega) ?_)
                         | (refine Ints.ix (c := 0) (Mat.row (by assumption) _ (by omega)) (by omega) ?_)
                         | (refine Ints.ixI (by assumption) (by omega) ?_)
                         | (refine Mat.ixI (by assumption) (by omega) ?_)
                         | (refine Ints.ixI (Mat.row (by assumption) _ (by omega)) (by omega) ?_)
                         | (refine Ints.ld (by assumption) (by omega) ?_)
                         | (refine Mat.ld (by assumption) (by omega) ?_)
                         | (refine Ints.ld (Mat.row (by assumption) _ (by omega)) (by omega) ?_)
                         | (refine At.ld (by assumption) rfl ?_)
                         | (refine At.ldN (by assumption) rfl ?_))
                refine VC.rc (ggive_rc (good := good) (agent := a.getD good.toNat 0) Hg HDI) ?_
                rintro _ w11 E11 ⟨uv, rfl, HU⟩
                rw [eH]
                rw [eHR] at HU
                replace Hg := Hg.ext E11
                replace Ha := Ha.ext E11
                replace Hb := Hb.ext E11
                have cu := same_pc (Own.sl HU) Ha
                rw [tf_t rfl] at cu
                repeat' (conv => whnf
                         first
                         | (refine Dr.quiet tyOk (by kernel_rfl) ?_)
                         | (refine VC.pure cu ?_)
                         | (refine Rng.mk (by omega) ?_)
                         | (refine Split.pos (by omega) ?_)
                         | (refine Split.neg (by omega) ?_)
                         | (refine Split.mk (fun h => ?_) (fun h => ?_))
                         | (refine Need.mk (by omega) ?_)
                         | (refine Ints.ln (by assumption) ?_)
                         | (refine Mat.ln (by assumption) ?_)
                         | (refine Ints.ln (Mat.row (by assumption) _ (by omega)) ?_)
                         | (refine Ints.ix (by assumption) (by omega) ?_)
                         | (refine Mat.ix (by assumption) (by omega) ?_)
                         | (refine Ints.ix (Mat.row (by assumption) _ (by omega)) (by omega) ?_)
                         | (refine Ints.ix (c := 0) (by assumption) (by omega) ?_)
                         | (refine Mat.ix (c := 0) (by assumption) (by omega) ?_)
                         | (refine Ints.ix (c := 0) (Mat.row (by assumption) _ (by omega)) (by omega) ?_)
                         | (refine Ints.ixI (by assumption) (by omega) ?_)
                         | (refine Mat.ixI (by assumption) (by omega) ?_)
                         | (refine Ints.ixI (Mat.row (by assumption) _ (by omega)) (by omega) ?_)
                         | (refine Ints.ld (by assumption) (by omega) ?_)
                         | (refine Mat.ld (by assumption) (by omega) ?_)
                         | (refine Ints.ld (Mat.row (by assumption) _ (by omega)) (by omega) ?_)
                         | (refine At.ld (by assumption) rfl ?_)
                         | (refine At.ldN (by assumption) rfl ?_))
                exact ⟨rfl, EE.trans E11⟩
              · have eG : giveE rr a good agent = 2 := by unfold giveE; rw [if_neg (by omega), if_neg hok]
                rw [eG]
                repeat' (conv => whnf
                         first
                         | (refine Dr.quiet tyOk (by kernel_rfl) ?_)
                         | (refine Rng.mk (by omega) ?_)
                         | (refine Split.pos (by omega) ?_)
                         | (refine Split.neg (by omega) ?_)
                         | (refine Split.mk (fun h => ?_) (fun h => ?_))
                         | (refine Need.mk (by omega) ?_)
                         | (refine Ints.ln (by assumption) ?_)
                         | (refine Mat.ln (by assumption) ?_)
                         | (refine Ints.ln (Mat.row (by assumption) _ (by omega)) ?_)
                         | (refine Ints.ix (by assumption) (by omega) ?_)
                         | (refine Mat.ix (by assumption) (by omega) ?_)
                         | (refine Ints.ix (Mat.row (by assumption) _ (by omega)) (by omega) ?_)
                         | (refine Ints.ix (c := 0) (by assumption) (by omega) ?_)
                         | (refine Mat.ix (c := 0) (by assumption) (by omega) ?_)
                         | (refine Ints.ix (c := 0) (Mat.row (by assumption) _ (by omega)) (by omega) ?_)
                         | (refine Ints.ixI (by assumption) (by omega) ?_)
                         | (refine Mat.ixI (by assumption) (by omega) ?_)
                         | (refine Ints.ixI (Mat.row (by assumption) _ (by omega)) (by omega) ?_)
                         | (refine Ints.ld (by assumption) (by omega) ?_)
                         | (refine Mat.ld (by assumption) (by omega) ?_)
                         | (refine Ints.ld (Mat.row (by assumption) _ (by omega)) (by omega) ?_)
                         | (refine At.ld (by assumption) rfl ?_)
                         | (refine At.ldN (by assumption) rfl ?_))
                exact ⟨rfl, EE⟩
    · rw [tf_f hasg] at ca
      repeat' (conv => whnf
               first
               | (refine Dr.quiet tyOk (by kernel_rfl) ?_)
               | (refine VC.pure alive_pc ?_)
               | (refine VC.pure cf ?_)
               | (refine VC.pure ca ?_)
               | (refine Rng.mk (by omega) ?_)
               | (refine Split.pos (by omega) ?_)
               | (refine Split.neg (by omega) ?_)
               | (refine Split.mk (fun h => ?_) (fun h => ?_))
               | (refine Need.mk (by omega) ?_)
               | (refine Ints.ln (by assumption) ?_)
               | (refine Mat.ln (by assumption) ?_)
               | (refine Ints.ln (Mat.row (by assumption) _ (by omega)) ?_)
               | (refine Ints.ix (by assumption) (by omega) ?_)
               | (refine Mat.ix (by assumption) (by omega) ?_)
               | (refine Ints.ix (Mat.row (by assumption) _ (by omega)) (by omega) ?_)
               | (refine Ints.ix (c := 0) (by assumption) (by omega) ?_)
               | (refine Mat.ix (c := 0) (by assumption) (by omega) ?_)
               | (refine Ints.ix (c := 0) (Mat.row (by assumption) _ (by omega)) (by omega) ?_)
               | (refine Ints.ixI (by assumption) (by omega) ?_)
               | (refine Mat.ixI (by assumption) (by omega) ?_)
               | (refine Ints.ixI (Mat.row (by assumption) _ (by omega)) (by omega) ?_)
               | (refine Ints.ld (by assumption) (by omega) ?_)
               | (refine Mat.ld (by assumption) (by omega) ?_)
               | (refine Ints.ld (Mat.row (by assumption) _ (by omega)) (by omega) ?_)
               | (refine At.ld (by assumption) rfl ?_)
               | (refine At.ldN (by assumption) rfl ?_))
      exact ⟨rfl, E2⟩
  · rw [tf_f hf] at cf
    repeat' (conv => whnf
             first
             | (refine Dr.quiet tyOk (by kernel_rfl) ?_)
             | (refine VC.pure alive_pc ?_)
             | (refine VC.pure cf ?_)
             | (refine Rng.mk (by omega) ?_)
             | (refine Split.pos (by omega) ?_)
             | (refine Split.neg (by omega) ?_)
             | (refine Split.mk (fun h => ?_) (fun h => ?_))
             | (refine Need.mk (by omega) ?_)
             | (refine Ints.ln (by assumption) ?_)
             | (refine Mat.ln (by assumption) ?_)
             | (refine Ints.ln (Mat.row (by assumption) _ (by omega)) ?_)
             | (refine Ints.ix (by assumption) (by omega) ?_)
             | (refine Mat.ix (by assumption) (by omega) ?_)
             | (refine Ints.ix (Mat.row (by assumption) _ (by omega)) (by omega) ?_)
             | (refine Ints.ix (c := 0) (by assumption) (by omega) ?_)
             | (refine Mat.ix (c := 0) (by assumption) (by omega) ?_)
             | (refine Ints.ix (c := 0) (Mat.row (by assumption) _ (by omega)) (by omega) ?_)
             | (refine Ints.ixI (by assumption) (by omega) ?_)
             | (refine Mat.ixI (by assumption) (by omega) ?_)
             | (refine Ints.ixI (Mat.row (by assumption) _ (by omega)) (by omega) ?_)
             | (refine Ints.ld (by assumption) (by omega) ?_)
             | (refine Mat.ld (by assumption) (by omega) ?_)
             | (refine Ints.ld (Mat.row (by assumption) _ (by omega)) (by omega) ?_)
             | (refine At.ld (by assumption) rfl ?_)
             | (refine At.ldN (by assumption) rfl ?_))
    exact ⟨rfl, E2⟩

open Go.ChangeShapes Go.WideShapes Go.ChangeAt Go.RowKit Go.Eng in
theorem goodsPass_lifted (os : Os) (started : os.Started) (H : Type) (enc : TypeId × Value → H) :
    ReturnsInHanded {} Try.checked os 14 .any (Rows.goodsPassSpec.pre6 enc Try.prog Try.f14 Rows.goodsPassRow.domain false) (Rows.goodsPassSpec.post enc Try.prog Try.f14 false true false false) := by
  refine returnsInHanded_of_change (C := Try.checked) own started (by kernel_rfl) Try.func14
    (ChangeSpec.witness6 (enc := enc) (C := Try.checked) false ⟨#[], #[.agg #[.slice none 0 0], .slice none 0 0, .slice none 0 0, .int .i64 0, .int .i64 0], []⟩ 8 (by kernel_rfl) (by kernel_rfl) (by kernel_rfl) (by kernel_rfl)) ?_
  intro W base args ds gs before hval0 hW hcnd _
  have hval : ∀ (j : Nat) t v, Try.f14.params[j]? = some t → args[j]? = some v → Value.okWide Try.prog W .any base t v := hval0
  have hW' := hW
  obtain ⟨p, q, hA0, hV, e0, hfz, hnd⟩ := hW
  have hA : DataW.TrodAll enc Try.prog W 0 (fun _ => true) true Try.f14.params.toList args.toList ds p := hA0
  rw [Try.params14] at hA hval
  clear hfz hnd hV e0 hval0
  obtain ⟨v0, vs0, d0, ds0, p0, q0, e0, rfl, f0, h0, t0⟩ := trodAll_cons hA
  obtain ⟨v1, vs1, d1, ds1, p1, q1, e1, rfl, f1, h1, t1⟩ := trodAll_cons t0
  subst e1
  obtain ⟨v2, vs2, d2, ds2, p2, q2, e2, rfl, f2, h2, t2⟩ := trodAll_cons t1
  subst e2
  obtain ⟨v3, vs3, d3, ds3, p3, q3, e3, rfl, f3, h3, t3⟩ := trodAll_cons t2
  subst e3
  obtain ⟨v4, vs4, d4, ds4, p4, q4, e4, rfl, f4, h4, t4⟩ := trodAll_cons t3
  subst e4
  obtain ⟨ee, rfl, _⟩ := trodAll_nil t4
  subst ee
  obtain rfl : args = #[v0, v1, v2, v3, v4] := Array.toList_inj.1 (by simpa using e0)
  obtain ⟨g0, s0, r0, rfl, H0, R0⟩ := open_G Try.underlying24 rfl (by kernel_rfl) (by kernel_rfl) Try.underlying22 Try.underlying25 Try.underlying3 (by kernel_rfl) (by kernel_rfl) (hval 0 24 _ rfl rfl) h0
  obtain ⟨l1, H1, R1⟩ := open_L Try.underlying25 Try.underlying3 (by kernel_rfl) (hval 1 25 _ rfl rfl) h1
  obtain ⟨l2, H2, R2⟩ := open_L Try.underlying25 Try.underlying3 (by kernel_rfl) (hval 2 25 _ rfl rfl) h2
  obtain ⟨n3, rfl, R3⟩ := open_I Try.underlying3 (hval 3 3 _ rfl rfl) h3
  obtain ⟨n4, rfl, R4⟩ := open_I Try.underlying3 (hval 4 3 _ rfl rfl) h4
  exact law_calls laidOut (by rw [Try.params14]; intro t ht; revert t; decide +kernel) rfl Try.underlying4 rfl ⟨rfl, rfl, rfl⟩ hW' (passes_pc H0 H1 H2)

theorem goodsPass_holds : Rows.GoodsPassSaid :=
  OpenClaim.holds_of_wide 14 Try.f14 rfl rfl rfl rfl rfl rfl rfl ⟨rfl, rfl, rfl, rfl, rfl⟩ rfl rfl rfl rfl rfl (by kernel_rfl) Try.func14 (by kernel_rfl)
    (of_decide_eq_true (by kernel_rfl)) (by unfold Func.isWrapper; first | (rw [if_pos (by decide +kernel)]; kernel_rfl) | (rw [if_neg (by decide +kernel)]; exact ⟨rfl, rfl⟩))
    (fun os started H enc _ => goodsPass_lifted os started H enc)
end Go.Proofs.Ytiahjkhfkbcjhaa
