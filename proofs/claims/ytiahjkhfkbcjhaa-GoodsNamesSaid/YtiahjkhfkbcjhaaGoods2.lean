/- Contracts: goods.Values, Envies, Poor. -/
import Derived.Test.YtiahjkhfkbcjhaaGoods1
import Derived.Test.YtiahjkhfkbcjhaaR16d
set_option linter.unusedVariables false
set_option linter.unusedSimpArgs false
namespace Go.Proofs.Ytiahjkhfkbcjhaa
open Go.Eng
set_option maxRecDepth 100000

theorem sum_pc {w : World} {sv : Value} {l : List Int} (Hs : Ints w sv l) (hb : ∀ j, 0 ≤ l.getD j 0 ∧ l.getD j 0 ≤ 1000) (hl : l.length ≤ 10) : PC Try.prog 53 [sv] w (.int .i64 (sumTo l l.length)) := by
  refine PC.mk tyOk Try.func53 rfl (by kernel_rfl) fun w1 E1 => ?_
  replace Hs := Hs.ext E1
  repeat' (conv => whnf
           first
           | (refine Dr.quiet tyOk (by kernel_rfl) ?_)
           | (refine Rng.mk (by omega) ?_)
           | (refine Split.pos (by omega) ?_)
           | (refine Split.neg (by omega) ?_)
           | (refine Split.mk (fun h => ?_) (fun h => ?_))
           | (refine Need.mk (by omega) ?_)
           | (refine Ints.ln (by assumption) ?_)
           | (refine Mat.ln (by assumption) ?_)
           | (refine Ints.ln (Mat.row (by assumption) _ (by omega)) ?_)
           | (refine Ints.ix (by assumption) (by omega) ?_)
           | (refine Mat.ix (by assumption) (by omega) ?_)
           | (refine Ints.ix (Mat.row (by assumption) _ (by omega)) (by omega) ?_)
           | (refine Ints.ix (c := 0) (by assumption) (by omega) ?_)
           | (refine Mat.ix (c := 0) (by assumption) (by omega) ?_)
           | (refine Ints.ix (c := 0) (Mat.row (by assumption) _ (by omega)) (by omega) ?_)
           | (refine Ints.ixI (by assumption) (by omega) ?_)
           | (refine Mat.ixI (by assumption) (by omega) ?_)
           | (refine Ints.ixI (Mat.row (by assumption) _ (by omega)) (by omega) ?_)
           | (refine Ints.ld (by assumption) (by omega) ?_)
           | (refine Mat.ld (by assumption) (by omega) ?_)
           | (refine Ints.ld (Mat.row (by assumption) _ (by omega)) (by omega) ?_)
           | (refine At.ld (by assumption) rfl ?_)
           | (refine At.ldN (by assumption) rfl ?_))
  refine Lp.mk tyOk [false, false, false, true, false, true, false, false, true, true, true, true, true, true, true, true] (fun m fr wr => getK fr 3 fun s => getK fr 8 fun j => ∃ c : Nat, c ≤ l.length ∧ m = l.length - c ∧ s = .int .i64 (sumTo l c) ∧ j = .int .i64 (c : Int) ∧ wr = w1) l.length ?_ ?_
  · exact ⟨0, Nat.zero_le _, rfl, rfl, rfl, rfl⟩
  · intro m w3 u3 u5 u8 u9 u10 u11 u12 u13 u14 u15 hR
    obtain ⟨c, hc, rfl, rfl, rfl, rfl⟩ := hR
    have hbd := sumTo_bd hb c
    have hbc := hb c
    repeat' (conv => whnf
             first
             | (refine Dr.quiet tyOk (by kernel_rfl) ?_)
             | (refine Rng.mk (by omega) ?_)
             | (refine Split.pos (by omega) ?_)
             | (refine Split.neg (by omega) ?_)
             | (refine Split.mk (fun h => ?_) (fun h => ?_))
             | (refine Need.mk (by omega) ?_)
             | (refine Ints.ln (by assumption) ?_)
             | (refine Mat.ln (by assumption) ?_)
             | (refine Ints.ln (Mat.row (by assumption) _ (by omega)) ?_)
             | (refine Ints.ix (by assumption) (by omega) ?_)
             | (refine Mat.ix (by assumption) (by omega) ?_)
             | (refine Ints.ix (Mat.row (by assumption) _ (by omega)) (by omega) ?_)
             | (refine Ints.ix (c := 0) (by assumption) (by omega) ?_)
             | (refine Mat.ix (c := 0) (by assumption) (by omega) ?_)
             | (refine Ints.ix (c := 0) (Mat.row (by assumption) _ (by omega)) (by omega) ?_)
             | (refine Ints.ixI (by assumption) (by omega) ?_)
             | (refine Mat.ixI (by assumption) (by omega) ?_)
             | (refine Ints.ixI (Mat.row (by assumption) _ (by omega)) (by omega) ?_)
             | (refine Ints.ld (by assumption) (by omega) ?_)
             | (refine Mat.ld (by assumption) (by omega) ?_)
             | (refine Ints.ld (Mat.row (by assumption) _ (by omega)) (by omega) ?_)
             | (refine At.ld (by assumption) rfl ?_)
             | (refine At.ldN (by assumption) rfl ?_))
    · exact ⟨_, (by omega : l.length - (c + 1) < l.length - c), rfl, c + 1, by omega, rfl, rfl, rfl, rfl⟩
    · obtain rfl : c = l.length := by omega
      exact ⟨rfl, Ext.refl _⟩

/-- the row of values when c goods are counted -/
def rowTo (a r : List Int) (n c : Nat) : List Int := (List.range n).map fun (k : Nat) => worth a r k c
theorem rowTo_len (a r : List Int) (n c : Nat) : (rowTo a r n c).length = n := by simp [rowTo]
theorem rowTo_get {a r : List Int} {n c k : Nat} (h : k < n) : (rowTo a r n c).getD k 0 = worth a r k c := by simp [rowTo, List.getD, h]
theorem rowTo_set {a r : List Int} {n c : Nat} {k : Int} (hk : a.getD c 0 = k) (h0 : 0 ≤ k) (h : k < n) : (rowTo a r n c).set k.toNat ((rowTo a r n c).getD k.toNat 0 + r.getD c 0) = rowTo a r n (c + 1) := by
  apply ext_getD 0
  · simp [rowTo]
  · intro i hi
    have hi' : i < n := by simpa [rowTo] using hi
    rw [rowTo_get hi', rowTo_get (by omega : k.toNat < n)]
    by_cases e : i = k.toNat
    · subst e
      have e2 : ((k.toNat : Nat) : Int) = k := by omega
      rw [List.getD, List.getElem?_set_self (by rw [rowTo_len]; exact hi')]
      simp only [Option.getD_some, worth, e2, if_pos hk]
    · rw [List.getD, List.getElem?_set_ne (fun h => e h.symm)]
      have : (rowTo a r n c)[i]?.getD 0 = worth a r i c := by have := rowTo_get (a := a) (r := r) (c := c) hi'; simpa [List.getD] using this
      rw [this]
      simp only [worth]
      rw [if_neg (by omega)]; omega
theorem rowTo_skip {a r : List Int} {n c : Nat} (h : a.getD c 0 < 0) : rowTo a r n (c + 1) = rowTo a r n c := by
  apply ext_getD 0
  · simp [rowTo]
  · intro i hi
    have hi' : i < n := by simpa [rowTo] using hi
    rw [rowTo_get hi', rowTo_get hi']
    simp only [worth]
    rw [if_neg (by omega)]; omega
theorem rowTo_zero (a r : List Int) (n : Nat) : (rowTo a r n 0).map i64v = List.replicate n (.int .i64 0) := by
  rw [List.eq_replicate_iff]; simp [rowTo, worth, i64v]

theorem set_map (l : List Int) (k : Nat) (x : Int) : (l.map i64v).set k (.int .i64 x) = (l.set k x).map i64v := by rw [List.map_set]; rfl

theorem gvalues_rc {w : World} {gv av : Value} {vs : List Value} {rr : List (List Int)} {a : List Int} (Hg : Mat w gv vs rr) (Ha : Ints w av a) :
    RC Try.prog 17 [.agg #[gv], av] w NoB (fun u w' => ∃ v us, u = .tuple #[v, .int .i64 (vld rr a)] ∧ OM w.heap.size w' v us (valsR rr a)) := by
  refine RC.mk tyOk Try.func17 rfl (by kernel_rfl) fun w1 E1 => ?_
  replace Hg := Hg.ext E1
  replace Ha := Ha.ext E1
  refine Bx.agg fun b w2 E2 _ Hb _ => ?_
  replace Hg := Hg.ext E2
  replace Ha := Ha.ext E2
  by_cases hv : vld rr a = 0
  · have hal := al_of_vld hv
    have hn := hal.n6
    have hm := hal.m10
    have hlen := hal.len
    repeat' (conv => whnf
             first
             | (refine Dr.quiet tyOk (by kernel_rfl) ?_)
             | (refine VC.pure (gvalid_pc Hg Ha) ?_)
             | (refine Rng.mk (by omega) ?_)
             | (refine Split.pos (by omega) ?_)
             | (refine Split.neg (by omega) ?_)
             | (refine Split.mk (fun h => ?_) (fun h => ?_))
             | (refine Need.mk (by omega) ?_)
             | (refine Ints.ln (by assumption) ?_)
             | (refine Mat.ln (by assumption) ?_)
             | (refine Ints.ln (Mat.row (by assumption) _ (by omega)) ?_)
             | (refine Ints.ix (by assumption) (by omega) ?_)
             | (refine Mat.ix (by assumption) (by omega) ?_)
             | (refine Ints.ix (Mat.row (by assumption) _ (by omega)) (by omega) ?_)
             | (refine Ints.ix (c := 0) (by assumption) (by omega) ?_)
             | (refine Mat.ix (c := 0) (by assumption) (by omega) ?_)
             | (refine Ints.ix (c := 0) (Mat.row (by assumption) _ (by omega)) (by omega) ?_)
             | (refine Ints.ixI (by assumption) (by omega) ?_)
             | (refine Mat.ixI (by assumption) (by omega) ?_)
             | (refine Ints.ixI (Mat.row (by assumption) _ (by omega)) (by omega) ?_)
             | (refine Ints.ld (by assumption) (by omega) ?_)
             | (refine Mat.ld (by assumption) (by omega) ?_)
             | (refine Ints.ld (Mat.row (by assumption) _ (by omega)) (by omega) ?_)
             | (refine At.ld (by assumption) rfl ?_)
             | (refine At.ldN (by assumption) rfl ?_))
    refine Lp.mk tyOk [false, false, false, false, false, false, false, true, false, true, true, true, true, false, false, false, false, false, false, false, false, false, true, true, true, true, true, true, true, true, true, true, true, true, true, true, true, true, true, true, true, true, true, true, true, true, true, true, true, true, true, true, true, true, true] (fun m fr wr => getK fr 7 fun v => getK fr 22 fun j => ∃ (c : Nat) (us : List Value), c ≤ rr.length ∧ m = rr.length - c ∧ j = .int .i64 (c : Int) ∧ Ext w2 wr ∧ OM w2.heap.size wr v us ((List.range c).map fun i => (List.range rr.length).map fun (k : Nat) => wth rr a i k)) rr.length ?_ ?_
    · exact ⟨0, [], Nat.zero_le _, rfl, rfl, Ext.refl _, OM.nil⟩
    · intro m w3 u7 u9 u10 u11 u12 u22 u23 u24 u25 u26 u27 u28 u29 u30 u31 u32 u33 u34 u35 u36 u37 u38 u39 u40 u41 u42 u43 u44 u45 u46 u47 u48 u49 u50 u51 u52 u53 u54 hR
      obtain ⟨c, us, hc, rfl, rfl, EE, Ho⟩ := hR
      replace Hg := Hg.ext EE
      replace Ha := Ha.ext EE
      replace Hb := Hb.ext EE
      repeat' (conv => whnf
               first
               | (refine Dr.quiet tyOk (by kernel_rfl) ?_)
               | (refine Rng.mk (by omega) ?_)
               | (refine Split.pos (by omega) ?_)
               | (refine Split.neg (by omega) ?_)
               | (refine Split.mk (fun h => ?_) (fun h => ?_))
               | (refine Need.mk (by omega) ?_)
               | (refine Ints.ln (by assumption) ?_)
               | (refine Mat.ln (by assumption) ?_)
               | (refine Ints.ln (Mat.row (by assumption) _ (by omega)) ?_)
               | (refine Ints.ix (by assumption) (by omega) ?_)
               | (refine Mat.ix (by assumption) (by omega) ?_)
               | (refine Ints.ix (Mat.row (by assumption) _ (by omega)) (by omega) ?_)
               | (refine Ints.ix (c := 0) (by assumption) (by omega) ?_)
               | (refine Mat.ix (c := 0) (by assumption) (by omega) ?_)
               | (refine Ints.ix (c := 0) (Mat.row (by assumption) _ (by omega)) (by omega) ?_)
               | (refine Ints.ixI (by assumption) (by omega) ?_)
               | (refine Mat.ixI (by assumption) (by omega) ?_)
               | (refine Ints.ixI (Mat.row (by assumption) _ (by omega)) (by omega) ?_)
               | (refine Ints.ld (by assumption) (by omega) ?_)
               | (refine Mat.ld (by assumption) (by omega) ?_)
               | (refine Ints.ld (Mat.row (by assumption) _ (by omega)) (by omega) ?_)
               | (refine At.ld (by assumption) rfl ?_)
               | (refine At.ldN (by assumption) rfl ?_))
      · have hrc := hal.row c (by omega)
        refine VE.made Try.underlying25 eInt rfl (by omega) (by omega) fun rv w4 E4 Hmk _ => ?_
        have Hr0 := Hmk _ (Nat.le_refl _)
        rw [← rowTo_zero a (rr.getD c [])] at Hr0
        have Hg3 := Hg
        have Ha3 := Ha
        have Hb3 := Hb
        have Ho3 := Ho
        repeat' (conv => whnf
                 first
                 | (refine Dr.quiet tyOk (by kernel_rfl) ?_)
                 | (refine Rng.mk (by omega) ?_)
                 | (refine Split.pos (by omega) ?_)
                 | (refine Split.neg (by omega) ?_)
                 | (refine Split.mk (fun h => ?_) (fun h => ?_))
                 | (refine Need.mk (by omega) ?_)
                 | (refine Ints.ln (by assumption) ?_)
                 | (refine Mat.ln (by assumption) ?_)
                 | (refine Ints.ln (Mat.row (by assumption) _ (by omega)) ?_)
                 | (refine Ints.ix (by assumption) (by omega) ?_)
                 | (refine Mat.ix (by assumption) (by omega) ?_)
                 | (refine Ints.ix (Mat.row (by assumption) _ (by omega)) (by omega) ?_)
                 | (refine Ints.ix (c := 0) (by assumption) (by omega) ?_)
                 | (refine Mat.ix (c := 0) (by assumption) (by omega) ?_)
                 | (refine Ints.ix (c := 0) (Mat.row (by assumption) _ (by omega)) (by omega) ?_)
                 | (refine Ints.ixI (by assumption) (by omega) ?_)
                 | (refine Mat.ixI (by assumption) (by omega) ?_)
                 | (refine Ints.ixI (Mat.row (by assumption) _ (by omega)) (by omega) ?_)
                 | (refine Ints.ld (by assumption) (by omega) ?_)
                 | (refine Mat.ld (by assumption) (by omega) ?_)
                 | (refine Ints.ld (Mat.row (by assumption) _ (by omega)) (by omega) ?_)
                 | (refine At.ld (by assumption) rfl ?_)
                 | (refine At.ldN (by assumption) rfl ?_))
        refine Lp.mk tyOk [false, false, false, false, false, false, false, false, false, false, false, true, true, false, false, false, false, false, false, false, false, false, false, false, false, false, false, false, false, false, false, false, true, true, true, true, true, true, true, true, true, true, true, true, true, true, true, true, true, true] (fun m fr wr => getK fr 32 fun j => ∃ c2 : Nat, c2 ≤ a.length ∧ m = a.length - c2 ∧ j = .int .i64 (c2 : Int) ∧ Ext w3 wr ∧ Own w3.heap.size 3 1 wr rv rr.length ((rowTo a (rr.getD c []) rr.length c2).map i64v)) a.length ?_ ?_
        · exact ⟨0, Nat.zero_le _, rfl, rfl, E4, Hr0⟩
        · intro m w4 u11 u12 u32 u33 u34 u35 u36 u37 u38 u39 u40 u41 u42 u43 u44 u45 u46 u47 u48 u49 hR
          obtain ⟨c2, hc2, rfl, rfl, E5, Hr⟩ := hR
          have hchk := hal.rng c2
          have hrc := hal.row c (by omega)
          have hval := hal.val c c2
          have hrl := rowTo_len a (rr.getD c []) rr.length c2
          replace Hg := Hg3.ext E5
          replace Ha := Ha3.ext E5
          replace Hb := Hb3.ext E5
          replace Ho := Ho3.ext E5
          have HrI : Ints w4 rv (rowTo a (rr.getD c []) rr.length c2) := by
            have := Own.sl Hr
            unfold Ints; rw [rowTo_len]; exact this
          have hbv : c2 < a.length → 0 ≤ a.getD c2 0 → 0 ≤ (rowTo a (rr.getD c []) rr.length c2).getD (a.getD c2 0).toNat 0 ∧ (rowTo a (rr.getD c []) rr.length c2).getD (a.getD c2 0).toNat 0 ≤ 10000 := by
            intro h1 h2
            rw [rowTo_get (by omega)]
            have := worth_bd (a := a) (k := ((a.getD c2 0).toNat : Int)) (fun j => hal.val c j) c2
            omega
          have hvd : (rr.getD c []).getD c2 0 = val rr c c2 := rfl
          repeat' (conv => whnf
                   first
                   | (refine Dr.tail 10 tyOk (by kernel_rfl) ?_)
                   | (refine Rng.mk (by omega) ?_)
                   | (refine Split.pos (by omega) ?_)
                   | (refine Split.neg (by omega) ?_)
                   | (refine Split.mk (fun h => ?_) (fun h => ?_))
                   | (refine Need.mk (by omega) ?_)
                   | (refine Ints.ln (by assumption) ?_)
                   | (refine Mat.ln (by assumption) ?_)
                   | (refine Ints.ln (Mat.row (by assumption) _ (by omega)) ?_)
                   | (refine Ints.ix (by assumption) (by omega) ?_)
                   | (refine Mat.ix (by assumption) (by omega) ?_)
                   | (refine Ints.ix (Mat.row (by assumption) _ (by omega)) (by omega) ?_)
                   | (refine Ints.ix (c := 0) (by assumption) (by omega) ?_)
                   | (refine Mat.ix (c := 0) (by assumption) (by omega) ?_)
                   | (refine Ints.ix (c := 0) (Mat.row (by assumption) _ (by omega)) (by omega) ?_)
                   | (refine Ints.ixI (by assumption) (by omega) ?_)
                   | (refine Mat.ixI (by assumption) (by omega) ?_)
                   | (refine Ints.ixI (Mat.row (by assumption) _ (by omega)) (by omega) ?_)
                   | (refine Ints.ld (by assumption) (by omega) ?_)
                   | (refine Mat.ld (by assumption) (by omega) ?_)
                   | (refine Ints.ld (Mat.row (by assumption) _ (by omega)) (by omega) ?_)
                   | (refine At.ld (by assumption) rfl ?_)
                   | (refine At.ldN (by assumption) rfl ?_))
          · refine Own.set Hr (by rw [List.length_map, hrl]; omega) rfl fun w5 G5 H5 => ?_
            repeat' (conv => whnf
                     first
                     | (refine Dr.quiet tyOk (by kernel_rfl) ?_)
                     | (refine Rng.mk (by omega) ?_)
                     | (refine Split.pos (by omega) ?_)
                     | (refine Split.neg (by omega) ?_)
                     | (refine Split.mk (fun h => ?_) (fun h => ?_))
                     | (refine Need.mk (by omega) ?_)
                     | (refine Ints.ln (by assumption) ?_)
                     | (refine Mat.ln (by assumption) ?_)
                     | (refine Ints.ln (Mat.row (by assumption) _ (by omega)) ?_)
                     | (refine Ints.ix (by assumption) (by omega) ?_)
                     | (refine Mat.ix (by assumption) (by omega) ?_)
                     | (refine Ints.ix (Mat.row (by assumption) _ (by omega)) (by omega) ?_)
                     | (refine Ints.ix (c := 0) (by assumption) (by omega) ?_)
                     | (refine Mat.ix (c := 0) (by assumption) (by omega) ?_)
                     | (refine Ints.ix (c := 0) (Mat.row (by assumption) _ (by omega)) (by omega) ?_)
                     | (refine Ints.ixI (by assumption) (by omega) ?_)
                     | (refine Mat.ixI (by assumption) (by omega) ?_)
                     | (refine Ints.ixI (Mat.row (by assumption) _ (by omega)) (by omega) ?_)
                     | (refine Ints.ld (by assumption) (by omega) ?_)
                     | (refine Mat.ld (by assumption) (by omega) ?_)
                     | (refine Ints.ld (Mat.row (by assumption) _ (by omega)) (by omega) ?_)
                     | (refine At.ld (by assumption) rfl ?_)
                     | (refine At.ldN (by assumption) rfl ?_))
            refine ⟨_, (by omega : a.length - (c2 + 1) < a.length - c2), rfl, c2 + 1, by omega, rfl, rfl, ?_, ?_⟩
            · exact Own.keep Hr E5 (Nat.le_refl _) G5
            · rw [set_map, rowTo_set rfl (by omega) (by omega)] at H5
              exact H5
          · refine ⟨_, (by omega : a.length - (c2 + 1) < a.length - c2), rfl, c2 + 1, by omega, rfl, rfl, E5, ?_⟩
            rw [rowTo_skip (by omega)]
            exact Hr
          · obtain rfl : c2 = a.length := by omega
            have Hr0 : OI w4 rv ((List.range rr.length).map fun (k : Nat) => wth rr a c k) := OI.of Hr
            refine VE.lit1 Try.underlying22 eRow ((Sl.cells (Own.sl Hr0)).1) fun lv w5 E6 Hl => ?_
            replace Ho := Ho.ext E6
            replace Hr0 := Hr0.ext E6
            conv => whnf
            refine VE.app Try.underlying22 eRow rfl (by omega) Ho.top (EE.trans (E5.trans E6)) rfl Hl (by intro u hu; simp only [List.mem_singleton] at hu; subst hu; exact (Sl.cells (Own.sl Hr0)).2) (by first | omega | (simp only [List.length_map, List.length_range]; omega)) (by first | omega | (simp only [List.length_map, List.length_range]; omega)) fun v6 w6 E7 G7 H7 => ?_
            repeat' (conv => whnf
                     first
                     | (refine Dr.quiet tyOk (by kernel_rfl) ?_)
                     | (refine Rng.mk (by omega) ?_)
                     | (refine Split.pos (by omega) ?_)
                     | (refine Split.neg (by omega) ?_)
                     | (refine Split.mk (fun h => ?_) (fun h => ?_))
                     | (refine Need.mk (by omega) ?_)
                     | (refine Ints.ln (by assumption) ?_)
                     | (refine Mat.ln (by assumption) ?_)
                     | (refine Ints.ln (Mat.row (by assumption) _ (by omega)) ?_)
                     | (refine Ints.ix (by assumption) (by omega) ?_)
                     | (refine Mat.ix (by assumption) (by omega) ?_)
                     | (refine Ints.ix (Mat.row (by assumption) _ (by omega)) (by omega) ?_)
                     | (refine Ints.ix (c := 0) (by assumption) (by omega) ?_)
                     | (refine Mat.ix (c := 0) (by assumption) (by omega) ?_)
                     | (refine Ints.ix (c := 0) (Mat.row (by assumption) _ (by omega)) (by omega) ?_)
                     | (refine Ints.ixI (by assumption) (by omega) ?_)
                     | (refine Mat.ixI (by assumption) (by omega) ?_)
                     | (refine Ints.ixI (Mat.row (by assumption) _ (by omega)) (by omega) ?_)
                     | (refine Ints.ld (by assumption) (by omega) ?_)
                     | (refine Mat.ld (by assumption) (by omega) ?_)
                     | (refine Ints.ld (Mat.row (by assumption) _ (by omega)) (by omega) ?_)
                     | (refine At.ld (by assumption) rfl ?_)
                     | (refine At.ldN (by assumption) rfl ?_))
            refine ⟨_, (by omega : rr.length - (c + 1) < rr.length - c), rfl, c + 1, us ++ [rv], by omega, rfl, rfl, E7, ?_⟩
            rw [map_range_succ]
            exact Ho.push Hr0 G7 H7
      · obtain rfl : c = rr.length := by omega
        refine ⟨E2.trans EE, _, us, by rw [hv], ?_⟩
        rw [valsR, if_pos hv]
        exact Ho.base (Nat.le_trans E1.size E2.size)
  · repeat' (conv => whnf
             first
             | (refine Dr.quiet tyOk (by kernel_rfl) ?_)
             | (refine VC.pure (gvalid_pc Hg Ha) ?_)
             | (refine Rng.mk (by omega) ?_)
             | (refine Split.pos (by omega) ?_)
             | (refine Split.neg (by omega) ?_)
             | (refine Split.mk (fun h => ?_) (fun h => ?_))
             | (refine Need.mk (by omega) ?_)
             | (refine Ints.ln (by assumption) ?_)
             | (refine Mat.ln (by assumption) ?_)
             | (refine Ints.ln (Mat.row (by assumption) _ (by omega)) ?_)
             | (refine Ints.ix (by assumption) (by omega) ?_)
             | (refine Mat.ix (by assumption) (by omega) ?_)
             | (refine Ints.ix (Mat.row (by assumption) _ (by omega)) (by omega) ?_)
             | (refine Ints.ix (c := 0) (by assumption) (by omega) ?_)
             | (refine Mat.ix (c := 0) (by assumption) (by omega) ?_)
             | (refine Ints.ix (c := 0) (Mat.row (by assumption) _ (by omega)) (by omega) ?_)
             | (refine Ints.ixI (by assumption) (by omega) ?_)
             | (refine Mat.ixI (by assumption) (by omega) ?_)
             | (refine Ints.ixI (Mat.row (by assumption) _ (by omega)) (by omega) ?_)
             | (refine Ints.ld (by assumption) (by omega) ?_)
             | (refine Mat.ld (by assumption) (by omega) ?_)
             | (refine Ints.ld (Mat.row (by assumption) _ (by omega)) (by omega) ?_)
             | (refine At.ld (by assumption) rfl ?_)
             | (refine At.ldN (by assumption) rfl ?_))
    refine ⟨E2, _, [], rfl, ?_⟩
    rw [valsR, if_neg hv]
    exact OM.nil

theorem vals_len (rr : List (List Int)) (a : List Int) : (vals rr a).length = rr.length := by simp [vals]
theorem vals_row {rr : List (List Int)} {a : List Int} {i : Nat} (h : i < rr.length) : (vals rr a).getD i [] = (List.range rr.length).map fun (k : Nat) => wth rr a i k := by simp [vals, List.getD, h]
theorem vals_rlen {rr : List (List Int)} {a : List Int} {i : Nat} (h : i < rr.length) : ((vals rr a).getD i []).length = rr.length := by rw [vals_row h]; simp
theorem vals_get {rr : List (List Int)} {a : List Int} {i k : Nat} (h : i < rr.length) (hk : k < rr.length) : ((vals rr a).getD i []).getD k 0 = wth rr a i k := by rw [vals_row h]; simp [List.getD, hk]

theorem genvies_rc {w : World} {gv av : Value} {vs : List Value} {rr : List (List Int)} {a : List Int} (Hg : Mat w gv vs rr) (Ha : Ints w av a) :
    RC Try.prog 19 [.agg #[gv], av] w NoB (fun u w' => ∃ v, u = .tuple #[v, .int .i64 (vld rr a)] ∧ OP w.heap.size w' v (envsR rr a)) := by
  refine RC.mk tyOk Try.func19 rfl (by kernel_rfl) fun w1 E1 => ?_
  replace Hg := Hg.ext E1
  replace Ha := Ha.ext E1
  refine Bx.agg fun b w2 E2 _ Hb _ => ?_
  replace Hg := Hg.ext E2
  replace Ha := Ha.ext E2
  by_cases hv : vld rr a = 0
  · have hal := al_of_vld hv
    have hn := hal.n6
    have hm := hal.m10
    have hlen := hal.len
    conv => whnf
    refine At.ldN Hb rfl ?_
    conv => whnf
    refine VC.rc (gvalues_rc Hg Ha) ?_
    rintro _ w3 E3 ⟨v, us, rfl, HO⟩
    rw [valsR, if_pos hv] at HO
    have HV := HO.mat
    have hvl := vals_len rr a
    replace Hg := Hg.ext E3
    replace Ha := Ha.ext E3
    replace Hb := Hb.ext E3
    repeat' (conv => whnf
             first
             | (refine Dr.quiet tyOk (by kernel_rfl) ?_)
             | (refine Rng.mk (by omega) ?_)
             | (refine Split.pos (by omega) ?_)
             | (refine Split.neg (by omega) ?_)
             | (refine Split.mk (fun h => ?_) (fun h => ?_))
             | (refine Need.mk (by omega) ?_)
             | (refine Ints.ln (by assumption) ?_)
             | (refine Mat.ln (by assumption) ?_)
             | (refine Ints.ln (Mat.row (by assumption) _ (by omega)) ?_)
             | (refine Ints.ix (by assumption) (by omega) ?_)
             | (refine Mat.ix (by assumption) (by omega) ?_)
             | (refine Ints.ix (Mat.row (by assumption) _ (by omega)) (by omega) ?_)
             | (refine Ints.ix (c := 0) (by assumption) (by omega) ?_)
             | (refine Mat.ix (c := 0) (by assumption) (by omega) ?_)
             | (refine Ints.ix (c := 0) (Mat.row (by assumption) _ (by omega)) (by omega) ?_)
             | (refine Ints.ixI (by assumption) (by omega) ?_)
             | (refine Mat.ixI (by assumption) (by omega) ?_)
             | (refine Ints.ixI (Mat.row (by assumption) _ (by omega)) (by omega) ?_)
             | (refine Ints.ld (by assumption) (by omega) ?_)
             | (refine Mat.ld (by assumption) (by omega) ?_)
             | (refine Ints.ld (Mat.row (by assumption) _ (by omega)) (by omega) ?_)
             | (refine At.ld (by assumption) rfl ?_)
             | (refine At.ldN (by assumption) rfl ?_))
    refine Lp.mk tyOk [false, false, false, false, false, false, false, false, true, true, true, true, true, false, false, false, false, false, false, false, false, false, false, false, true, true, true, true, true, true, true, true, true, true, true, true, true, true, true, true, true, true, true, true, true, true, true, true, true, true] (fun m fr wr => getK fr 8 fun v => getK fr 24 fun j => ∃ (c : Nat), c ≤ rr.length ∧ m = rr.length - c ∧ j = .int .i64 (c : Int) ∧ Ext w3 wr ∧ OP w3.heap.size wr v (envTo (fun i (k : Nat) => wth rr a i k) rr.length c)) rr.length ?_ ?_
    · exact ⟨0, Nat.zero_le _, rfl, rfl, Ext.refl _, Own.nil⟩
    · intro m w4 u8 u9 u10 u11 u12 u24 u25 u26 u27 u28 u29 u30 u31 u32 u33 u34 u35 u36 u37 u38 u39 u40 u41 u42 u43 u44 u45 u46 u47 u48 u49 hR
      obtain ⟨c, hc, rfl, rfl, EE, Ho⟩ := hR
      have hT := envTo_len (fun i (k : Nat) => wth rr a i k) rr.length c
      have hTc := Nat.mul_le_mul hc hn
      have HV3 := HV
      have hrl := vals_rlen (rr := rr) (a := a) (i := c)
      replace HV := HV.ext EE
      repeat' (conv => whnf
               first
               | (refine Dr.quiet tyOk (by kernel_rfl) ?_)
               | (refine Rng.mk (by omega) ?_)
               | (refine Split.pos (by omega) ?_)
               | (refine Split.neg (by omega) ?_)
               | (refine Split.mk (fun h => ?_) (fun h => ?_))
               | (refine Need.mk (by omega) ?_)
               | (refine Ints.ln (by assumption) ?_)
               | (refine Mat.ln (by assumption) ?_)
               | (refine Ints.ln (Mat.row (by assumption) _ (by omega)) ?_)
               | (refine Ints.ix (by assumption) (by omega) ?_)
               | (refine Mat.ix (by assumption) (by omega) ?_)
               | (refine Ints.ix (Mat.row (by assumption) _ (by omega)) (by omega) ?_)
               | (refine Ints.ix (c := 0) (by assumption) (by omega) ?_)
               | (refine Mat.ix (c := 0) (by assumption) (by omega) ?_)
               | (refine Ints.ix (c := 0) (Mat.row (by assumption) _ (by omega)) (by omega) ?_)
               | (refine Ints.ixI (by assumption) (by omega) ?_)
               | (refine Mat.ixI (by assumption) (by omega) ?_)
               | (refine Ints.ixI (Mat.row (by assumption) _ (by omega)) (by omega) ?_)
               | (refine Ints.ld (by assumption) (by omega) ?_)
               | (refine Mat.ld (by assumption) (by omega) ?_)
               | (refine Ints.ld (Mat.row (by assumption) _ (by omega)) (by omega) ?_)
               | (refine At.ld (by assumption) rfl ?_)
               | (refine At.ldN (by assumption) rfl ?_))
      · refine Lp.mk tyOk [false, false, false, false, false, false, false, false, true, false, false, true, true, false, false, false, false, false, false, false, false, false, false, false, false, false, false, false, false, false, false, true, true, true, true, true, true, true, true, true, true, true, true, true, true, true, true, true, true] (fun m fr wr => getK fr 8 fun v => getK fr 31 fun j => ∃ c2 : Nat, c2 ≤ rr.length ∧ m = rr.length - c2 ∧ j = .int .i64 (c2 : Int) ∧ Ext w3 wr ∧ OP w3.heap.size wr v (envTo (fun i (k : Nat) => wth rr a i k) rr.length c ++ envRow (fun (k : Nat) => wth rr a c k) c c2)) rr.length ?_ ?_
        · exact ⟨0, Nat.zero_le _, rfl, rfl, EE, by simpa [envRow] using Ho⟩
        · intro m w5 u8 u11 u12 u31 u32 u33 u34 u35 u36 u37 u38 u39 u40 u41 u42 u43 u44 u45 u46 u47 u48 hR
          obtain ⟨c2, hc2, rfl, rfl, E4, Hr⟩ := hR
          have hL := envRow_len (fun (k : Nat) => wth rr a c k) c c2
          have hLA : (envTo (fun i (k : Nat) => wth rr a i k) rr.length c ++ envRow (fun (k : Nat) => wth rr a c k) c c2).length = (envTo (fun i (k : Nat) => wth rr a i k) rr.length c).length + (envRow (fun (k : Nat) => wth rr a c k) c c2).length := List.length_append
          replace HV := HV3.ext E4
          have e1 := vals_get (rr := rr) (a := a) (i := c) (k := c2)
          have e2 := vals_get (rr := rr) (a := a) (i := c) (k := c)
          repeat' (conv => whnf
                   first
                   | (refine Dr.quiet tyOk (by kernel_rfl) ?_)
                   | (refine Rng.mk (by omega) ?_)
                   | (refine Split.pos (by omega) ?_)
                   | (refine Split.neg (by omega) ?_)
                   | (refine Split.mk (fun h => ?_) (fun h => ?_))
                   | (refine Need.mk (by omega) ?_)
                   | (refine Ints.ln (by assumption) ?_)
                   | (refine Mat.ln (by assumption) ?_)
                   | (refine Ints.ln (Mat.row (by assumption) _ (by omega)) ?_)
                   | (refine Ints.ix (by assumption) (by omega) ?_)
                   | (refine Mat.ix (by assumption) (by omega) ?_)
                   | (refine Ints.ix (Mat.row (by assumption) _ (by omega)) (by omega) ?_)
                   | (refine Ints.ix (c := 0) (by assumption) (by omega) ?_)
                   | (refine Mat.ix (c := 0) (by assumption) (by omega) ?_)
                   | (refine Ints.ix (c := 0) (Mat.row (by assumption) _ (by omega)) (by omega) ?_)
                   | (refine Ints.ixI (by assumption) (by omega) ?_)
                   | (refine Mat.ixI (by assumption) (by omega) ?_)
                   | (refine Ints.ixI (Mat.row (by assumption) _ (by omega)) (by omega) ?_)
                   | (refine Ints.ld (by assumption) (by omega) ?_)
                   | (refine Mat.ld (by assumption) (by omega) ?_)
                   | (refine Ints.ld (Mat.row (by assumption) _ (by omega)) (by omega) ?_)
                   | (refine At.ld (by assumption) rfl ?_)
                   | (refine At.ldN (by assumption) rfl ?_))
          · refine VS.arr2 Try.underlying51 ePair cells3 ?_
            repeat' (conv => whnf
                     first
                     | (refine Dr.quiet tyOk (by kernel_rfl) ?_)
                     | (refine Rng.mk (by omega) ?_)
                     | (refine Split.pos (by omega) ?_)
                     | (refine Split.neg (by omega) ?_)
                     | (refine Split.mk (fun h => ?_) (fun h => ?_))
                     | (refine Need.mk (by omega) ?_)
                     | (refine Ints.ln (by assumption) ?_)
                     | (refine Mat.ln (by assumption) ?_)
                     | (refine Ints.ln (Mat.row (by assumption) _ (by omega)) ?_)
                     | (refine Ints.ix (by assumption) (by omega) ?_)
                     | (refine Mat.ix (by assumption) (by omega) ?_)
                     | (refine Ints.ix (Mat.row (by assumption) _ (by omega)) (by omega) ?_)
                     | (refine Ints.ix (c := 0) (by assumption) (by omega) ?_)
                     | (refine Mat.ix (c := 0) (by assumption) (by omega) ?_)
                     | (refine Ints.ix (c := 0) (Mat.row (by assumption) _ (by omega)) (by omega) ?_)
                     | (refine Ints.ixI (by assumption) (by omega) ?_)
                     | (refine Mat.ixI (by assumption) (by omega) ?_)
                     | (refine Ints.ixI (Mat.row (by assumption) _ (by omega)) (by omega) ?_)
                     | (refine Ints.ld (by assumption) (by omega) ?_)
                     | (refine Mat.ld (by assumption) (by omega) ?_)
                     | (refine Ints.ld (Mat.row (by assumption) _ (by omega)) (by omega) ?_)
                     | (refine At.ld (by assumption) rfl ?_)
                     | (refine At.ldN (by assumption) rfl ?_))
            refine VE.lit1A Try.underlying33 ePair rfl (by decide) fun lv w6 E5 Hl => ?_
            replace Hr := Hr.ext E5
            conv => whnf
            refine VE.app Try.underlying33 ePair rfl (by omega) Hr (E4.trans E5) rfl Hl (by simp [Value.oneCell']) (by first | omega | (simp only [List.length_map, List.length_range]; omega)) (by first | omega | (simp only [List.length_map, List.length_range]; omega)) fun v6 w7 E6 G6 H6 => ?_
            repeat' (conv => whnf
                     first
                     | (refine Dr.quiet tyOk (by kernel_rfl) ?_)
                     | (refine Rng.mk (by omega) ?_)
                     | (refine Split.pos (by omega) ?_)
                     | (refine Split.neg (by omega) ?_)
                     | (refine Split.mk (fun h => ?_) (fun h => ?_))
                     | (refine Need.mk (by omega) ?_)
                     | (refine Ints.ln (by assumption) ?_)
                     | (refine Mat.ln (by assumption) ?_)
                     | (refine Ints.ln (Mat.row (by assumption) _ (by omega)) ?_)
                     | (refine Ints.ix (by assumption) (by omega) ?_)
                     | (refine Mat.ix (by assumption) (by omega) ?_)
                     | (refine Ints.ix (Mat.row (by assumption) _ (by omega)) (by omega) ?_)
                     | (refine Ints.ix (c := 0) (by assumption) (by omega) ?_)
                     | (refine Mat.ix (c := 0) (by assumption) (by omega) ?_)
                     | (refine Ints.ix (c := 0) (Mat.row (by assumption) _ (by omega)) (by omega) ?_)
                     | (refine Ints.ixI (by assumption) (by omega) ?_)
                     | (refine Mat.ixI (by assumption) (by omega) ?_)
                     | (refine Ints.ixI (Mat.row (by assumption) _ (by omega)) (by omega) ?_)
                     | (refine Ints.ld (by assumption) (by omega) ?_)
                     | (refine Mat.ld (by assumption) (by omega) ?_)
                     | (refine Ints.ld (Mat.row (by assumption) _ (by omega)) (by omega) ?_)
                     | (refine At.ld (by assumption) rfl ?_)
                     | (refine At.ldN (by assumption) rfl ?_))
            refine ⟨_, (by omega : rr.length - (c2 + 1) < rr.length - c2), rfl, c2 + 1, by omega, rfl, rfl, E6, ?_⟩
            rw [flatP_snoc] at H6
            simp only [envRow, if_pos (by omega : wth rr a c c < wth rr a c c2), ← List.append_assoc]
            exact OP.of H6
          · refine ⟨_, (by omega : rr.length - (c2 + 1) < rr.length - c2), rfl, c2 + 1, by omega, rfl, rfl, E4, ?_⟩
            simp only [envRow, if_neg (by omega : ¬ wth rr a c c < wth rr a c c2), List.append_nil]
            exact Hr
          · obtain rfl : c2 = rr.length := by omega
            exact ⟨_, (by omega : rr.length - (c + 1) < rr.length - c), rfl, c + 1, by omega, rfl, rfl, E4, Hr⟩
      · obtain rfl : c = rr.length := by omega
        refine ⟨(E2.trans E3).trans EE, _, by rw [hv], ?_⟩
        rw [envsR, if_pos hv]
        exact Own.base Ho (Nat.le_trans (Nat.le_trans E1.size E2.size) E3.size)
  · conv => whnf
    refine At.ldN Hb rfl ?_
    conv => whnf
    refine VC.rc (gvalues_rc Hg Ha) ?_
    rintro _ w3 E3 ⟨v, us, rfl, HO⟩
    repeat' (conv => whnf
             first
             | (refine Dr.quiet tyOk (by kernel_rfl) ?_)
             | (refine Rng.mk (by omega) ?_)
             | (refine Split.pos (by omega) ?_)
             | (refine Split.neg (by omega) ?_)
             | (refine Split.mk (fun h => ?_) (fun h => ?_))
             | (refine Need.mk (by omega) ?_)
             | (refine Ints.ln (by assumption) ?_)
             | (refine Mat.ln (by assumption) ?_)
             | (refine Ints.ln (Mat.row (by assumption) _ (by omega)) ?_)
             | (refine Ints.ix (by assumption) (by omega) ?_)
             | (refine Mat.ix (by assumption) (by omega) ?_)
             | (refine Ints.ix (Mat.row (by assumption) _ (by omega)) (by omega) ?_)
             | (refine Ints.ix (c := 0) (by assumption) (by omega) ?_)
             | (refine Mat.ix (c := 0) (by assumption) (by omega) ?_)
             | (refine Ints.ix (c := 0) (Mat.row (by assumption) _ (by omega)) (by omega) ?_)
             | (refine Ints.ixI (by assumption) (by omega) ?_)
             | (refine Mat.ixI (by assumption) (by omega) ?_)
             | (refine Ints.ixI (Mat.row (by assumption) _ (by omega)) (by omega) ?_)
             | (refine Ints.ld (by assumption) (by omega) ?_)
             | (refine Mat.ld (by assumption) (by omega) ?_)
             | (refine Ints.ld (Mat.row (by assumption) _ (by omega)) (by omega) ?_)
             | (refine At.ld (by assumption) rfl ?_)
             | (refine At.ldN (by assumption) rfl ?_))
    refine ⟨E2.trans E3, _, rfl, ?_⟩
    rw [envsR, if_neg hv]
    exact Own.nil

theorem gpoor_rc {w : World} {gv av : Value} {vs : List Value} {rr : List (List Int)} {a : List Int} (Hg : Mat w gv vs rr) (Ha : Ints w av a) :
    RC Try.prog 21 [.agg #[gv], av] w NoB (fun u w' => ∃ v, u = .tuple #[v, .int .i64 (vld rr a)] ∧ OI w' v (poorR rr a)) := by
  refine RC.mk tyOk Try.func21 rfl (by kernel_rfl) fun w1 E1 => ?_
  replace Hg := Hg.ext E1
  replace Ha := Ha.ext E1
  refine Bx.agg fun b w2 E2 _ Hb _ => ?_
  replace Hg := Hg.ext E2
  replace Ha := Ha.ext E2
  by_cases hv : vld rr a = 0
  · have hal := al_of_vld hv
    have hn := hal.n6
    have hm := hal.m10
    have hlen := hal.len
    conv => whnf
    refine At.ldN Hb rfl ?_
    conv => whnf
    refine VC.rc (gvalues_rc Hg Ha) ?_
    rintro _ w3 E3 ⟨v, us, rfl, HO⟩
    rw [valsR, if_pos hv] at HO
    have HV := HO.mat
    have hvl := vals_len rr a
    replace Hg := Hg.ext E3
    replace Ha := Ha.ext E3
    replace Hb := Hb.ext E3
    repeat' (conv => whnf
             first
             | (refine Dr.quiet tyOk (by kernel_rfl) ?_)
             | (refine Rng.mk (by omega) ?_)
             | (refine Split.pos (by omega) ?_)
             | (refine Split.neg (by omega) ?_)
             | (refine Split.mk (fun h => ?_) (fun h => ?_))
             | (refine Need.mk (by omega) ?_)
             | (refine Ints.ln (by assumption) ?_)
             | (refine Mat.ln (by assumption) ?_)
             | (refine Ints.ln (Mat.row (by assumption) _ (by omega)) ?_)
             | (refine Ints.ix (by assumption) (by omega) ?_)
             | (refine Mat.ix (by assumption) (by omega) ?_)
             | (refine Ints.ix (Mat.row (by assumption) _ (by omega)) (by omega) ?_)
             | (refine Ints.ix (c := 0) (by assumption) (by omega) ?_)
             | (refine Mat.ix (c := 0) (by assumption) (by omega) ?_)
             | (refine Ints.ix (c := 0) (Mat.row (by assumption) _ (by omega)) (by omega) ?_)
             | (refine Ints.ixI (by assumption) (by omega) ?_)
             | (refine Mat.ixI (by assumption) (by omega) ?_)
             | (refine Ints.ixI (Mat.row (by assumption) _ (by omega)) (by omega) ?_)
             | (refine Ints.ld (by assumption) (by omega) ?_)
             | (refine Mat.ld (by assumption) (by omega) ?_)
             | (refine Ints.ld (Mat.row (by assumption) _ (by omega)) (by omega) ?_)
             | (refine At.ld (by assumption) rfl ?_)
             | (refine At.ldN (by assumption) rfl ?_))
    refine Lp.mk tyOk [false, false, false, false, false, false, false, false, true, true, true, false, false, false, false, false, false, false, false, false, false, false, true, true, true, true, true, true, true, true, true, true, true, true, true, true, true, true, true, true, true, true, true, true, true, true] (fun m fr wr => getK fr 8 fun v => getK fr 22 fun j => ∃ (c : Nat), c ≤ rr.length ∧ m = rr.length - c ∧ j = .int .i64 (c : Int) ∧ Ext w3 wr ∧ Own w3.heap.size 3 1 wr v (filt (isPoor rr a) c).length ((filt (isPoor rr a) c).map i64v)) rr.length ?_ ?_
    · exact ⟨0, Nat.zero_le _, rfl, rfl, Ext.refl _, Own.nil⟩
    · intro m w4 u8 u9 u10 u22 u23 u24 u25 u26 u27 u28 u29 u30 u31 u32 u33 u34 u35 u36 u37 u38 u39 u40 u41 u42 u43 u44 u45 hR
      obtain ⟨c, hc, rfl, rfl, EE, Ho⟩ := hR
      have hT := filt_len (isPoor rr a) c
      have hrl := vals_rlen (rr := rr) (a := a) (i := c)
      have e2 := vals_get (rr := rr) (a := a) (i := c) (k := c)
      replace Hg := Hg.ext EE
      replace Ha := Ha.ext EE
      replace Hb := Hb.ext EE
      replace HV := HV.ext EE
      have hw := wth_bd (a := a) hal.toGd c c
      have hmul := mul_bd (n := (rr.length : Int)) (N := 6) (X := 10000) (by omega) (by omega) hw.1 (by omega)
      have hrow := hal.row c
      have hsum : c < rr.length → PC Try.prog 53 [vs.getD c undef] w4 (.int .i64 (sumTo (rr.getD c []) (rr.getD c []).length)) := fun h => sum_pc (Hg.row c h) (fun j => hal.val c j) (by have := hrow h; omega)
      have hsb := sumTo_bd (fun j => hal.val c j) (rr.getD c []).length
      have hmv : c < rr.length → (0 ≤ ((vals rr a).getD c []).getD c 0 * ((vals rr a).length : Int) ∧ ((vals rr a).getD c []).getD c 0 * ((vals rr a).length : Int) ≤ 60000) ∧ (isPoor rr a c = true ↔ ((vals rr a).getD c []).getD c 0 * ((vals rr a).length : Int) < sumTo (rr.getD c []) (rr.getD c []).length) := by
        intro h
        rw [e2 h h, hvl, Int.mul_comm]
        refine ⟨⟨hmul.1, by omega⟩, ?_⟩
        simp [isPoor, allv]
      by_cases hp : isPoor rr a c = true
      · have hq := fun h => (hmv h).2.1 hp
        repeat' (conv => whnf
                 first
                 | (refine Dr.quiet tyOk (by kernel_rfl) ?_)
                 | (refine VCQ.pure (hsum (by omega)) ?_)
                 | (refine Rng.mk (by omega) ?_)
                 | (refine Split.pos (by omega) ?_)
                 | (refine Split.neg (by omega) ?_)
                 | (refine Split.mk (fun h => ?_) (fun h => ?_))
                 | (refine Need.mk (by omega) ?_)
                 | (refine Ints.ln (by assumption) ?_)
                 | (refine Mat.ln (by assumption) ?_)
                 | (refine Ints.ln (Mat.row (by assumption) _ (by omega)) ?_)
                 | (refine Ints.ix (by assumption) (by omega) ?_)
                 | (refine Mat.ix (by assumption) (by omega) ?_)
                 | (refine Ints.ix (Mat.row (by assumption) _ (by omega)) (by omega) ?_)
                 | (refine Ints.ix (c := 0) (by assumption) (by omega) ?_)
                 | (refine Mat.ix (c := 0) (by assumption) (by omega) ?_)
                 | (refine Ints.ix (c := 0) (Mat.row (by assumption) _ (by omega)) (by omega) ?_)
                 | (refine Ints.ixI (by assumption) (by omega) ?_)
                 | (refine Mat.ixI (by assumption) (by omega) ?_)
                 | (refine Ints.ixI (Mat.row (by assumption) _ (by omega)) (by omega) ?_)
                 | (refine Ints.ld (by assumption) (by omega) ?_)
                 | (refine Mat.ld (by assumption) (by omega) ?_)
                 | (refine Ints.ld (Mat.row (by assumption) _ (by omega)) (by omega) ?_)
                 | (refine At.ld (by assumption) rfl ?_)
                 | (refine At.ldN (by assumption) rfl ?_))
        · refine VE.lit1 Try.underlying25 eInt (rfl) fun lv w5 E5 Hl => ?_
          replace Ho := Ho.ext E5
          conv => whnf
          refine VE.app Try.underlying25 eInt rfl (by omega) Ho (EE.trans E5) rfl Hl (by simp [Value.oneCell']) (by first | omega | (simp only [List.length_map, List.length_range]; omega)) (by first | omega | (simp only [List.length_map, List.length_range]; omega)) fun v6 w6 E6 G6 H6 => ?_
          repeat' (conv => whnf
                   first
                   | (refine Dr.quiet tyOk (by kernel_rfl) ?_)
                   | (refine Rng.mk (by omega) ?_)
                   | (refine Split.pos (by omega) ?_)
                   | (refine Split.neg (by omega) ?_)
                   | (refine Split.mk (fun h => ?_) (fun h => ?_))
                   | (refine Need.mk (by omega) ?_)
                   | (refine Ints.ln (by assumption) ?_)
                   | (refine Mat.ln (by assumption) ?_)
                   | (refine Ints.ln (Mat.row (by assumption) _ (by omega)) ?_)
                   | (refine Ints.ix (by assumption) (by omega) ?_)
                   | (refine Mat.ix (by assumption) (by omega) ?_)
                   | (refine Ints.ix (Mat.row (by assumption) _ (by omega)) (by omega) ?_)
                   | (refine Ints.ix (c := 0) (by assumption) (by omega) ?_)
                   | (refine Mat.ix (c := 0) (by assumption) (by omega) ?_)
                   | (refine Ints.ix (c := 0) (Mat.row (by assumption) _ (by omega)) (by omega) ?_)
                   | (refine Ints.ixI (by assumption) (by omega) ?_)
                   | (refine Mat.ixI (by assumption) (by omega) ?_)
                   | (refine Ints.ixI (Mat.row (by assumption) _ (by omega)) (by omega) ?_)
                   | (refine Ints.ld (by assumption) (by omega) ?_)
                   | (refine Mat.ld (by assumption) (by omega) ?_)
                   | (refine Ints.ld (Mat.row (by assumption) _ (by omega)) (by omega) ?_)
                   | (refine At.ld (by assumption) rfl ?_)
                   | (refine At.ldN (by assumption) rfl ?_))
          refine ⟨_, (by omega : rr.length - (c + 1) < rr.length - c), rfl, c + 1, by omega, rfl, rfl, E6, ?_⟩
          simp only [filt, if_pos hp, List.map_append, List.length_append]
          exact H6
        · obtain rfl : c = rr.length := by omega
          refine ⟨(E2.trans E3).trans EE, _, by rw [hv], ?_⟩
          rw [poorR, if_pos hv]
          exact OI.of Ho
      · have hq := fun h => mt (hmv h).2.2 hp
        repeat' (conv => whnf
                 first
                 | (refine Dr.quiet tyOk (by kernel_rfl) ?_)
                 | (refine VCQ.pure (hsum (by omega)) ?_)
                 | (refine Rng.mk (by omega) ?_)
                 | (refine Split.pos (by omega) ?_)
                 | (refine Split.neg (by omega) ?_)
                 | (refine Split.mk (fun h => ?_) (fun h => ?_))
                 | (refine Need.mk (by omega) ?_)
                 | (refine Ints.ln (by assumption) ?_)
                 | (refine Mat.ln (by assumption) ?_)
                 | (refine Ints.ln (Mat.row (by assumption) _ (by omega)) ?_)
                 | (refine Ints.ix (by assumption) (by omega) ?_)
                 | (refine Mat.ix (by assumption) (by omega) ?_)
                 | (refine Ints.ix (Mat.row (by assumption) _ (by omega)) (by omega) ?_)
                 | (refine Ints.ix (c := 0) (by assumption) (by omega) ?_)
                 | (refine Mat.ix (c := 0) (by assumption) (by omega) ?_)
                 | (refine Ints.ix (c := 0) (Mat.row (by assumption) _ (by omega)) (by omega) ?_)
                 | (refine Ints.ixI (by assumption) (by omega) ?_)
                 | (refine Mat.ixI (by assumption) (by omega) ?_)
                 | (refine Ints.ixI (Mat.row (by assumption) _ (by omega)) (by omega) ?_)
                 | (refine Ints.ld (by assumption) (by omega) ?_)
                 | (refine Mat.ld (by assumption) (by omega) ?_)
                 | (refine Ints.ld (Mat.row (by assumption) _ (by omega)) (by omega) ?_)
                 | (refine At.ld (by assumption) rfl ?_)
                 | (refine At.ldN (by assumption) rfl ?_))
        · refine ⟨_, (by omega : rr.length - (c + 1) < rr.length - c), rfl, c + 1, by omega, rfl, rfl, EE, ?_⟩
          simp only [filt, if_neg hp, List.append_nil]
          exact Ho
        · obtain rfl : c = rr.length := by omega
          refine ⟨(E2.trans E3).trans EE, _, by rw [hv], ?_⟩
          rw [poorR, if_pos hv]
          exact OI.of Ho
  · conv => whnf
    refine At.ldN Hb rfl ?_
    conv => whnf
    refine VC.rc (gvalues_rc Hg Ha) ?_
    rintro _ w3 E3 ⟨v, us, rfl, HO⟩
    repeat' (conv => whnf
             first
             | (refine Dr.quiet tyOk (by kernel_rfl) ?_)
             | (refine Rng.mk (by omega) ?_)
             | (refine Split.pos (by omega) ?_)
             | (refine Split.neg (by omega) ?_)
             | (refine Split.mk (fun h => ?_) (fun h => ?_))
             | (refine Need.mk (by omega) ?_)
             | (refine Ints.ln (by assumption) ?_)
             | (refine Mat.ln (by assumption) ?_)
             | (refine Ints.ln (Mat.row (by assumption) _ (by omega)) ?_)
             | (refine Ints.ix (by assumption) (by omega) ?_)
             | (refine Mat.ix (by assumption) (by omega) ?_)
             | (refine Ints.ix (Mat.row (by assumption) _ (by omega)) (by omega) ?_)
             | (refine Ints.ix (c := 0) (by assumption) (by omega) ?_)
             | (refine Mat.ix (c := 0) (by assumption) (by omega) ?_)
             | (refine Ints.ix (c := 0) (Mat.row (by assumption) _ (by omega)) (by omega) ?_)
             | (refine Ints.ixI (by assumption) (by omega) ?_)
             | (refine Mat.ixI (by assumption) (by omega) ?_)
             | (refine Ints.ixI (Mat.row (by assumption) _ (by omega)) (by omega) ?_)
             | (refine Ints.ld (by assumption) (by omega) ?_)
             | (refine Mat.ld (by assumption) (by omega) ?_)
             | (refine Ints.ld (Mat.row (by assumption) _ (by omega)) (by omega) ?_)
             | (refine At.ld (by assumption) rfl ?_)
             | (refine At.ldN (by assumption) rfl ?_))
    refine ⟨E2.trans E3, _, rfl, ?_⟩
    rw [poorR, if_neg hv]
    exact Own.nil
end Go.Proofs.Ytiahjkhfkbcjhaa
