/- Own rows of ints by their list. -/
import Derived.Test.YtkgogljfngplnaaJ2
set_option linter.unusedVariables false
set_option linter.unusedSimpArgs false
namespace Go.Proofs.Ytkgogljfngplnaa
open Go.Eng
set_option maxRecDepth 100000
set_option maxHeartbeats 4000000

theorem evs_in {rr : List (List Int)} {a : List Int} {c : Nat} (h : c < (evs rr a).length) : ∃ i k : Nat, i < rr.length ∧ k < rr.length ∧ wth rr a i i < wth rr a i k ∧ (evs rr a).getD c (0, 0, 0) = ((i : Int), (k : Int), moreV rr a i k) := by
  rw [evs_len] at h
  obtain ⟨i, k, hi, hk, hl, e⟩ := envs_in h
  refine ⟨i, k, hi, hk, hl, ?_⟩
  rw [evs_get h, e]
  simp
theorem fm_len {α β : Type} {f : α → List β} (h : ∀ x, (f x).length ≤ 1) : ∀ l : List α, (l.flatMap f).length ≤ l.length
  | [] => by simp
  | x :: l => by have := fm_len h l; have := h x; simp only [List.flatMap_cons, List.length_append, List.length_cons]; omega
theorem fm_snoc {α β : Type} {f : α → List β} {l : List α} {x d : α} {c : Nat} (h : c < l.length) (e : l.getD c d = x) : (l.take (c + 1)).flatMap f = (l.take c).flatMap f ++ f x := by
  rw [take_snoc d l c h, e, List.flatMap_append]; simp
theorem markOf_len (rr : List (List Int)) (a : List Int) (b : Bool) (x : T3) : (markOf rr a b x).length ≤ 1 := by unfold markOf; split <;> simp
theorem missOf_len (rr : List (List Int)) (a : List Int) (x : T3) : (missOf rr a x).length ≤ 1 := by unfold missOf; split <;> simp

theorem none_rc {w : World} {gv av : Value} {vs : List Value} {rr : List (List Int)} {a : List Int} (Hg : Mat w gv vs rr) (Ha : Ints w av a) :
    RC Try.prog 52 [.agg #[gv], av] w NoB (fun u w' => ∃ mv xv, u = .tuple #[mv, xv, .int .i64 (vld rr a)] ∧ OT w.heap.size w' mv (oneM rr a) ∧ OP w.heap.size w' xv (oneX rr a)) := by
  refine RC.mk tyOk Try.func52 rfl (by kernel_rfl) fun w1 E1 => ?_
  replace Hg := Hg.ext E1
  replace Ha := Ha.ext E1
  have EE := Ext.refl w1
  refine Bx.agg fun b2 w2 E2 hb2 Hb _ => ?_
  replace Hg := Hg.ext E2
  replace Ha := Ha.ext E2
  replace EE := EE.ext E2
  conv => whnf
  refine At.ldN Hb rfl ?_
  conv => whnf
  refine VC.rc (nenvies_rc Hg Ha) ?_
  rintro _ w3 E3 ⟨v, rfl, HO⟩
  replace Hg := Hg.ext E3
  replace Ha := Ha.ext E3
  replace EE := EE.ext E3
  replace Hb := Hb.ext E3
  by_cases hv : vld rr a = 0
  · have hal := al_of_vld hv
    have hn := hal.n6
    have hlen := hal.len
    have hrow := hal.row
    rw [evsR, if_pos hv] at HO
    have HT : Trs _ v _ := Own.sl HO
    have hel := envs_le (a := a) hn
    rw [← evs_len] at hel
    repeat' (conv => whnf
             first
             | (refine Dr.quiet tyOk (by kernel_rfl) ?_)
             | (refine Rng.mk (by omega) ?_)
             | (refine Split.pos (by omega) ?_)
             | (refine Split.neg (by omega) ?_)
             | (refine Split.mk (fun h => ?_) (fun h => ?_))
             | (refine Need.mk (by omega) ?_)
             | (refine Ints.ln (by assumption) ?_)
             | (refine Mat.ln (by assumption) ?_)
             | (refine Ints.ln (Mat.row (by assumption) _ (by omega)) ?_)
             | (refine Ints.ix (by assumption) (by omega) ?_)
             | (refine Mat.ix (by assumption) (by omega) ?_)
             | (refine Ints.ix (Mat.row (by assumption) _ (by omega)) (by omega) ?_)
             | (refine Ints.ix (c := 0) (by assumption) (by omega) ?_)
             | (refine Mat.ix (c := 0) (by assumption) (by omega) ?_)
             | (refine Ints.ix (c := 0) (Mat.row (by assumption) _ (by omega)) (by omega) ?_)
             | (refine Ints.ixI (by assumption) (by omega) ?_)
             | (refine Mat.ixI (by assumption) (by omega) ?_)
             | (refine Ints.ixI (Mat.row (by assumption) _ (by omega)) (by omega) ?_)
             | (refine Ints.ld (by assumption) (by omega) ?_)
             | (refine Mat.ld (by assumption) (by omega) ?_)
             | (refine Ints.ld (Mat.row (by assumption) _ (by omega)) (by omega) ?_)
             | (refine At.ld (by assumption) rfl ?_)
             | (refine At.ldN (by assumption) rfl ?_)
             | (refine Prs.ln (by assumption) ?_)
             | (refine Trs.ln (by assumption) ?_)
             | (refine Prs.ix (by assumption) (by omega) ?_)
             | (refine Trs.ix (by assumption) (by omega) ?_)
             | (refine Prs.ldN (by assumption) (by omega) ?_)
             | (refine Trs.ldN (by assumption) (by omega) ?_)
             | (refine At.ldN (Blk.at (by assumption)) rfl ?_)
             | (refine At.ld (Blk.at (by assumption)) rfl ?_)
             | (refine IxA.mk (by omega) ?_)
             | (refine Sl.ln (Own.sl (by assumption)) ?_)
             | (refine Ints.ix (Own.sl (by assumption)) (by omega) ?_)
             | (refine Ints.ixI (Own.sl (by assumption)) (by omega) ?_)
             | (refine Ints.ld (Own.sl (by assumption)) (by omega) ?_))
    have Hg__1 := Hg
    have Ha__1 := Ha
    have EE__1 := EE
    have Hb__1 := Hb
    have HT__1 := HT
    have hz1 := Nat.le_trans E1.size EE.size
    refine Lp.mk tyOk [false, false, false, false, true, true, false, false, false, true, true, false, false, false, false, false, false, false, false, false, false, false, true, true, true, true, true, true, true, true, true, true, true, true, true, true, true, true, true, true, true, true, true, true, true, true, true, true, true, true] (fun m fr wr => getK fr 4 fun mv => getK fr 5 fun xv => getK fr 22 fun j => ∃ c : Nat, c ≤ (evs rr a).length ∧ m = (evs rr a).length - c ∧ j = .int .i64 (c : Int) ∧ (OT w3.heap.size wr mv (((evs rr a).take c).flatMap (markOf rr a true))) ∧ (OP w3.heap.size wr xv (((evs rr a).take c).flatMap (missOf rr a))) ∧ Ext w3 wr) ((evs rr a).length) ?_ ?_
    · exact ⟨0, Nat.zero_le _, rfl, rfl, Own.nil, Own.nil, Ext.refl _⟩
    · intro m w4 u4 u5 u9 u10 u22 u23 u24 u25 u26 u27 u28 u29 u30 u31 u32 u33 u34 u35 u36 u37 u38 u39 u40 u41 u42 u43 u44 u45 u46 u47 u48 u49 hR
      obtain ⟨c, hc, rfl, rfl, Hm, Hx, EL1⟩ := hR
      replace Hg := Hg__1.ext EL1
      replace Ha := Ha__1.ext EL1
      replace EE := EE__1.ext EL1
      replace Hb := Hb__1.ext EL1
      replace HT := HT__1.ext EL1
      have hml := fm_len (markOf_len rr a true) ((evs rr a).take c)
      have hxl := fm_len (missOf_len rr a) ((evs rr a).take c)
      rw [List.length_take] at hml hxl
      repeat' (conv => whnf
               first
               | (refine Dr.quiet tyOk (by kernel_rfl) ?_)
               | (refine Rng.mk (by omega) ?_)
               | (refine Split.pos (by omega) ?_)
               | (refine Split.neg (by omega) ?_)
               | (refine Split.mk (fun h => ?_) (fun h => ?_))
               | (refine Need.mk (by omega) ?_)
               | (refine Ints.ln (by assumption) ?_)
               | (refine Mat.ln (by assumption) ?_)
               | (refine Ints.ln (Mat.row (by assumption) _ (by omega)) ?_)
               | (refine Ints.ix (by assumption) (by omega) ?_)
               | (refine Mat.ix (by assumption) (by omega) ?_)
               | (refine Ints.ix (Mat.row (by assumption) _ (by omega)) (by omega) ?_)
               | (refine Ints.ix (c := 0) (by assumption) (by omega) ?_)
               | (refine Mat.ix (c := 0) (by assumption) (by omega) ?_)
               | (refine Ints.ix (c := 0) (Mat.row (by assumption) _ (by omega)) (by omega) ?_)
               | (refine Ints.ixI (by assumption) (by omega) ?_)
               | (refine Mat.ixI (by assumption) (by omega) ?_)
               | (refine Ints.ixI (Mat.row (by assumption) _ (by omega)) (by omega) ?_)
               | (refine Ints.ld (by assumption) (by omega) ?_)
               | (refine Mat.ld (by assumption) (by omega) ?_)
               | (refine Ints.ld (Mat.row (by assumption) _ (by omega)) (by omega) ?_)
               | (refine At.ld (by assumption) rfl ?_)
               | (refine At.ldN (by assumption) rfl ?_)
               | (refine Prs.ln (by assumption) ?_)
               | (refine Trs.ln (by assumption) ?_)
               | (refine Prs.ix (by assumption) (by omega) ?_)
               | (refine Trs.ix (by assumption) (by omega) ?_)
               | (refine Prs.ldN (by assumption) (by omega) ?_)
               | (refine Trs.ldN (by assumption) (by omega) ?_)
               | (refine At.ldN (Blk.at (by assumption)) rfl ?_)
               | (refine At.ld (Blk.at (by assumption)) rfl ?_)
               | (refine IxA.mk (by omega) ?_)
               | (refine Sl.ln (Own.sl (by assumption)) ?_)
               | (refine Ints.ix (Own.sl (by assumption)) (by omega) ?_)
               | (refine Ints.ixI (Own.sl (by assumption)) (by omega) ?_)
               | (refine Ints.ld (Own.sl (by assumption)) (by omega) ?_))
      · obtain ⟨i, k, hi, hk, hlt, hik⟩ := evs_in (rr := rr) (a := a) (c := c) (by omega)
        rw [hik]
        have Hg__2 := Hg
        have Ha__2 := Ha
        have EE__2 := EE
        have Hb__2 := Hb
        have HT__2 := HT
        have EL1__2 := EL1
        have Hm__2 := Hm
        have Hx__2 := Hx
        conv => whnf
        refine VE.alloc eEnvy fun xb w5 E5 hb_xb Hk => ?_
        replace Hg := Hg.ext E5
        replace Ha := Ha.ext E5
        replace EE := EE.ext E5
        replace Hb := Hb.ext E5
        replace HT := HT.ext E5
        replace EL1 := EL1.ext E5
        replace Hm := Hm.ext E5
        replace Hx := Hx.ext E5
        have EL2 := E5
        conv => whnf
        refine Blk.all Hk (by kernel_rfl) (by first | decide | simp) rfl rfl (by intro v hv; simp at hv; rcases hv with rfl | rfl | rfl | rfl | rfl <;> rfl) fun w6 G6 Hk' => ?_
        have E6 : Ext w4 w6 := EL2.new G6 fun i hi hk => by omega
        replace Hk := Hk'
        replace Hg := Hg__2.ext E6
        replace Ha := Ha__2.ext E6
        replace EE := EE__2.ext E6
        replace Hb := Hb__2.ext E6
        replace HT := HT__2.ext E6
        replace EL1 := EL1__2.ext E6
        replace Hm := Hm__2.ext E6
        replace Hx := Hx__2.ext E6
        replace EL2 := E6
        have cf := nfirst_pc (k := (k : Int)) (x := moreV rr a i k) (b := true) Hg Ha hi (by rw [hrow i hi]; omega)
        by_cases hf : 0 ≤ firstG rr a i k (moreV rr a i k) true
        · repeat' (conv => whnf
                   first
                   | (refine Dr.quiet tyOk (by kernel_rfl) ?_)
                   | (refine VC.pure cf ?_)
                   | (refine VS.b3 Try.underlying102 eMark (by decide +kernel) ⟨rfl, rfl, rfl⟩ ?_)
                   | (refine Rng.mk (by omega) ?_)
                   | (refine Split.pos (by omega) ?_)
                   | (refine Split.neg (by omega) ?_)
                   | (refine Split.mk (fun h => ?_) (fun h => ?_))
                   | (refine Need.mk (by omega) ?_)
                   | (refine Ints.ln (by assumption) ?_)
                   | (refine Mat.ln (by assumption) ?_)
                   | (refine Ints.ln (Mat.row (by assumption) _ (by omega)) ?_)
                   | (refine Ints.ix (by assumption) (by omega) ?_)
                   | (refine Mat.ix (by assumption) (by omega) ?_)
                   | (refine Ints.ix (Mat.row (by assumption) _ (by omega)) (by omega) ?_)
                   | (refine Ints.ix (c := 0) (by assumption) (by omega) ?_)
                   | (refine Mat.ix (c := 0) (by assumption) (by omega) ?_)
                   | (refine Ints.ix (c := 0) (Mat.row (by assumption) _ (by omega)) (by omega) ?_)
                   | (refine Ints.ixI (by assumption) (by omega) ?_)
                   | (refine Mat.ixI (by assumption) (by omega) ?_)
                   | (refine Ints.ixI (Mat.row (by assumption) _ (by omega)) (by omega) ?_)
                   | (refine Ints.ld (by assumption) (by omega) ?_)
                   | (refine Mat.ld (by assumption) (by omega) ?_)
                   | (refine Ints.ld (Mat.row (by assumption) _ (by omega)) (by omega) ?_)
                   | (refine At.ld (by assumption) rfl ?_)
                   | (refine At.ldN (by assumption) rfl ?_)
                   | (refine Prs.ln (by assumption) ?_)
                   | (refine Trs.ln (by assumption) ?_)
                   | (refine Prs.ix (by assumption) (by omega) ?_)
                   | (refine Trs.ix (by assumption) (by omega) ?_)
                   | (refine Prs.ldN (by assumption) (by omega) ?_)
                   | (refine Trs.ldN (by assumption) (by omega) ?_)
                   | (refine At.ldN (Blk.at (by assumption)) rfl ?_)
                   | (refine At.ld (Blk.at (by assumption)) rfl ?_)
                   | (refine IxA.mk (by omega) ?_)
                   | (refine Sl.ln (Own.sl (by assumption)) ?_)
                   | (refine Ints.ix (Own.sl (by assumption)) (by omega) ?_)
                   | (refine Ints.ixI (Own.sl (by assumption)) (by omega) ?_)
                   | (refine Ints.ld (Own.sl (by assumption)) (by omega) ?_))
          refine VE.lit1A Try.underlying67 eMark rfl (by decide) fun lv w7 E7 Hl => ?_
          replace Hg := Hg.ext E7
          replace Ha := Ha.ext E7
          replace EE := EE.ext E7
          replace Hb := Hb.ext E7
          replace HT := HT.ext E7
          replace EL1 := EL1.ext E7
          replace Hm := Hm.ext E7
          replace Hx := Hx.ext E7
          replace EL2 := EL2.ext E7
          replace Hk := Hk.ext E7
          conv => whnf
          refine VE.app Try.underlying67 eMark rfl (by omega) Hm EL1 rfl Hl (by simp [Value.oneCell']) (by first | omega | (simp only [List.length_map, List.length_range]; omega) | (simp; omega)) (by first | omega | (simp only [List.length_map, List.length_range]; omega) | (simp; omega)) fun v8 w8 E8 G8 H8 => ?_
          replace Hx := Own.gr Hx G8 (fun k hk hS => Own.ne Hm Hx (by decide) k hS hk)
          replace Hg := Hg__1.ext E8
          replace Ha := Ha__1.ext E8
          replace EE := EE__1.ext E8
          replace Hb := Hb__1.ext E8
          replace HT := HT__1.ext E8
          replace EL1 := E8
          repeat' (conv => whnf
                   first
                   | (refine Dr.quiet tyOk (by kernel_rfl) ?_)
                   | (refine Rng.mk (by omega) ?_)
                   | (refine Split.pos (by omega) ?_)
                   | (refine Split.neg (by omega) ?_)
                   | (refine Split.mk (fun h => ?_) (fun h => ?_))
                   | (refine Need.mk (by omega) ?_)
                   | (refine Ints.ln (by assumption) ?_)
                   | (refine Mat.ln (by assumption) ?_)
                   | (refine Ints.ln (Mat.row (by assumption) _ (by omega)) ?_)
                   | (refine Ints.ix (by assumption) (by omega) ?_)
                   | (refine Mat.ix (by assumption) (by omega) ?_)
                   | (refine Ints.ix (Mat.row (by assumption) _ (by omega)) (by omega) ?_)
                   | (refine Ints.ix (c := 0) (by assumption) (by omega) ?_)
                   | (refine Mat.ix (c := 0) (by assumption) (by omega) ?_)
                   | (refine Ints.ix (c := 0) (Mat.row (by assumption) _ (by omega)) (by omega) ?_)
                   | (refine Ints.ixI (by assumption) (by omega) ?_)
                   | (refine Mat.ixI (by assumption) (by omega) ?_)
                   | (refine Ints.ixI (Mat.row (by assumption) _ (by omega)) (by omega) ?_)
                   | (refine Ints.ld (by assumption) (by omega) ?_)
                   | (refine Mat.ld (by assumption) (by omega) ?_)
                   | (refine Ints.ld (Mat.row (by assumption) _ (by omega)) (by omega) ?_)
                   | (refine At.ld (by assumption) rfl ?_)
                   | (refine At.ldN (by assumption) rfl ?_)
                   | (refine Prs.ln (by assumption) ?_)
                   | (refine Trs.ln (by assumption) ?_)
                   | (refine Prs.ix (by assumption) (by omega) ?_)
                   | (refine Trs.ix (by assumption) (by omega) ?_)
                   | (refine Prs.ldN (by assumption) (by omega) ?_)
                   | (refine Trs.ldN (by assumption) (by omega) ?_)
                   | (refine At.ldN (Blk.at (by assumption)) rfl ?_)
                   | (refine At.ld (Blk.at (by assumption)) rfl ?_)
                   | (refine IxA.mk (by omega) ?_)
                   | (refine Sl.ln (Own.sl (by assumption)) ?_)
                   | (refine Ints.ix (Own.sl (by assumption)) (by omega) ?_)
                   | (refine Ints.ixI (Own.sl (by assumption)) (by omega) ?_)
                   | (refine Ints.ld (Own.sl (by assumption)) (by omega) ?_))
          refine ⟨_, (by omega : (evs rr a).length - (c + 1) < (evs rr a).length - c), rfl, c + 1, by omega, rfl, rfl, ?_, ?_, EL1⟩
          · rw [fm_snoc (by omega) hik]
            simp only [markOf, if_pos hf]
            rw [flat3_snoc] at H8
            exact OT.of H8
          · rw [fm_snoc (by omega) hik]
            simp only [missOf, if_pos hf, List.append_nil]
            exact Hx
        · repeat' (conv => whnf
                   first
                   | (refine Dr.quiet tyOk (by kernel_rfl) ?_)
                   | (refine VC.pure cf ?_)
                   | (refine VS.arr2 Try.underlying103 ePair cells3 ?_)
                   | (refine Rng.mk (by omega) ?_)
                   | (refine Split.pos (by omega) ?_)
                   | (refine Split.neg (by omega) ?_)
                   | (refine Split.mk (fun h => ?_) (fun h => ?_))
                   | (refine Need.mk (by omega) ?_)
                   | (refine Ints.ln (by assumption) ?_)
                   | (refine Mat.ln (by assumption) ?_)
                   | (refine Ints.ln (Mat.row (by assumption) _ (by omega)) ?_)
                   | (refine Ints.ix (by assumption) (by omega) ?_)
                   | (refine Mat.ix (by assumption) (by omega) ?_)
                   | (refine Ints.ix (Mat.row (by assumption) _ (by omega)) (by omega) ?_)
                   | (refine Ints.ix (c := 0) (by assumption) (by omega) ?_)
                   | (refine Mat.ix (c := 0) (by assumption) (by omega) ?_)
                   | (refine Ints.ix (c := 0) (Mat.row (by assumption) _ (by omega)) (by omega) ?_)
                   | (refine Ints.ixI (by assumption) (by omega) ?_)
                   | (refine Mat.ixI (by assumption) (by omega) ?_)
                   | (refine Ints.ixI (Mat.row (by assumption) _ (by omega)) (by omega) ?_)
                   | (refine Ints.ld (by assumption) (by omega) ?_)
                   | (refine Mat.ld (by assumption) (by omega) ?_)
                   | (refine Ints.ld (Mat.row (by assumption) _ (by omega)) (by omega) ?_)
                   | (refine At.ld (by assumption) rfl ?_)
                   | (refine At.ldN (by assumption) rfl ?_)
                   | (refine Prs.ln (by assumption) ?_)
                   | (refine Trs.ln (by assumption) ?_)
                   | (refine Prs.ix (by assumption) (by omega) ?_)
                   | (refine Trs.ix (by assumption) (by omega) ?_)
                   | (refine Prs.ldN (by assumption) (by omega) ?_)
                   | (refine Trs.ldN (by assumption) (by omega) ?_)
                   | (refine At.ldN (Blk.at (by assumption)) rfl ?_)
                   | (refine At.ld (Blk.at (by assumption)) rfl ?_)
                   | (refine IxA.mk (by omega) ?_)
                   | (refine Sl.ln (Own.sl (by assumption)) ?_)
                   | (refine Ints.ix (Own.sl (by assumption)) (by omega) ?_)
                   | (refine Ints.ixI (Own.sl (by assumption)) (by omega) ?_)
                   | (refine Ints.ld (Own.sl (by assumption)) (by omega) ?_))
          refine VE.lit1A Try.underlying68 ePair rfl (by decide) fun lv w9 E9 Hl => ?_
          replace Hg := Hg.ext E9
          replace Ha := Ha.ext E9
          replace EE := EE.ext E9
          replace Hb := Hb.ext E9
          replace HT := HT.ext E9
          replace EL1 := EL1.ext E9
          replace Hm := Hm.ext E9
          replace Hx := Hx.ext E9
          replace EL2 := EL2.ext E9
          replace Hk := Hk.ext E9
          conv => whnf
          refine VE.app Try.underlying68 ePair rfl (by omega) Hx EL1 rfl Hl (by simp [Value.oneCell']) (by first | omega | (simp only [List.length_map, List.length_range]; omega) | (simp; omega)) (by first | omega | (simp only [List.length_map, List.length_range]; omega) | (simp; omega)) fun v8 w10 E10 G10 H8 => ?_
          replace Hm := Own.gr Hm G10 (fun k hk hS => Own.ne Hx Hm (by decide) k hS hk)
          replace Hg := Hg__1.ext E10
          replace Ha := Ha__1.ext E10
          replace EE := EE__1.ext E10
          replace Hb := Hb__1.ext E10
          replace HT := HT__1.ext E10
          replace EL1 := E10
          repeat' (conv => whnf
                   first
                   | (refine Dr.quiet tyOk (by kernel_rfl) ?_)
                   | (refine Rng.mk (by omega) ?_)
                   | (refine Split.pos (by omega) ?_)
                   | (refine Split.neg (by omega) ?_)
                   | (refine Split.mk (fun h => ?_) (fun h => ?_))
                   | (refine Need.mk (by omega) ?_)
                   | (refine Ints.ln (by assumption) ?_)
                   | (refine Mat.ln (by assumption) ?_)
                   | (refine Ints.ln (Mat.row (by assumption) _ (by omega)) ?_)
                   | (refine Ints.ix (by assumption) (by omega) ?_)
                   | (refine Mat.ix (by assumption) (by omega) ?_)
                   | (refine Ints.ix (Mat.row (by assumption) _ (by omega)) (by omega) ?_)
                   | (refine Ints.ix (c := 0) (by assumption) (by omega) ?_)
                   | (refine Mat.ix (c := 0) (by assumption) (by omega) ?_)
                   | (refine Ints.ix (c := 0) (Mat.row (by assumption) _ (by omega)) (by omega) ?_)
                   | (refine Ints.ixI (by assumption) (by omega) ?_)
                   | (refine Mat.ixI (by assumption) (by omega) ?_)
                   | (refine Ints.ixI (Mat.row (by assumption) _ (by omega)) (by omega) ?_)
                   | (refine Ints.ld (by assumption) (by omega) ?_)
                   | (refine Mat.ld (by assumption) (by omega) ?_)
                   | (refine Ints.ld (Mat.row (by assumption) _ (by omega)) (by omega) ?_)
                   | (refine At.ld (by assumption) rfl ?_)
                   | (refine At.ldN (by assumption) rfl ?_)
                   | (refine Prs.ln (by assumption) ?_)
                   | (refine Trs.ln (by assumption) ?_)
                   | (refine Prs.ix (by assumption) (by omega) ?_)
                   | (refine Trs.ix (by assumption) (by omega) ?_)
                   | (refine Prs.ldN (by assumption) (by omega) ?_)
                   | (refine Trs.ldN (by assumption) (by omega) ?_)
                   | (refine At.ldN (Blk.at (by assumption)) rfl ?_)
                   | (refine At.ld (Blk.at (by assumption)) rfl ?_)
                   | (refine IxA.mk (by omega) ?_)
                   | (refine Sl.ln (Own.sl (by assumption)) ?_)
                   | (refine Ints.ix (Own.sl (by assumption)) (by omega) ?_)
                   | (refine Ints.ixI (Own.sl (by assumption)) (by omega) ?_)
                   | (refine Ints.ld (Own.sl (by assumption)) (by omega) ?_))
          refine ⟨_, (by omega : (evs rr a).length - (c + 1) < (evs rr a).length - c), rfl, c + 1, by omega, rfl, rfl, ?_, ?_, EL1⟩
          · rw [fm_snoc (by omega) hik]
            simp only [markOf, if_neg hf, List.append_nil]
            exact Hm
          · rw [fm_snoc (by omega) hik]
            simp only [missOf, if_neg hf]
            rw [flatP_snoc] at H8
            exact OP.of H8
      · obtain rfl : c = (evs rr a).length := by omega
        refine ⟨EE, _, _, by rw [hv], ?_⟩
        rw [List.take_length] at Hm Hx
        rw [oneM, oneX, evsR, if_pos hv]
        exact ⟨Own.base Hm hz1, Own.base Hx hz1⟩
  · repeat' (conv => whnf
             first
             | (refine Dr.quiet tyOk (by kernel_rfl) ?_)
             | (refine Rng.mk (by omega) ?_)
             | (refine Split.pos (by omega) ?_)
             | (refine Split.neg (by omega) ?_)
             | (refine Split.mk (fun h => ?_) (fun h => ?_))
             | (refine Need.mk (by omega) ?_)
             | (refine Ints.ln (by assumption) ?_)
             | (refine Mat.ln (by assumption) ?_)
             | (refine Ints.ln (Mat.row (by assumption) _ (by omega)) ?_)
             | (refine Ints.ix (by assumption) (by omega) ?_)
             | (refine Mat.ix (by assumption) (by omega) ?_)
             | (refine Ints.ix (Mat.row (by assumption) _ (by omega)) (by omega) ?_)
             | (refine Ints.ix (c := 0) (by assumption) (by omega) ?_)
             | (refine Mat.ix (c := 0) (by assumption) (by omega) ?_)
             | (refine Ints.ix (c := 0) (Mat.row (by assumption) _ (by omega)) (by omega) ?_)
             | (refine Ints.ixI (by assumption) (by omega) ?_)
             | (refine Mat.ixI (by assumption) (by omega) ?_)
             | (refine Ints.ixI (Mat.row (by assumption) _ (by omega)) (by omega) ?_)
             | (refine Ints.ld (by assumption) (by omega) ?_)
             | (refine Mat.ld (by assumption) (by omega) ?_)
             | (refine Ints.ld (Mat.row (by assumption) _ (by omega)) (by omega) ?_)
             | (refine At.ld (by assumption) rfl ?_)
             | (refine At.ldN (by assumption) rfl ?_))
    refine ⟨EE, _, _, rfl, ?_⟩
    rw [oneM, oneX, evsR, if_neg hv]
    exact ⟨Own.nil, Own.nil⟩
end Go.Proofs.Ytkgogljfngplnaa
set_option linter.unusedVariables false
set_option linter.unusedSimpArgs false
namespace Go.Proofs.Ytkgogljfngplnaa
open Go.Eng
set_option maxRecDepth 100000
set_option maxHeartbeats 4000000

def hM (rr : List (List Int)) (a : List Int) (b : Bool) (i k : Nat) : List T3 := if wth rr a i i < wth rr a i k then markOf rr a b (i, k, moreV rr a i k) else []
def hX (rr : List (List Int)) (a : List Int) (i k : Nat) : List (Int × Int) := if wth rr a i i < wth rr a i k then missOf rr a (i, k, moreV rr a i k) else []
theorem hM_len (rr : List (List Int)) (a : List Int) (b : Bool) (i k : Nat) : (hM rr a b i k).length ≤ 1 := by unfold hM; split <;> simp [markOf_len]
theorem hX_len (rr : List (List Int)) (a : List Int) (i k : Nat) : (hX rr a i k).length ≤ 1 := by unfold hX; split <;> simp [missOf_len]
theorem oneM_g {rr : List (List Int)} {a : List Int} (hv : vld rr a = 0) : oneM rr a = gTo (hM rr a true) rr.length rr.length := by rw [oneM, evsR, if_pos hv, evs_flat]; rfl
theorem anyM_g {rr : List (List Int)} {a : List Int} (hv : vld rr a = 0) : anyM rr a = gTo (hM rr a false) rr.length rr.length := by rw [anyM, evsR, if_pos hv, evs_flat]; rfl
theorem oneX_g {rr : List (List Int)} {a : List Int} (hv : vld rr a = 0) : oneX rr a = gTo (hX rr a) rr.length rr.length := by rw [oneX, evsR, if_pos hv, evs_flat]; rfl
theorem content_at {rr : List (List Int)} {a : List Int} {i k j : Nat} (h : a.getD j 0 = k) : content rr a i k j ↔ moreV rr a i k ≤ val rr i j := by
  unfold content moreV
  rw [if_pos ⟨by omega, by rw [Int.toNat_natCast]; exact h⟩, Int.toNat_natCast]
  omega
theorem content_no {rr : List (List Int)} {a : List Int} {i k : Nat} : content rr a i k (-1) ↔ wth rr a i k ≤ wth rr a i i := by
  unfold content
  rw [if_neg (by omega)]; omega

end Go.Proofs.Ytkgogljfngplnaa
set_option linter.unusedVariables false
set_option linter.unusedSimpArgs false
namespace Go.Proofs.Ytkgogljfngplnaa
open Go.Eng
set_option maxRecDepth 100000
set_option maxHeartbeats 4000000

theorem hM_false {rr : List (List Int)} {a : List Int} {n m : Nat} (hal : Gd rr n m) {i k : Nat} : hM rr a false i k = markOf rr a false (i, k, moreV rr a i k) := by
  unfold hM
  by_cases h : wth rr a i i < wth rr a i k
  · rw [if_pos h]
  · rw [if_neg h]
    unfold markOf
    rw [if_neg]
    show ¬ 0 ≤ firstG rr a i k (moreV rr a i k) false
    rw [firstG_eq, first_no (fun j _ => boolF (fun hp => by have := (gP_f.1 hp).2; have := hal.val i j; unfold moreV at *; omega))]
    omega

end Go.Proofs.Ytkgogljfngplnaa
set_option linter.unusedVariables false
set_option linter.unusedSimpArgs false
namespace Go.Proofs.Ytkgogljfngplnaa
open Go.Eng
set_option maxRecDepth 100000
set_option maxHeartbeats 4000000

theorem worth_set {a r : List Int} {k x : Int} {q : Nat} (hq : q < a.length) : ∀ c : Nat, worth (a.set q x) r k c = worth a r k c + if q < c then ((if x = k then r.getD q 0 else 0) - (if a.getD q 0 = k then r.getD q 0 else 0)) else 0
  | 0 => by simp [worth]
  | c + 1 => by
    have ih := worth_set (r := r) (k := k) (x := x) hq c
    have hs := set_get (x := x) (k := c) hq
    simp only [worth, ih, hs]
    by_cases h1 : c = q
    · subst h1
      rw [if_pos rfl, if_neg (by omega : ¬ c < c), if_pos (by omega : c < c + 1)]
      omega
    · rw [if_neg h1]
      by_cases h2 : q < c
      · rw [if_pos h2, if_pos (by omega : q < c + 1)]; omega
      · rw [if_neg h2, if_neg (by omega : ¬ q < c + 1)]; omega
theorem wth_set {rr : List (List Int)} {a : List Int} {i q : Nat} {k x : Int} (hq : q < a.length) : wth rr (a.set q x) i k = wth rr a i k + ((if x = k then val rr i q else 0) - (if a.getD q 0 = k then val rr i q else 0)) := by
  unfold wth
  rw [worth_set (by simpa using hq), List.length_set, if_pos hq]
  rfl
theorem wth_gain {rr : List (List Int)} {a : List Int} {i q : Nat} (hq : q < a.length) (h : a.getD q 0 ≠ i) : wth rr (a.set q i) i i = wth rr a i i + val rr i q := by
  rw [wth_set hq, if_pos rfl, if_neg h]; omega

def sP (rr : List (List Int)) (a : List Int) (i j : Nat) : Bool := !decide (a.getD j 0 = i) && decide (allv rr i ≤ (rr.length : Int) * (wth rr a i i + val rr i j))
def shG (rr : List (List Int)) (a : List Int) (i : Nat) : Int := firstFrom (sP rr a i) a.length 0
def shMOf (rr : List (List Int)) (a : List Int) (i : Nat) : List T3 := if 0 ≤ shG rr a i then [((i : Int), a.getD (shG rr a i).toNat 0, shG rr a i)] else []
def shXOf (rr : List (List Int)) (a : List Int) (i : Nat) : List Int := if 0 ≤ shG rr a i then [] else [(i : Int)]
noncomputable def shM (rr : List (List Int)) (a : List Int) : List T3 := (poorR rr a).flatMap (fun x => shMOf rr a x.toNat)
noncomputable def shX (rr : List (List Int)) (a : List Int) : List Int := (poorR rr a).flatMap (fun x => shXOf rr a x.toNat)
theorem shMOf_len (rr : List (List Int)) (a : List Int) (i : Nat) : (shMOf rr a i).length ≤ 1 := by unfold shMOf; split <;> simp
theorem shXOf_len (rr : List (List Int)) (a : List Int) (i : Nat) : (shXOf rr a i).length ≤ 1 := by unfold shXOf; split <;> simp
theorem flat_filt {β : Type} {p : Nat → Bool} {g : Nat → List β} : ∀ c : Nat, (filt p c).flatMap (fun x => g x.toNat) = gRow (fun _ (k : Nat) => if p k = true then g k else []) 0 c
  | 0 => rfl
  | c + 1 => by
    simp only [filt, gRow, List.flatMap_append, flat_filt c]
    congr 1
    split <;> simp
def pM (rr : List (List Int)) (a : List Int) (_ k : Nat) : List T3 := if isPoor rr a k = true then shMOf rr a k else []
def pX (rr : List (List Int)) (a : List Int) (_ k : Nat) : List Int := if isPoor rr a k = true then shXOf rr a k else []
theorem pM_len (rr : List (List Int)) (a : List Int) (i k : Nat) : (pM rr a i k).length ≤ 1 := by unfold pM; split <;> simp [shMOf_len]
theorem pX_len (rr : List (List Int)) (a : List Int) (i k : Nat) : (pX rr a i k).length ≤ 1 := by unfold pX; split <;> simp [shXOf_len]
theorem shM_g {rr : List (List Int)} {a : List Int} (hv : vld rr a = 0) : shM rr a = gRow (pM rr a) 0 rr.length := by rw [shM, poorR, if_pos hv]; exact flat_filt _
theorem shX_g {rr : List (List Int)} {a : List Int} (hv : vld rr a = 0) : shX rr a = gRow (pX rr a) 0 rr.length := by rw [shX, poorR, if_pos hv]; exact flat_filt _
theorem enough_no {rr : List (List Int)} {a : List Int} {i : Nat} : enough rr a i (-1) ↔ ¬ isPoor rr a i = true := by
  unfold enough isPoor
  rw [if_neg (by omega), Int.add_zero, decide_eq_true_eq]; omega
theorem sP_iff {rr : List (List Int)} {a : List Int} {i j : Nat} : sP rr a i j = true ↔ a.getD j 0 ≠ i ∧ enough rr a i j := by
  unfold sP enough
  rw [if_pos (by omega), Int.toNat_natCast]
  simp only [Bool.and_eq_true, decide_eq_true_eq, Bool.not_eq_true', decide_eq_false_iff_not, ne_eq]

end Go.Proofs.Ytkgogljfngplnaa
set_option linter.unusedVariables false
set_option linter.unusedSimpArgs false
namespace Go.Proofs.Ytkgogljfngplnaa
open Go.Eng
set_option maxRecDepth 100000
set_option maxHeartbeats 4000000

theorem poor_in {rr : List (List Int)} {a : List Int} {c : Nat} (h : c < (poor rr a).length) : ∃ i : Nat, i < rr.length ∧ isPoor rr a i = true ∧ (poor rr a).getD c 0 = (i : Int) := by
  have hm : (poor rr a).getD c 0 ∈ poor rr a := by rw [List.getD, List.getElem?_eq_getElem h]; exact List.getElem_mem h
  obtain ⟨i, hi, hp, e⟩ := mem_filt.1 hm
  exact ⟨i, hi, hp, e⟩
theorem poor_set {rr : List (List Int)} {a : List Int} {i q : Nat} (hi : i < rr.length) (hq : q < a.length) (h : a.getD q 0 ≠ i) : (i : Int) ∈ poor rr (a.set q i) ↔ ¬ enough rr a i q := by
  unfold poor
  rw [mem_filt]
  have e : isPoor rr (a.set q i) i = true ↔ ¬ enough rr a i q := by
    unfold isPoor enough
    rw [if_pos (by omega), Int.toNat_natCast, wth_gain hq h, decide_eq_true_eq]; omega
  constructor
  · rintro ⟨j, hj, hp, e2⟩
    have : j = i := by omega
    subst this
    exact e.1 hp
  · intro hp
    exact ⟨i, hi, e.2 hp, rfl⟩

end Go.Proofs.Ytkgogljfngplnaa
set_option linter.unusedVariables false
set_option linter.unusedSimpArgs false
namespace Go.Proofs.Ytkgogljfngplnaa
open Go.Eng
set_option maxRecDepth 100000

theorem miss_one {rr : List (List Int)} {a : List Int} {x : T3} : (markOf rr a true x).length + (missOf rr a x).length = 1 := by
  unfold markOf missOf; split <;> simp
theorem count_one {rr : List (List Int)} {a : List Int} : ∀ l : List T3, (l.flatMap (markOf rr a true)).length + (l.flatMap (missOf rr a)).length = l.length
  | [] => rfl
  | x :: l => by
    have := count_one (rr := rr) (a := a) l
    have := miss_one (rr := rr) (a := a) (x := x)
    simp only [List.flatMap_cons, List.length_append, List.length_cons]; omega
theorem one_count {rr : List (List Int)} {a : List Int} (hv : vld rr a = 0) : (oneM rr a).length + (oneX rr a).length = (envs rr a).length := by
  rw [oneM, oneX, evsR, if_pos hv, count_one, evs_len]

theorem first_le {p : Nat → Bool} {n j : Nat} (hj : j < n) (hp : p j = true) : 0 ≤ firstFrom p n 0 := by
  rcases firstFrom_spec p n 0 with ⟨i, _, h2, h3, h4, h5⟩ | ⟨_, h2⟩
  · rw [h4]; omega
  · rw [h2 j (Nat.zero_le _) (by omega)] at hp; cases hp
theorem first_is {p : Nat → Bool} {n : Nat} (h : 0 ≤ firstFrom p n 0) : ∃ j : Nat, firstFrom p n 0 = j ∧ j < n ∧ p j = true ∧ ∀ k, k < j → p k = false := by
  rcases firstFrom_spec p n 0 with ⟨j, _, h2, h3, h4, h5⟩ | ⟨h1, _⟩
  · exact ⟨j, h4, by omega, h3, fun k hk => h5 k (Nat.zero_le _) hk⟩
  · omega

theorem oneX_nil {rr : List (List Int)} {a : List Int} (hv : vld rr a = 0) : oneX rr a = [] ↔ ∀ i k : Nat, i < rr.length → k < rr.length → wth rr a i i < wth rr a i k → ∃ j, j < a.length ∧ a.getD j 0 = k ∧ moreV rr a i k ≤ val rr i j := by
  rw [oneX_g hv]
  constructor
  · intro h i k hi hk hl
    refine Classical.byContradiction fun hn => ?_
    have hm : ((i : Int), (k : Int)) ∈ gTo (hX rr a) rr.length rr.length := by
      refine mem_gTo.2 ⟨i, k, hi, hk, ?_⟩
      unfold hX
      rw [if_pos hl]
      unfold missOf
      rw [if_neg]
      · simp
      · show ¬ 0 ≤ firstG rr a i k (moreV rr a i k) true
        intro h0
        rw [firstG_eq] at h0
        obtain ⟨j, _, hj, hp, _⟩ := first_is h0
        exact hn ⟨j, hj, gP_t.1 hp⟩
    rw [h] at hm; cases hm
  · intro h
    apply List.eq_nil_iff_forall_not_mem.2
    intro x hx
    obtain ⟨i, k, hi, hk, hx⟩ := mem_gTo.1 hx
    unfold hX at hx
    split at hx
    · rename_i hl
      obtain ⟨j, hj, hp⟩ := h i k hi hk hl
      unfold missOf at hx
      rw [if_pos] at hx
      · cases hx
      · show 0 ≤ firstG rr a i k (moreV rr a i k) true
        rw [firstG_eq]; exact first_le hj (gP_t.2 hp)
    · cases hx
theorem anyM_nil {rr : List (List Int)} {a : List Int} (hv : vld rr a = 0) : anyM rr a = [] ↔ ∀ i k : Nat, i < rr.length → k < rr.length → wth rr a i i < wth rr a i k → ∀ j, j < a.length → a.getD j 0 = k → moreV rr a i k ≤ val rr i j := by
  rw [anyM_g hv]
  constructor
  · intro h i k hi hk hl j hj hk2
    refine Classical.byContradiction fun hn => ?_
    have hp : gP rr a i k (moreV rr a i k) false j = true := gP_f.2 ⟨hk2, by omega⟩
    have h0 : 0 ≤ firstG rr a i k (moreV rr a i k) false := by rw [firstG_eq]; exact first_le hj hp
    have hm : ((i : Int), (k : Int), firstG rr a i k (moreV rr a i k) false) ∈ gTo (hM rr a false) rr.length rr.length := by
      refine mem_gTo.2 ⟨i, k, hi, hk, ?_⟩
      unfold hM
      rw [if_pos hl]
      unfold markOf
      rw [if_pos h0]; simp
    rw [h] at hm; cases hm
  · intro h
    apply List.eq_nil_iff_forall_not_mem.2
    intro x hx
    obtain ⟨i, k, hi, hk, hx⟩ := mem_gTo.1 hx
    unfold hM at hx
    split at hx
    · rename_i hl
      unfold markOf at hx
      split at hx
      · rename_i h0
        have h0 : 0 ≤ firstG rr a i k (moreV rr a i k) false := h0
        rw [firstG_eq] at h0
        obtain ⟨j, _, hj, hp, _⟩ := first_is h0
        have := gP_f.1 hp
        have := h i k hi hk hl j hj this.1
        omega
      · cases hx
    · cases hx

/-- A bundle of some worth has a good. -/
theorem worth_pos {a r : List Int} {k : Int} : ∀ {c : Nat}, 0 < worth a r k c → ∃ j, j < c ∧ a.getD j 0 = k
  | 0, h => by simp [worth] at h
  | c + 1, h => by
    simp only [worth] at h
    by_cases e : a.getD c 0 = k
    · exact ⟨c, by omega, e⟩
    · rw [if_neg e] at h
      obtain ⟨j, hj, e2⟩ := worth_pos (a := a) (r := r) (k := k) (c := c) (by omega)
      exact ⟨j, by omega, e2⟩
theorem any_one {rr : List (List Int)} {a : List Int} (hv : vld rr a = 0) (h : anyM rr a = []) : oneX rr a = [] := by
  refine (oneX_nil hv).2 fun i k hi hk hl => ?_
  have h0 := wth_bd (a := a) (al_of_vld hv).toGd i i
  obtain ⟨j, hj, e⟩ := worth_pos (a := a) (r := rr.getD i []) (k := (k : Int)) (c := a.length) (by show 0 < wth rr a i k; omega)
  exact ⟨j, hj, e, (anyM_nil hv).1 h i k hi hk hl j hj e⟩
theorem no_any {rr : List (List Int)} {a : List Int} (hv : vld rr a = 0) (h : envs rr a = []) : anyM rr a = [] := by
  rw [anyM, evsR, if_pos hv, evs, h]; rfl

theorem ex_max {p : Nat → Prop} {f : Nat → Int} : ∀ {n : Nat}, (∃ j, j < n ∧ p j) → ∃ j, j < n ∧ p j ∧ ∀ i, i < n → p i → f i ≤ f j
  | 0, h => by obtain ⟨j, hj, _⟩ := h; omega
  | n + 1, h => by
    by_cases h1 : ∃ j, j < n ∧ p j
    · obtain ⟨j, hj, hp, hm⟩ := ex_max (f := f) h1
      by_cases h2 : p n ∧ f j ≤ f n
      · refine ⟨n, by omega, h2.1, fun i hi hpi => ?_⟩
        by_cases e : i = n
        · subst e; omega
        · have := hm i (by omega) hpi; omega
      · refine ⟨j, by omega, hp, fun i hi hpi => ?_⟩
        by_cases e : i = n
        · subst e
          have : ¬ f j ≤ f i := fun hle => h2 ⟨hpi, hle⟩
          omega
        · exact hm i (by omega) hpi
    · obtain ⟨j, hj, hp⟩ := h
      have : j = n := by
        refine Classical.byContradiction fun e => h1 ⟨j, by omega, hp⟩
      subst this
      exact ⟨j, by omega, hp, fun i hi hpi => by
        by_cases e : i = j
        · subst e; omega
        · exact absurd ⟨i, by omega, hpi⟩ h1⟩

theorem shX_nil {rr : List (List Int)} {a : List Int} (hv : vld rr a = 0) : shX rr a = [] ↔ ∀ i, i < rr.length → isPoor rr a i = true → ∃ j, j < a.length ∧ a.getD j 0 ≠ i ∧ enough rr a i j := by
  rw [shX_g hv]
  constructor
  · intro h i hi hp
    refine Classical.byContradiction fun hn => ?_
    have hm : (i : Int) ∈ gRow (pX rr a) 0 rr.length := by
      refine mem_gRow.2 ⟨i, hi, ?_⟩
      unfold pX
      rw [if_pos hp]
      unfold shXOf
      rw [if_neg]
      · simp
      · intro h0
        obtain ⟨j, _, hj, hq, _⟩ := first_is h0
        exact hn ⟨j, hj, sP_iff.1 hq⟩
    rw [h] at hm; cases hm
  · intro h
    apply List.eq_nil_iff_forall_not_mem.2
    intro x hx
    obtain ⟨i, hi, hx⟩ := mem_gRow.1 hx
    unfold pX at hx
    split at hx
    · rename_i hp
      obtain ⟨j, hj, hq⟩ := h i hi hp
      unfold shXOf at hx
      have h0 : 0 ≤ shG rr a i := first_le hj (sP_iff.2 hq)
      rw [if_pos h0] at hx
      cases hx
    · cases hx

theorem sumK_le_const {f : Nat → Int} {X : Int} {n : Nat} (h : ∀ k, k < n → f k ≤ X) : sumK f n ≤ (n : Int) * X := by
  rw [← sumK_const]; exact sumK_le h

/-- Fair up to one good, and complete: the shares are good up to one good. -/
theorem one_share {rr : List (List Int)} {a : List Int} (hv : vld rr a = 0) (hc : compl a) (h : oneX rr a = []) : shX rr a = [] := by
  refine (shX_nil hv).2 fun i hi hp => ?_
  have hal := al_of_vld hv
  obtain ⟨k, hk, hl⟩ := poor_envies hv hc hi hp
  have h1 := (oneX_nil hv).1 h
  obtain ⟨j0, hj0, e0, _⟩ := h1 i k hi hk hl
  have hki : k ≠ i := by rintro rfl; omega
  obtain ⟨j, hj, hji, hmax⟩ := ex_max (p := fun j => a.getD j 0 ≠ i) (f := fun j => val rr i j) (n := a.length) ⟨j0, hj0, by show a.getD j0 0 ≠ i; omega⟩
  refine ⟨j, hj, hji, ?_⟩
  have hsum : sumK (fun k : Nat => wth rr a i k) rr.length ≤ (rr.length : Int) * (wth rr a i i + val rr i j) := by
    refine sumK_le_const fun q hq => ?_
    have hvj := (hal.val i j).1
    by_cases hlq : wth rr a i i < wth rr a i q
    · obtain ⟨j1, hj1, e1, hm1⟩ := h1 i q hi hq hlq
      have hqi : q ≠ i := by rintro rfl; omega
      have := hmax j1 hj1 (by show a.getD j1 0 ≠ i; omega)
      unfold moreV at hm1
      have : val rr i j1 ≤ val rr i j := this
      omega
    · omega
  rw [sum_wth_all hv hc hi] at hsum
  unfold enough
  rw [if_pos (by omega), Int.toNat_natCast]
  exact hsum

/-- One good alone. -/
theorem worth_single {a r : List Int} {k : Int} {j : Nat} (hj : a.getD j 0 = k) : ∀ c : Nat, (∀ i, i < c → a.getD i 0 = k → i = j) → worth a r k c = if j < c then r.getD j 0 else 0
  | 0, _ => by simp [worth]
  | c + 1, hu => by
    simp only [worth]
    rw [worth_single hj c (fun i hi e => hu i (by omega) e)]
    by_cases e : a.getD c 0 = k
    · have := hu c (by omega) e
      subst this
      rw [if_pos e, if_neg (by omega), if_pos (by omega)]; omega
    · rw [if_neg e]
      have hne : j ≠ c := by rintro rfl; exact e hj
      by_cases h : j < c
      · rw [if_pos h, if_pos (by omega)]; omega
      · rw [if_neg h, if_neg (by omega)]; omega
theorem single_any {rr : List (List Int)} {a : List Int} (hv : vld rr a = 0) (hu : ∀ i j, i < a.length → j < a.length → 0 ≤ a.getD i 0 → a.getD i 0 = a.getD j 0 → i = j) : anyM rr a = [] := by
  refine (anyM_nil hv).2 fun i k hi hk hl j hj e => ?_
  have h0 := wth_bd (a := a) (al_of_vld hv).toGd i i
  have : wth rr a i k = val rr i j := by
    unfold wth
    rw [worth_single e a.length (fun q hq e2 => hu q j hq hj (by omega) (by omega)), if_pos hj]; rfl
  unfold moreV; omega

/-- A good for who is not envied. -/
theorem grown_one {rr : List (List Int)} {a : List Int} {good agent : Nat} (hv : vld rr a = 0) (hg : good < a.length) (hn : a.getD good 0 = -1) (ha : agent < rr.length) (h : oneX rr a = [])
    (he : ∀ i, i < rr.length → wth rr a i agent ≤ wth rr a i i) : oneX rr (a.set good agent) = [] := by
  have hgo : giveOk rr a good agent := ⟨by omega, by omega, by omega, by omega⟩
  have hvb : vld rr (a.set good agent) = 0 := by have := vld_give hv hgo; rwa [Int.toNat_natCast] at this
  have hal := al_of_vld hv
  refine (oneX_nil hvb).2 fun i k hi hk hl => ?_
  have hb : ∀ q : Nat, wth rr (a.set good agent) i q = wth rr a i q + (if agent = q then val rr i good else 0) := fun q => by
    rw [wth_set hg, if_neg (by omega : ¬ a.getD good 0 = (q : Int))]
    by_cases e : agent = q
    · rw [if_pos e, if_pos (by omega)]; omega
    · rw [if_neg e, if_neg (by omega)]; omega
  have hbk := hb k
  have hbi := hb i
  have hvg := (hal.val i good).1
  by_cases ek : agent = k
  · subst ek
    have hai : agent ≠ i := by rintro rfl; omega
    rw [if_pos rfl] at hbk
    rw [if_neg hai] at hbi
    refine ⟨good, by rw [List.length_set]; exact hg, by rw [set_get hg, if_pos rfl], ?_⟩
    have := he i hi
    unfold moreV; omega
  · rw [if_neg ek] at hbk
    have hwi : wth rr a i i ≤ wth rr (a.set good agent) i i := by rw [hbi]; split <;> omega
    obtain ⟨j, hj, e, hm⟩ := (oneX_nil hv).1 h i k hi hk (by omega)
    refine ⟨j, by rw [List.length_set]; exact hj, ?_, ?_⟩
    · rw [set_get hg, if_neg]
      · exact e
      · rintro rfl; omega
    · unfold moreV at *; omega

/-- Marks tell the first good. -/
theorem mem_oneM {rr : List (List Int)} {a : List Int} {b : Bool} {x : T3} (hx : x ∈ gTo (hM rr a b) rr.length rr.length) : ∃ i k j : Nat, i < rr.length ∧ k < rr.length ∧ wth rr a i i < wth rr a i k ∧ j < a.length ∧ x = ((i : Int), (k : Int), (j : Int)) ∧ gP rr a i k (moreV rr a i k) b j = true ∧ ∀ q, q < j → gP rr a i k (moreV rr a i k) b q = false := by
  obtain ⟨i, k, hi, hk, hx⟩ := mem_gTo.1 hx
  unfold hM at hx
  split at hx
  · rename_i hl
    unfold markOf at hx
    split at hx
    · rename_i h0
      have h0 : 0 ≤ firstG rr a i k (moreV rr a i k) b := h0
      have e := firstG_eq rr a i k (moreV rr a i k) b
      rw [e] at h0
      obtain ⟨j, ej, hj, hp, hq⟩ := first_is h0
      refine ⟨i, k, j, hi, hk, hl, hj, ?_, hp, hq⟩
      simp only [List.mem_singleton] at hx
      rw [hx, e, ej]
    · cases hx
  · cases hx
theorem mem_shM {rr : List (List Int)} {a : List Int} (hv : vld rr a = 0) {x : T3} (hx : x ∈ shM rr a) : ∃ i j : Nat, i < rr.length ∧ j < a.length ∧ x = ((i : Int), a.getD j 0, (j : Int)) ∧ a.getD j 0 ≠ i ∧ enough rr a i j := by
  rw [shM_g hv] at hx
  obtain ⟨i, hi, hx⟩ := mem_gRow.1 hx
  unfold pM at hx
  split at hx
  · unfold shMOf at hx
    split at hx
    · rename_i h0
      obtain ⟨j, ej, hj, hp, hq⟩ := first_is h0
      refine ⟨i, j, hi, hj, ?_, sP_iff.1 hp⟩
      have ej : shG rr a i = j := ej
      simp only [List.mem_singleton] at hx
      rw [hx, ej, Int.toNat_natCast]
    · cases hx
  · cases hx
theorem env_cut {rr : List (List Int)} {a : List Int} {i k q : Nat} (hi : i < rr.length) (hk : k < rr.length) (hl : wth rr a i i < wth rr a i k) (hq : q < a.length) (e : a.getD q 0 = k) : ((i : Int), (k : Int)) ∈ envs rr (a.set q (-1)) ↔ val rr i q < moreV rr a i k := by
  have hki : k ≠ i := by rintro rfl; omega
  have h1 : wth rr (a.set q (-1)) i k = wth rr a i k - val rr i q := by rw [wth_set hq, if_neg (by omega), if_pos e]; omega
  have h2 : wth rr (a.set q (-1)) i i = wth rr a i i := by rw [wth_set hq, if_neg (by omega), if_neg (by omega)]; omega
  constructor
  · intro h
    obtain ⟨i', k', _, _, h3, e2⟩ := mem_envTo.1 h
    have e3 := congrArg Prod.fst e2
    have e4 := congrArg Prod.snd e2
    have e3 : (i : Int) = i' := e3
    have e4 : (k : Int) = k' := e4
    have : i = i' := by omega
    have : k = k' := by omega
    subst i' k'
    unfold moreV; omega
  · intro h
    refine mem_envTo.2 ⟨i, k, hi, hk, ?_, rfl⟩
    unfold moreV at h; omega
end Go.Proofs.Ytkgogljfngplnaa
set_option linter.unusedVariables false
set_option linter.unusedSimpArgs false
namespace Go.Proofs.Ytkgogljfngplnaa
open Go.Eng
set_option maxRecDepth 100000

def gain (rr : List (List Int)) (l : List Int) (i : Nat) : Int := wth rr l i i
def prd (rr : List (List Int)) (l : List Int) : T3 := pr (gain rr l) rr.length
def bstep (rr : List (List Int)) (s : Option (List Int)) (l : List Int) : Option (List Int) := match s with
  | none => some l
  | some b => if 0 < cmpP (prd rr l) (prd rr b) then some l else some b
def mOf (rr : List (List Int)) : Nat := (rr.getD 0 []).length
def bestTo (rr : List (List Int)) (N : Nat) : Option (List Int) := foldN (fun s k => bstep rr s (digs rr.length (mOf rr) k)) none N
theorem cmp_pos {p q : T3} : 0 < cmpP p q ↔ ltP q p := by
  by_cases e : p = q
  · rw [cmpP_eq e]; subst e; unfold ltP; omega
  · by_cases h : ltP p q
    · rw [cmpP_lt h]; unfold ltP at *; omega
    · rw [cmpP_gt e h]
      obtain ⟨a, b, c⟩ := p
      obtain ⟨x, y, z⟩ := q
      unfold ltP at *
      simp only at h
      simp only
      refine ⟨fun _ => ?_, fun _ => by omega⟩
      by_cases e1 : a = x
      · by_cases e2 : b = y
        · have e3 : c ≠ z := fun e3 => e (by rw [e1, e2, e3])
          omega
        · omega
      · omega
theorem ltP_trans {p q r : T3} (h1 : ltP p q) (h2 : ltP q r) : ltP p r := by unfold ltP at *; omega
theorem ltP_not {p q r : T3} (h1 : ¬ ltP q p) (h2 : ltP q r) : ltP p r := by unfold ltP at *; omega

/-- b is the first of the first N that none of them exceeds -/
def IsBest (rr : List (List Int)) (N k0 : Nat) : Prop := k0 < N ∧ (∀ k, k < N → ¬ ltP (prd rr (digs rr.length (mOf rr) k0)) (prd rr (digs rr.length (mOf rr) k))) ∧ ∀ k, k < k0 → ltP (prd rr (digs rr.length (mOf rr) k)) (prd rr (digs rr.length (mOf rr) k0))
theorem bestTo_is (rr : List (List Int)) : ∀ N : Nat, ∃ k0, bestTo rr (N + 1) = some (digs rr.length (mOf rr) k0) ∧ IsBest rr (N + 1) k0
  | 0 => ⟨0, rfl, by omega, fun k hk => by obtain rfl : k = 0 := by omega
                                           unfold ltP; omega, fun k hk => absurd hk (Nat.not_lt_zero _)⟩
  | N + 1 => by
    obtain ⟨k0, e, h1, h2, h3⟩ := bestTo_is rr N
    have es : bestTo rr (N + 1 + 1) = bstep rr (bestTo rr (N + 1)) (digs rr.length (mOf rr) (N + 1)) := rfl
    rw [es, e]
    simp only [bstep]
    by_cases h : ltP (prd rr (digs rr.length (mOf rr) k0)) (prd rr (digs rr.length (mOf rr) (N + 1)))
    · rw [if_pos (cmp_pos.2 h)]
      refine ⟨N + 1, rfl, by omega, fun k hk hl => ?_, fun k hk => ?_⟩
      · by_cases e2 : k = N + 1
        · subst e2; unfold ltP at hl; omega
        · exact h2 k (by omega) (ltP_trans h hl)
      · exact ltP_not (h2 k hk) h
    · rw [if_neg (fun h4 => h (cmp_pos.1 h4))]
      refine ⟨k0, rfl, by omega, fun k hk => ?_, h3⟩
      by_cases e2 : k = N + 1
      · subst e2; exact h
      · exact h2 k (by omega)
theorem best_uniq {rr : List (List Int)} {N a b : Nat} (ha : IsBest rr N a) (hb : IsBest rr N b) : a = b := by
  refine Classical.byContradiction fun e => ?_
  by_cases h : a < b
  · exact ha.2.1 b hb.1 (hb.2.2 a h)
  · exact hb.2.1 a ha.1 (ha.2.2 b (by omega))

def tot (rr : List (List Int)) : Nat := rr.length ^ mOf rr
def nbest (rr : List (List Int)) : List Int := (bestTo rr (tot rr)).getD []
theorem tot_pos {rr : List (List Int)} (h : 1 ≤ rr.length) : 1 ≤ tot rr := Nat.pow_pos (by omega)
theorem nbest_is {rr : List (List Int)} (h : 1 ≤ rr.length) : ∃ k0, bestTo rr (tot rr) = some (nbest rr) ∧ nbest rr = digs rr.length (mOf rr) k0 ∧ IsBest rr (tot rr) k0 := by
  have hp := tot_pos h
  obtain ⟨k0, e, hb⟩ := bestTo_is rr (tot rr - 1)
  rw [show tot rr - 1 + 1 = tot rr by omega] at e hb
  refine ⟨k0, ?_, ?_, hb⟩ <;> unfold nbest <;> rw [e] <;> rfl

/-- complete allocations are the lists of digits -/
theorem digs_ok {rr : List (List Int)} {k : Nat} (hc : chk rr = 0) (hk : k < tot rr) : vld rr (digs rr.length (mOf rr) k) = 0 ∧ compl (digs rr.length (mOf rr) k) := by
  have hg := gd_of_chk hc
  have hr := digs_rng hg.n1 (j := mOf rr) hk
  constructor
  · refine vld_ok hc ?_
    rintro (h | ⟨i, hi, h⟩)
    · exact h (digs_len _ _ _)
    · have := hr i (by rwa [digs_len] at hi); omega
  · intro i hi
    exact (hr i (by rwa [digs_len] at hi)).1
theorem compl_digs {rr : List (List Int)} {l : List Int} (hv : vld rr l = 0) (hc : compl l) : ∃ k, k < tot rr ∧ l = digs rr.length (mOf rr) k := by
  have hal := al_of_vld hv
  have hl : l.length = mOf rr := hal.len
  obtain ⟨k, hk, e⟩ := digs_all hal.n1 (l := l) (fun i hi => ⟨hc i hi, (hal.rng i (by rw [← hal.len]; exact hi)).2⟩)
  rw [hl] at hk e
  exact ⟨k, hk, e.symm⟩
theorem nbest_ok {rr : List (List Int)} (hc : chk rr = 0) : vld rr (nbest rr) = 0 ∧ compl (nbest rr) := by
  obtain ⟨k0, _, e, hb⟩ := nbest_is (gd_of_chk hc).n1
  rw [e]; exact digs_ok hc hb.1
theorem nbest_top {rr : List (List Int)} {l : List Int} (hc : chk rr = 0) (hv : vld rr l = 0) (hl : compl l) : ¬ ltP (prd rr (nbest rr)) (prd rr l) := by
  obtain ⟨k0, _, e, hb⟩ := nbest_is (gd_of_chk hc).n1
  obtain ⟨k, hk, rfl⟩ := compl_digs hv hl
  rw [e]; exact hb.2.1 k hk
theorem nbest_first {rr : List (List Int)} {l : List Int} (hc : chk rr = 0) (hv : vld rr l = 0) (hl : compl l) (he : prd rr l = prd rr (nbest rr)) : l = nbest rr ∨ lexlt (nbest rr) l := by
  obtain ⟨k0, _, e, hb⟩ := nbest_is (gd_of_chk hc).n1
  obtain ⟨k, hk, rfl⟩ := compl_digs hv hl
  rw [e] at he ⊢
  by_cases h : k < k0
  · have := hb.2.2 k h
    rw [he] at this
    unfold ltP at this; omega
  · by_cases e2 : k = k0
    · exact .inl (by rw [e2])
    · exact .inr (digs_lt (gd_of_chk hc).n1 hb.1 hk (by omega))

/-! ### values -/
theorem gain_bd {rr : List (List Int)} {l : List Int} (hv : vld rr l = 0) (i : Nat) : 0 ≤ gain rr l i ∧ gain rr l i ≤ 10000 := by
  have hal := al_of_vld hv
  have := wth_bd (a := l) hal.toGd i i
  have := hal.len
  have := hal.m10
  unfold gain; omega
theorem vp_mono {f g : Nat → Int} : ∀ {c : Nat}, (∀ i, i < c → 0 ≤ f i ∧ f i ≤ g i) → cntP f c ≤ cntP g c ∧ (cntP f c = cntP g c → vp f c ≤ vp g c ∧ ((∃ i, i < c ∧ f i < g i) → vp f c < vp g c))
  | 0, _ => by simp [cntP, vp]
  | c + 1, h => by
    obtain ⟨h1, h2⟩ := vp_mono (c := c) (fun i hi => h i (by omega))
    have hc := h c (by omega)
    have pf := vp_pos f c
    have pg := vp_pos g c
    simp only [cntP, vp]
    by_cases p : 0 < f c
    · rw [if_pos p, if_pos p, if_pos (by omega : 0 < g c), if_pos (by omega : 0 < g c)]
      refine ⟨by omega, fun e => ?_⟩
      obtain ⟨h3, h4⟩ := h2 (by omega)
      refine ⟨Int.mul_le_mul h3 hc.2 (by omega) (by omega), fun ⟨i, hi, hlt⟩ => ?_⟩
      by_cases e2 : i = c
      · subst e2
        have a1 : vp f i * f i ≤ vp g i * f i := Int.mul_le_mul_of_nonneg_right h3 (by omega)
        have a2 : vp g i * f i < vp g i * g i := Int.mul_lt_mul_of_pos_left hlt (by omega)
        omega
      · have h5 := h4 ⟨i, by omega, hlt⟩
        have a1 : vp f c * f c < vp g c * f c := Int.mul_lt_mul_of_pos_right h5 p
        have a2 : vp g c * f c ≤ vp g c * g c := Int.mul_le_mul_of_nonneg_left hc.2 (by omega)
        omega
    · rw [if_neg p, if_neg p]
      by_cases q : 0 < g c
      · rw [if_pos q, if_pos q]
        exact ⟨by omega, fun e => by omega⟩
      · rw [if_neg q, if_neg q]
        refine ⟨h1, fun e => ⟨(h2 e).1, fun ⟨i, hi, hlt⟩ => (h2 e).2 ⟨i, ?_, hlt⟩⟩⟩
        by_cases e2 : i = c
        · subst e2; omega
        · omega

/-- two entries apart -/
def off (f : Nat → Int) (i k : Nat) (j : Nat) : Int := if j = i ∨ j = k then 0 else f j
def fx (x : Int) : Int := if 0 < x then x else 1
def ix (x : Int) : Int := if 0 < x then 1 else 0
theorem vp_off {f : Nat → Int} {i k : Nat} (hik : i ≠ k) : ∀ c : Nat, vp f c = vp (off f i k) c * (if i < c then fx (f i) else 1) * (if k < c then fx (f k) else 1)
  | 0 => by simp [vp]
  | c + 1 => by
    have ih := vp_off (f := f) hik c
    simp only [vp]
    by_cases e1 : c = i
    · subst e1
      have o : off f c k c = 0 := by unfold off; rw [if_pos (.inl rfl)]
      rw [o, if_neg (by omega : ¬ (0 : Int) < 0), if_pos (by omega : c < c + 1), ih, if_neg (by omega : ¬ c < c)]
      have e3 : (if k < c + 1 then fx (f k) else 1) = (if k < c then fx (f k) else 1) := by
        by_cases h : k < c
        · rw [if_pos h, if_pos (by omega)]
        · rw [if_neg h, if_neg (by omega)]
      rw [e3]
      unfold fx
      by_cases h : 0 < f c
      · rw [if_pos h, if_pos h, Int.mul_one, Int.mul_right_comm]
      · rw [if_neg h, if_neg h]
    · by_cases e2 : c = k
      · subst e2
        have o : off f i c c = 0 := by unfold off; rw [if_pos (.inr rfl)]
        rw [o, if_neg (by omega : ¬ (0 : Int) < 0), if_pos (by omega : c < c + 1), ih, if_neg (by omega : ¬ c < c)]
        have e3 : (if i < c + 1 then fx (f i) else 1) = (if i < c then fx (f i) else 1) := by
          by_cases h : i < c
          · rw [if_pos h, if_pos (by omega)]
          · rw [if_neg h, if_neg (by omega)]
        rw [e3, Int.mul_one]
        unfold fx
        by_cases h : 0 < f c
        · rw [if_pos h, if_pos h]
        · rw [if_neg h, if_neg h, Int.mul_one]
      · have o : off f i k c = f c := by unfold off; rw [if_neg (by omega)]
        have e3 : (if i < c + 1 then fx (f i) else 1) = (if i < c then fx (f i) else 1) := by
          by_cases h : i < c
          · rw [if_pos h, if_pos (by omega)]
          · rw [if_neg h, if_neg (by omega)]
        have e4 : (if k < c + 1 then fx (f k) else 1) = (if k < c then fx (f k) else 1) := by
          by_cases h : k < c
          · rw [if_pos h, if_pos (by omega)]
          · rw [if_neg h, if_neg (by omega)]
        rw [o, e3, e4, ih]
        by_cases h : 0 < f c
        · rw [if_pos h, if_pos h, Int.mul_right_comm, Int.mul_right_comm (vp (off f i k) c)]
        · rw [if_neg h, if_neg h]
theorem cnt_off {f : Nat → Int} {i k : Nat} (hik : i ≠ k) : ∀ c : Nat, cntP f c = cntP (off f i k) c + (if i < c then ix (f i) else 0) + (if k < c then ix (f k) else 0)
  | 0 => by simp [cntP]
  | c + 1 => by
    have ih := cnt_off (f := f) hik c
    simp only [cntP]
    by_cases e1 : c = i
    · subst e1
      have o : off f c k c = 0 := by unfold off; rw [if_pos (.inl rfl)]
      rw [o, if_neg (by omega : ¬ (0 : Int) < 0), if_pos (by omega : c < c + 1)]
      rw [if_neg (by omega : ¬ c < c)] at ih
      unfold ix at *
      by_cases h : k < c
      · rw [if_pos h] at ih; rw [if_pos (by omega : k < c + 1)]; split <;> split <;> simp_all <;> omega
      · rw [if_neg h] at ih; rw [if_neg (by omega : ¬ k < c + 1)]; split <;> omega
    · by_cases e2 : c = k
      · subst e2
        have o : off f i c c = 0 := by unfold off; rw [if_pos (.inr rfl)]
        rw [o, if_neg (by omega : ¬ (0 : Int) < 0), if_pos (by omega : c < c + 1)]
        rw [if_neg (by omega : ¬ c < c)] at ih
        unfold ix at *
        by_cases h : i < c
        · rw [if_pos h] at ih; rw [if_pos (by omega : i < c + 1)]; split <;> split <;> simp_all <;> omega
        · rw [if_neg h] at ih; rw [if_neg (by omega : ¬ i < c + 1)]; split <;> omega
      · have o : off f i k c = f c := by unfold off; rw [if_neg (by omega)]
        have e3 : (if i < c + 1 then ix (f i) else 0) = (if i < c then ix (f i) else 0) := by
          by_cases h : i < c
          · rw [if_pos h, if_pos (by omega)]
          · rw [if_neg h, if_neg (by omega)]
        have e4 : (if k < c + 1 then ix (f k) else 0) = (if k < c then ix (f k) else 0) := by
          by_cases h : k < c
          · rw [if_pos h, if_pos (by omega)]
          · rw [if_neg h, if_neg (by omega)]
        rw [o, e3, e4]
        split <;> omega
theorem off_eq {f g : Nat → Int} {i k : Nat} (h : ∀ j, j ≠ i → j ≠ k → f j = g j) : off f i k = off g i k := by
  funext j
  unfold off
  by_cases e : j = i ∨ j = k
  · rw [if_pos e, if_pos e]
  · rw [if_neg e, if_neg e]; exact h j (fun e1 => e (.inl e1)) (fun e2 => e (.inr e2))
/-- a change at two places that makes the product greater -/
theorem two_lt {f g : Nat → Int} {i k n : Nat} (hi : i < n) (hk : k < n) (hik : i ≠ k) (h : ∀ j, j ≠ i → j ≠ k → f j = g j) (h1 : ix (f i) + ix (f k) < ix (g i) + ix (g k) ∨ ix (f i) + ix (f k) = ix (g i) + ix (g k) ∧ fx (f i) * fx (f k) < fx (g i) * fx (g k)) : ltP (pr f n) (pr g n) := by
  refine ltP_pr.2 ?_
  have e1 := vp_off (f := f) hik n
  have e2 := vp_off (f := g) hik n
  have c1 := cnt_off (f := f) hik n
  have c2 := cnt_off (f := g) hik n
  rw [off_eq h] at e1 c1
  rw [if_pos hi, if_pos hk, Int.mul_assoc] at e1 e2
  rw [if_pos hi, if_pos hk] at c1 c2
  have hp := vp_pos (off g i k) n
  rcases h1 with h1 | ⟨h1, h2⟩
  · exact .inl (by omega)
  · refine .inr ⟨by omega, ?_⟩
    rw [e1, e2]
    exact Int.mul_lt_mul_of_pos_left h2 (by omega)

/-- sums over a bundle -/
def wf (a : List Int) (f : Nat → Int) (k : Int) : Nat → Int
  | 0 => 0
  | c + 1 => wf a f k c + if a.getD c 0 = k then f c else 0
theorem worth_wf (a r : List Int) (k : Int) : ∀ c : Nat, worth a r k c = wf a (fun j => r.getD j 0) k c
  | 0 => rfl
  | c + 1 => by simp only [worth, wf]; rw [worth_wf a r k c]
theorem wf_lin {a : List Int} {f g : Nat → Int} {k X Y : Int} : ∀ c : Nat, wf a (fun j => f j * X - Y * g j) k c = wf a f k c * X - Y * wf a g k c
  | 0 => by simp [wf]
  | c + 1 => by
    simp only [wf]
    rw [wf_lin c, Int.add_mul, Int.mul_add]
    split
    · omega
    · simp
theorem wf_nonneg {a : List Int} {f : Nat → Int} {k : Int} : ∀ {c : Nat}, (∀ j, j < c → a.getD j 0 = k → 0 ≤ f j) → 0 ≤ wf a f k c
  | 0, _ => by simp [wf]
  | c + 1, h => by
    have := wf_nonneg (c := c) (fun j hj => h j (by omega))
    have := h c (by omega)
    simp only [wf]
    split
    · have := this ‹_›; omega
    · omega
theorem wf_pick {a : List Int} {f h : Nat → Int} {k : Int} : ∀ {c : Nat}, (∀ j, j < c → a.getD j 0 = k → 0 ≤ h j ∧ (h j = 0 → 0 ≤ f j)) → wf a f k c ≤ 0 → 0 < wf a h k c → ∃ j, j < c ∧ a.getD j 0 = k ∧ 0 < h j ∧ f j ≤ 0
  | c, hh, hf, hp => by
    refine Classical.byContradiction fun hn => ?_
    have hall : ∀ j, j < c → a.getD j 0 = k → 0 ≤ f j ∧ (0 < h j → 0 < f j) := fun j hj e => by
      by_cases p : 0 < h j
      · have : ¬ f j ≤ 0 := fun hf2 => hn ⟨j, hj, e, p, hf2⟩
        omega
      · have := (hh j hj e).2 (by have := (hh j hj e).1; omega)
        exact ⟨this, fun q => absurd q p⟩
    have key : ∀ d, d ≤ c → 0 ≤ wf a f k d ∧ (0 < wf a h k d → 0 < wf a f k d) := by
      intro d
      induction d with
      | zero => intro _; simp [wf]
      | succ d ih =>
        intro hd
        obtain ⟨i1, i2⟩ := ih (by omega)
        simp only [wf]
        by_cases e : a.getD d 0 = k
        · rw [if_pos e, if_pos e]
          have h1 := hall d (by omega) e
          have h2 := (hh d (by omega) e).1
          refine ⟨by omega, fun q => ?_⟩
          by_cases p : 0 < h d
          · have := h1.2 p; omega
          · have := i2 (by omega); omega
        · rw [if_neg e, if_neg e]; refine ⟨by omega, fun q => ?_⟩
          have := i2 (by omega); omega
    have := (key c (Nat.le_refl _)).2 hp
    omega

theorem nash_one {rr : List (List Int)} (hc : chk rr = 0) : oneX rr (nbest rr) = [] := by
  obtain ⟨hv, hcm⟩ := nbest_ok hc
  refine (oneX_nil hv).2 fun i k hi hk hl => Classical.byContradiction fun hn => ?_
  have hal := al_of_vld hv
  have hlen := hal.len
  have hik : i ≠ k := by rintro rfl; omega
  have bi := gain_bd hv i
  have bk := gain_bd hv k
  unfold gain at bi bk
  obtain ⟨g, hg, eg, hpos, hle⟩ := wf_pick (a := nbest rr) (f := fun j => val rr k j * wth rr (nbest rr) i k - wth rr (nbest rr) k k * val rr i j) (h := fun j => val rr i j) (k := (k : Int)) (c := (nbest rr).length)
    (fun j _ _ => ⟨(hal.val i j).1, fun h0 => by
      show 0 ≤ val rr k j * wth rr (nbest rr) i k - wth rr (nbest rr) k k * val rr i j
      have h0 : val rr i j = 0 := h0
      rw [h0, Int.mul_zero]
      have := Int.mul_nonneg (hal.val k j).1 (show 0 ≤ wth rr (nbest rr) i k by omega)
      omega⟩)
    (by
      rw [wf_lin (f := fun j => val rr k j) (g := fun j => val rr i j)]
      have e1 : wf (nbest rr) (fun j => val rr k j) k (nbest rr).length = wth rr (nbest rr) k k := (worth_wf _ _ _ _).symm
      have e2 : wf (nbest rr) (fun j => val rr i j) k (nbest rr).length = wth rr (nbest rr) i k := (worth_wf _ _ _ _).symm
      rw [e1, e2]; omega)
    (by
      have e2 : wf (nbest rr) (fun j => val rr i j) k (nbest rr).length = wth rr (nbest rr) i k := (worth_wf _ _ _ _).symm
      rw [e2]; omega)
  have hgo : giveOk rr (nbest rr) g i := ⟨by omega, by omega, by omega, by omega⟩
  have hvb : vld rr ((nbest rr).set g i) = 0 := by have := vld_give hv hgo; rwa [Int.toNat_natCast] at this
  have hcb : compl ((nbest rr).set g i) := fun j hj => by
    rw [set_get hg]
    split
    · omega
    · exact hcm j (by simpa using hj)
  refine nbest_top hc hvb hcb ?_
  have hgi : ∀ j : Nat, gain rr ((nbest rr).set g i) j = gain rr (nbest rr) j + ((if (i : Int) = j then val rr j g else 0) - (if (k : Int) = j then val rr j g else 0)) := fun j => by
    unfold gain
    rw [wth_set hg, eg]
  have h1 := hgi i
  have h2 := hgi k
  rw [if_pos rfl, if_neg (by omega)] at h1
  rw [if_neg (by omega), if_pos rfl] at h2
  have hnot : ¬ moreV rr (nbest rr) i k ≤ val rr i g := fun hm => hn ⟨g, hg, eg, hm⟩
  unfold moreV at hnot
  have hpos : 0 < val rr i g := hpos
  have hu := (hal.val k g).1
  have hle : val rr k g * wth rr (nbest rr) i k - wth rr (nbest rr) k k * val rr i g ≤ 0 := hle
  have hbk := gain_bd hvb k
  refine two_lt hi hk hik (fun j h3 h4 => by rw [hgi j, if_neg (by omega), if_neg (by omega)]; omega) ?_
  have eb1 : gain rr (nbest rr) i = wth rr (nbest rr) i i := rfl
  have eb2 : gain rr (nbest rr) k = wth rr (nbest rr) k k := rfl
  rw [h1, h2]
  rw [h2, eb2] at hbk
  rw [eb1, eb2]
  clear h1 h2 eb1 eb2 hgi hgo hvb hcb
  generalize wth rr (nbest rr) i i = x at *
  generalize wth rr (nbest rr) k k = y at *
  generalize wth rr (nbest rr) i k = W at *
  generalize val rr i g = v at *
  generalize val rr k g = u at *
  have e3 : x + (v - 0) = x + v := by omega
  have e4 : y + (0 - u) = y - u := by omega
  rw [e3, e4]
  by_cases hu0 : u = 0
  · subst hu0
    rw [Int.sub_zero]
    by_cases hx : 0 < x
    · refine .inr ⟨by unfold ix; rw [if_pos hx, if_pos (by omega : 0 < x + v)], ?_⟩
      have hfy : 0 < fx y := by unfold fx; split <;> omega
      refine Int.mul_lt_mul_of_pos_right ?_ hfy
      unfold fx; rw [if_pos hx, if_pos (by omega)]; omega
    · refine .inl ?_
      unfold ix; rw [if_neg hx, if_pos (by omega : 0 < x + v)]; omega
  · have m1 : u * (x + v) < u * W := Int.mul_lt_mul_of_pos_left (by omega) (by omega)
    have m2 : u * (x + v) = u * x + u * v := Int.mul_add _ _ _
    have m3 : (x + v) * (y - u) = x * y + v * y - u * x - u * v := by
      rw [Int.add_mul, Int.mul_sub, Int.mul_sub, Int.mul_comm x u, Int.mul_comm v u]; omega
    have m4 : v * y = y * v := Int.mul_comm _ _
    have m5 : 0 ≤ x * y := Int.mul_nonneg bi.1 bk.1
    have hyu : 0 < y - u := by
      refine Classical.byContradiction fun hh => ?_
      have : y - u = 0 := by omega
      rw [this, Int.mul_zero] at m3
      omega
    have hy : 0 < y := by omega
    by_cases hx : 0 < x
    · refine .inr ⟨by unfold ix; rw [if_pos hx, if_pos (by omega : 0 < x + v), if_pos hyu, if_pos hy], ?_⟩
      unfold fx
      rw [if_pos hx, if_pos (by omega : 0 < x + v), if_pos hyu, if_pos hy]
      omega
    · refine .inl ?_
      unfold ix; rw [if_neg hx, if_pos (by omega : 0 < x + v), if_pos hyu, if_pos hy]; omega

/-- no allocation gives some agent more and none less -/
def fillZ (l : List Int) : List Int := l.map fun x => if x < 0 then 0 else x
theorem fillZ_get {l : List Int} {i : Nat} : (fillZ l).getD i 0 = if l.getD i 0 < 0 then 0 else l.getD i 0 := by
  by_cases h : i < l.length
  · simp [fillZ, List.getD, h]
  · have e1 : (fillZ l).getD i 0 = 0 := getD_out (by simp [fillZ]; omega)
    have e2 : l.getD i 0 = 0 := getD_out (by omega)
    rw [e1, e2]; rfl
theorem worth_fill {l r : List Int} {k : Nat} (h : ∀ j, 0 ≤ r.getD j 0) : ∀ c : Nat, worth l r k c ≤ worth (fillZ l) r k c
  | 0 => by simp [worth]
  | c + 1 => by
    have ih := worth_fill (l := l) (k := k) h c
    have := h c
    simp only [worth, fillZ_get]
    by_cases e : l.getD c 0 = (k : Int)
    · rw [if_pos e, if_neg (by omega : ¬ l.getD c 0 < 0), if_pos e]; omega
    · rw [if_neg e]; (repeat' split) <;> omega
theorem nash_pareto {rr : List (List Int)} {l : List Int} (hc : chk rr = 0) (hv : vld rr l = 0) (hle : ∀ i, i < rr.length → gain rr (nbest rr) i ≤ gain rr l i) : ∀ i, i < rr.length → gain rr l i = gain rr (nbest rr) i := by
  intro i hi
  have hal := al_of_vld hv
  have hvz : vld rr (fillZ l) = 0 := vld_of hv (by simp [fillZ]) fun k hk => by
    have hk2 : k < l.length := by simpa [fillZ] using hk
    have := hal.rng k (by rw [← hal.len]; exact hk2)
    have := hal.n1
    rw [fillZ_get]; split <;> omega
  have hcz : compl (fillZ l) := fun k hk => by rw [fillZ_get]; split <;> omega
  have hz : ∀ j, gain rr l j ≤ gain rr (fillZ l) j := fun j => by
    unfold gain wth
    have : (fillZ l).length = l.length := by simp [fillZ]
    rw [this]
    exact worth_fill (fun q => (hal.val j q).1) _
  refine Classical.byContradiction fun hne => ?_
  refine nbest_top hc hvz hcz (ltP_pr.2 ?_)
  have hm := vp_mono (f := gain rr (nbest rr)) (g := gain rr (fillZ l)) (c := rr.length) (fun j hj => ⟨(gain_bd (nbest_ok hc).1 j).1, by have := hle j hj; have := hz j; omega⟩)
  by_cases e : cntP (gain rr (nbest rr)) rr.length = cntP (gain rr (fillZ l)) rr.length
  · refine .inr ⟨e, (hm.2 e).2 ⟨i, hi, ?_⟩⟩
    have := hle i hi; have := hz i; omega
  · exact .inl (by have := hm.1; omega)

/-- equal agents -/
theorem nash_equal {rr : List (List Int)} {i k : Nat} {most : Int} (hc : chk rr = 0) (hi : i < rr.length) (hk : k < rr.length) (he : rr.getD k [] = rr.getD i []) (hm0 : 0 ≤ most) (hm : ∀ j, j < (nbest rr).length → val rr k j ≤ most) : gain rr (nbest rr) k - gain rr (nbest rr) i ≤ most := by
  have hv := (nbest_ok hc).1
  have e1 : gain rr (nbest rr) k = wth rr (nbest rr) i k := by unfold gain wth; rw [he]
  rw [e1]
  have e2 : gain rr (nbest rr) i = wth rr (nbest rr) i i := rfl
  rw [e2]
  by_cases hl : wth rr (nbest rr) i i < wth rr (nbest rr) i k
  · obtain ⟨j, hj, _, hmo⟩ := (oneX_nil hv).1 (nash_one hc) i k hi hk hl
    have := hm j hj
    have e3 : val rr k j = val rr i j := by unfold val; rw [he]
    unfold moreV at hmo; omega
  · omega
end Go.Proofs.Ytkgogljfngplnaa
set_option linter.unusedVariables false
set_option linter.unusedSimpArgs false
namespace Go.Proofs.Ytkgogljfngplnaa
open Go.Eng
set_option maxRecDepth 100000

def rrS (rr : List (List Int)) (i : Nat) (m : Int) : List (List Int) := rr.set i ((rr.getD i []).map (· * m))
theorem rrS_len (rr : List (List Int)) (i : Nat) (m : Int) : (rrS rr i m).length = rr.length := by simp [rrS]
theorem rrS_row {rr : List (List Int)} {i j : Nat} {m : Int} (hi : i < rr.length) : (rrS rr i m).getD j [] = if j = i then (rr.getD i []).map (· * m) else rr.getD j [] := by
  unfold rrS
  rw [List.getD_eq_getElem?_getD, List.getElem?_set]
  by_cases e : i = j
  · subst e; rw [if_pos rfl, if_pos hi, if_pos rfl]; rfl
  · rw [if_neg e, if_neg (fun h => e h.symm), List.getD_eq_getElem?_getD]
theorem map_get {r : List Int} {m : Int} {g : Nat} : (r.map (· * m)).getD g 0 = r.getD g 0 * m := by
  by_cases h : g < r.length
  · simp [List.getD, h]
  · rw [getD_out (by simp; omega), getD_out (by omega)]; omega
theorem rrS_val {rr : List (List Int)} {i j g : Nat} {m : Int} (hi : i < rr.length) : val (rrS rr i m) j g = if j = i then val rr i g * m else val rr j g := by
  unfold val
  rw [rrS_row hi]
  by_cases e : j = i
  · rw [if_pos e, if_pos e, map_get]
  · rw [if_neg e, if_neg e]
theorem worth_scale {a r : List Int} {k m : Int} : ∀ c : Nat, worth a (r.map (· * m)) k c = worth a r k c * m
  | 0 => by simp [worth]
  | c + 1 => by
    simp only [worth]
    rw [worth_scale c, map_get, Int.add_mul]
    split
    · rfl
    · simp
theorem rrS_gain {rr : List (List Int)} {l : List Int} {i j : Nat} {m : Int} (hi : i < rr.length) : gain (rrS rr i m) l j = if j = i then gain rr l i * m else gain rr l j := by
  unfold gain wth
  rw [rrS_row hi]
  by_cases e : j = i
  · subst e; rw [if_pos rfl, if_pos rfl, worth_scale]
  · rw [if_neg e, if_neg e]
theorem rrS_mOf {rr : List (List Int)} {i : Nat} {m : Int} (hi : i < rr.length) : mOf (rrS rr i m) = mOf rr := by
  unfold mOf
  rw [rrS_row hi]
  split
  · rename_i e; rw [← e]; simp
  · rfl
theorem sc_pos {x m : Int} (hm : 1 ≤ m) : 0 < x * m ↔ 0 < x := by
  constructor
  · intro h
    refine Classical.byContradiction fun hn => ?_
    have := Int.mul_nonneg (a := -x) (b := m) (by omega) (by omega)
    rw [Int.neg_mul] at this; omega
  · intro h; exact Int.mul_pos h (by omega)
theorem cnt_scale {f g : Nat → Int} {i : Nat} {m : Int} (hm : 1 ≤ m) (h : ∀ j, g j = if j = i then f i * m else f j) : ∀ c : Nat, cntP g c = cntP f c
  | 0 => rfl
  | c + 1 => by
    simp only [cntP]
    rw [cnt_scale hm h c, h c]
    by_cases e : c = i
    · subst e
      rw [if_pos rfl]
      by_cases p : 0 < f c
      · rw [if_pos ((sc_pos hm).2 p), if_pos p]
      · rw [if_neg (fun q => p ((sc_pos hm).1 q)), if_neg p]
    · rw [if_neg e]
theorem vp_scale {f g : Nat → Int} {i : Nat} {m : Int} (hm : 1 ≤ m) (h : ∀ j, g j = if j = i then f i * m else f j) : ∀ c : Nat, vp g c = vp f c * (if i < c ∧ 0 < f i then m else 1)
  | 0 => by simp [vp]
  | c + 1 => by
    simp only [vp]
    rw [vp_scale hm h c, h c]
    by_cases e : c = i
    · subst e
      rw [if_pos rfl, if_neg (fun q : c < c ∧ _ => by omega), Int.mul_one]
      by_cases p : 0 < f c
      · rw [if_pos ((sc_pos hm).2 p), if_pos p, if_pos ⟨by omega, p⟩, Int.mul_assoc]
      · rw [if_neg (fun q => p ((sc_pos hm).1 q)), if_neg p, if_neg (fun q : c < c + 1 ∧ _ => p q.2), Int.mul_one]
    · rw [if_neg e]
      have e3 : (if i < c + 1 ∧ 0 < f i then m else 1) = (if i < c ∧ 0 < f i then m else 1) := by
        by_cases q : i < c ∧ 0 < f i
        · rw [if_pos q, if_pos ⟨by omega, q.2⟩]
        · rw [if_neg q, if_neg (fun q2 => q ⟨by omega, q2.2⟩)]
      rw [e3]
      split
      · rw [Int.mul_right_comm]
      · rfl
theorem cnt_full {f : Nat → Int} : ∀ {c : Nat}, cntP f c = c → ∀ j, j < c → 0 < f j
  | 0, _, j, hj => absurd hj (Nat.not_lt_zero _)
  | c + 1, h, j, hj => by
    have hb := cntP_bd f c
    simp only [cntP] at h
    split at h
    · by_cases e : j = c
      · subst e; assumption
      · exact cnt_full (c := c) (by omega) j (by omega)
    · omega

theorem nash_scale {rr : List (List Int)} {i : Nat} {m : Int} (hn : 1 ≤ rr.length) (hi : i < rr.length) (hm : 1 ≤ m) (hf : cntP (gain rr (nbest rr)) rr.length = rr.length) : nbest (rrS rr i m) = nbest rr := by
  have hl := rrS_len rr i m
  have hM := rrS_mOf (rr := rr) (m := m) hi
  have ht : tot (rrS rr i m) = tot rr := by unfold tot; rw [hl, hM]
  obtain ⟨k0, _, e, hb⟩ := nbest_is hn
  obtain ⟨k1, _, e1, hb1⟩ := nbest_is (rr := rrS rr i m) (by omega)
  rw [ht] at hb1
  have hS : ∀ l : List Int, ∀ j, gain (rrS rr i m) l j = if j = i then gain rr l i * m else gain rr l j := fun l j => rrS_gain hi
  have hp0 := cnt_full hf i hi
  have hlt : ∀ l : List Int, (ltP (prd (rrS rr i m) l) (prd (rrS rr i m) (nbest rr)) ↔ ltP (prd rr l) (prd rr (nbest rr))) ∧ (ltP (prd (rrS rr i m) (nbest rr)) (prd (rrS rr i m) l) ↔ ltP (prd rr (nbest rr)) (prd rr l)) := fun l => by
    unfold prd
    have eb : (if i < rr.length ∧ 0 < gain rr (nbest rr) i then m else 1) = m := if_pos ⟨hi, hp0⟩
    rw [hl, ltP_pr, ltP_pr, ltP_pr, ltP_pr, cnt_scale hm (hS l), cnt_scale hm (hS (nbest rr)), vp_scale hm (hS l), vp_scale hm (hS (nbest rr)), eb]
    have hb2 := cntP_bd (gain rr l) rr.length
    by_cases e : cntP (gain rr l) rr.length = rr.length
    · have el : (if i < rr.length ∧ 0 < gain rr l i then m else 1) = m := if_pos ⟨hi, cnt_full e i hi⟩
      rw [el]
      have a1 : ∀ x y : Int, x * m < y * m ↔ x < y := fun x y => Int.mul_lt_mul_right (by omega)
      rw [a1, a1]
      exact ⟨Iff.rfl, Iff.rfl⟩
    · constructor
      · constructor <;> (intro _; exact .inl (by omega))
      · constructor <;> (rintro (h | h) <;> omega)
  have hbS : IsBest (rrS rr i m) (tot rr) k0 := by
    refine ⟨hb.1, fun k hk => ?_, fun k hk => ?_⟩
    · have := hb.2.1 k hk
      rw [← e] at this
      rw [hl, hM, ← e]
      exact fun h => this ((hlt _).2.1 h)
    · have := hb.2.2 k hk
      rw [← e] at this
      rw [hl, hM, ← e]
      exact (hlt _).1.2 this
  have := best_uniq hb1 hbS
  rw [e1, hl, hM, this, ← e]
end Go.Proofs.Ytkgogljfngplnaa
set_option linter.unusedVariables false
set_option linter.unusedSimpArgs false
namespace Go.Eng
open Go.RowKit

theorem fill_one (n : Nat) : ∀ (ps : List (Nat × Value)) (zc : Array Value), (∀ p ∈ ps, p.1 < n ∧ p.2.cells = #[p.2]) → zc.size = n →
    Instr.fill ((((List.range n).map fun i => (i, 1)).toArray)[·]?) zc ps = some (ps.foldl (fun c p => c.setIfInBounds p.1 p.2) zc)
  | [], zc, _, _ => rfl
  | (i, v) :: ps, zc, h, hz => by
    obtain ⟨h1, h2⟩ := h (i, v) (by simp)
    have h1 : i < n := h1
    have h2 : v.cells = #[v] := h2
    have e2 : (((List.range n).map fun i => (i, 1)).toArray)[i]? = some (i, 1) := by simp [h1]
    have e3 : ¬ (decide (#[v].size ≠ 1) || decide (i + #[v].size > zc.size)) = true := by simp; omega
    have e4 : Array.foldl (fun (cs : Array Value) (x : Value × Nat) => cs.setIfInBounds (i + x.snd) x.fst) zc #[v].zipIdx = zc.setIfInBounds i v := by simp [Array.zipIdx]
    simp only [Instr.fill, e2, h2, List.foldl_cons]
    rw [if_neg e3, e4]
    exact fill_one n ps _ (fun p hp => h p (by simp [hp])) (by simpa using hz)

/-- 'T{F: x, ..}': the other fields are zero. -/
theorem VS.sparse {P : Program} {w : World} {t : TypeId} {zc : Array Value} {N b : Nat} {l : List Field} {ps : List (Nat × Value)} {K : Value → Prop} (ht : P.underlying t = some (.struct l.toArray)) (hz : Elem P t (.agg zc) N b)
    (hg : ∀ f ∈ l, P.cellsOf f.type = 1) (ho : l.map (·.offset) = List.range l.length) (hv : ∀ p ∈ ps, p.1 < l.length ∧ p.2.cells = #[p.2]) (hs : zc.size = l.length)
    (hk : K (.agg (ps.foldl (fun c p => c.setIfInBounds p.1 p.2) zc))) : VS P (Instr.build t ps.toArray) w K := by
  refine VS.mk (v := .agg (ps.foldl (fun c p => c.setIfInBounds p.1 p.2) zc)) (fun w1 _ => ?_) hk
  obtain ⟨i, hi, hz1, _, _⟩ := hz.info
  have hfill := fill_one l.length ps zc hv hs
  simp only [Instr.build, Sem.run_bind, zeroValue, typeInfo, run_program, Result.andThen_ok, hi, hz1, Sem.run_pure, run_underlying ht, fields_run hg ho, Value.cells, hfill]
theorem VS.eq3 {P : Program} {w : World} {K : Value → Prop} {t : TypeId} {f0 f1 f2 : Field} {x y : Operand} {a b c a' b' c' : Int} (ht : P.underlying t = some (.struct #[f0, f1, f2])) (hst : P.stoodInHeld t = false)
    (hn : f0.name ≠ "_" ∧ f1.name ≠ "_" ∧ f2.name ≠ "_") (ho : f0.offset = 0 ∧ f1.offset = 1 ∧ f2.offset = 2)
    (h0 : P.underlying f0.type = some (.int .i64)) (h1 : P.underlying f1.type = some (.int .i64)) (h2 : P.underlying f2.type = some (.int .i64)) (hm : P.eqGuardType P.depth t = false)
    (h : Split (a = a' ∧ b = b' ∧ c = c') (K (.bool true)) (K (.bool false))) : VS P (binSem .eql t x y (.agg #[.int .i64 a, .int .i64 b, .int .i64 c]) (.agg #[.int .i64 a', .int .i64 b', .int .i64 c'])) w K := by
  have hr : ∀ w', (binSem .eql t x y (.agg #[.int .i64 a, .int .i64 b, .int .i64 c]) (.agg #[.int .i64 a', .int .i64 b', .int .i64 c'])).run P w' = .ok (.bool (a == a' && b == b' && c == c')) w' := fun w' => by
    simp only [binSem, Sem.run_bind, run_eqGuard_agg w' .eql t x y _ _ hm, Result.andThen_ok, run_eql_struct]
    rw [show (10000 : Nat) = 9998 + 1 + 1 from rfl, equalIn_str3 ht hst hn ho h0 h1 h2]; rfl
  refine VS.mk (fun w' _ => hr w') ?_
  simp only [Split] at h
  by_cases h1 : a = a' ∧ b = b' ∧ c = c'
  · have := h.1 h1; simpa [h1.1, h1.2.1, h1.2.2] using this
  · have := h.2 h1
    have e : (a == a' && b == b' && c == c') = false := by
      cases hh : (a == a' && b == b' && c == c') with
      | false => rfl
      | true => simp at hh; exact absurd ⟨hh.1.1, hh.1.2, hh.2⟩ h1
    rw [e]; exact this
end Go.Eng
set_option linter.unusedVariables false
set_option linter.unusedSimpArgs false
namespace Go.Eng
open Go.RowKit

section
variable {P : Program} {w w' : World} {b : Nat} {T : TypeId} {xs : List Value}

theorem Blk.row {B n s : Nat} {e : TypeId} {v : Value} {ys : List Value} (h : Blk w b T xs) (ho : Own B e s w v n ys) (he : e ≠ T) (hg : Gr (fun k => v.ownBlock = some k) w w') : Blk w' b T xs :=
  h.gr hg fun hb => by
    have hb : v.ownBlock = some b := hb
    rcases ho.2 with ⟨rfl, _⟩ | ⟨g, cap, cur, rfl, _, hgg, _⟩
    · simp [Value.ownBlock] at hb
    · simp [Value.ownBlock] at hb
      subst hb
      unfold Blk at h
      rw [h] at hgg
      simp at hgg
      exact he hgg.2.symm
theorem Blk.two {b' : Nat} {T' : TypeId} {ys : List Value} (h : Blk w b T xs) (_h' : Blk w b' T' ys) (he : b ≠ b') (hg : Gr (fun k => k = b') w w') : Blk w' b T xs := h.gr hg he
theorem Own.row {B n s B' n' s' : Nat} {e e' : TypeId} {v v' : Value} {ys ys' : List Value} (h : Own B e s w v n ys) (h' : Own B' e' s' w v' n' ys') (he : e ≠ e') (hg : Gr (fun k => v'.ownBlock = some k) w w') : Own B e s w' v n ys :=
  Own.gr h hg fun k hk hS => Own.ne h h' he k hk hS

theorem Blk.ldA {k : Nat} {x : Value} {K : Value → Prop} (h : Blk w b T xs) (hx : xs[k]? = some x) (hk : K x) : Ld w ((⟨b, 0, none⟩ : Addr).add k) K := At.ld h.at hx hk
theorem At.sub {p : Addr} (h : At w p xs) (k : Nat) : At w (p.add k) (xs.drop k) := fun i x hx => by
  rw [add_add]
  exact h (k + i) x (by rw [← hx, List.getElem?_drop])
theorem Blk.ldNA {k n : Nat} {ys : List Value} {K : Value → Prop} (h : Blk w b T xs) (he : (xs.drop k).take n = ys) (hn : ys.length = n) (hk : K (.agg ys.toArray)) : LdN n w ((⟨b, 0, none⟩ : Addr).add k) K := by
  refine At.ldN (xs := ys) (fun i x hx => (h.at.sub k) i x ?_) hn hk
  subst he
  rw [List.getElem?_take] at hx
  split at hx
  · exact hx
  · cases hx
theorem Blk.setA {i : Nat} {x : Value} {K : World → Prop} (h : Blk w b T xs) (hi : i < xs.length) (hx : x.oneCell' = true)
    (hK : ∀ w', Gr (fun j => j = b) w w' → Blk w' b T (xs.set i x) → K w') : St w ((⟨b, 0, none⟩ : Addr).add i) x K := by
  rw [add0]; exact h.set hi hx hK

/-- cells written one after the other -/
def putAt : List Value → Nat → List Value → List Value
  | xs, _, [] => xs
  | xs, k, v :: vs => putAt (xs.set k v) (k + 1) vs
theorem storeAt_run {k : Nat} : ∀ (vs : List Value) (i : Nat) (w : World) (xs : List Value), Blk w b T xs → k + i + vs.length ≤ xs.length → (∀ v ∈ vs, v.oneCell' = true) →
    ∃ w', (storeCells ⟨b, k, none⟩ vs i).run P w = .ok () w' ∧ Gr (fun j => j = b) w w' ∧ Blk w' b T (putAt xs (k + i) vs)
  | [], i, w, xs, h, _, _ => ⟨w, by simp [storeCells], Gr.ofExt (Ext.refl w), h⟩
  | v :: vs, i, w, xs, h, hl, h1 => by
    have hi : k + i < xs.length := by rw [List.length_cons] at hl; omega
    have ea : (⟨b, k, none⟩ : Addr).add i = ⟨b, k + i, none⟩ := by rw [← add0 b k, add_add, add0]
    have hcell : w.cell? ⟨b, k + i, none⟩ = some (xs[k + i]'hi) := by unfold Blk at h; simp only [World.cell?, h]; simp [hi]
    have hf : w.frozen? ⟨b, k + i, none⟩ = false := by unfold Blk at h; simp only [World.frozen?, h]; simp
    obtain ⟨w', hr, hg, hb⟩ := storeAt_run (k := k) vs (i + 1) (w.setCell ⟨b, k + i, none⟩ v) (xs.set (k + i) v) (h.put (k + i) v) (by rw [List.length_set]; rw [List.length_cons] at hl; omega) (fun u hu => h1 u (by simp [hu]))
    have hg1 : Gr (fun j => j = b) w (w.setCell ⟨b, k + i, none⟩ v) := Gr.setCell (S := fun j => j = b) (p := ⟨b, k + i, none⟩) (Gr.ofExt (Ext.refl w)) rfl v
    refine ⟨w', ?_, hg1.trans hg, ?_⟩
    · simp only [storeCells, Sem.run_bind, ea]
      rw [run_store P w _ v .plain (h1 v (by simp))]
      simp only [hcell, hf]
      simpa using hr
    · simpa only [putAt, Nat.add_assoc] using hb
/-- A field of several cells is written. -/
theorem Blk.setNA {t : TypeId} {k s : Nat} {cs : List Value} {K : World → Prop} (h : Blk w b T xs) (hs : P.cellsOf t = s) (hs0 : s ≠ 0) (hl : k + s ≤ xs.length) (hc : cs.length = s) (h1 : ∀ v ∈ cs, v.oneCell' = true)
    (hK : ∀ w', Gr (fun j => j = b) w w' → Blk w' b T (putAt xs k cs) → K w') : VU P (Instr.storeAt t (.pointer (some ((⟨b, 0, none⟩ : Addr).add k))) (.agg cs.toArray)) w K := by
  rw [add0]
  simp only [VU]
  intro w1 hw1
  obtain ⟨w2, hr, hg, hb⟩ := storeAt_run (P := P) (k := k) cs 0 w1 xs (h.ext hw1) (by omega) h1
  refine ⟨w2, ?_, w2, Ext.refl _, hK w2 ((Gr.ofExt hw1).trans hg) (by simpa using hb)⟩
  simp only [Instr.storeAt, Instr.sureAddr, pure_bind, storeVar, Sem.run_bind, sizeOf_run hs hs0, Result.andThen_ok, Value.cells]
  simp [hc]
  simpa using hr

/-- An append that tells where the old rows stand: the new row is the old one's block or a new one. -/
theorem Gr.ofB {B : Nat} {a b c : World} (h : Ext a b) (hB : a.heap.size ≤ B) (hg : Gr (fun k => B ≤ k) b c) : Ext a c :=
  h.new hg fun i hi hk => by omega
end
end Go.Eng
set_option linter.unusedVariables false
set_option linter.unusedSimpArgs false
namespace Go.Proofs.Ytkgogljfngplnaa
open Go.Eng
set_option maxRecDepth 100000
set_option maxHeartbeats 4000000

theorem split_at {l : List Int} {q : Nat} (h : q < l.length) : l = l.take q ++ l.getD q 0 :: l.drop (q + 1) := by
  have e : l.getD q 0 = l[q] := by simp [List.getD, h]
  rw [e, List.getElem_cons_drop, List.take_append_drop]
theorem set_mid {α : Type} {p s : List α} {x y : α} {q : Nat} (h : p.length = q) : (p ++ x :: s).set q y = p ++ y :: s := by
  subst h; rw [List.set_append]; simp
theorem getD_mid {p s : List Int} {x : Int} {q : Nat} (h : p.length = q) : (p ++ x :: s).getD q 0 = x := by
  subst h; simp [List.getD]

theorem next_rc {w : World} {B n : Nat} {lv : Value} {l : List Int} (Hl : Own B 3 1 w lv l.length (l.map i64v)) (hb : ∀ i, i < l.length → 0 ≤ l.getD i 0 ∧ l.getD i 0 < n) (hn : n ≤ 100000) :
    RC Try.prog 65 [lv, .int .i64 n] w (fun k => lv.ownBlock = some k) (fun u w' => u = .bool (nxt n l).1 ∧ Own B 3 1 w' lv l.length ((nxt n l).2.map i64v)) := by
  refine RC.mk tyOk Try.func65 rfl (by kernel_rfl) fun w1 E1 => ?_
  replace Hl := Hl.ext E1
  have EE := Ext.refl w1
  have hlI : Ints w1 lv l := Own.sl Hl
  have hle := hlI.le
  have GS : Gr (fun k => lv.ownBlock = some k) w1 w1 := Gr.refl _ _
  repeat' (conv => whnf
           first
           | (refine Dr.quiet tyOk (by kernel_rfl) ?_)
           | (refine Rng.mk (by omega) ?_)
           | (refine Split.pos (by omega) ?_)
           | (refine Split.neg (by omega) ?_)
           | (refine Split.mk (fun h => ?_) (fun h => ?_))
           | (refine Need.mk (by omega) ?_)
           | (refine Ints.ln (by assumption) ?_)
           | (refine Mat.ln (by assumption) ?_)
           | (refine Ints.ln (Mat.row (by assumption) _ (by omega)) ?_)
           | (refine Ints.ix (by assumption) (by omega) ?_)
           | (refine Mat.ix (by assumption) (by omega) ?_)
           | (refine Ints.ix (Mat.row (by assumption) _ (by omega)) (by omega) ?_)
           | (refine Ints.ix (c := 0) (by assumption) (by omega) ?_)
           | (refine Mat.ix (c := 0) (by assumption) (by omega) ?_)
           | (refine Ints.ix (c := 0) (Mat.row (by assumption) _ (by omega)) (by omega) ?_)
           | (refine Ints.ixI (by assumption) (by omega) ?_)
           | (refine Mat.ixI (by assumption) (by omega) ?_)
           | (refine Ints.ixI (Mat.row (by assumption) _ (by omega)) (by omega) ?_)
           | (refine Ints.ld (by assumption) (by omega) ?_)
           | (refine Mat.ld (by assumption) (by omega) ?_)
           | (refine Ints.ld (Mat.row (by assumption) _ (by omega)) (by omega) ?_)
           | (refine At.ld (by assumption) rfl ?_)
           | (refine At.ldN (by assumption) rfl ?_)
           | (refine Prs.ln (by assumption) ?_)
           | (refine Trs.ln (by assumption) ?_)
           | (refine Prs.ix (by assumption) (by omega) ?_)
           | (refine Trs.ix (by assumption) (by omega) ?_)
           | (refine Prs.ldN (by assumption) (by omega) ?_)
           | (refine Trs.ldN (by assumption) (by omega) ?_)
           | (refine At.ldN (Blk.at (by assumption)) rfl ?_)
           | (refine At.ld (Blk.at (by assumption)) rfl ?_)
           | (refine IxA.mk (by omega) ?_)
           | (refine Sl.ln (Own.sl (by assumption)) ?_)
           | (refine Ints.ix (Own.sl (by assumption)) (by omega) ?_)
           | (refine Ints.ixI (Own.sl (by assumption)) (by omega) ?_)
           | (refine Ints.ld (Own.sl (by assumption)) (by omega) ?_))
  refine Lp.mk tyOk [false, false, false, false, true, true, false, false, false, true, true, true, true, true, true, true, true, true, true, true, true, true, true, true, true, true, true, true] (fun m fr wr => getK fr 5 fun i => ∃ c : Nat, c ≤ l.length ∧ m = l.length - c ∧ i = .int .i64 ((l.length : Int) - 1 - c) ∧ ((nxt n (l.drop (l.length - c))).1 = false) ∧ (Own B 3 1 wr lv l.length ((l.take (l.length - c) ++ (nxt n (l.drop (l.length - c))).2).map i64v)) ∧ (Gr (fun k => lv.ownBlock = some k) w1 wr)) (l.length) ?_ ?_
  · exact ⟨0, Nat.zero_le _, rfl, by simp, by simp [nxt], by simpa [nxt] using Hl, (by first | exact fun _ hi => absurd hi (Nat.not_lt_zero _) | exact fun _ _ hi => absurd hi (Nat.not_lt_zero _) | assumption | exact Own.nil | omega | simp)⟩
  · intro m w2 u4 u5 u9 u10 u11 u12 u13 u14 u15 u16 u17 u18 u19 u20 u21 u22 u23 u24 u25 u26 u27 hR
    obtain ⟨c, hc, rfl, rfl, hf, HC, GS⟩ := hR
    by_cases hcl : c < l.length
    · have hq : l.length - c = l.length - c - 1 + 1 := by omega
      generalize l.length - c - 1 = q at hq
      have ei : ((l.length : Int) - 1 - (c : Int)) = (q : Int) := by omega
      have hql : q < l.length := by omega
      rw [hq] at hf HC
      have hlen : (l.take (q + 1) ++ (nxt n (l.drop (q + 1))).2).length = l.length := by rw [List.length_append, nxt_len, List.length_take, List.length_drop]; omega
      have hsp : l.take (q + 1) ++ (nxt n (l.drop (q + 1))).2 = l.take q ++ l.getD q 0 :: (nxt n (l.drop (q + 1))).2 := by
        rw [take_snoc 0 l q hql, List.append_assoc]; rfl
      have htk : (l.take q).length = q := by rw [List.length_take]; omega
      have hdr : l.drop q = l.getD q 0 :: l.drop (q + 1) := by
        have e : l.getD q 0 = l[q] := by simp [List.getD, hql]
        rw [e, List.getElem_cons_drop]
      rw [hsp] at HC hlen
      have HCI : Ints w2 lv (l.take q ++ l.getD q 0 :: (nxt n (l.drop (q + 1))).2) := by unfold Ints; rw [hlen]; exact Own.sl HC
      have hgd : (l.take q ++ l.getD q 0 :: (nxt n (l.drop (q + 1))).2).getD q 0 = l.getD q 0 := getD_mid htk
      have hbq := hb q hql
      have hnx : nxt n (l.drop q) = if l.getD q 0 + 1 < n then (true, (l.getD q 0 + 1) :: (nxt n (l.drop (q + 1))).2) else (false, 0 :: (nxt n (l.drop (q + 1))).2) := by
        rw [hdr]
        have e2 : nxt n (l.drop (q + 1)) = (false, (nxt n (l.drop (q + 1))).2) := Prod.ext hf rfl
        simp only [nxt]
        rw [e2]
      rw [ei]
      repeat' (conv => whnf
               first
               | (refine Dr.quiet tyOk (by kernel_rfl) ?_)
               | (refine Rng.mk (by omega) ?_)
               | (refine Split.pos (by omega) ?_)
               | (refine Split.neg (by omega) ?_)
               | (refine Split.mk (fun h => ?_) (fun h => ?_))
               | (refine Need.mk (by omega) ?_)
               | (refine Ints.ln (by assumption) ?_)
               | (refine Mat.ln (by assumption) ?_)
               | (refine Ints.ln (Mat.row (by assumption) _ (by omega)) ?_)
               | (refine Ints.ix (by assumption) (by omega) ?_)
               | (refine Mat.ix (by assumption) (by omega) ?_)
               | (refine Ints.ix (Mat.row (by assumption) _ (by omega)) (by omega) ?_)
               | (refine Ints.ix (c := 0) (by assumption) (by omega) ?_)
               | (refine Mat.ix (c := 0) (by assumption) (by omega) ?_)
               | (refine Ints.ix (c := 0) (Mat.row (by assumption) _ (by omega)) (by omega) ?_)
               | (refine Ints.ixI (by assumption) (by omega) ?_)
               | (refine Mat.ixI (by assumption) (by omega) ?_)
               | (refine Ints.ixI (Mat.row (by assumption) _ (by omega)) (by omega) ?_)
               | (refine Ints.ld (by assumption) (by omega) ?_)
               | (refine Mat.ld (by assumption) (by omega) ?_)
               | (refine Ints.ld (Mat.row (by assumption) _ (by omega)) (by omega) ?_)
               | (refine At.ld (by assumption) rfl ?_)
               | (refine At.ldN (by assumption) rfl ?_)
               | (refine Prs.ln (by assumption) ?_)
               | (refine Trs.ln (by assumption) ?_)
               | (refine Prs.ix (by assumption) (by omega) ?_)
               | (refine Trs.ix (by assumption) (by omega) ?_)
               | (refine Prs.ldN (by assumption) (by omega) ?_)
               | (refine Trs.ldN (by assumption) (by omega) ?_)
               | (refine At.ldN (Blk.at (by assumption)) rfl ?_)
               | (refine At.ld (Blk.at (by assumption)) rfl ?_)
               | (refine IxA.mk (by omega) ?_)
               | (refine Sl.ln (Own.sl (by assumption)) ?_)
               | (refine Ints.ix (Own.sl (by assumption)) (by omega) ?_)
               | (refine Ints.ixI (Own.sl (by assumption)) (by omega) ?_)
               | (refine Ints.ld (Own.sl (by assumption)) (by omega) ?_))
      refine Own.set HC (by rw [List.length_map, hlen]; omega) rfl fun w5 G5 H5 => ?_
      rw [hgd, set_map, set_mid htk] at H5
      have GS5 := GS.trans G5
      have H5I : Ints w5 lv (l.take q ++ (l.getD q 0 + 1) :: (nxt n (l.drop (q + 1))).2) := by unfold Ints; rw [show (l.take q ++ (l.getD q 0 + 1) :: (nxt n (l.drop (q + 1))).2).length = l.length by rw [← hlen]; simp]; exact Own.sl H5
      have hgd5 : (l.take q ++ (l.getD q 0 + 1) :: (nxt n (l.drop (q + 1))).2).getD q 0 = l.getD q 0 + 1 := getD_mid htk
      have hlen5 : (l.take q ++ (l.getD q 0 + 1) :: (nxt n (l.drop (q + 1))).2).length = l.length := by rw [← hlen]; simp
      repeat' (conv => whnf
               first
               | (refine Dr.quiet tyOk (by kernel_rfl) ?_)
               | (refine Rng.mk (by omega) ?_)
               | (refine Split.pos (by omega) ?_)
               | (refine Split.neg (by omega) ?_)
               | (refine Split.mk (fun h => ?_) (fun h => ?_))
               | (refine Need.mk (by omega) ?_)
               | (refine Ints.ln (by assumption) ?_)
               | (refine Mat.ln (by assumption) ?_)
               | (refine Ints.ln (Mat.row (by assumption) _ (by omega)) ?_)
               | (refine Ints.ix (by assumption) (by omega) ?_)
               | (refine Mat.ix (by assumption) (by omega) ?_)
               | (refine Ints.ix (Mat.row (by assumption) _ (by omega)) (by omega) ?_)
               | (refine Ints.ix (c := 0) (by assumption) (by omega) ?_)
               | (refine Mat.ix (c := 0) (by assumption) (by omega) ?_)
               | (refine Ints.ix (c := 0) (Mat.row (by assumption) _ (by omega)) (by omega) ?_)
               | (refine Ints.ixI (by assumption) (by omega) ?_)
               | (refine Mat.ixI (by assumption) (by omega) ?_)
               | (refine Ints.ixI (Mat.row (by assumption) _ (by omega)) (by omega) ?_)
               | (refine Ints.ld (by assumption) (by omega) ?_)
               | (refine Mat.ld (by assumption) (by omega) ?_)
               | (refine Ints.ld (Mat.row (by assumption) _ (by omega)) (by omega) ?_)
               | (refine At.ld (by assumption) rfl ?_)
               | (refine At.ldN (by assumption) rfl ?_)
               | (refine Prs.ln (by assumption) ?_)
               | (refine Trs.ln (by assumption) ?_)
               | (refine Prs.ix (by assumption) (by omega) ?_)
               | (refine Trs.ix (by assumption) (by omega) ?_)
               | (refine Prs.ldN (by assumption) (by omega) ?_)
               | (refine Trs.ldN (by assumption) (by omega) ?_)
               | (refine At.ldN (Blk.at (by assumption)) rfl ?_)
               | (refine At.ld (Blk.at (by assumption)) rfl ?_)
               | (refine IxA.mk (by omega) ?_)
               | (refine Sl.ln (Own.sl (by assumption)) ?_)
               | (refine Ints.ix (Own.sl (by assumption)) (by omega) ?_)
               | (refine Ints.ixI (Own.sl (by assumption)) (by omega) ?_)
               | (refine Ints.ld (Own.sl (by assumption)) (by omega) ?_))
      · rw [if_pos (by omega)] at hnx
        have e3 := nxt_app hnx (l.take q)
        rw [List.take_append_drop] at e3
        exact ⟨GS5, by rw [e3], by rw [e3]; exact H5⟩
      · rw [if_neg (by omega)] at hnx
        refine Own.set H5 (by rw [List.length_map, hlen5]; omega) rfl fun w6 G6 H6 => ?_
        rw [set_map, set_mid htk] at H6
        have GS6 := GS5.trans G6
        have eq : l.length - (c + 1) = q := by omega
        repeat' (conv => whnf
                 first
                 | (refine Dr.quiet tyOk (by kernel_rfl) ?_)
                 | (refine Rng.mk (by omega) ?_)
                 | (refine Split.pos (by omega) ?_)
                 | (refine Split.neg (by omega) ?_)
                 | (refine Split.mk (fun h => ?_) (fun h => ?_))
                 | (refine Need.mk (by omega) ?_)
                 | (refine Ints.ln (by assumption) ?_)
                 | (refine Mat.ln (by assumption) ?_)
                 | (refine Ints.ln (Mat.row (by assumption) _ (by omega)) ?_)
                 | (refine Ints.ix (by assumption) (by omega) ?_)
                 | (refine Mat.ix (by assumption) (by omega) ?_)
                 | (refine Ints.ix (Mat.row (by assumption) _ (by omega)) (by omega) ?_)
                 | (refine Ints.ix (c := 0) (by assumption) (by omega) ?_)
                 | (refine Mat.ix (c := 0) (by assumption) (by omega) ?_)
                 | (refine Ints.ix (c := 0) (Mat.row (by assumption) _ (by omega)) (by omega) ?_)
                 | (refine Ints.ixI (by assumption) (by omega) ?_)
                 | (refine Mat.ixI (by assumption) (by omega) ?_)
                 | (refine Ints.ixI (Mat.row (by assumption) _ (by omega)) (by omega) ?_)
                 | (refine Ints.ld (by assumption) (by omega) ?_)
                 | (refine Mat.ld (by assumption) (by omega) ?_)
                 | (refine Ints.ld (Mat.row (by assumption) _ (by omega)) (by omega) ?_)
                 | (refine At.ld (by assumption) rfl ?_)
                 | (refine At.ldN (by assumption) rfl ?_)
                 | (refine Prs.ln (by assumption) ?_)
                 | (refine Trs.ln (by assumption) ?_)
                 | (refine Prs.ix (by assumption) (by omega) ?_)
                 | (refine Trs.ix (by assumption) (by omega) ?_)
                 | (refine Prs.ldN (by assumption) (by omega) ?_)
                 | (refine Trs.ldN (by assumption) (by omega) ?_)
                 | (refine At.ldN (Blk.at (by assumption)) rfl ?_)
                 | (refine At.ld (Blk.at (by assumption)) rfl ?_)
                 | (refine IxA.mk (by omega) ?_)
                 | (refine Sl.ln (Own.sl (by assumption)) ?_)
                 | (refine Ints.ix (Own.sl (by assumption)) (by omega) ?_)
                 | (refine Ints.ixI (Own.sl (by assumption)) (by omega) ?_)
                 | (refine Ints.ld (Own.sl (by assumption)) (by omega) ?_))
        refine ⟨_, (by omega : l.length - (c + 1) < l.length - c), rfl, c + 1, by omega, rfl, (by rw [show ((l.length : Int) - 1 - ((c + 1 : Nat) : Int)) = (q : Int) - 1 by omega]), ?_, ?_, GS6⟩
        · rw [eq, hnx]
        · rw [eq, hnx]; exact H6
    · obtain rfl : c = l.length := by omega
      rw [Nat.sub_self] at hf HC
      repeat' (conv => whnf
               first
               | (refine Dr.quiet tyOk (by kernel_rfl) ?_)
               | (refine Rng.mk (by omega) ?_)
               | (refine Split.pos (by omega) ?_)
               | (refine Split.neg (by omega) ?_)
               | (refine Split.mk (fun h => ?_) (fun h => ?_))
               | (refine Need.mk (by omega) ?_)
               | (refine Ints.ln (by assumption) ?_)
               | (refine Mat.ln (by assumption) ?_)
               | (refine Ints.ln (Mat.row (by assumption) _ (by omega)) ?_)
               | (refine Ints.ix (by assumption) (by omega) ?_)
               | (refine Mat.ix (by assumption) (by omega) ?_)
               | (refine Ints.ix (Mat.row (by assumption) _ (by omega)) (by omega) ?_)
               | (refine Ints.ix (c := 0) (by assumption) (by omega) ?_)
               | (refine Mat.ix (c := 0) (by assumption) (by omega) ?_)
               | (refine Ints.ix (c := 0) (Mat.row (by assumption) _ (by omega)) (by omega) ?_)
               | (refine Ints.ixI (by assumption) (by omega) ?_)
               | (refine Mat.ixI (by assumption) (by omega) ?_)
               | (refine Ints.ixI (Mat.row (by assumption) _ (by omega)) (by omega) ?_)
               | (refine Ints.ld (by assumption) (by omega) ?_)
               | (refine Mat.ld (by assumption) (by omega) ?_)
               | (refine Ints.ld (Mat.row (by assumption) _ (by omega)) (by omega) ?_)
               | (refine At.ld (by assumption) rfl ?_)
               | (refine At.ldN (by assumption) rfl ?_)
               | (refine Prs.ln (by assumption) ?_)
               | (refine Trs.ln (by assumption) ?_)
               | (refine Prs.ix (by assumption) (by omega) ?_)
               | (refine Trs.ix (by assumption) (by omega) ?_)
               | (refine Prs.ldN (by assumption) (by omega) ?_)
               | (refine Trs.ldN (by assumption) (by omega) ?_)
               | (refine At.ldN (Blk.at (by assumption)) rfl ?_)
               | (refine At.ld (Blk.at (by assumption)) rfl ?_)
               | (refine IxA.mk (by omega) ?_)
               | (refine Sl.ln (Own.sl (by assumption)) ?_)
               | (refine Ints.ix (Own.sl (by assumption)) (by omega) ?_)
               | (refine Ints.ixI (Own.sl (by assumption)) (by omega) ?_)
               | (refine Ints.ld (Own.sl (by assumption)) (by omega) ?_))
      exact ⟨GS, by rw [show (nxt n l).1 = false from hf], by simpa using HC⟩
end Go.Proofs.Ytkgogljfngplnaa
set_option linter.unusedVariables false
set_option linter.unusedSimpArgs false
namespace Go.Proofs.Ytkgogljfngplnaa
open Go.Eng
set_option maxRecDepth 100000
set_option maxHeartbeats 4000000

theorem eProd : Elem Try.prog 41 (.agg #[.int .i64 0, .int .i64 0, .int .i64 0]) 3 24 := by unfold Elem; kernel_rfl
abbrev PV (p : T3) : Value := .agg #[.int .i64 p.1, .int .i64 p.2.1, .int .i64 p.2.2]
theorem tim_rng {p : T3} {x : Int} (h1 : 0 ≤ p.2.1 ∧ p.2.1 ≤ 1000000000000) (h2 : 0 ≤ p.2.2 ∧ p.2.2 < 1000000000000) (hx : 0 ≤ x ∧ x ≤ 10000) : 0 ≤ p.2.1 * x ∧ p.2.1 * x ≤ 10000000000000000 ∧ 0 ≤ p.2.2 * x ∧ p.2.2 * x ≤ 10000000000000000 := by
  have a := mul_bd (n := p.2.1) (x := x) h1.1 h1.2 hx.1 hx.2
  have b := mul_bd (n := p.2.2) (x := x) (N := 1000000000000) h2.1 (by omega) hx.1 hx.2
  omega

theorem times_pc {w : World} {p : T3} {x : Int} (h0 : 0 ≤ p.1 ∧ p.1 ≤ 100) (h1 : 0 ≤ p.2.1 ∧ p.2.1 ≤ 1000000000000) (h2 : 0 ≤ p.2.2 ∧ p.2.2 < 1000000000000) (hx : x ≤ 10000) :
    PC Try.prog 59 [PV p, .int .i64 x] w (PV (tim p x)) := by
  refine PC.mk tyOk Try.func59 rfl (by kernel_rfl) fun w1 E1 => ?_
  have EE := Ext.refl w1
  refine Bx.agg fun b2 w2 E2 hb2 Hb _ => ?_
  replace EE := EE.ext E2
  have EE__1 := EE
  have Hb__1 := Hb
  conv => whnf
  refine VE.alloc eProd fun rb w3 E3 hb_rb Hk => ?_
  replace EE := EE.ext E3
  replace Hb := Hb.ext E3
  have EL1 := E3
  by_cases h : x ≤ 0
  · have e : tim p x = p := by unfold tim; rw [if_pos h]
    rw [e]
    repeat' (conv => whnf
             first
             | (refine Dr.quiet tyOk (by kernel_rfl) ?_)
             | (refine Rng.mk (by omega) ?_)
             | (refine Split.pos (by omega) ?_)
             | (refine Split.neg (by omega) ?_)
             | (refine Split.mk (fun h => ?_) (fun h => ?_))
             | (refine Need.mk (by omega) ?_)
             | (refine Ints.ln (by assumption) ?_)
             | (refine Mat.ln (by assumption) ?_)
             | (refine Ints.ln (Mat.row (by assumption) _ (by omega)) ?_)
             | (refine Ints.ix (by assumption) (by omega) ?_)
             | (refine Mat.ix (by assumption) (by omega) ?_)
             | (refine Ints.ix (Mat.row (by assumption) _ (by omega)) (by omega) ?_)
             | (refine Ints.ix (c := 0) (by assumption) (by omega) ?_)
             | (refine Mat.ix (c := 0) (by assumption) (by omega) ?_)
             | (refine Ints.ix (c := 0) (Mat.row (by assumption) _ (by omega)) (by omega) ?_)
             | (refine Ints.ixI (by assumption) (by omega) ?_)
             | (refine Mat.ixI (by assumption) (by omega) ?_)
             | (refine Ints.ixI (Mat.row (by assumption) _ (by omega)) (by omega) ?_)
             | (refine Ints.ld (by assumption) (by omega) ?_)
             | (refine Mat.ld (by assumption) (by omega) ?_)
             | (refine Ints.ld (Mat.row (by assumption) _ (by omega)) (by omega) ?_)
             | (refine At.ld (by assumption) rfl ?_)
             | (refine At.ldN (by assumption) rfl ?_)
             | (refine Prs.ln (by assumption) ?_)
             | (refine Trs.ln (by assumption) ?_)
             | (refine Prs.ix (by assumption) (by omega) ?_)
             | (refine Trs.ix (by assumption) (by omega) ?_)
             | (refine Prs.ldN (by assumption) (by omega) ?_)
             | (refine Trs.ldN (by assumption) (by omega) ?_)
             | (refine At.ldN (Blk.at (by assumption)) rfl ?_)
             | (refine At.ld (Blk.at (by assumption)) rfl ?_)
             | (refine IxA.mk (by omega) ?_)
             | (refine Sl.ln (Own.sl (by assumption)) ?_)
             | (refine Ints.ix (Own.sl (by assumption)) (by omega) ?_)
             | (refine Ints.ixI (Own.sl (by assumption)) (by omega) ?_)
             | (refine Ints.ld (Own.sl (by assumption)) (by omega) ?_))
    refine Blk.all Hk (by kernel_rfl) (by first | decide | simp) rfl rfl (by intro v hv; simp at hv; rcases hv with rfl | rfl | rfl | rfl | rfl <;> rfl) fun w4 G4 Hk' => ?_
    have E4 : Ext w2 w4 := EL1.new G4 fun i hi hk => by omega
    replace Hk := Hk'
    replace EE := EE__1.ext E4
    replace Hb := Hb__1.ext E4
    replace EL1 := E4
    repeat' (conv => whnf
             first
             | (refine Dr.quiet tyOk (by kernel_rfl) ?_)
             | (refine Rng.mk (by omega) ?_)
             | (refine Split.pos (by omega) ?_)
             | (refine Split.neg (by omega) ?_)
             | (refine Split.mk (fun h => ?_) (fun h => ?_))
             | (refine Need.mk (by omega) ?_)
             | (refine Ints.ln (by assumption) ?_)
             | (refine Mat.ln (by assumption) ?_)
             | (refine Ints.ln (Mat.row (by assumption) _ (by omega)) ?_)
             | (refine Ints.ix (by assumption) (by omega) ?_)
             | (refine Mat.ix (by assumption) (by omega) ?_)
             | (refine Ints.ix (Mat.row (by assumption) _ (by omega)) (by omega) ?_)
             | (refine Ints.ix (c := 0) (by assumption) (by omega) ?_)
             | (refine Mat.ix (c := 0) (by assumption) (by omega) ?_)
             | (refine Ints.ix (c := 0) (Mat.row (by assumption) _ (by omega)) (by omega) ?_)
             | (refine Ints.ixI (by assumption) (by omega) ?_)
             | (refine Mat.ixI (by assumption) (by omega) ?_)
             | (refine Ints.ixI (Mat.row (by assumption) _ (by omega)) (by omega) ?_)
             | (refine Ints.ld (by assumption) (by omega) ?_)
             | (refine Mat.ld (by assumption) (by omega) ?_)
             | (refine Ints.ld (Mat.row (by assumption) _ (by omega)) (by omega) ?_)
             | (refine At.ld (by assumption) rfl ?_)
             | (refine At.ldN (by assumption) rfl ?_)
             | (refine Prs.ln (by assumption) ?_)
             | (refine Trs.ln (by assumption) ?_)
             | (refine Prs.ix (by assumption) (by omega) ?_)
             | (refine Trs.ix (by assumption) (by omega) ?_)
             | (refine Prs.ldN (by assumption) (by omega) ?_)
             | (refine Trs.ldN (by assumption) (by omega) ?_)
             | (refine At.ldN (Blk.at (by assumption)) rfl ?_)
             | (refine At.ld (Blk.at (by assumption)) rfl ?_)
             | (refine IxA.mk (by omega) ?_)
             | (refine Sl.ln (Own.sl (by assumption)) ?_)
             | (refine Ints.ix (Own.sl (by assumption)) (by omega) ?_)
             | (refine Ints.ixI (Own.sl (by assumption)) (by omega) ?_)
             | (refine Ints.ld (Own.sl (by assumption)) (by omega) ?_))
    exact ⟨rfl, EE⟩
  · have e : tim p x = (p.1 + 1, p.2.1 * x + (p.2.2 * x) / PB, (p.2.2 * x) % PB) := by unfold tim; rw [if_neg h]
    have hr := tim_rng h1 h2 (x := x) (by omega)
    rw [e]
    repeat' (conv => whnf
             first
             | (refine Dr.quiet tyOk (by kernel_rfl) ?_)
             | (refine VS.b3 Try.underlying41 eProd (by decide +kernel) ⟨rfl, rfl, rfl⟩ ?_)
             | (refine Rng.mk (by omega) ?_)
             | (refine Split.pos (by omega) ?_)
             | (refine Split.neg (by omega) ?_)
             | (refine Split.mk (fun h => ?_) (fun h => ?_))
             | (refine Need.mk (by omega) ?_)
             | (refine Ints.ln (by assumption) ?_)
             | (refine Mat.ln (by assumption) ?_)
             | (refine Ints.ln (Mat.row (by assumption) _ (by omega)) ?_)
             | (refine Ints.ix (by assumption) (by omega) ?_)
             | (refine Mat.ix (by assumption) (by omega) ?_)
             | (refine Ints.ix (Mat.row (by assumption) _ (by omega)) (by omega) ?_)
             | (refine Ints.ix (c := 0) (by assumption) (by omega) ?_)
             | (refine Mat.ix (c := 0) (by assumption) (by omega) ?_)
             | (refine Ints.ix (c := 0) (Mat.row (by assumption) _ (by omega)) (by omega) ?_)
             | (refine Ints.ixI (by assumption) (by omega) ?_)
             | (refine Mat.ixI (by assumption) (by omega) ?_)
             | (refine Ints.ixI (Mat.row (by assumption) _ (by omega)) (by omega) ?_)
             | (refine Ints.ld (by assumption) (by omega) ?_)
             | (refine Mat.ld (by assumption) (by omega) ?_)
             | (refine Ints.ld (Mat.row (by assumption) _ (by omega)) (by omega) ?_)
             | (refine At.ld (by assumption) rfl ?_)
             | (refine At.ldN (by assumption) rfl ?_)
             | (refine Prs.ln (by assumption) ?_)
             | (refine Trs.ln (by assumption) ?_)
             | (refine Prs.ix (by assumption) (by omega) ?_)
             | (refine Trs.ix (by assumption) (by omega) ?_)
             | (refine Prs.ldN (by assumption) (by omega) ?_)
             | (refine Trs.ldN (by assumption) (by omega) ?_)
             | (refine At.ldN (Blk.at (by assumption)) rfl ?_)
             | (refine At.ld (Blk.at (by assumption)) rfl ?_)
             | (refine IxA.mk (by omega) ?_)
             | (refine Sl.ln (Own.sl (by assumption)) ?_)
             | (refine Ints.ix (Own.sl (by assumption)) (by omega) ?_)
             | (refine Ints.ixI (Own.sl (by assumption)) (by omega) ?_)
             | (refine Ints.ld (Own.sl (by assumption)) (by omega) ?_))
    refine Blk.all Hk (by kernel_rfl) (by first | decide | simp) rfl rfl (by intro v hv; simp at hv; rcases hv with rfl | rfl | rfl | rfl | rfl <;> rfl) fun w5 G5 Hk' => ?_
    have E5 : Ext w2 w5 := EL1.new G5 fun i hi hk => by omega
    replace Hk := Hk'
    replace EE := EE__1.ext E5
    replace Hb := Hb__1.ext E5
    replace EL1 := E5
    repeat' (conv => whnf
             first
             | (refine Dr.quiet tyOk (by kernel_rfl) ?_)
             | (refine Rng.mk (by omega) ?_)
             | (refine Split.pos (by omega) ?_)
             | (refine Split.neg (by omega) ?_)
             | (refine Split.mk (fun h => ?_) (fun h => ?_))
             | (refine Need.mk (by omega) ?_)
             | (refine Ints.ln (by assumption) ?_)
             | (refine Mat.ln (by assumption) ?_)
             | (refine Ints.ln (Mat.row (by assumption) _ (by omega)) ?_)
             | (refine Ints.ix (by assumption) (by omega) ?_)
             | (refine Mat.ix (by assumption) (by omega) ?_)
             | (refine Ints.ix (Mat.row (by assumption) _ (by omega)) (by omega) ?_)
             | (refine Ints.ix (c := 0) (by assumption) (by omega) ?_)
             | (refine Mat.ix (c := 0) (by assumption) (by omega) ?_)
             | (refine Ints.ix (c := 0) (Mat.row (by assumption) _ (by omega)) (by omega) ?_)
             | (refine Ints.ixI (by assumption) (by omega) ?_)
             | (refine Mat.ixI (by assumption) (by omega) ?_)
             | (refine Ints.ixI (Mat.row (by assumption) _ (by omega)) (by omega) ?_)
             | (refine Ints.ld (by assumption) (by omega) ?_)
             | (refine Mat.ld (by assumption) (by omega) ?_)
             | (refine Ints.ld (Mat.row (by assumption) _ (by omega)) (by omega) ?_)
             | (refine At.ld (by assumption) rfl ?_)
             | (refine At.ldN (by assumption) rfl ?_)
             | (refine Prs.ln (by assumption) ?_)
             | (refine Trs.ln (by assumption) ?_)
             | (refine Prs.ix (by assumption) (by omega) ?_)
             | (refine Trs.ix (by assumption) (by omega) ?_)
             | (refine Prs.ldN (by assumption) (by omega) ?_)
             | (refine Trs.ldN (by assumption) (by omega) ?_)
             | (refine At.ldN (Blk.at (by assumption)) rfl ?_)
             | (refine At.ld (Blk.at (by assumption)) rfl ?_)
             | (refine IxA.mk (by omega) ?_)
             | (refine Sl.ln (Own.sl (by assumption)) ?_)
             | (refine Ints.ix (Own.sl (by assumption)) (by omega) ?_)
             | (refine Ints.ixI (Own.sl (by assumption)) (by omega) ?_)
             | (refine Ints.ld (Own.sl (by assumption)) (by omega) ?_))
    exact ⟨rfl, EE⟩

theorem isnan_pc {w : World} {x : Int} : PC Try.prog 78 [.int .i64 x] w (.bool false) := by
  refine PC.mk tyOk Try.func78 rfl (by kernel_rfl) fun w1 E1 => ?_
  have EE := Ext.refl w1
  repeat' (conv => whnf
           first
           | (refine Dr.quiet tyOk (by kernel_rfl) ?_)
           | (refine Rng.mk (by omega) ?_)
           | (refine Split.pos (by omega) ?_)
           | (refine Split.neg (by omega) ?_)
           | (refine Split.mk (fun h => ?_) (fun h => ?_))
           | (refine Need.mk (by omega) ?_)
           | (refine Ints.ln (by assumption) ?_)
           | (refine Mat.ln (by assumption) ?_)
           | (refine Ints.ln (Mat.row (by assumption) _ (by omega)) ?_)
           | (refine Ints.ix (by assumption) (by omega) ?_)
           | (refine Mat.ix (by assumption) (by omega) ?_)
           | (refine Ints.ix (Mat.row (by assumption) _ (by omega)) (by omega) ?_)
           | (refine Ints.ix (c := 0) (by assumption) (by omega) ?_)
           | (refine Mat.ix (c := 0) (by assumption) (by omega) ?_)
           | (refine Ints.ix (c := 0) (Mat.row (by assumption) _ (by omega)) (by omega) ?_)
           | (refine Ints.ixI (by assumption) (by omega) ?_)
           | (refine Mat.ixI (by assumption) (by omega) ?_)
           | (refine Ints.ixI (Mat.row (by assumption) _ (by omega)) (by omega) ?_)
           | (refine Ints.ld (by assumption) (by omega) ?_)
           | (refine Mat.ld (by assumption) (by omega) ?_)
           | (refine Ints.ld (Mat.row (by assumption) _ (by omega)) (by omega) ?_)
           | (refine At.ld (by assumption) rfl ?_)
           | (refine At.ldN (by assumption) rfl ?_)
           | (refine Prs.ln (by assumption) ?_)
           | (refine Trs.ln (by assumption) ?_)
           | (refine Prs.ix (by assumption) (by omega) ?_)
           | (refine Trs.ix (by assumption) (by omega) ?_)
           | (refine Prs.ldN (by assumption) (by omega) ?_)
           | (refine Trs.ldN (by assumption) (by omega) ?_)
           | (refine At.ldN (Blk.at (by assumption)) rfl ?_)
           | (refine At.ld (Blk.at (by assumption)) rfl ?_)
           | (refine IxA.mk (by omega) ?_)
           | (refine Sl.ln (Own.sl (by assumption)) ?_)
           | (refine Ints.ix (Own.sl (by assumption)) (by omega) ?_)
           | (refine Ints.ixI (Own.sl (by assumption)) (by omega) ?_)
           | (refine Ints.ld (Own.sl (by assumption)) (by omega) ?_))
  all_goals first | exact ⟨rfl, EE⟩ | omega
theorem isnan64_pc {w : World} {x : Int} : PC Try.prog 79 [.int .i64 x] w (.bool false) := by
  refine PC.mk tyOk Try.func79 rfl (by kernel_rfl) fun w1 E1 => ?_
  have EE := Ext.refl w1
  repeat' (conv => whnf
           first
           | (refine Dr.quiet tyOk (by kernel_rfl) ?_)
           | (refine Rng.mk (by omega) ?_)
           | (refine Split.pos (by omega) ?_)
           | (refine Split.neg (by omega) ?_)
           | (refine Split.mk (fun h => ?_) (fun h => ?_))
           | (refine Need.mk (by omega) ?_)
           | (refine Ints.ln (by assumption) ?_)
           | (refine Mat.ln (by assumption) ?_)
           | (refine Ints.ln (Mat.row (by assumption) _ (by omega)) ?_)
           | (refine Ints.ix (by assumption) (by omega) ?_)
           | (refine Mat.ix (by assumption) (by omega) ?_)
           | (refine Ints.ix (Mat.row (by assumption) _ (by omega)) (by omega) ?_)
           | (refine Ints.ix (c := 0) (by assumption) (by omega) ?_)
           | (refine Mat.ix (c := 0) (by assumption) (by omega) ?_)
           | (refine Ints.ix (c := 0) (Mat.row (by assumption) _ (by omega)) (by omega) ?_)
           | (refine Ints.ixI (by assumption) (by omega) ?_)
           | (refine Mat.ixI (by assumption) (by omega) ?_)
           | (refine Ints.ixI (Mat.row (by assumption) _ (by omega)) (by omega) ?_)
           | (refine Ints.ld (by assumption) (by omega) ?_)
           | (refine Mat.ld (by assumption) (by omega) ?_)
           | (refine Ints.ld (Mat.row (by assumption) _ (by omega)) (by omega) ?_)
           | (refine At.ld (by assumption) rfl ?_)
           | (refine At.ldN (by assumption) rfl ?_)
           | (refine Prs.ln (by assumption) ?_)
           | (refine Trs.ln (by assumption) ?_)
           | (refine Prs.ix (by assumption) (by omega) ?_)
           | (refine Trs.ix (by assumption) (by omega) ?_)
           | (refine Prs.ldN (by assumption) (by omega) ?_)
           | (refine Trs.ldN (by assumption) (by omega) ?_)
           | (refine At.ldN (Blk.at (by assumption)) rfl ?_)
           | (refine At.ld (Blk.at (by assumption)) rfl ?_)
           | (refine IxA.mk (by omega) ?_)
           | (refine Sl.ln (Own.sl (by assumption)) ?_)
           | (refine Ints.ix (Own.sl (by assumption)) (by omega) ?_)
           | (refine Ints.ixI (Own.sl (by assumption)) (by omega) ?_)
           | (refine Ints.ld (Own.sl (by assumption)) (by omega) ?_))
  all_goals first | exact ⟨rfl, EE⟩ | omega
theorem compare_pc {w : World} {x y : Int} : PC Try.prog 61 [.int .i64 x, .int .i64 y] w (.int .i64 (cmpI x y)) := by
  refine PC.mk tyOk Try.func61 rfl (by kernel_rfl) fun w1 E1 => ?_
  have EE := Ext.refl w1
  repeat' (conv => whnf
           first
           | (refine Dr.quiet tyOk (by kernel_rfl) ?_)
           | (refine VC.pure isnan_pc ?_)
           | (refine VCQ.pure isnan_pc ?_)
           | (refine Rng.mk (by omega) ?_)
           | (refine Split.pos (by omega) ?_)
           | (refine Split.neg (by omega) ?_)
           | (refine Split.mk (fun h => ?_) (fun h => ?_))
           | (refine Need.mk (by omega) ?_)
           | (refine Ints.ln (by assumption) ?_)
           | (refine Mat.ln (by assumption) ?_)
           | (refine Ints.ln (Mat.row (by assumption) _ (by omega)) ?_)
           | (refine Ints.ix (by assumption) (by omega) ?_)
           | (refine Mat.ix (by assumption) (by omega) ?_)
           | (refine Ints.ix (Mat.row (by assumption) _ (by omega)) (by omega) ?_)
           | (refine Ints.ix (c := 0) (by assumption) (by omega) ?_)
           | (refine Mat.ix (c := 0) (by assumption) (by omega) ?_)
           | (refine Ints.ix (c := 0) (Mat.row (by assumption) _ (by omega)) (by omega) ?_)
           | (refine Ints.ixI (by assumption) (by omega) ?_)
           | (refine Mat.ixI (by assumption) (by omega) ?_)
           | (refine Ints.ixI (Mat.row (by assumption) _ (by omega)) (by omega) ?_)
           | (refine Ints.ld (by assumption) (by omega) ?_)
           | (refine Mat.ld (by assumption) (by omega) ?_)
           | (refine Ints.ld (Mat.row (by assumption) _ (by omega)) (by omega) ?_)
           | (refine At.ld (by assumption) rfl ?_)
           | (refine At.ldN (by assumption) rfl ?_)
           | (refine Prs.ln (by assumption) ?_)
           | (refine Trs.ln (by assumption) ?_)
           | (refine Prs.ix (by assumption) (by omega) ?_)
           | (refine Trs.ix (by assumption) (by omega) ?_)
           | (refine Prs.ldN (by assumption) (by omega) ?_)
           | (refine Trs.ldN (by assumption) (by omega) ?_)
           | (refine At.ldN (Blk.at (by assumption)) rfl ?_)
           | (refine At.ld (Blk.at (by assumption)) rfl ?_)
           | (refine IxA.mk (by omega) ?_)
           | (refine Sl.ln (Own.sl (by assumption)) ?_)
           | (refine Ints.ix (Own.sl (by assumption)) (by omega) ?_)
           | (refine Ints.ixI (Own.sl (by assumption)) (by omega) ?_)
           | (refine Ints.ld (Own.sl (by assumption)) (by omega) ?_))
  all_goals first
    | (rw [cmpI_lt (by omega)]; exact ⟨rfl, EE⟩)
    | (rw [cmpI_gt (by omega)]; exact ⟨rfl, EE⟩)
    | (obtain rfl : x = y := by omega
       rw [cmpI_eq]; exact ⟨rfl, EE⟩)
theorem compare64_pc {w : World} {x y : Int} : PC Try.prog 62 [.int .i64 x, .int .i64 y] w (.int .i64 (cmpI x y)) := by
  refine PC.mk tyOk Try.func62 rfl (by kernel_rfl) fun w1 E1 => ?_
  have EE := Ext.refl w1
  repeat' (conv => whnf
           first
           | (refine Dr.quiet tyOk (by kernel_rfl) ?_)
           | (refine VC.pure isnan64_pc ?_)
           | (refine VCQ.pure isnan64_pc ?_)
           | (refine Rng.mk (by omega) ?_)
           | (refine Split.pos (by omega) ?_)
           | (refine Split.neg (by omega) ?_)
           | (refine Split.mk (fun h => ?_) (fun h => ?_))
           | (refine Need.mk (by omega) ?_)
           | (refine Ints.ln (by assumption) ?_)
           | (refine Mat.ln (by assumption) ?_)
           | (refine Ints.ln (Mat.row (by assumption) _ (by omega)) ?_)
           | (refine Ints.ix (by assumption) (by omega) ?_)
           | (refine Mat.ix (by assumption) (by omega) ?_)
           | (refine Ints.ix (Mat.row (by assumption) _ (by omega)) (by omega) ?_)
           | (refine Ints.ix (c := 0) (by assumption) (by omega) ?_)
           | (refine Mat.ix (c := 0) (by assumption) (by omega) ?_)
           | (refine Ints.ix (c := 0) (Mat.row (by assumption) _ (by omega)) (by omega) ?_)
           | (refine Ints.ixI (by assumption) (by omega) ?_)
           | (refine Mat.ixI (by assumption) (by omega) ?_)
           | (refine Ints.ixI (Mat.row (by assumption) _ (by omega)) (by omega) ?_)
           | (refine Ints.ld (by assumption) (by omega) ?_)
           | (refine Mat.ld (by assumption) (by omega) ?_)
           | (refine Ints.ld (Mat.row (by assumption) _ (by omega)) (by omega) ?_)
           | (refine At.ld (by assumption) rfl ?_)
           | (refine At.ldN (by assumption) rfl ?_)
           | (refine Prs.ln (by assumption) ?_)
           | (refine Trs.ln (by assumption) ?_)
           | (refine Prs.ix (by assumption) (by omega) ?_)
           | (refine Trs.ix (by assumption) (by omega) ?_)
           | (refine Prs.ldN (by assumption) (by omega) ?_)
           | (refine Trs.ldN (by assumption) (by omega) ?_)
           | (refine At.ldN (Blk.at (by assumption)) rfl ?_)
           | (refine At.ld (Blk.at (by assumption)) rfl ?_)
           | (refine IxA.mk (by omega) ?_)
           | (refine Sl.ln (Own.sl (by assumption)) ?_)
           | (refine Ints.ix (Own.sl (by assumption)) (by omega) ?_)
           | (refine Ints.ixI (Own.sl (by assumption)) (by omega) ?_)
           | (refine Ints.ld (Own.sl (by assumption)) (by omega) ?_))
  all_goals first
    | (rw [cmpI_lt (by omega)]; exact ⟨rfl, EE⟩)
    | (rw [cmpI_gt (by omega)]; exact ⟨rfl, EE⟩)
    | (obtain rfl : x = y := by omega
       rw [cmpI_eq]; exact ⟨rfl, EE⟩)
end Go.Proofs.Ytkgogljfngplnaa
set_option linter.unusedVariables false
set_option linter.unusedSimpArgs false
namespace Go.Proofs.Ytkgogljfngplnaa
open Go.Eng
set_option maxRecDepth 100000
set_option maxHeartbeats 4000000

theorem cmpor_pc {w : World} {lv : Value} {x y z : Int} (Hl : Ints w lv [x, y, z]) : PC Try.prog 60 [lv] w (.int .i64 (if x ≠ 0 then x else if y ≠ 0 then y else z)) := by
  refine PC.mk tyOk Try.func60 rfl (by kernel_rfl) fun w1 E1 => ?_
  replace Hl := Hl.ext E1
  have EE := Ext.refl w1
  have hl3 : [x, y, z].length = 3 := rfl
  repeat' (conv => whnf
           first
           | (refine Dr.quiet tyOk (by kernel_rfl) ?_)
           | (refine Rng.mk (by omega) ?_)
           | (refine Split.pos (by omega) ?_)
           | (refine Split.neg (by omega) ?_)
           | (refine Split.mk (fun h => ?_) (fun h => ?_))
           | (refine Need.mk (by omega) ?_)
           | (refine Ints.ln (by assumption) ?_)
           | (refine Mat.ln (by assumption) ?_)
           | (refine Ints.ln (Mat.row (by assumption) _ (by omega)) ?_)
           | (refine Ints.ix (by assumption) (by omega) ?_)
           | (refine Mat.ix (by assumption) (by omega) ?_)
           | (refine Ints.ix (Mat.row (by assumption) _ (by omega)) (by omega) ?_)
           | (refine Ints.ix (c := 0) (by assumption) (by omega) ?_)
           | (refine Mat.ix (c := 0) (by assumption) (by omega) ?_)
           | (refine Ints.ix (c := 0) (Mat.row (by assumption) _ (by omega)) (by omega) ?_)
           | (refine Ints.ixI (by assumption) (by omega) ?_)
           | (refine Mat.ixI (by assumption) (by omega) ?_)
           | (refine Ints.ixI (Mat.row (by assumption) _ (by omega)) (by omega) ?_)
           | (refine Ints.ld (by assumption) (by omega) ?_)
           | (refine Mat.ld (by assumption) (by omega) ?_)
           | (refine Ints.ld (Mat.row (by assumption) _ (by omega)) (by omega) ?_)
           | (refine At.ld (by assumption) rfl ?_)
           | (refine At.ldN (by assumption) rfl ?_)
           | (refine Prs.ln (by assumption) ?_)
           | (refine Trs.ln (by assumption) ?_)
           | (refine Prs.ix (by assumption) (by omega) ?_)
           | (refine Trs.ix (by assumption) (by omega) ?_)
           | (refine Prs.ldN (by assumption) (by omega) ?_)
           | (refine Trs.ldN (by assumption) (by omega) ?_)
           | (refine At.ldN (Blk.at (by assumption)) rfl ?_)
           | (refine At.ld (Blk.at (by assumption)) rfl ?_)
           | (refine IxA.mk (by omega) ?_)
           | (refine Sl.ln (Own.sl (by assumption)) ?_)
           | (refine Ints.ix (Own.sl (by assumption)) (by omega) ?_)
           | (refine Ints.ixI (Own.sl (by assumption)) (by omega) ?_)
           | (refine Ints.ld (Own.sl (by assumption)) (by omega) ?_))
  refine Lp.mk tyOk [false, false, true, false, false, true, false, false, true, true, true, true, true, true, true, true, true] (fun m fr wr => getK fr 8 fun j => ∃ c : Nat, c ≤ 3 ∧ m = 3 - c ∧ j = .int .i64 (c : Int) ∧ (∀ i, i < c → [x, y, z].getD i 0 = 0) ∧ wr = w1) (3) ?_ ?_
  · exact ⟨0, Nat.zero_le _, rfl, rfl, (by first | exact fun _ hi => absurd hi (Nat.not_lt_zero _) | exact fun _ _ hi => absurd hi (Nat.not_lt_zero _) | assumption | exact Own.nil | omega | simp), rfl⟩
  · intro m w2 u2 u5 u8 u9 u10 u11 u12 u13 u14 u15 u16 hR
    obtain ⟨c, hc, rfl, rfl, hv, rfl⟩ := hR
    have hx := hv 0
    have hy := hv 1
    have hz := hv 2
    have ex : [x, y, z].getD 0 0 = x := rfl
    have ey : [x, y, z].getD 1 0 = y := rfl
    have ez : [x, y, z].getD 2 0 = z := rfl
    by_cases h0 : c = 0
    · have hg : [x, y, z].getD c 0 = x := by rw [h0]; rfl
      repeat' (conv => whnf
               first
               | (refine Dr.quiet tyOk (by kernel_rfl) ?_)
               | (refine Rng.mk (by omega) ?_)
               | (refine Split.pos (by omega) ?_)
               | (refine Split.neg (by omega) ?_)
               | (refine Split.mk (fun h => ?_) (fun h => ?_))
               | (refine Need.mk (by omega) ?_)
               | (refine Ints.ln (by assumption) ?_)
               | (refine Mat.ln (by assumption) ?_)
               | (refine Ints.ln (Mat.row (by assumption) _ (by omega)) ?_)
               | (refine Ints.ix (by assumption) (by omega) ?_)
               | (refine Mat.ix (by assumption) (by omega) ?_)
               | (refine Ints.ix (Mat.row (by assumption) _ (by omega)) (by omega) ?_)
               | (refine Ints.ix (c := 0) (by assumption) (by omega) ?_)
               | (refine Mat.ix (c := 0) (by assumption) (by omega) ?_)
               | (refine Ints.ix (c := 0) (Mat.row (by assumption) _ (by omega)) (by omega) ?_)
               | (refine Ints.ixI (by assumption) (by omega) ?_)
               | (refine Mat.ixI (by assumption) (by omega) ?_)
               | (refine Ints.ixI (Mat.row (by assumption) _ (by omega)) (by omega) ?_)
               | (refine Ints.ld (by assumption) (by omega) ?_)
               | (refine Mat.ld (by assumption) (by omega) ?_)
               | (refine Ints.ld (Mat.row (by assumption) _ (by omega)) (by omega) ?_)
               | (refine At.ld (by assumption) rfl ?_)
               | (refine At.ldN (by assumption) rfl ?_)
               | (refine Prs.ln (by assumption) ?_)
               | (refine Trs.ln (by assumption) ?_)
               | (refine Prs.ix (by assumption) (by omega) ?_)
               | (refine Trs.ix (by assumption) (by omega) ?_)
               | (refine Prs.ldN (by assumption) (by omega) ?_)
               | (refine Trs.ldN (by assumption) (by omega) ?_)
               | (refine At.ldN (Blk.at (by assumption)) rfl ?_)
               | (refine At.ld (Blk.at (by assumption)) rfl ?_)
               | (refine IxA.mk (by omega) ?_)
               | (refine Sl.ln (Own.sl (by assumption)) ?_)
               | (refine Ints.ix (Own.sl (by assumption)) (by omega) ?_)
               | (refine Ints.ixI (Own.sl (by assumption)) (by omega) ?_)
               | (refine Ints.ld (Own.sl (by assumption)) (by omega) ?_))
      · refine ⟨_, (by omega : 3 - (c + 1) < 3 - c), rfl, c + 1, by omega, rfl, rfl, all_succ hv (by omega), rfl⟩
      · rw [if_pos (by omega : x ≠ 0)]; exact ⟨congrArg (Value.int .i64) hg, EE⟩
    by_cases h1 : c = 1
    · have hg : [x, y, z].getD c 0 = y := by rw [h1]; rfl
      repeat' (conv => whnf
               first
               | (refine Dr.quiet tyOk (by kernel_rfl) ?_)
               | (refine Rng.mk (by omega) ?_)
               | (refine Split.pos (by omega) ?_)
               | (refine Split.neg (by omega) ?_)
               | (refine Split.mk (fun h => ?_) (fun h => ?_))
               | (refine Need.mk (by omega) ?_)
               | (refine Ints.ln (by assumption) ?_)
               | (refine Mat.ln (by assumption) ?_)
               | (refine Ints.ln (Mat.row (by assumption) _ (by omega)) ?_)
               | (refine Ints.ix (by assumption) (by omega) ?_)
               | (refine Mat.ix (by assumption) (by omega) ?_)
               | (refine Ints.ix (Mat.row (by assumption) _ (by omega)) (by omega) ?_)
               | (refine Ints.ix (c := 0) (by assumption) (by omega) ?_)
               | (refine Mat.ix (c := 0) (by assumption) (by omega) ?_)
               | (refine Ints.ix (c := 0) (Mat.row (by assumption) _ (by omega)) (by omega) ?_)
               | (refine Ints.ixI (by assumption) (by omega) ?_)
               | (refine Mat.ixI (by assumption) (by omega) ?_)
               | (refine Ints.ixI (Mat.row (by assumption) _ (by omega)) (by omega) ?_)
               | (refine Ints.ld (by assumption) (by omega) ?_)
               | (refine Mat.ld (by assumption) (by omega) ?_)
               | (refine Ints.ld (Mat.row (by assumption) _ (by omega)) (by omega) ?_)
               | (refine At.ld (by assumption) rfl ?_)
               | (refine At.ldN (by assumption) rfl ?_)
               | (refine Prs.ln (by assumption) ?_)
               | (refine Trs.ln (by assumption) ?_)
               | (refine Prs.ix (by assumption) (by omega) ?_)
               | (refine Trs.ix (by assumption) (by omega) ?_)
               | (refine Prs.ldN (by assumption) (by omega) ?_)
               | (refine Trs.ldN (by assumption) (by omega) ?_)
               | (refine At.ldN (Blk.at (by assumption)) rfl ?_)
               | (refine At.ld (Blk.at (by assumption)) rfl ?_)
               | (refine IxA.mk (by omega) ?_)
               | (refine Sl.ln (Own.sl (by assumption)) ?_)
               | (refine Ints.ix (Own.sl (by assumption)) (by omega) ?_)
               | (refine Ints.ixI (Own.sl (by assumption)) (by omega) ?_)
               | (refine Ints.ld (Own.sl (by assumption)) (by omega) ?_))
      · refine ⟨_, (by omega : 3 - (c + 1) < 3 - c), rfl, c + 1, by omega, rfl, rfl, all_succ hv (by omega), rfl⟩
      · rw [if_neg (by omega : ¬ x ≠ 0), if_pos (by omega : y ≠ 0)]; exact ⟨congrArg (Value.int .i64) hg, EE⟩
    by_cases h2 : c = 2
    · have hg : [x, y, z].getD c 0 = z := by rw [h2]; rfl
      repeat' (conv => whnf
               first
               | (refine Dr.quiet tyOk (by kernel_rfl) ?_)
               | (refine Rng.mk (by omega) ?_)
               | (refine Split.pos (by omega) ?_)
               | (refine Split.neg (by omega) ?_)
               | (refine Split.mk (fun h => ?_) (fun h => ?_))
               | (refine Need.mk (by omega) ?_)
               | (refine Ints.ln (by assumption) ?_)
               | (refine Mat.ln (by assumption) ?_)
               | (refine Ints.ln (Mat.row (by assumption) _ (by omega)) ?_)
               | (refine Ints.ix (by assumption) (by omega) ?_)
               | (refine Mat.ix (by assumption) (by omega) ?_)
               | (refine Ints.ix (Mat.row (by assumption) _ (by omega)) (by omega) ?_)
               | (refine Ints.ix (c := 0) (by assumption) (by omega) ?_)
               | (refine Mat.ix (c := 0) (by assumption) (by omega) ?_)
               | (refine Ints.ix (c := 0) (Mat.row (by assumption) _ (by omega)) (by omega) ?_)
               | (refine Ints.ixI (by assumption) (by omega) ?_)
               | (refine Mat.ixI (by assumption) (by omega) ?_)
               | (refine Ints.ixI (Mat.row (by assumption) _ (by omega)) (by omega) ?_)
               | (refine Ints.ld (by assumption) (by omega) ?_)
               | (refine Mat.ld (by assumption) (by omega) ?_)
               | (refine Ints.ld (Mat.row (by assumption) _ (by omega)) (by omega) ?_)
               | (refine At.ld (by assumption) rfl ?_)
               | (refine At.ldN (by assumption) rfl ?_)
               | (refine Prs.ln (by assumption) ?_)
               | (refine Trs.ln (by assumption) ?_)
               | (refine Prs.ix (by assumption) (by omega) ?_)
               | (refine Trs.ix (by assumption) (by omega) ?_)
               | (refine Prs.ldN (by assumption) (by omega) ?_)
               | (refine Trs.ldN (by assumption) (by omega) ?_)
               | (refine At.ldN (Blk.at (by assumption)) rfl ?_)
               | (refine At.ld (Blk.at (by assumption)) rfl ?_)
               | (refine IxA.mk (by omega) ?_)
               | (refine Sl.ln (Own.sl (by assumption)) ?_)
               | (refine Ints.ix (Own.sl (by assumption)) (by omega) ?_)
               | (refine Ints.ixI (Own.sl (by assumption)) (by omega) ?_)
               | (refine Ints.ld (Own.sl (by assumption)) (by omega) ?_))
      · refine ⟨_, (by omega : 3 - (c + 1) < 3 - c), rfl, c + 1, by omega, rfl, rfl, all_succ hv (by omega), rfl⟩
      · rw [if_neg (by omega : ¬ x ≠ 0), if_neg (by omega : ¬ y ≠ 0)]; exact ⟨congrArg (Value.int .i64) hg, EE⟩
    · obtain rfl : c = 3 := by omega
      repeat' (conv => whnf
               first
               | (refine Dr.quiet tyOk (by kernel_rfl) ?_)
               | (refine Rng.mk (by omega) ?_)
               | (refine Split.pos (by omega) ?_)
               | (refine Split.neg (by omega) ?_)
               | (refine Split.mk (fun h => ?_) (fun h => ?_))
               | (refine Need.mk (by omega) ?_)
               | (refine Ints.ln (by assumption) ?_)
               | (refine Mat.ln (by assumption) ?_)
               | (refine Ints.ln (Mat.row (by assumption) _ (by omega)) ?_)
               | (refine Ints.ix (by assumption) (by omega) ?_)
               | (refine Mat.ix (by assumption) (by omega) ?_)
               | (refine Ints.ix (Mat.row (by assumption) _ (by omega)) (by omega) ?_)
               | (refine Ints.ix (c := 0) (by assumption) (by omega) ?_)
               | (refine Mat.ix (c := 0) (by assumption) (by omega) ?_)
               | (refine Ints.ix (c := 0) (Mat.row (by assumption) _ (by omega)) (by omega) ?_)
               | (refine Ints.ixI (by assumption) (by omega) ?_)
               | (refine Mat.ixI (by assumption) (by omega) ?_)
               | (refine Ints.ixI (Mat.row (by assumption) _ (by omega)) (by omega) ?_)
               | (refine Ints.ld (by assumption) (by omega) ?_)
               | (refine Mat.ld (by assumption) (by omega) ?_)
               | (refine Ints.ld (Mat.row (by assumption) _ (by omega)) (by omega) ?_)
               | (refine At.ld (by assumption) rfl ?_)
               | (refine At.ldN (by assumption) rfl ?_)
               | (refine Prs.ln (by assumption) ?_)
               | (refine Trs.ln (by assumption) ?_)
               | (refine Prs.ix (by assumption) (by omega) ?_)
               | (refine Trs.ix (by assumption) (by omega) ?_)
               | (refine Prs.ldN (by assumption) (by omega) ?_)
               | (refine Trs.ldN (by assumption) (by omega) ?_)
               | (refine At.ldN (Blk.at (by assumption)) rfl ?_)
               | (refine At.ld (Blk.at (by assumption)) rfl ?_)
               | (refine IxA.mk (by omega) ?_)
               | (refine Sl.ln (Own.sl (by assumption)) ?_)
               | (refine Ints.ix (Own.sl (by assumption)) (by omega) ?_)
               | (refine Ints.ixI (Own.sl (by assumption)) (by omega) ?_)
               | (refine Ints.ld (Own.sl (by assumption)) (by omega) ?_))
      rw [if_neg (by omega : ¬ x ≠ 0), if_neg (by omega : ¬ y ≠ 0), show z = 0 by omega]; exact ⟨rfl, EE⟩

theorem ncmp_pc {w : World} {p q : T3} : PC Try.prog 27 [PV p, PV q] w (.int .i64 (cmpP p q)) := by
  refine PC.mk tyOk Try.func27 rfl (by kernel_rfl) fun w1 E1 => ?_
  have EE := Ext.refl w1
  refine Bx.agg fun b2 w2 E2 hb2 Hb _ => ?_
  replace EE := EE.ext E2
  refine Bx.agg fun b3 w3 E3 hb3 Hc _ => ?_
  replace EE := EE.ext E3
  replace Hb := Hb.ext E3
  repeat' (conv => whnf
           first
           | (refine Dr.plan 5 [16] (.q 0 (.q 1 (.q 2 (.q 3 (.q 5 (.q 6 (.q 7 (.q 8 (.q 10 (.q 11 (.q 12 (.q 13 (.e 4 (.e 9 (.e 14 (.e 15 (.e 16 (.q 17 .nil) .nil) .nil) .nil) .nil) .nil))))))))))))) tyOk rfl (by kernel_rfl) ?_)
           | (refine Dr.quiet tyOk (by kernel_rfl) ?_)
           | (refine VCX.pure compare_pc ?_)
           | (refine VCX.pure compare64_pc ?_)
           | (refine And.intro ?_ ?_)
           | (refine Rng.mk (by omega) ?_)
           | (refine Split.pos (by omega) ?_)
           | (refine Split.neg (by omega) ?_)
           | (refine Split.mk (fun h => ?_) (fun h => ?_))
           | (refine Need.mk (by omega) ?_)
           | (refine Ints.ln (by assumption) ?_)
           | (refine Mat.ln (by assumption) ?_)
           | (refine Ints.ln (Mat.row (by assumption) _ (by omega)) ?_)
           | (refine Ints.ix (by assumption) (by omega) ?_)
           | (refine Mat.ix (by assumption) (by omega) ?_)
           | (refine Ints.ix (Mat.row (by assumption) _ (by omega)) (by omega) ?_)
           | (refine Ints.ix (c := 0) (by assumption) (by omega) ?_)
           | (refine Mat.ix (c := 0) (by assumption) (by omega) ?_)
           | (refine Ints.ix (c := 0) (Mat.row (by assumption) _ (by omega)) (by omega) ?_)
           | (refine Ints.ixI (by assumption) (by omega) ?_)
           | (refine Mat.ixI (by assumption) (by omega) ?_)
           | (refine Ints.ixI (Mat.row (by assumption) _ (by omega)) (by omega) ?_)
           | (refine Ints.ld (by assumption) (by omega) ?_)
           | (refine Mat.ld (by assumption) (by omega) ?_)
           | (refine Ints.ld (Mat.row (by assumption) _ (by omega)) (by omega) ?_)
           | (refine At.ld (by assumption) rfl ?_)
           | (refine At.ldN (by assumption) rfl ?_)
           | (refine Prs.ln (by assumption) ?_)
           | (refine Trs.ln (by assumption) ?_)
           | (refine Prs.ix (by assumption) (by omega) ?_)
           | (refine Trs.ix (by assumption) (by omega) ?_)
           | (refine Prs.ldN (by assumption) (by omega) ?_)
           | (refine Trs.ldN (by assumption) (by omega) ?_)
           | (refine At.ldN (Blk.at (by assumption)) rfl ?_)
           | (refine At.ld (Blk.at (by assumption)) rfl ?_)
           | (refine IxA.mk (by omega) ?_)
           | (refine Sl.ln (Own.sl (by assumption)) ?_)
           | (refine Ints.ix (Own.sl (by assumption)) (by omega) ?_)
           | (refine Ints.ixI (Own.sl (by assumption)) (by omega) ?_)
           | (refine Ints.ld (Own.sl (by assumption)) (by omega) ?_))
  conv => whnf
  refine VX.litI [cmpI p.1 q.1, cmpI p.2.1 q.2.1, cmpI p.2.2 q.2.2] Try.underlying27 eInt (by simp) fun lv w4 E4 HL _ => ?_
  replace HL := HL 0 (Nat.zero_le _)
  replace EE := EE.ext E4
  replace Hb := Hb.ext E4
  replace Hc := Hc.ext E4
  have co := cmpor_pc (Own.sl HL)
  repeat' (conv => whnf
           first
           | (refine Dr.quiet tyOk (by kernel_rfl) ?_)
           | (refine VC.pure co ?_)
           | (refine VCX.pure co ?_)
           | (refine Rng.mk (by omega) ?_)
           | (refine Split.pos (by omega) ?_)
           | (refine Split.neg (by omega) ?_)
           | (refine Split.mk (fun h => ?_) (fun h => ?_))
           | (refine Need.mk (by omega) ?_)
           | (refine Ints.ln (by assumption) ?_)
           | (refine Mat.ln (by assumption) ?_)
           | (refine Ints.ln (Mat.row (by assumption) _ (by omega)) ?_)
           | (refine Ints.ix (by assumption) (by omega) ?_)
           | (refine Mat.ix (by assumption) (by omega) ?_)
           | (refine Ints.ix (Mat.row (by assumption) _ (by omega)) (by omega) ?_)
           | (refine Ints.ix (c := 0) (by assumption) (by omega) ?_)
           | (refine Mat.ix (c := 0) (by assumption) (by omega) ?_)
           | (refine Ints.ix (c := 0) (Mat.row (by assumption) _ (by omega)) (by omega) ?_)
           | (refine Ints.ixI (by assumption) (by omega) ?_)
           | (refine Mat.ixI (by assumption) (by omega) ?_)
           | (refine Ints.ixI (Mat.row (by assumption) _ (by omega)) (by omega) ?_)
           | (refine Ints.ld (by assumption) (by omega) ?_)
           | (refine Mat.ld (by assumption) (by omega) ?_)
           | (refine Ints.ld (Mat.row (by assumption) _ (by omega)) (by omega) ?_)
           | (refine At.ld (by assumption) rfl ?_)
           | (refine At.ldN (by assumption) rfl ?_)
           | (refine Prs.ln (by assumption) ?_)
           | (refine Trs.ln (by assumption) ?_)
           | (refine Prs.ix (by assumption) (by omega) ?_)
           | (refine Trs.ix (by assumption) (by omega) ?_)
           | (refine Prs.ldN (by assumption) (by omega) ?_)
           | (refine Trs.ldN (by assumption) (by omega) ?_)
           | (refine At.ldN (Blk.at (by assumption)) rfl ?_)
           | (refine At.ld (Blk.at (by assumption)) rfl ?_)
           | (refine IxA.mk (by omega) ?_)
           | (refine Sl.ln (Own.sl (by assumption)) ?_)
           | (refine Ints.ix (Own.sl (by assumption)) (by omega) ?_)
           | (refine Ints.ixI (Own.sl (by assumption)) (by omega) ?_)
           | (refine Ints.ld (Own.sl (by assumption)) (by omega) ?_))
  exact ⟨rfl, EE⟩

theorem nprod_pc {w : World} {lv : Value} {l : List Int} (Hl : Ints w lv l) (h6 : l.length ≤ 6) (hb : ∀ i, l.getD i 0 ≤ 10000) : PC Try.prog 80 [lv] w (PV (pr (fun i => l.getD i 0) l.length)) := by
  refine PC.mk tyOk Try.func80 rfl (by kernel_rfl) fun w1 E1 => ?_
  replace Hl := Hl.ext E1
  have EE := Ext.refl w1
  have Hl__1 := Hl
  have EE__1 := EE
  conv => whnf
  refine VE.alloc eProd fun rb w2 E2 hb_rb Hr => ?_
  replace Hl := Hl.ext E2
  replace EE := EE.ext E2
  have EL1 := E2
  repeat' (conv => whnf
           first
           | (refine Dr.quiet tyOk (by kernel_rfl) ?_)
           | (refine VS.sparse (ps := [(2, .int .i64 1)]) Try.underlying41 eProd (by decide +kernel) rfl (by intro p hp; simp at hp; subst hp; exact ⟨by decide, rfl⟩) rfl ?_)
           | (refine Rng.mk (by omega) ?_)
           | (refine Split.pos (by omega) ?_)
           | (refine Split.neg (by omega) ?_)
           | (refine Split.mk (fun h => ?_) (fun h => ?_))
           | (refine Need.mk (by omega) ?_)
           | (refine Ints.ln (by assumption) ?_)
           | (refine Mat.ln (by assumption) ?_)
           | (refine Ints.ln (Mat.row (by assumption) _ (by omega)) ?_)
           | (refine Ints.ix (by assumption) (by omega) ?_)
           | (refine Mat.ix (by assumption) (by omega) ?_)
           | (refine Ints.ix (Mat.row (by assumption) _ (by omega)) (by omega) ?_)
           | (refine Ints.ix (c := 0) (by assumption) (by omega) ?_)
           | (refine Mat.ix (c := 0) (by assumption) (by omega) ?_)
           | (refine Ints.ix (c := 0) (Mat.row (by assumption) _ (by omega)) (by omega) ?_)
           | (refine Ints.ixI (by assumption) (by omega) ?_)
           | (refine Mat.ixI (by assumption) (by omega) ?_)
           | (refine Ints.ixI (Mat.row (by assumption) _ (by omega)) (by omega) ?_)
           | (refine Ints.ld (by assumption) (by omega) ?_)
           | (refine Mat.ld (by assumption) (by omega) ?_)
           | (refine Ints.ld (Mat.row (by assumption) _ (by omega)) (by omega) ?_)
           | (refine At.ld (by assumption) rfl ?_)
           | (refine At.ldN (by assumption) rfl ?_)
           | (refine Prs.ln (by assumption) ?_)
           | (refine Trs.ln (by assumption) ?_)
           | (refine Prs.ix (by assumption) (by omega) ?_)
           | (refine Trs.ix (by assumption) (by omega) ?_)
           | (refine Prs.ldN (by assumption) (by omega) ?_)
           | (refine Trs.ldN (by assumption) (by omega) ?_)
           | (refine At.ldN (Blk.at (by assumption)) rfl ?_)
           | (refine At.ld (Blk.at (by assumption)) rfl ?_)
           | (refine IxA.mk (by omega) ?_)
           | (refine Sl.ln (Own.sl (by assumption)) ?_)
           | (refine Ints.ix (Own.sl (by assumption)) (by omega) ?_)
           | (refine Ints.ixI (Own.sl (by assumption)) (by omega) ?_)
           | (refine Ints.ld (Own.sl (by assumption)) (by omega) ?_))
  have Hl__2 := Hl
  have EE__2 := EE
  have EL1__2 := EL1
  have Hr__2 := Hr
  conv => whnf
  refine VE.alloc eProd fun pb w3 E3 hb_pb Hp => ?_
  replace Hl := Hl.ext E3
  replace EE := EE.ext E3
  replace EL1 := EL1.ext E3
  replace Hr := Hr.ext E3
  have EL2 := E3
  repeat' (conv => whnf
           first
           | (refine Dr.quiet tyOk (by kernel_rfl) ?_)
           | (refine Rng.mk (by omega) ?_)
           | (refine Split.pos (by omega) ?_)
           | (refine Split.neg (by omega) ?_)
           | (refine Split.mk (fun h => ?_) (fun h => ?_))
           | (refine Need.mk (by omega) ?_)
           | (refine Ints.ln (by assumption) ?_)
           | (refine Mat.ln (by assumption) ?_)
           | (refine Ints.ln (Mat.row (by assumption) _ (by omega)) ?_)
           | (refine Ints.ix (by assumption) (by omega) ?_)
           | (refine Mat.ix (by assumption) (by omega) ?_)
           | (refine Ints.ix (Mat.row (by assumption) _ (by omega)) (by omega) ?_)
           | (refine Ints.ix (c := 0) (by assumption) (by omega) ?_)
           | (refine Mat.ix (c := 0) (by assumption) (by omega) ?_)
           | (refine Ints.ix (c := 0) (Mat.row (by assumption) _ (by omega)) (by omega) ?_)
           | (refine Ints.ixI (by assumption) (by omega) ?_)
           | (refine Mat.ixI (by assumption) (by omega) ?_)
           | (refine Ints.ixI (Mat.row (by assumption) _ (by omega)) (by omega) ?_)
           | (refine Ints.ld (by assumption) (by omega) ?_)
           | (refine Mat.ld (by assumption) (by omega) ?_)
           | (refine Ints.ld (Mat.row (by assumption) _ (by omega)) (by omega) ?_)
           | (refine At.ld (by assumption) rfl ?_)
           | (refine At.ldN (by assumption) rfl ?_)
           | (refine Prs.ln (by assumption) ?_)
           | (refine Trs.ln (by assumption) ?_)
           | (refine Prs.ix (by assumption) (by omega) ?_)
           | (refine Trs.ix (by assumption) (by omega) ?_)
           | (refine Prs.ldN (by assumption) (by omega) ?_)
           | (refine Trs.ldN (by assumption) (by omega) ?_)
           | (refine At.ldN (Blk.at (by assumption)) rfl ?_)
           | (refine At.ld (Blk.at (by assumption)) rfl ?_)
           | (refine IxA.mk (by omega) ?_)
           | (refine Sl.ln (Own.sl (by assumption)) ?_)
           | (refine Ints.ix (Own.sl (by assumption)) (by omega) ?_)
           | (refine Ints.ixI (Own.sl (by assumption)) (by omega) ?_)
           | (refine Ints.ld (Own.sl (by assumption)) (by omega) ?_))
  refine Blk.all Hp (by kernel_rfl) (by first | decide | simp) rfl rfl (by intro v hv; simp at hv; rcases hv with rfl | rfl | rfl | rfl | rfl <;> rfl) fun w4 G4 Hp' => ?_
  have E4 : Ext w2 w4 := EL2.new G4 fun i hi hk => by omega
  replace Hp := Hp'
  replace Hl := Hl__2.ext E4
  replace EE := EE__2.ext E4
  replace EL1 := EL1__2.ext E4
  replace Hr := Hr__2.ext E4
  replace EL2 := E4
  have Hp0 : Blk w4 pb 41 [.int .i64 (pr (fun i => l.getD i 0) 0).1, .int .i64 (pr (fun i => l.getD i 0) 0).2.1, .int .i64 (pr (fun i => l.getD i 0) 0).2.2] := Hp
  have hne : pb ≠ rb := by have := Blk.lt Hr__2; omega
  replace Hp := Hp0
  have hle := Hl.le
  repeat' (conv => whnf
           first
           | (refine Dr.quiet tyOk (by kernel_rfl) ?_)
           | (refine Rng.mk (by omega) ?_)
           | (refine Split.pos (by omega) ?_)
           | (refine Split.neg (by omega) ?_)
           | (refine Split.mk (fun h => ?_) (fun h => ?_))
           | (refine Need.mk (by omega) ?_)
           | (refine Ints.ln (by assumption) ?_)
           | (refine Mat.ln (by assumption) ?_)
           | (refine Ints.ln (Mat.row (by assumption) _ (by omega)) ?_)
           | (refine Ints.ix (by assumption) (by omega) ?_)
           | (refine Mat.ix (by assumption) (by omega) ?_)
           | (refine Ints.ix (Mat.row (by assumption) _ (by omega)) (by omega) ?_)
           | (refine Ints.ix (c := 0) (by assumption) (by omega) ?_)
           | (refine Mat.ix (c := 0) (by assumption) (by omega) ?_)
           | (refine Ints.ix (c := 0) (Mat.row (by assumption) _ (by omega)) (by omega) ?_)
           | (refine Ints.ixI (by assumption) (by omega) ?_)
           | (refine Mat.ixI (by assumption) (by omega) ?_)
           | (refine Ints.ixI (Mat.row (by assumption) _ (by omega)) (by omega) ?_)
           | (refine Ints.ld (by assumption) (by omega) ?_)
           | (refine Mat.ld (by assumption) (by omega) ?_)
           | (refine Ints.ld (Mat.row (by assumption) _ (by omega)) (by omega) ?_)
           | (refine At.ld (by assumption) rfl ?_)
           | (refine At.ldN (by assumption) rfl ?_)
           | (refine Prs.ln (by assumption) ?_)
           | (refine Trs.ln (by assumption) ?_)
           | (refine Prs.ix (by assumption) (by omega) ?_)
           | (refine Trs.ix (by assumption) (by omega) ?_)
           | (refine Prs.ldN (by assumption) (by omega) ?_)
           | (refine Trs.ldN (by assumption) (by omega) ?_)
           | (refine At.ldN (Blk.at (by assumption)) rfl ?_)
           | (refine At.ld (Blk.at (by assumption)) rfl ?_)
           | (refine IxA.mk (by omega) ?_)
           | (refine Sl.ln (Own.sl (by assumption)) ?_)
           | (refine Ints.ix (Own.sl (by assumption)) (by omega) ?_)
           | (refine Ints.ixI (Own.sl (by assumption)) (by omega) ?_)
           | (refine Ints.ld (Own.sl (by assumption)) (by omega) ?_))
  refine Lp.mk tyOk [false, false, false, false, false, true, false, false, false, true, true, true, true, true, true, true, true] (fun m fr wr => getK fr 9 fun j => ∃ c : Nat, c ≤ l.length ∧ m = l.length - c ∧ j = .int .i64 (c : Int) ∧ (Blk wr pb 41 [.int .i64 (pr (fun i => l.getD i 0) c).1, .int .i64 (pr (fun i => l.getD i 0) c).2.1, .int .i64 (pr (fun i => l.getD i 0) c).2.2]) ∧ Ext w2 wr) (l.length) ?_ ?_
  · exact ⟨0, Nat.zero_le _, rfl, rfl, Hp, EL2⟩
  · intro m w5 u5 u9 u10 u11 u12 u13 u14 u15 u16 hR
    obtain ⟨c, hc, rfl, rfl, Hp, EL2⟩ := hR
    replace Hl := Hl__2.ext EL2
    replace EE := EE__2.ext EL2
    replace EL1 := EL1__2.ext EL2
    replace Hr := Hr__2.ext EL2
    have hr := pr_rng (f := fun i => l.getD i 0) hb (c := c) (by omega)
    have ct := times_pc (w := w5) (p := pr (fun i => l.getD i 0) c) (x := l.getD c 0) (by omega) (by omega) (by omega) (hb c)
    have et : tim (pr (fun i => l.getD i 0) c) (l.getD c 0) = pr (fun i => l.getD i 0) (c + 1) := tim_pr (fun i => l.getD i 0) c
    rw [et] at ct
    repeat' (conv => whnf
             first
             | (refine Dr.quiet tyOk (by kernel_rfl) ?_)
             | (refine VC.pure ct ?_)
             | (refine Rng.mk (by omega) ?_)
             | (refine Split.pos (by omega) ?_)
             | (refine Split.neg (by omega) ?_)
             | (refine Split.mk (fun h => ?_) (fun h => ?_))
             | (refine Need.mk (by omega) ?_)
             | (refine Ints.ln (by assumption) ?_)
             | (refine Mat.ln (by assumption) ?_)
             | (refine Ints.ln (Mat.row (by assumption) _ (by omega)) ?_)
             | (refine Ints.ix (by assumption) (by omega) ?_)
             | (refine Mat.ix (by assumption) (by omega) ?_)
             | (refine Ints.ix (Mat.row (by assumption) _ (by omega)) (by omega) ?_)
             | (refine Ints.ix (c := 0) (by assumption) (by omega) ?_)
             | (refine Mat.ix (c := 0) (by assumption) (by omega) ?_)
             | (refine Ints.ix (c := 0) (Mat.row (by assumption) _ (by omega)) (by omega) ?_)
             | (refine Ints.ixI (by assumption) (by omega) ?_)
             | (refine Mat.ixI (by assumption) (by omega) ?_)
             | (refine Ints.ixI (Mat.row (by assumption) _ (by omega)) (by omega) ?_)
             | (refine Ints.ld (by assumption) (by omega) ?_)
             | (refine Mat.ld (by assumption) (by omega) ?_)
             | (refine Ints.ld (Mat.row (by assumption) _ (by omega)) (by omega) ?_)
             | (refine At.ld (by assumption) rfl ?_)
             | (refine At.ldN (by assumption) rfl ?_)
             | (refine Prs.ln (by assumption) ?_)
             | (refine Trs.ln (by assumption) ?_)
             | (refine Prs.ix (by assumption) (by omega) ?_)
             | (refine Trs.ix (by assumption) (by omega) ?_)
             | (refine Prs.ldN (by assumption) (by omega) ?_)
             | (refine Trs.ldN (by assumption) (by omega) ?_)
             | (refine At.ldN (Blk.at (by assumption)) rfl ?_)
             | (refine At.ld (Blk.at (by assumption)) rfl ?_)
             | (refine IxA.mk (by omega) ?_)
             | (refine Sl.ln (Own.sl (by assumption)) ?_)
             | (refine Ints.ix (Own.sl (by assumption)) (by omega) ?_)
             | (refine Ints.ixI (Own.sl (by assumption)) (by omega) ?_)
             | (refine Ints.ld (Own.sl (by assumption)) (by omega) ?_))
    · refine Blk.all Hp (by kernel_rfl) (by first | decide | simp) rfl rfl (by intro v hv; simp at hv; rcases hv with rfl | rfl | rfl | rfl | rfl <;> rfl) fun w6 G6 Hp' => ?_
      have E6 : Ext w2 w6 := EL2.new G6 fun i hi hk => by omega
      replace Hp := Hp'
      replace Hl := Hl__2.ext E6
      replace EE := EE__2.ext E6
      replace EL1 := EL1__2.ext E6
      replace Hr := Hr__2.ext E6
      replace EL2 := E6
      repeat' (conv => whnf
               first
               | (refine Dr.quiet tyOk (by kernel_rfl) ?_)
               | (refine Rng.mk (by omega) ?_)
               | (refine Split.pos (by omega) ?_)
               | (refine Split.neg (by omega) ?_)
               | (refine Split.mk (fun h => ?_) (fun h => ?_))
               | (refine Need.mk (by omega) ?_)
               | (refine Ints.ln (by assumption) ?_)
               | (refine Mat.ln (by assumption) ?_)
               | (refine Ints.ln (Mat.row (by assumption) _ (by omega)) ?_)
               | (refine Ints.ix (by assumption) (by omega) ?_)
               | (refine Mat.ix (by assumption) (by omega) ?_)
               | (refine Ints.ix (Mat.row (by assumption) _ (by omega)) (by omega) ?_)
               | (refine Ints.ix (c := 0) (by assumption) (by omega) ?_)
               | (refine Mat.ix (c := 0) (by assumption) (by omega) ?_)
               | (refine Ints.ix (c := 0) (Mat.row (by assumption) _ (by omega)) (by omega) ?_)
               | (refine Ints.ixI (by assumption) (by omega) ?_)
               | (refine Mat.ixI (by assumption) (by omega) ?_)
               | (refine Ints.ixI (Mat.row (by assumption) _ (by omega)) (by omega) ?_)
               | (refine Ints.ld (by assumption) (by omega) ?_)
               | (refine Mat.ld (by assumption) (by omega) ?_)
               | (refine Ints.ld (Mat.row (by assumption) _ (by omega)) (by omega) ?_)
               | (refine At.ld (by assumption) rfl ?_)
               | (refine At.ldN (by assumption) rfl ?_)
               | (refine Prs.ln (by assumption) ?_)
               | (refine Trs.ln (by assumption) ?_)
               | (refine Prs.ix (by assumption) (by omega) ?_)
               | (refine Trs.ix (by assumption) (by omega) ?_)
               | (refine Prs.ldN (by assumption) (by omega) ?_)
               | (refine Trs.ldN (by assumption) (by omega) ?_)
               | (refine At.ldN (Blk.at (by assumption)) rfl ?_)
               | (refine At.ld (Blk.at (by assumption)) rfl ?_)
               | (refine IxA.mk (by omega) ?_)
               | (refine Sl.ln (Own.sl (by assumption)) ?_)
               | (refine Ints.ix (Own.sl (by assumption)) (by omega) ?_)
               | (refine Ints.ixI (Own.sl (by assumption)) (by omega) ?_)
               | (refine Ints.ld (Own.sl (by assumption)) (by omega) ?_))
      refine ⟨_, (by omega : l.length - (c + 1) < l.length - c), rfl, c + 1, by omega, rfl, rfl, Hp, EL2⟩
    · obtain rfl : c = l.length := by omega
      repeat' (conv => whnf
               first
               | (refine Dr.quiet tyOk (by kernel_rfl) ?_)
               | (refine Rng.mk (by omega) ?_)
               | (refine Split.pos (by omega) ?_)
               | (refine Split.neg (by omega) ?_)
               | (refine Split.mk (fun h => ?_) (fun h => ?_))
               | (refine Need.mk (by omega) ?_)
               | (refine Ints.ln (by assumption) ?_)
               | (refine Mat.ln (by assumption) ?_)
               | (refine Ints.ln (Mat.row (by assumption) _ (by omega)) ?_)
               | (refine Ints.ix (by assumption) (by omega) ?_)
               | (refine Mat.ix (by assumption) (by omega) ?_)
               | (refine Ints.ix (Mat.row (by assumption) _ (by omega)) (by omega) ?_)
               | (refine Ints.ix (c := 0) (by assumption) (by omega) ?_)
               | (refine Mat.ix (c := 0) (by assumption) (by omega) ?_)
               | (refine Ints.ix (c := 0) (Mat.row (by assumption) _ (by omega)) (by omega) ?_)
               | (refine Ints.ixI (by assumption) (by omega) ?_)
               | (refine Mat.ixI (by assumption) (by omega) ?_)
               | (refine Ints.ixI (Mat.row (by assumption) _ (by omega)) (by omega) ?_)
               | (refine Ints.ld (by assumption) (by omega) ?_)
               | (refine Mat.ld (by assumption) (by omega) ?_)
               | (refine Ints.ld (Mat.row (by assumption) _ (by omega)) (by omega) ?_)
               | (refine At.ld (by assumption) rfl ?_)
               | (refine At.ldN (by assumption) rfl ?_)
               | (refine Prs.ln (by assumption) ?_)
               | (refine Trs.ln (by assumption) ?_)
               | (refine Prs.ix (by assumption) (by omega) ?_)
               | (refine Trs.ix (by assumption) (by omega) ?_)
               | (refine Prs.ldN (by assumption) (by omega) ?_)
               | (refine Trs.ldN (by assumption) (by omega) ?_)
               | (refine At.ldN (Blk.at (by assumption)) rfl ?_)
               | (refine At.ld (Blk.at (by assumption)) rfl ?_)
               | (refine IxA.mk (by omega) ?_)
               | (refine Sl.ln (Own.sl (by assumption)) ?_)
               | (refine Ints.ix (Own.sl (by assumption)) (by omega) ?_)
               | (refine Ints.ixI (Own.sl (by assumption)) (by omega) ?_)
               | (refine Ints.ld (Own.sl (by assumption)) (by omega) ?_))
      refine Blk.all Hr (by kernel_rfl) (by first | decide | simp) rfl rfl (by intro v hv; simp at hv; rcases hv with rfl | rfl | rfl | rfl | rfl <;> rfl) fun w7 G7 Hr' => ?_
      have E7 : Ext w1 w7 := EL1.new G7 fun i hi hk => by omega
      replace Hr := Hr'
      replace Hl := Hl__1.ext E7
      replace EE := EE__1.ext E7
      replace EL1 := E7
      repeat' (conv => whnf
               first
               | (refine Dr.quiet tyOk (by kernel_rfl) ?_)
               | (refine Rng.mk (by omega) ?_)
               | (refine Split.pos (by omega) ?_)
               | (refine Split.neg (by omega) ?_)
               | (refine Split.mk (fun h => ?_) (fun h => ?_))
               | (refine Need.mk (by omega) ?_)
               | (refine Ints.ln (by assumption) ?_)
               | (refine Mat.ln (by assumption) ?_)
               | (refine Ints.ln (Mat.row (by assumption) _ (by omega)) ?_)
               | (refine Ints.ix (by assumption) (by omega) ?_)
               | (refine Mat.ix (by assumption) (by omega) ?_)
               | (refine Ints.ix (Mat.row (by assumption) _ (by omega)) (by omega) ?_)
               | (refine Ints.ix (c := 0) (by assumption) (by omega) ?_)
               | (refine Mat.ix (c := 0) (by assumption) (by omega) ?_)
               | (refine Ints.ix (c := 0) (Mat.row (by assumption) _ (by omega)) (by omega) ?_)
               | (refine Ints.ixI (by assumption) (by omega) ?_)
               | (refine Mat.ixI (by assumption) (by omega) ?_)
               | (refine Ints.ixI (Mat.row (by assumption) _ (by omega)) (by omega) ?_)
               | (refine Ints.ld (by assumption) (by omega) ?_)
               | (refine Mat.ld (by assumption) (by omega) ?_)
               | (refine Ints.ld (Mat.row (by assumption) _ (by omega)) (by omega) ?_)
               | (refine At.ld (by assumption) rfl ?_)
               | (refine At.ldN (by assumption) rfl ?_)
               | (refine Prs.ln (by assumption) ?_)
               | (refine Trs.ln (by assumption) ?_)
               | (refine Prs.ix (by assumption) (by omega) ?_)
               | (refine Trs.ix (by assumption) (by omega) ?_)
               | (refine Prs.ldN (by assumption) (by omega) ?_)
               | (refine Trs.ldN (by assumption) (by omega) ?_)
               | (refine At.ldN (Blk.at (by assumption)) rfl ?_)
               | (refine At.ld (Blk.at (by assumption)) rfl ?_)
               | (refine IxA.mk (by omega) ?_)
               | (refine Sl.ln (Own.sl (by assumption)) ?_)
               | (refine Ints.ix (Own.sl (by assumption)) (by omega) ?_)
               | (refine Ints.ixI (Own.sl (by assumption)) (by omega) ?_)
               | (refine Ints.ld (Own.sl (by assumption)) (by omega) ?_))
      exact ⟨rfl, EE⟩
end Go.Proofs.Ytkgogljfngplnaa
set_option linter.unusedVariables false
set_option linter.unusedSimpArgs false
namespace Go.Proofs.Ytkgogljfngplnaa
open Go.Eng
set_option maxRecDepth 100000
set_option maxHeartbeats 4000000

noncomputable def nofP (rr : List (List Int)) (a : List Int) : T3 := if vld rr a = 0 then prd rr a else (0, 0, 0)

theorem nof_pc {w : World} {gv av : Value} {vs : List Value} {rr : List (List Int)} {a : List Int} (Hg : Mat w gv vs rr) (Ha : Ints w av a) :
    PC Try.prog 25 [.agg #[gv], av] w (.tuple #[PV (nofP rr a), .int .i64 (vld rr a)]) := by
  refine PC.mk tyOk Try.func25 rfl (by kernel_rfl) fun w1 E1 => ?_
  replace Hg := Hg.ext E1
  replace Ha := Ha.ext E1
  have EE := Ext.refl w1
  refine Bx.agg fun b2 w2 E2 hb2 Hb _ => ?_
  replace Hg := Hg.ext E2
  replace Ha := Ha.ext E2
  replace EE := EE.ext E2
  have Hg__1 := Hg
  have Ha__1 := Ha
  have EE__1 := EE
  have Hb__1 := Hb
  conv => whnf
  refine VE.alloc eProd fun rb w3 E3 hb_rb Hr => ?_
  replace Hg := Hg.ext E3
  replace Ha := Ha.ext E3
  replace EE := EE.ext E3
  replace Hb := Hb.ext E3
  have EL1 := E3
  repeat' (conv => whnf
           first
           | (refine Dr.quiet tyOk (by kernel_rfl) ?_)
           | (refine Rng.mk (by omega) ?_)
           | (refine Split.pos (by omega) ?_)
           | (refine Split.neg (by omega) ?_)
           | (refine Split.mk (fun h => ?_) (fun h => ?_))
           | (refine Need.mk (by omega) ?_)
           | (refine Ints.ln (by assumption) ?_)
           | (refine Mat.ln (by assumption) ?_)
           | (refine Ints.ln (Mat.row (by assumption) _ (by omega)) ?_)
           | (refine Ints.ix (by assumption) (by omega) ?_)
           | (refine Mat.ix (by assumption) (by omega) ?_)
           | (refine Ints.ix (Mat.row (by assumption) _ (by omega)) (by omega) ?_)
           | (refine Ints.ix (c := 0) (by assumption) (by omega) ?_)
           | (refine Mat.ix (c := 0) (by assumption) (by omega) ?_)
           | (refine Ints.ix (c := 0) (Mat.row (by assumption) _ (by omega)) (by omega) ?_)
           | (refine Ints.ixI (by assumption) (by omega) ?_)
           | (refine Mat.ixI (by assumption) (by omega) ?_)
           | (refine Ints.ixI (Mat.row (by assumption) _ (by omega)) (by omega) ?_)
           | (refine Ints.ld (by assumption) (by omega) ?_)
           | (refine Mat.ld (by assumption) (by omega) ?_)
           | (refine Ints.ld (Mat.row (by assumption) _ (by omega)) (by omega) ?_)
           | (refine At.ld (by assumption) rfl ?_)
           | (refine At.ldN (by assumption) rfl ?_)
           | (refine Prs.ln (by assumption) ?_)
           | (refine Trs.ln (by assumption) ?_)
           | (refine Prs.ix (by assumption) (by omega) ?_)
           | (refine Trs.ix (by assumption) (by omega) ?_)
           | (refine Prs.ldN (by assumption) (by omega) ?_)
           | (refine Trs.ldN (by assumption) (by omega) ?_)
           | (refine At.ldN (Blk.at (by assumption)) rfl ?_)
           | (refine At.ld (Blk.at (by assumption)) rfl ?_)
           | (refine IxA.mk (by omega) ?_)
           | (refine Sl.ln (Own.sl (by assumption)) ?_)
           | (refine Ints.ix (Own.sl (by assumption)) (by omega) ?_)
           | (refine Ints.ixI (Own.sl (by assumption)) (by omega) ?_)
           | (refine Ints.ld (Own.sl (by assumption)) (by omega) ?_))
  conv => whnf
  refine VC.rc (gvalues_rc Hg Ha) ?_
  rintro _ w4 E4 ⟨v, us, rfl, HO⟩
  replace Hg := Hg.ext E4
  replace Ha := Ha.ext E4
  replace EE := EE.ext E4
  replace Hb := Hb.ext E4
  replace EL1 := EL1.ext E4
  replace Hr := Hr.ext E4
  by_cases hv : vld rr a = 0
  · have hal := al_of_vld hv
    have hn := hal.n6
    rw [valsR, if_pos hv] at HO
    have HV := HO.mat
    have hvl := vals_len rr a
    rw [nofP, if_pos hv]
    repeat' (conv => whnf
             first
             | (refine Dr.quiet tyOk (by kernel_rfl) ?_)
             | (refine VS.sparse (ps := [(2, .int .i64 1)]) Try.underlying41 eProd (by decide +kernel) rfl (by intro p hp; simp at hp; subst hp; exact ⟨by decide, rfl⟩) rfl ?_)
             | (refine Rng.mk (by omega) ?_)
             | (refine Split.pos (by omega) ?_)
             | (refine Split.neg (by omega) ?_)
             | (refine Split.mk (fun h => ?_) (fun h => ?_))
             | (refine Need.mk (by omega) ?_)
             | (refine Ints.ln (by assumption) ?_)
             | (refine Mat.ln (by assumption) ?_)
             | (refine Ints.ln (Mat.row (by assumption) _ (by omega)) ?_)
             | (refine Ints.ix (by assumption) (by omega) ?_)
             | (refine Mat.ix (by assumption) (by omega) ?_)
             | (refine Ints.ix (Mat.row (by assumption) _ (by omega)) (by omega) ?_)
             | (refine Ints.ix (c := 0) (by assumption) (by omega) ?_)
             | (refine Mat.ix (c := 0) (by assumption) (by omega) ?_)
             | (refine Ints.ix (c := 0) (Mat.row (by assumption) _ (by omega)) (by omega) ?_)
             | (refine Ints.ixI (by assumption) (by omega) ?_)
             | (refine Mat.ixI (by assumption) (by omega) ?_)
             | (refine Ints.ixI (Mat.row (by assumption) _ (by omega)) (by omega) ?_)
             | (refine Ints.ld (by assumption) (by omega) ?_)
             | (refine Mat.ld (by assumption) (by omega) ?_)
             | (refine Ints.ld (Mat.row (by assumption) _ (by omega)) (by omega) ?_)
             | (refine At.ld (by assumption) rfl ?_)
             | (refine At.ldN (by assumption) rfl ?_)
             | (refine Prs.ln (by assumption) ?_)
             | (refine Trs.ln (by assumption) ?_)
             | (refine Prs.ix (by assumption) (by omega) ?_)
             | (refine Trs.ix (by assumption) (by omega) ?_)
             | (refine Prs.ldN (by assumption) (by omega) ?_)
             | (refine Trs.ldN (by assumption) (by omega) ?_)
             | (refine At.ldN (Blk.at (by assumption)) rfl ?_)
             | (refine At.ld (Blk.at (by assumption)) rfl ?_)
             | (refine IxA.mk (by omega) ?_)
             | (refine Sl.ln (Own.sl (by assumption)) ?_)
             | (refine Ints.ix (Own.sl (by assumption)) (by omega) ?_)
             | (refine Ints.ixI (Own.sl (by assumption)) (by omega) ?_)
             | (refine Ints.ld (Own.sl (by assumption)) (by omega) ?_))
    have Hg__2 := Hg
    have Ha__2 := Ha
    have EE__2 := EE
    have Hb__2 := Hb
    have EL1__2 := EL1
    have Hr__2 := Hr
    have HV__2 := HV
    conv => whnf
    refine VE.alloc eProd fun pb w5 E5 hb_pb Hp => ?_
    replace Hg := Hg.ext E5
    replace Ha := Ha.ext E5
    replace EE := EE.ext E5
    replace Hb := Hb.ext E5
    replace EL1 := EL1.ext E5
    replace Hr := Hr.ext E5
    replace HV := HV.ext E5
    have EL2 := E5
    repeat' (conv => whnf
             first
             | (refine Dr.quiet tyOk (by kernel_rfl) ?_)
             | (refine Rng.mk (by omega) ?_)
             | (refine Split.pos (by omega) ?_)
             | (refine Split.neg (by omega) ?_)
             | (refine Split.mk (fun h => ?_) (fun h => ?_))
             | (refine Need.mk (by omega) ?_)
             | (refine Ints.ln (by assumption) ?_)
             | (refine Mat.ln (by assumption) ?_)
             | (refine Ints.ln (Mat.row (by assumption) _ (by omega)) ?_)
             | (refine Ints.ix (by assumption) (by omega) ?_)
             | (refine Mat.ix (by assumption) (by omega) ?_)
             | (refine Ints.ix (Mat.row (by assumption) _ (by omega)) (by omega) ?_)
             | (refine Ints.ix (c := 0) (by assumption) (by omega) ?_)
             | (refine Mat.ix (c := 0) (by assumption) (by omega) ?_)
             | (refine Ints.ix (c := 0) (Mat.row (by assumption) _ (by omega)) (by omega) ?_)
             | (refine Ints.ixI (by assumption) (by omega) ?_)
             | (refine Mat.ixI (by assumption) (by omega) ?_)
             | (refine Ints.ixI (Mat.row (by assumption) _ (by omega)) (by omega) ?_)
             | (refine Ints.ld (by assumption) (by omega) ?_)
             | (refine Mat.ld (by assumption) (by omega) ?_)
             | (refine Ints.ld (Mat.row (by assumption) _ (by omega)) (by omega) ?_)
             | (refine At.ld (by assumption) rfl ?_)
             | (refine At.ldN (by assumption) rfl ?_)
             | (refine Prs.ln (by assumption) ?_)
             | (refine Trs.ln (by assumption) ?_)
             | (refine Prs.ix (by assumption) (by omega) ?_)
             | (refine Trs.ix (by assumption) (by omega) ?_)
             | (refine Prs.ldN (by assumption) (by omega) ?_)
             | (refine Trs.ldN (by assumption) (by omega) ?_)
             | (refine At.ldN (Blk.at (by assumption)) rfl ?_)
             | (refine At.ld (Blk.at (by assumption)) rfl ?_)
             | (refine IxA.mk (by omega) ?_)
             | (refine Sl.ln (Own.sl (by assumption)) ?_)
             | (refine Ints.ix (Own.sl (by assumption)) (by omega) ?_)
             | (refine Ints.ixI (Own.sl (by assumption)) (by omega) ?_)
             | (refine Ints.ld (Own.sl (by assumption)) (by omega) ?_))
    refine Blk.all Hp (by kernel_rfl) (by first | decide | simp) rfl rfl (by intro v hv; simp at hv; rcases hv with rfl | rfl | rfl | rfl | rfl <;> rfl) fun w6 G6 Hp' => ?_
    have E6 : Ext w4 w6 := EL2.new G6 fun i hi hk => by omega
    replace Hp := Hp'
    replace Hg := Hg__2.ext E6
    replace Ha := Ha__2.ext E6
    replace EE := EE__2.ext E6
    replace Hb := Hb__2.ext E6
    replace EL1 := EL1__2.ext E6
    replace Hr := Hr__2.ext E6
    replace HV := HV__2.ext E6
    replace EL2 := E6
    have Hp0 : Blk w6 pb 41 [.int .i64 (pr (gain rr a) 0).1, .int .i64 (pr (gain rr a) 0).2.1, .int .i64 (pr (gain rr a) 0).2.2] := Hp
    replace Hp := Hp0
    repeat' (conv => whnf
             first
             | (refine Dr.quiet tyOk (by kernel_rfl) ?_)
             | (refine Rng.mk (by omega) ?_)
             | (refine Split.pos (by omega) ?_)
             | (refine Split.neg (by omega) ?_)
             | (refine Split.mk (fun h => ?_) (fun h => ?_))
             | (refine Need.mk (by omega) ?_)
             | (refine Ints.ln (by assumption) ?_)
             | (refine Mat.ln (by assumption) ?_)
             | (refine Ints.ln (Mat.row (by assumption) _ (by omega)) ?_)
             | (refine Ints.ix (by assumption) (by omega) ?_)
             | (refine Mat.ix (by assumption) (by omega) ?_)
             | (refine Ints.ix (Mat.row (by assumption) _ (by omega)) (by omega) ?_)
             | (refine Ints.ix (c := 0) (by assumption) (by omega) ?_)
             | (refine Mat.ix (c := 0) (by assumption) (by omega) ?_)
             | (refine Ints.ix (c := 0) (Mat.row (by assumption) _ (by omega)) (by omega) ?_)
             | (refine Ints.ixI (by assumption) (by omega) ?_)
             | (refine Mat.ixI (by assumption) (by omega) ?_)
             | (refine Ints.ixI (Mat.row (by assumption) _ (by omega)) (by omega) ?_)
             | (refine Ints.ld (by assumption) (by omega) ?_)
             | (refine Mat.ld (by assumption) (by omega) ?_)
             | (refine Ints.ld (Mat.row (by assumption) _ (by omega)) (by omega) ?_)
             | (refine At.ld (by assumption) rfl ?_)
             | (refine At.ldN (by assumption) rfl ?_)
             | (refine Prs.ln (by assumption) ?_)
             | (refine Trs.ln (by assumption) ?_)
             | (refine Prs.ix (by assumption) (by omega) ?_)
             | (refine Trs.ix (by assumption) (by omega) ?_)
             | (refine Prs.ldN (by assumption) (by omega) ?_)
             | (refine Trs.ldN (by assumption) (by omega) ?_)
             | (refine At.ldN (Blk.at (by assumption)) rfl ?_)
             | (refine At.ld (Blk.at (by assumption)) rfl ?_)
             | (refine IxA.mk (by omega) ?_)
             | (refine Sl.ln (Own.sl (by assumption)) ?_)
             | (refine Ints.ix (Own.sl (by assumption)) (by omega) ?_)
             | (refine Ints.ixI (Own.sl (by assumption)) (by omega) ?_)
             | (refine Ints.ld (Own.sl (by assumption)) (by omega) ?_))
    refine Lp.mk tyOk [false, false, false, false, false, false, false, false, false, true, true, false, false, false, false, false, false, false, false, false, false, false, false, false, true, true, true, true, true, true, true, true, true, true, true, true] (fun m fr wr => getK fr 24 fun j => ∃ c : Nat, c ≤ rr.length ∧ m = rr.length - c ∧ j = .int .i64 (c : Int) ∧ (Blk wr pb 41 [.int .i64 (pr (gain rr a) c).1, .int .i64 (pr (gain rr a) c).2.1, .int .i64 (pr (gain rr a) c).2.2]) ∧ Ext w4 wr) (rr.length) ?_ ?_
    · exact ⟨0, Nat.zero_le _, rfl, rfl, Hp, EL2⟩
    · intro m w7 u9 u10 u24 u25 u26 u27 u28 u29 u30 u31 u32 u33 u34 u35 hR
      obtain ⟨c, hc, rfl, rfl, Hp, EL2⟩ := hR
      replace Hg := Hg__2.ext EL2
      replace Ha := Ha__2.ext EL2
      replace EE := EE__2.ext EL2
      replace Hb := Hb__2.ext EL2
      replace EL1 := EL1__2.ext EL2
      replace Hr := Hr__2.ext EL2
      replace HV := HV__2.ext EL2
      have hb : ∀ i, gain rr a i ≤ 10000 := fun i => (gain_bd hv i).2
      have hr := pr_rng hb (c := c) (by omega)
      have ct := times_pc (w := w7) (p := pr (gain rr a) c) (x := gain rr a c) (by omega) (by omega) (by omega) (hb c)
      rw [tim_pr (gain rr a) c] at ct
      have hrl := vals_rlen (rr := rr) (a := a) (i := c)
      have ev : ∀ h : c < rr.length, ((vals rr a).getD c []).getD c 0 = gain rr a c := fun h => vals_get h h
      by_cases hcl : c < rr.length
      · rw [← ev hcl] at ct
        repeat' (conv => whnf
                 first
                 | (refine Dr.plan 29 [5, 6] (.q 0 (.q 1 (.q 2 (.q 3 (.q 4 (.e 5 (.e 6 .nil .nil) .nil)))))) tyOk rfl (by kernel_rfl) ?_)
                 | (refine Dr.quiet tyOk (by kernel_rfl) ?_)
                 | (refine VC.pure ct ?_)
                 | (refine Rng.mk (by omega) ?_)
                 | (refine Split.pos (by omega) ?_)
                 | (refine Split.neg (by omega) ?_)
                 | (refine Split.mk (fun h => ?_) (fun h => ?_))
                 | (refine Need.mk (by omega) ?_)
                 | (refine Ints.ln (by assumption) ?_)
                 | (refine Mat.ln (by assumption) ?_)
                 | (refine Ints.ln (Mat.row (by assumption) _ (by omega)) ?_)
                 | (refine Ints.ix (by assumption) (by omega) ?_)
                 | (refine Mat.ix (by assumption) (by omega) ?_)
                 | (refine Ints.ix (Mat.row (by assumption) _ (by omega)) (by omega) ?_)
                 | (refine Ints.ix (c := 0) (by assumption) (by omega) ?_)
                 | (refine Mat.ix (c := 0) (by assumption) (by omega) ?_)
                 | (refine Ints.ix (c := 0) (Mat.row (by assumption) _ (by omega)) (by omega) ?_)
                 | (refine Ints.ixI (by assumption) (by omega) ?_)
                 | (refine Mat.ixI (by assumption) (by omega) ?_)
                 | (refine Ints.ixI (Mat.row (by assumption) _ (by omega)) (by omega) ?_)
                 | (refine Ints.ld (by assumption) (by omega) ?_)
                 | (refine Mat.ld (by assumption) (by omega) ?_)
                 | (refine Ints.ld (Mat.row (by assumption) _ (by omega)) (by omega) ?_)
                 | (refine At.ld (by assumption) rfl ?_)
                 | (refine At.ldN (by assumption) rfl ?_)
                 | (refine Prs.ln (by assumption) ?_)
                 | (refine Trs.ln (by assumption) ?_)
                 | (refine Prs.ix (by assumption) (by omega) ?_)
                 | (refine Trs.ix (by assumption) (by omega) ?_)
                 | (refine Prs.ldN (by assumption) (by omega) ?_)
                 | (refine Trs.ldN (by assumption) (by omega) ?_)
                 | (refine At.ldN (Blk.at (by assumption)) rfl ?_)
                 | (refine At.ld (Blk.at (by assumption)) rfl ?_)
                 | (refine IxA.mk (by omega) ?_)
                 | (refine Sl.ln (Own.sl (by assumption)) ?_)
                 | (refine Ints.ix (Own.sl (by assumption)) (by omega) ?_)
                 | (refine Ints.ixI (Own.sl (by assumption)) (by omega) ?_)
                 | (refine Ints.ld (Own.sl (by assumption)) (by omega) ?_))
        refine Blk.all Hp (by kernel_rfl) (by first | decide | simp) rfl rfl (by intro v hv; simp at hv; rcases hv with rfl | rfl | rfl | rfl | rfl <;> rfl) fun w8 G8 Hp' => ?_
        have E8 : Ext w4 w8 := EL2.new G8 fun i hi hk => by omega
        replace Hp := Hp'
        replace Hg := Hg__2.ext E8
        replace Ha := Ha__2.ext E8
        replace EE := EE__2.ext E8
        replace Hb := Hb__2.ext E8
        replace EL1 := EL1__2.ext E8
        replace Hr := Hr__2.ext E8
        replace HV := HV__2.ext E8
        replace EL2 := E8
        repeat' (conv => whnf
                 first
                 | (refine Dr.quiet tyOk (by kernel_rfl) ?_)
                 | (refine Rng.mk (by omega) ?_)
                 | (refine Split.pos (by omega) ?_)
                 | (refine Split.neg (by omega) ?_)
                 | (refine Split.mk (fun h => ?_) (fun h => ?_))
                 | (refine Need.mk (by omega) ?_)
                 | (refine Ints.ln (by assumption) ?_)
                 | (refine Mat.ln (by assumption) ?_)
                 | (refine Ints.ln (Mat.row (by assumption) _ (by omega)) ?_)
                 | (refine Ints.ix (by assumption) (by omega) ?_)
                 | (refine Mat.ix (by assumption) (by omega) ?_)
                 | (refine Ints.ix (Mat.row (by assumption) _ (by omega)) (by omega) ?_)
                 | (refine Ints.ix (c := 0) (by assumption) (by omega) ?_)
                 | (refine Mat.ix (c := 0) (by assumption) (by omega) ?_)
                 | (refine Ints.ix (c := 0) (Mat.row (by assumption) _ (by omega)) (by omega) ?_)
                 | (refine Ints.ixI (by assumption) (by omega) ?_)
                 | (refine Mat.ixI (by assumption) (by omega) ?_)
                 | (refine Ints.ixI (Mat.row (by assumption) _ (by omega)) (by omega) ?_)
                 | (refine Ints.ld (by assumption) (by omega) ?_)
                 | (refine Mat.ld (by assumption) (by omega) ?_)
                 | (refine Ints.ld (Mat.row (by assumption) _ (by omega)) (by omega) ?_)
                 | (refine At.ld (by assumption) rfl ?_)
                 | (refine At.ldN (by assumption) rfl ?_)
                 | (refine Prs.ln (by assumption) ?_)
                 | (refine Trs.ln (by assumption) ?_)
                 | (refine Prs.ix (by assumption) (by omega) ?_)
                 | (refine Trs.ix (by assumption) (by omega) ?_)
                 | (refine Prs.ldN (by assumption) (by omega) ?_)
                 | (refine Trs.ldN (by assumption) (by omega) ?_)
                 | (refine At.ldN (Blk.at (by assumption)) rfl ?_)
                 | (refine At.ld (Blk.at (by assumption)) rfl ?_)
                 | (refine IxA.mk (by omega) ?_)
                 | (refine Sl.ln (Own.sl (by assumption)) ?_)
                 | (refine Ints.ix (Own.sl (by assumption)) (by omega) ?_)
                 | (refine Ints.ixI (Own.sl (by assumption)) (by omega) ?_)
                 | (refine Ints.ld (Own.sl (by assumption)) (by omega) ?_))
        refine ⟨_, (by omega : rr.length - (c + 1) < rr.length - c), rfl, c + 1, by omega, rfl, rfl, Hp, EL2⟩
      · obtain rfl : c = rr.length := by omega
        repeat' (conv => whnf
                 first
                 | (refine Dr.quiet tyOk (by kernel_rfl) ?_)
                 | (refine Rng.mk (by omega) ?_)
                 | (refine Split.pos (by omega) ?_)
                 | (refine Split.neg (by omega) ?_)
                 | (refine Split.mk (fun h => ?_) (fun h => ?_))
                 | (refine Need.mk (by omega) ?_)
                 | (refine Ints.ln (by assumption) ?_)
                 | (refine Mat.ln (by assumption) ?_)
                 | (refine Ints.ln (Mat.row (by assumption) _ (by omega)) ?_)
                 | (refine Ints.ix (by assumption) (by omega) ?_)
                 | (refine Mat.ix (by assumption) (by omega) ?_)
                 | (refine Ints.ix (Mat.row (by assumption) _ (by omega)) (by omega) ?_)
                 | (refine Ints.ix (c := 0) (by assumption) (by omega) ?_)
                 | (refine Mat.ix (c := 0) (by assumption) (by omega) ?_)
                 | (refine Ints.ix (c := 0) (Mat.row (by assumption) _ (by omega)) (by omega) ?_)
                 | (refine Ints.ixI (by assumption) (by omega) ?_)
                 | (refine Mat.ixI (by assumption) (by omega) ?_)
                 | (refine Ints.ixI (Mat.row (by assumption) _ (by omega)) (by omega) ?_)
                 | (refine Ints.ld (by assumption) (by omega) ?_)
                 | (refine Mat.ld (by assumption) (by omega) ?_)
                 | (refine Ints.ld (Mat.row (by assumption) _ (by omega)) (by omega) ?_)
                 | (refine At.ld (by assumption) rfl ?_)
                 | (refine At.ldN (by assumption) rfl ?_)
                 | (refine Prs.ln (by assumption) ?_)
                 | (refine Trs.ln (by assumption) ?_)
                 | (refine Prs.ix (by assumption) (by omega) ?_)
                 | (refine Trs.ix (by assumption) (by omega) ?_)
                 | (refine Prs.ldN (by assumption) (by omega) ?_)
                 | (refine Trs.ldN (by assumption) (by omega) ?_)
                 | (refine At.ldN (Blk.at (by assumption)) rfl ?_)
                 | (refine At.ld (Blk.at (by assumption)) rfl ?_)
                 | (refine IxA.mk (by omega) ?_)
                 | (refine Sl.ln (Own.sl (by assumption)) ?_)
                 | (refine Ints.ix (Own.sl (by assumption)) (by omega) ?_)
                 | (refine Ints.ixI (Own.sl (by assumption)) (by omega) ?_)
                 | (refine Ints.ld (Own.sl (by assumption)) (by omega) ?_))
        refine Blk.all Hr (by kernel_rfl) (by first | decide | simp) rfl rfl (by intro v hv; simp at hv; rcases hv with rfl | rfl | rfl | rfl | rfl <;> rfl) fun w9 G9 Hr' => ?_
        have E9 : Ext w2 w9 := EL1.new G9 fun i hi hk => by omega
        replace Hr := Hr'
        replace Hg := Hg__1.ext E9
        replace Ha := Ha__1.ext E9
        replace EE := EE__1.ext E9
        replace Hb := Hb__1.ext E9
        replace EL1 := E9
        rw [hv]
        repeat' (conv => whnf
                 first
                 | (refine Dr.quiet tyOk (by kernel_rfl) ?_)
                 | (refine Rng.mk (by omega) ?_)
                 | (refine Split.pos (by omega) ?_)
                 | (refine Split.neg (by omega) ?_)
                 | (refine Split.mk (fun h => ?_) (fun h => ?_))
                 | (refine Need.mk (by omega) ?_)
                 | (refine Ints.ln (by assumption) ?_)
                 | (refine Mat.ln (by assumption) ?_)
                 | (refine Ints.ln (Mat.row (by assumption) _ (by omega)) ?_)
                 | (refine Ints.ix (by assumption) (by omega) ?_)
                 | (refine Mat.ix (by assumption) (by omega) ?_)
                 | (refine Ints.ix (Mat.row (by assumption) _ (by omega)) (by omega) ?_)
                 | (refine Ints.ix (c := 0) (by assumption) (by omega) ?_)
                 | (refine Mat.ix (c := 0) (by assumption) (by omega) ?_)
                 | (refine Ints.ix (c := 0) (Mat.row (by assumption) _ (by omega)) (by omega) ?_)
                 | (refine Ints.ixI (by assumption) (by omega) ?_)
                 | (refine Mat.ixI (by assumption) (by omega) ?_)
                 | (refine Ints.ixI (Mat.row (by assumption) _ (by omega)) (by omega) ?_)
                 | (refine Ints.ld (by assumption) (by omega) ?_)
                 | (refine Mat.ld (by assumption) (by omega) ?_)
                 | (refine Ints.ld (Mat.row (by assumption) _ (by omega)) (by omega) ?_)
                 | (refine At.ld (by assumption) rfl ?_)
                 | (refine At.ldN (by assumption) rfl ?_)
                 | (refine Prs.ln (by assumption) ?_)
                 | (refine Trs.ln (by assumption) ?_)
                 | (refine Prs.ix (by assumption) (by omega) ?_)
                 | (refine Trs.ix (by assumption) (by omega) ?_)
                 | (refine Prs.ldN (by assumption) (by omega) ?_)
                 | (refine Trs.ldN (by assumption) (by omega) ?_)
                 | (refine At.ldN (Blk.at (by assumption)) rfl ?_)
                 | (refine At.ld (Blk.at (by assumption)) rfl ?_)
                 | (refine IxA.mk (by omega) ?_)
                 | (refine Sl.ln (Own.sl (by assumption)) ?_)
                 | (refine Ints.ix (Own.sl (by assumption)) (by omega) ?_)
                 | (refine Ints.ixI (Own.sl (by assumption)) (by omega) ?_)
                 | (refine Ints.ld (Own.sl (by assumption)) (by omega) ?_))
        exact ⟨rfl, EE⟩
  · rw [nofP, if_neg hv]
    repeat' (conv => whnf
             first
             | (refine Dr.quiet tyOk (by kernel_rfl) ?_)
             | (refine VS.sparse (ps := []) Try.underlying41 eProd (by decide +kernel) rfl (by simp) rfl ?_)
             | (refine Rng.mk (by omega) ?_)
             | (refine Split.pos (by omega) ?_)
             | (refine Split.neg (by omega) ?_)
             | (refine Split.mk (fun h => ?_) (fun h => ?_))
             | (refine Need.mk (by omega) ?_)
             | (refine Ints.ln (by assumption) ?_)
             | (refine Mat.ln (by assumption) ?_)
             | (refine Ints.ln (Mat.row (by assumption) _ (by omega)) ?_)
             | (refine Ints.ix (by assumption) (by omega) ?_)
             | (refine Mat.ix (by assumption) (by omega) ?_)
             | (refine Ints.ix (Mat.row (by assumption) _ (by omega)) (by omega) ?_)
             | (refine Ints.ix (c := 0) (by assumption) (by omega) ?_)
             | (refine Mat.ix (c := 0) (by assumption) (by omega) ?_)
             | (refine Ints.ix (c := 0) (Mat.row (by assumption) _ (by omega)) (by omega) ?_)
             | (refine Ints.ixI (by assumption) (by omega) ?_)
             | (refine Mat.ixI (by assumption) (by omega) ?_)
             | (refine Ints.ixI (Mat.row (by assumption) _ (by omega)) (by omega) ?_)
             | (refine Ints.ld (by assumption) (by omega) ?_)
             | (refine Mat.ld (by assumption) (by omega) ?_)
             | (refine Ints.ld (Mat.row (by assumption) _ (by omega)) (by omega) ?_)
             | (refine At.ld (by assumption) rfl ?_)
             | (refine At.ldN (by assumption) rfl ?_)
             | (refine Prs.ln (by assumption) ?_)
             | (refine Trs.ln (by assumption) ?_)
             | (refine Prs.ix (by assumption) (by omega) ?_)
             | (refine Trs.ix (by assumption) (by omega) ?_)
             | (refine Prs.ldN (by assumption) (by omega) ?_)
             | (refine Trs.ldN (by assumption) (by omega) ?_)
             | (refine At.ldN (Blk.at (by assumption)) rfl ?_)
             | (refine At.ld (Blk.at (by assumption)) rfl ?_)
             | (refine IxA.mk (by omega) ?_)
             | (refine Sl.ln (Own.sl (by assumption)) ?_)
             | (refine Ints.ix (Own.sl (by assumption)) (by omega) ?_)
             | (refine Ints.ixI (Own.sl (by assumption)) (by omega) ?_)
             | (refine Ints.ld (Own.sl (by assumption)) (by omega) ?_))
    refine Blk.all Hr (by kernel_rfl) (by first | decide | simp) rfl rfl (by intro v hv; simp at hv; rcases hv with rfl | rfl | rfl | rfl | rfl <;> rfl) fun w10 G10 Hr' => ?_
    have E10 : Ext w2 w10 := EL1.new G10 fun i hi hk => by omega
    replace Hr := Hr'
    replace Hg := Hg__1.ext E10
    replace Ha := Ha__1.ext E10
    replace EE := EE__1.ext E10
    replace Hb := Hb__1.ext E10
    replace EL1 := E10
    repeat' (conv => whnf
             first
             | (refine Dr.quiet tyOk (by kernel_rfl) ?_)
             | (refine Rng.mk (by omega) ?_)
             | (refine Split.pos (by omega) ?_)
             | (refine Split.neg (by omega) ?_)
             | (refine Split.mk (fun h => ?_) (fun h => ?_))
             | (refine Need.mk (by omega) ?_)
             | (refine Ints.ln (by assumption) ?_)
             | (refine Mat.ln (by assumption) ?_)
             | (refine Ints.ln (Mat.row (by assumption) _ (by omega)) ?_)
             | (refine Ints.ix (by assumption) (by omega) ?_)
             | (refine Mat.ix (by assumption) (by omega) ?_)
             | (refine Ints.ix (Mat.row (by assumption) _ (by omega)) (by omega) ?_)
             | (refine Ints.ix (c := 0) (by assumption) (by omega) ?_)
             | (refine Mat.ix (c := 0) (by assumption) (by omega) ?_)
             | (refine Ints.ix (c := 0) (Mat.row (by assumption) _ (by omega)) (by omega) ?_)
             | (refine Ints.ixI (by assumption) (by omega) ?_)
             | (refine Mat.ixI (by assumption) (by omega) ?_)
             | (refine Ints.ixI (Mat.row (by assumption) _ (by omega)) (by omega) ?_)
             | (refine Ints.ld (by assumption) (by omega) ?_)
             | (refine Mat.ld (by assumption) (by omega) ?_)
             | (refine Ints.ld (Mat.row (by assumption) _ (by omega)) (by omega) ?_)
             | (refine At.ld (by assumption) rfl ?_)
             | (refine At.ldN (by assumption) rfl ?_)
             | (refine Prs.ln (by assumption) ?_)
             | (refine Trs.ln (by assumption) ?_)
             | (refine Prs.ix (by assumption) (by omega) ?_)
             | (refine Trs.ix (by assumption) (by omega) ?_)
             | (refine Prs.ldN (by assumption) (by omega) ?_)
             | (refine Trs.ldN (by assumption) (by omega) ?_)
             | (refine At.ldN (Blk.at (by assumption)) rfl ?_)
             | (refine At.ld (Blk.at (by assumption)) rfl ?_)
             | (refine IxA.mk (by omega) ?_)
             | (refine Sl.ln (Own.sl (by assumption)) ?_)
             | (refine Ints.ix (Own.sl (by assumption)) (by omega) ?_)
             | (refine Ints.ixI (Own.sl (by assumption)) (by omega) ?_)
             | (refine Ints.ld (Own.sl (by assumption)) (by omega) ?_))
    exact ⟨rfl, EE⟩
end Go.Proofs.Ytkgogljfngplnaa
set_option linter.unusedVariables false
set_option linter.unusedSimpArgs false
namespace Go.Proofs.Ytkgogljfngplnaa
open Go.Eng
/-- the number of the first c digits -/
def dvt (D : List Int) : Nat → Int
  | 0 => 0
  | c + 1 => dvt D c + D.getD c 0 * 10 ^ c
def dig9 (D : List Int) : Prop := ∀ k, 0 ≤ D.getD k 0 ∧ D.getD k 0 ≤ 9
theorem dvt_bd {D : List Int} (h : dig9 D) : ∀ c : Nat, 0 ≤ dvt D c ∧ dvt D c < 10 ^ c
  | 0 => by simp [dvt]
  | c + 1 => by
    have ih := dvt_bd h c
    have hc := h c
    have hp : (10 : Int) ^ (c + 1) = 10 ^ c * 10 := Int.pow_succ _ _
    have hpos : (0 : Int) < 10 ^ c := by omega
    have h1 := Int.mul_nonneg hc.1 (Int.le_of_lt hpos)
    have h2 := Int.mul_le_mul_of_nonneg_right hc.2 (Int.le_of_lt hpos)
    simp only [dvt]; omega
theorem dvt_congr {D E : List Int} : ∀ {c : Nat}, (∀ k, k < c → D.getD k 0 = E.getD k 0) → dvt D c = dvt E c
  | 0, _ => rfl
  | c + 1, h => by simp only [dvt]; rw [dvt_congr (fun k hk => h k (by omega)), h c (by omega)]
theorem set_get0 {D : List Int} {x : Int} {d k : Nat} (hd : d < D.length) : (D.set d x).getD k 0 = if k = d then x else D.getD k 0 := set_get hd
theorem dig9_set {D : List Int} {x : Int} {d : Nat} (h : dig9 D) (hd : d < D.length) (hx : 0 ≤ x ∧ x ≤ 9) : dig9 (D.set d x) := fun k => by
  rw [set_get0 hd]; split
  · exact hx
  · exact h k
/-- one step of a multiplication -/
theorem dig_step {D E : List Int} {x carry : Int} {d : Nat} (hd : d < D.length) (he : ∀ k, d ≤ k → D.getD k 0 = E.getD k 0) (hi : dvt D d + carry * 10 ^ d = x * dvt E d) :
    dvt (D.set d ((carry + D.getD d 0 * x) % 10)) (d + 1) + (carry + D.getD d 0 * x) / 10 * 10 ^ (d + 1) = x * dvt E (d + 1) := by
  have e1 : dvt (D.set d ((carry + D.getD d 0 * x) % 10)) d = dvt D d := dvt_congr fun k hk => by rw [set_get0 hd, if_neg (by omega)]
  have hp : (10 : Int) ^ (d + 1) = 10 ^ d * 10 := Int.pow_succ _ _
  simp only [dvt]
  rw [e1, set_get0 hd, if_pos rfl, hp, ← he d (Nat.le_refl _), Int.mul_add, ← hi]
  generalize (10 : Int) ^ d = P
  have ht := Int.mul_ediv_add_emod (carry + D.getD d 0 * x) 10
  generalize hq : (carry + D.getD d 0 * x) / 10 = q at *
  generalize hr : (carry + D.getD d 0 * x) % 10 = r at *
  have h1 : q * (P * 10) = 10 * q * P := by rw [Int.mul_comm P 10, ← Int.mul_assoc, Int.mul_comm q 10]
  have h2 : (10 * q + r) * P = (carry + D.getD d 0 * x) * P := by rw [ht]
  rw [Int.add_mul, Int.add_mul] at h2
  have h3 : D.getD d 0 * x * P = x * (D.getD d 0 * P) := by rw [Int.mul_comm (D.getD d 0) x, Int.mul_assoc]
  rw [h1]; omega
theorem carry_bd {carry x y : Int} (h : 0 ≤ carry ∧ carry ≤ 10000) (hx : 0 ≤ x ∧ x ≤ 10000) (hy : 0 ≤ y ∧ y ≤ 9) : 0 ≤ y * x ∧ y * x ≤ 90000 ∧ 0 ≤ carry + y * x ∧ (carry + y * x) / 10 ≤ 10000 := by
  have := mul_bd hy.1 hy.2 hx.1 hx.2
  omega
theorem dig_end {D : List Int} {carry V : Int} (h : dig9 D) (hc : 0 ≤ carry) (hi : dvt D 30 + carry * 10 ^ 30 = V) (hV : V ≤ 10 ^ 29) : dvt D 30 = V := by
  have hb := dvt_bd h 30
  have e30 : (10 : Int) ^ 30 = 1000000000000000000000000000000 := by decide
  have e29 : (10 : Int) ^ 29 = 100000000000000000000000000000 := by decide
  rw [e30] at hi hb
  rw [e29] at hV
  omega
/-- one step of reading digits -/
theorem hor_step {D : List Int} {H V : Int} {d : Nat} (h : H * 10 ^ (d + 1) + dvt D (d + 1) = V) : (10 * H + D.getD d 0) * 10 ^ d + dvt D d = V := by
  have hp : (10 : Int) ^ (d + 1) = 10 ^ d * 10 := Int.pow_succ _ _
  rw [hp] at h
  simp only [dvt] at h
  rw [Int.add_mul]
  have : H * (10 ^ d * 10) = 10 * H * 10 ^ d := by rw [Int.mul_comm (10 ^ d) 10, ← Int.mul_assoc, Int.mul_comm H 10]
  omega
theorem pow_ge {a b : Nat} (h : a ≤ b) : (10 : Int) ^ a ≤ 10 ^ b := by
  induction h with
  | refl => exact Int.le_refl _
  | step _ ih =>
    rename_i m _
    have hp : (10 : Int) ^ (m + 1) = 10 ^ m * 10 := Int.pow_succ _ _
    have : (0 : Int) < 10 ^ m := Int.pow_pos (by decide)
    show (10 : Int) ^ a ≤ 10 ^ (m + 1)
    omega
theorem hor_bd {D : List Int} {H V : Int} {d : Nat} (h9 : dig9 D) (h0 : 0 ≤ H) (h : H * 10 ^ d + dvt D d = V) : H * 10 ^ d ≤ V := by
  have := (dvt_bd h9 d).1; omega
theorem hor_hi {D : List Int} {H V : Int} {d : Nat} (h9 : dig9 D) (h0 : 0 ≤ H) (hd : 12 ≤ d) (h : H * 10 ^ d + dvt D d = V) (hV : V ≤ 1000000000000000000000000) : H ≤ 1000000000000 := by
  have h1 := hor_bd h9 h0 h
  have h2 := Int.mul_le_mul_of_nonneg_left (pow_ge hd) h0
  have e : (10 : Int) ^ 12 = 1000000000000 := by decide
  rw [e] at h2; omega
theorem hor_lo {D : List Int} {H V : Int} {d : Nat} (h9 : dig9 D) (h0 : 0 ≤ H) (h : H * 10 ^ d + dvt D d = V) : H ≤ V := by
  have h1 := hor_bd h9 h0 h
  have h2 := Int.mul_le_mul_of_nonneg_left (pow_ge (Nat.zero_le d)) h0
  rw [Int.pow_zero, Int.mul_one] at h2; omega
end Go.Proofs.Ytkgogljfngplnaa
set_option linter.unusedVariables false
set_option linter.unusedSimpArgs false
namespace Go.Proofs.Ytkgogljfngplnaa
open Go.Eng
abbrev OB (B : Nat) (w : World) (v : Value) (l : List Int) : Prop := Own B 3 1 w v l.length (l.map i64v)
theorem OB.set {B k : Nat} {x : Int} {w : World} {v : Value} {l : List Int} {K : World → Prop} (h : OB B w v l) (hk : k < l.length) (hK : ∀ w', Gr (fun j => v.ownBlock = some j) w w' → OB B w' v (l.set k x) → K w') : St w (ea v k) (.int .i64 x) K :=
  Own.set h (by rw [List.length_map]; exact hk) rfl fun w' hg h' => hK w' hg (by
    rw [set_map] at h'
    show Own B 3 1 w' v (l.set k x).length _
    rw [List.length_set]; exact h')
theorem OB.made {B n : Nat} {w : World} {v : Value} (h : Own B 3 1 w v n (List.replicate n (.int .i64 0))) : OB B w v (List.replicate n 0) := by
  show Own B 3 1 w v (List.replicate n (0 : Int)).length ((List.replicate n (0 : Int)).map i64v)
  rw [List.length_replicate, List.map_replicate]; exact h
end Go.Proofs.Ytkgogljfngplnaa
