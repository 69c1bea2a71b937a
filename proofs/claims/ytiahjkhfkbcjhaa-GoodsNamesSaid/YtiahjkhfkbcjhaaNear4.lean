/- Contracts: near's One and Any. -/
import Derived.Test.YtiahjkhfkbcjhaaNear3
set_option linter.unusedVariables false
set_option linter.unusedSimpArgs false
namespace Go.Proofs.Ytiahjkhfkbcjhaa
open Go.Eng
set_option maxRecDepth 100000
set_option maxHeartbeats 4000000

theorem evs_in {rr : List (List Int)} {a : List Int} {c : Nat} (h : c < (evs rr a).length) : ∃ i k : Nat, i < rr.length ∧ k < rr.length ∧ wth rr a i i < wth rr a i k ∧ (evs rr a).getD c (0, 0, 0) = ((i : Int), (k : Int), moreV rr a i k) := by
  rw [evs_len] at h
  obtain ⟨i, k, hi, hk, hl, e⟩ := envs_in h
  refine ⟨i, k, hi, hk, hl, ?_⟩
  rw [evs_get h, e]
  simp
theorem fm_len {α β : Type} {f : α → List β} (h : ∀ x, (f x).length ≤ 1) : ∀ l : List α, (l.flatMap f).length ≤ l.length
  | [] => by simp
  | x :: l => by have := fm_len h l; have := h x; simp only [List.flatMap_cons, List.length_append, List.length_cons]; omega
theorem fm_snoc {α β : Type} {f : α → List β} {l : List α} {x d : α} {c : Nat} (h : c < l.length) (e : l.getD c d = x) : (l.take (c + 1)).flatMap f = (l.take c).flatMap f ++ f x := by
  rw [take_snoc d l c h, e, List.flatMap_append]; simp
theorem markOf_len (rr : List (List Int)) (a : List Int) (b : Bool) (x : T3) : (markOf rr a b x).length ≤ 1 := by unfold markOf; split <;> simp
theorem missOf_len (rr : List (List Int)) (a : List Int) (x : T3) : (missOf rr a x).length ≤ 1 := by unfold missOf; split <;> simp

theorem none_rc {w : World} {gv av : Value} {vs : List Value} {rr : List (List Int)} {a : List Int} (Hg : Mat w gv vs rr) (Ha : Ints w av a) :
    RC Try.prog 38 [.agg #[gv], av] w NoB (fun u w' => ∃ mv xv, u = .tuple #[mv, xv, .int .i64 (vld rr a)] ∧ OT w.heap.size w' mv (oneM rr a) ∧ OP w.heap.size w' xv (oneX rr a)) := by
  refine RC.mk tyOk Try.func38 rfl (by kernel_rfl) fun w1 E1 => ?_
  replace Hg := Hg.ext E1
  replace Ha := Ha.ext E1
  have EE := Ext.refl w1
  refine Bx.agg fun b2 w2 E2 hb2 Hb _ => ?_
  replace Hg := Hg.ext E2
  replace Ha := Ha.ext E2
  replace EE := EE.ext E2
  conv => whnf
  refine At.ldN Hb rfl ?_
  conv => whnf
  refine VC.rc (nenvies_rc Hg Ha) ?_
  rintro _ w3 E3 ⟨v, rfl, HO⟩
  replace Hg := Hg.ext E3
  replace Ha := Ha.ext E3
  replace EE := EE.ext E3
  replace Hb := Hb.ext E3
  by_cases hv : vld rr a = 0
  · have hal := al_of_vld hv
    have hn := hal.n6
    have hlen := hal.len
    have hrow := hal.row
    rw [evsR, if_pos hv] at HO
    have HT : Trs _ v _ := Own.sl HO
    have hel := envs_le (a := a) hn
    rw [← evs_len] at hel
    repeat' (conv => whnf
             first
             | (refine Dr.quiet tyOk (by kernel_rfl) ?_)
             | (refine Rng.mk (by omega) ?_)
             | (refine Split.pos (by omega) ?_)
             | (refine Split.neg (by omega) ?_)
             | (refine Split.mk (fun h => ?_) (fun h => ?_))
             | (refine Need.mk (by omega) ?_)
             | (refine Ints.ln (by assumption) ?_)
             | (refine Mat.ln (by assumption) ?_)
             | (refine Ints.ln (Mat.row (by assumption) _ (by omega)) ?_)
             | (refine Ints.ix (by assumption) (by omega) ?_)
             | (refine Mat.ix (by assumption) (by omega) ?_)
             | (refine Ints.ix (Mat.row (by assumption) _ (by omega)) (by omega) ?_)
             | (refine Ints.ix (c := 0) (by assumption) (by omega) ?_)
             | (refine Mat.ix (c := 0) (by assumption) (by omega) ?_)
             | (refine Ints.ix (c := 0) (Mat.row (by assumption) _ (by omega)) (by omega) ?_)
             | (refine Ints.ixI (by assumption) (by omega) ?_)
             | (refine Mat.ixI (by assumption) (by omega) ?_)
             | (refine Ints.ixI (Mat.row (by assumption) _ (by omega)) (by omega) ?_)
             | (refine Ints.ld (by assumption) (by omega) ?_)
             | (refine Mat.ld (by assumption) (by omega) ?_)
             | (refine Ints.ld (Mat.row (by assumption) _ (by omega)) (by omega) ?_)
             | (refine At.ld (by assumption) rfl ?_)
             | (refine At.ldN (by assumption) rfl ?_)
             | (refine Prs.ln (by assumption) ?_)
             | (refine Trs.ln (by assumption) ?_)
             | (refine Prs.ix (by assumption) (by omega) ?_)
             | (refine Trs.ix (by assumption) (by omega) ?_)
             | (refine Prs.ldN (by assumption) (by omega) ?_)
             | (refine Trs.ldN (by assumption) (by omega) ?_)
             | (refine At.ldN (Blk.at (by assumption)) rfl ?_)
             | (refine At.ld (Blk.at (by assumption)) rfl ?_)
             | (refine IxA.mk (by omega) ?_)
             | (refine Sl.ln (Own.sl (by assumption)) ?_))
    have Hg__1 := Hg
    have Ha__1 := Ha
    have EE__1 := EE
    have Hb__1 := Hb
    have HT__1 := HT
    have hz1 := Nat.le_trans E1.size EE.size
    refine Lp.mk tyOk [false, false, false, false, true, true, false, false, false, true, true, false, false, false, false, false, false, false, false, false, false, false, true, true, true, true, true, true, true, true, true, true, true, true, true, true, true, true, true, true, true, true, true, true, true, true, true, true, true, true] (fun m fr wr => getK fr 4 fun mv => getK fr 5 fun xv => getK fr 22 fun j => ∃ c : Nat, c ≤ (evs rr a).length ∧ m = (evs rr a).length - c ∧ j = .int .i64 (c : Int) ∧ (OT w3.heap.size wr mv (((evs rr a).take c).flatMap (markOf rr a true))) ∧ (OP w3.heap.size wr xv (((evs rr a).take c).flatMap (missOf rr a))) ∧ Ext w3 wr) ((evs rr a).length) ?_ ?_
    · exact ⟨0, Nat.zero_le _, rfl, rfl, Own.nil, Own.nil, Ext.refl _⟩
    · intro m w4 u4 u5 u9 u10 u22 u23 u24 u25 u26 u27 u28 u29 u30 u31 u32 u33 u34 u35 u36 u37 u38 u39 u40 u41 u42 u43 u44 u45 u46 u47 u48 u49 hR
      obtain ⟨c, hc, rfl, rfl, Hm, Hx, EL1⟩ := hR
      replace Hg := Hg__1.ext EL1
      replace Ha := Ha__1.ext EL1
      replace EE := EE__1.ext EL1
      replace Hb := Hb__1.ext EL1
      replace HT := HT__1.ext EL1
      have hml := fm_len (markOf_len rr a true) ((evs rr a).take c)
      have hxl := fm_len (missOf_len rr a) ((evs rr a).take c)
      rw [List.length_take] at hml hxl
      repeat' (conv => whnf
               first
               | (refine Dr.quiet tyOk (by kernel_rfl) ?_)
               | (refine Rng.mk (by omega) ?_)
               | (refine Split.pos (by omega) ?_)
               | (refine Split.neg (by omega) ?_)
               | (refine Split.mk (fun h => ?_) (fun h => ?_))
               | (refine Need.mk (by omega) ?_)
               | (refine Ints.ln (by assumption) ?_)
               | (refine Mat.ln (by assumption) ?_)
               | (refine Ints.ln (Mat.row (by assumption) _ (by omega)) ?_)
               | (refine Ints.ix (by assumption) (by omega) ?_)
               | (refine Mat.ix (by assumption) (by omega) ?_)
               | (refine Ints.ix (Mat.row (by assumption) _ (by omega)) (by omega) ?_)
               | (refine Ints.ix (c := 0) (by assumption) (by omega) ?_)
               | (refine Mat.ix (c := 0) (by assumption) (by omega) ?_)
               | (refine Ints.ix (c := 0) (Mat.row (by assumption) _ (by omega)) (by omega) ?_)
               | (refine Ints.ixI (by assumption) (by omega) ?_)
               | (refine Mat.ixI (by assumption) (by omega) ?_)
               | (refine Ints.ixI (Mat.row (by assumption) _ (by omega)) (by omega) ?_)
               | (refine Ints.ld (by assumption) (by omega) ?_)
               | (refine Mat.ld (by assumption) (by omega) ?_)
               | (refine Ints.ld (Mat.row (by assumption) _ (by omega)) (by omega) ?_)
               | (refine At.ld (by assumption) rfl ?_)
               | (refine At.ldN (by assumption) rfl ?_)
               | (refine Prs.ln (by assumption) ?_)
               | (refine Trs.ln (by assumption) ?_)
               | (refine Prs.ix (by assumption) (by omega) ?_)
               | (refine Trs.ix (by assumption) (by omega) ?_)
               | (refine Prs.ldN (by assumption) (by omega) ?_)
               | (refine Trs.ldN (by assumption) (by omega) ?_)
               | (refine At.ldN (Blk.at (by assumption)) rfl ?_)
               | (refine At.ld (Blk.at (by assumption)) rfl ?_)
               | (refine IxA.mk (by omega) ?_)
               | (refine Sl.ln (Own.sl (by assumption)) ?_))
      · obtain ⟨i, k, hi, hk, hlt, hik⟩ := evs_in (rr := rr) (a := a) (c := c) (by omega)
        rw [hik]
        have Hg__2 := Hg
        have Ha__2 := Ha
        have EE__2 := EE
        have Hb__2 := Hb
        have HT__2 := HT
        have EL1__2 := EL1
        have Hm__2 := Hm
        have Hx__2 := Hx
        conv => whnf
        refine VE.alloc eEnvy fun xb w5 E5 hb_xb Hk => ?_
        replace Hg := Hg.ext E5
        replace Ha := Ha.ext E5
        replace EE := EE.ext E5
        replace Hb := Hb.ext E5
        replace HT := HT.ext E5
        replace EL1 := EL1.ext E5
        replace Hm := Hm.ext E5
        replace Hx := Hx.ext E5
        have EL2 := E5
        conv => whnf
        refine Blk.all Hk (by kernel_rfl) (by decide) rfl rfl (by intro v hv; simp at hv; rcases hv with rfl | rfl | rfl | rfl | rfl <;> rfl) fun w6 G6 Hk' => ?_
        have E6 : Ext w4 w6 := EL2.new G6 fun i hi hk => by omega
        replace Hk := Hk'
        replace Hg := Hg__2.ext E6
        replace Ha := Ha__2.ext E6
        replace EE := EE__2.ext E6
        replace Hb := Hb__2.ext E6
        replace HT := HT__2.ext E6
        replace EL1 := EL1__2.ext E6
        replace Hm := Hm__2.ext E6
        replace Hx := Hx__2.ext E6
        replace EL2 := E6
        have cf := nfirst_pc (k := (k : Int)) (x := moreV rr a i k) (b := true) Hg Ha hi (by rw [hrow i hi]; omega)
        by_cases hf : 0 ≤ firstG rr a i k (moreV rr a i k) true
        · repeat' (conv => whnf
                   first
                   | (refine Dr.quiet tyOk (by kernel_rfl) ?_)
                   | (refine VC.pure cf ?_)
                   | (refine VS.b3 Try.underlying74 eMark (by decide +kernel) ⟨rfl, rfl, rfl⟩ ?_)
                   | (refine Rng.mk (by omega) ?_)
                   | (refine Split.pos (by omega) ?_)
                   | (refine Split.neg (by omega) ?_)
                   | (refine Split.mk (fun h => ?_) (fun h => ?_))
                   | (refine Need.mk (by omega) ?_)
                   | (refine Ints.ln (by assumption) ?_)
                   | (refine Mat.ln (by assumption) ?_)
                   | (refine Ints.ln (Mat.row (by assumption) _ (by omega)) ?_)
                   | (refine Ints.ix (by assumption) (by omega) ?_)
                   | (refine Mat.ix (by assumption) (by omega) ?_)
                   | (refine Ints.ix (Mat.row (by assumption) _ (by omega)) (by omega) ?_)
                   | (refine Ints.ix (c := 0) (by assumption) (by omega) ?_)
                   | (refine Mat.ix (c := 0) (by assumption) (by omega) ?_)
                   | (refine Ints.ix (c := 0) (Mat.row (by assumption) _ (by omega)) (by omega) ?_)
                   | (refine Ints.ixI (by assumption) (by omega) ?_)
                   | (refine Mat.ixI (by assumption) (by omega) ?_)
                   | (refine Ints.ixI (Mat.row (by assumption) _ (by omega)) (by omega) ?_)
                   | (refine Ints.ld (by assumption) (by omega) ?_)
                   | (refine Mat.ld (by assumption) (by omega) ?_)
                   | (refine Ints.ld (Mat.row (by assumption) _ (by omega)) (by omega) ?_)
                   | (refine At.ld (by assumption) rfl ?_)
                   | (refine At.ldN (by assumption) rfl ?_)
                   | (refine Prs.ln (by assumption) ?_)
                   | (refine Trs.ln (by assumption) ?_)
                   | (refine Prs.ix (by assumption) (by omega) ?_)
                   | (refine Trs.ix (by assumption) (by omega) ?_)
                   | (refine Prs.ldN (by assumption) (by omega) ?_)
                   | (refine Trs.ldN (by assumption) (by omega) ?_)
                   | (refine At.ldN (Blk.at (by assumption)) rfl ?_)
                   | (refine At.ld (Blk.at (by assumption)) rfl ?_)
                   | (refine IxA.mk (by omega) ?_)
                   | (refine Sl.ln (Own.sl (by assumption)) ?_))
          refine VE.lit1A Try.underlying58 eMark rfl (by decide) fun lv w7 E7 Hl => ?_
          replace Hg := Hg.ext E7
          replace Ha := Ha.ext E7
          replace EE := EE.ext E7
          replace Hb := Hb.ext E7
          replace HT := HT.ext E7
          replace EL1 := EL1.ext E7
          replace Hm := Hm.ext E7
          replace Hx := Hx.ext E7
          replace EL2 := EL2.ext E7
          replace Hk := Hk.ext E7
          conv => whnf
          refine VE.app Try.underlying58 eMark rfl (by omega) Hm EL1 rfl Hl (by simp [Value.oneCell']) (by first | omega | (simp only [List.length_map, List.length_range]; omega) | (simp; omega)) (by first | omega | (simp only [List.length_map, List.length_range]; omega) | (simp; omega)) fun v8 w8 E8 G8 H8 => ?_
          replace Hx := Own.gr Hx G8 (fun k hk hS => Own.ne Hm Hx (by decide) k hS hk)
          replace Hg := Hg__1.ext E8
          replace Ha := Ha__1.ext E8
          replace EE := EE__1.ext E8
          replace Hb := Hb__1.ext E8
          replace HT := HT__1.ext E8
          replace EL1 := E8
          repeat' (conv => whnf
                   first
                   | (refine Dr.quiet tyOk (by kernel_rfl) ?_)
                   | (refine Rng.mk (by omega) ?_)
                   | (refine Split.pos (by omega) ?_)
                   | (refine Split.neg (by omega) ?_)
                   | (refine Split.mk (fun h => ?_) (fun h => ?_))
                   | (refine Need.mk (by omega) ?_)
                   | (refine Ints.ln (by assumption) ?_)
                   | (refine Mat.ln (by assumption) ?_)
                   | (refine Ints.ln (Mat.row (by assumption) _ (by omega)) ?_)
                   | (refine Ints.ix (by assumption) (by omega) ?_)
                   | (refine Mat.ix (by assumption) (by omega) ?_)
                   | (refine Ints.ix (Mat.row (by assumption) _ (by omega)) (by omega) ?_)
                   | (refine Ints.ix (c := 0) (by assumption) (by omega) ?_)
                   | (refine Mat.ix (c := 0) (by assumption) (by omega) ?_)
                   | (refine Ints.ix (c := 0) (Mat.row (by assumption) _ (by omega)) (by omega) ?_)
                   | (refine Ints.ixI (by assumption) (by omega) ?_)
                   | (refine Mat.ixI (by assumption) (by omega) ?_)
                   | (refine Ints.ixI (Mat.row (by assumption) _ (by omega)) (by omega) ?_)
                   | (refine Ints.ld (by assumption) (by omega) ?_)
                   | (refine Mat.ld (by assumption) (by omega) ?_)
                   | (refine Ints.ld (Mat.row (by assumption) _ (by omega)) (by omega) ?_)
                   | (refine At.ld (by assumption) rfl ?_)
                   | (refine At.ldN (by assumption) rfl ?_)
                   | (refine Prs.ln (by assumption) ?_)
                   | (refine Trs.ln (by assumption) ?_)
                   | (refine Prs.ix (by assumption) (by omega) ?_)
                   | (refine Trs.ix (by assumption) (by omega) ?_)
                   | (refine Prs.ldN (by assumption) (by omega) ?_)
                   | (refine Trs.ldN (by assumption) (by omega) ?_)
                   | (refine At.ldN (Blk.at (by assumption)) rfl ?_)
                   | (refine At.ld (Blk.at (by assumption)) rfl ?_)
                   | (refine IxA.mk (by omega) ?_)
                   | (refine Sl.ln (Own.sl (by assumption)) ?_))
          refine ⟨_, (by omega : (evs rr a).length - (c + 1) < (evs rr a).length - c), rfl, c + 1, by omega, rfl, rfl, ?_, ?_, EL1⟩
          · rw [fm_snoc (by omega) hik]
            simp only [markOf, if_pos hf]
            rw [flat3_snoc] at H8
            exact OT.of H8
          · rw [fm_snoc (by omega) hik]
            simp only [missOf, if_pos hf, List.append_nil]
            exact Hx
        · repeat' (conv => whnf
                   first
                   | (refine Dr.quiet tyOk (by kernel_rfl) ?_)
                   | (refine VC.pure cf ?_)
                   | (refine VS.arr2 Try.underlying51 ePair cells3 ?_)
                   | (refine Rng.mk (by omega) ?_)
                   | (refine Split.pos (by omega) ?_)
                   | (refine Split.neg (by omega) ?_)
                   | (refine Split.mk (fun h => ?_) (fun h => ?_))
                   | (refine Need.mk (by omega) ?_)
                   | (refine Ints.ln (by assumption) ?_)
                   | (refine Mat.ln (by assumption) ?_)
                   | (refine Ints.ln (Mat.row (by assumption) _ (by omega)) ?_)
                   | (refine Ints.ix (by assumption) (by omega) ?_)
                   | (refine Mat.ix (by assumption) (by omega) ?_)
                   | (refine Ints.ix (Mat.row (by assumption) _ (by omega)) (by omega) ?_)
                   | (refine Ints.ix (c := 0) (by assumption) (by omega) ?_)
                   | (refine Mat.ix (c := 0) (by assumption) (by omega) ?_)
                   | (refine Ints.ix (c := 0) (Mat.row (by assumption) _ (by omega)) (by omega) ?_)
                   | (refine Ints.ixI (by assumption) (by omega) ?_)
                   | (refine Mat.ixI (by assumption) (by omega) ?_)
                   | (refine Ints.ixI (Mat.row (by assumption) _ (by omega)) (by omega) ?_)
                   | (refine Ints.ld (by assumption) (by omega) ?_)
                   | (refine Mat.ld (by assumption) (by omega) ?_)
                   | (refine Ints.ld (Mat.row (by assumption) _ (by omega)) (by omega) ?_)
                   | (refine At.ld (by assumption) rfl ?_)
                   | (refine At.ldN (by assumption) rfl ?_)
                   | (refine Prs.ln (by assumption) ?_)
                   | (refine Trs.ln (by assumption) ?_)
                   | (refine Prs.ix (by assumption) (by omega) ?_)
                   | (refine Trs.ix (by assumption) (by omega) ?_)
                   | (refine Prs.ldN (by assumption) (by omega) ?_)
                   | (refine Trs.ldN (by assumption) (by omega) ?_)
                   | (refine At.ldN (Blk.at (by assumption)) rfl ?_)
                   | (refine At.ld (Blk.at (by assumption)) rfl ?_)
                   | (refine IxA.mk (by omega) ?_)
                   | (refine Sl.ln (Own.sl (by assumption)) ?_))
          refine VE.lit1A Try.underlying33 ePair rfl (by decide) fun lv w9 E9 Hl => ?_
          replace Hg := Hg.ext E9
          replace Ha := Ha.ext E9
          replace EE := EE.ext E9
          replace Hb := Hb.ext E9
          replace HT := HT.ext E9
          replace EL1 := EL1.ext E9
          replace Hm := Hm.ext E9
          replace Hx := Hx.ext E9
          replace EL2 := EL2.ext E9
          replace Hk := Hk.ext E9
          conv => whnf
          refine VE.app Try.underlying33 ePair rfl (by omega) Hx EL1 rfl Hl (by simp [Value.oneCell']) (by first | omega | (simp only [List.length_map, List.length_range]; omega) | (simp; omega)) (by first | omega | (simp only [List.length_map, List.length_range]; omega) | (simp; omega)) fun v8 w10 E10 G10 H8 => ?_
          replace Hm := Own.gr Hm G10 (fun k hk hS => Own.ne Hx Hm (by decide) k hS hk)
          replace Hg := Hg__1.ext E10
          replace Ha := Ha__1.ext E10
          replace EE := EE__1.ext E10
          replace Hb := Hb__1.ext E10
          replace HT := HT__1.ext E10
          replace EL1 := E10
          repeat' (conv => whnf
                   first
                   | (refine Dr.quiet tyOk (by kernel_rfl) ?_)
                   | (refine Rng.mk (by omega) ?_)
                   | (refine Split.pos (by omega) ?_)
                   | (refine Split.neg (by omega) ?_)
                   | (refine Split.mk (fun h => ?_) (fun h => ?_))
                   | (refine Need.mk (by omega) ?_)
                   | (refine Ints.ln (by assumption) ?_)
                   | (refine Mat.ln (by assumption) ?_)
                   | (refine Ints.ln (Mat.row (by assumption) _ (by omega)) ?_)
                   | (refine Ints.ix (by assumption) (by omega) ?_)
                   | (refine Mat.ix (by assumption) (by omega) ?_)
                   | (refine Ints.ix (Mat.row (by assumption) _ (by omega)) (by omega) ?_)
                   | (refine Ints.ix (c := 0) (by assumption) (by omega) ?_)
                   | (refine Mat.ix (c := 0) (by assumption) (by omega) ?_)
                   | (refine Ints.ix (c := 0) (Mat.row (by assumption) _ (by omega)) (by omega) ?_)
                   | (refine Ints.ixI (by assumption) (by omega) ?_)
                   | (refine Mat.ixI (by assumption) (by omega) ?_)
                   | (refine Ints.ixI (Mat.row (by assumption) _ (by omega)) (by omega) ?_)
                   | (refine Ints.ld (by assumption) (by omega) ?_)
                   | (refine Mat.ld (by assumption) (by omega) ?_)
                   | (refine Ints.ld (Mat.row (by assumption) _ (by omega)) (by omega) ?_)
                   | (refine At.ld (by assumption) rfl ?_)
                   | (refine At.ldN (by assumption) rfl ?_)
                   | (refine Prs.ln (by assumption) ?_)
                   | (refine Trs.ln (by assumption) ?_)
                   | (refine Prs.ix (by assumption) (by omega) ?_)
                   | (refine Trs.ix (by assumption) (by omega) ?_)
                   | (refine Prs.ldN (by assumption) (by omega) ?_)
                   | (refine Trs.ldN (by assumption) (by omega) ?_)
                   | (refine At.ldN (Blk.at (by assumption)) rfl ?_)
                   | (refine At.ld (Blk.at (by assumption)) rfl ?_)
                   | (refine IxA.mk (by omega) ?_)
                   | (refine Sl.ln (Own.sl (by assumption)) ?_))
          refine ⟨_, (by omega : (evs rr a).length - (c + 1) < (evs rr a).length - c), rfl, c + 1, by omega, rfl, rfl, ?_, ?_, EL1⟩
          · rw [fm_snoc (by omega) hik]
            simp only [markOf, if_neg hf, List.append_nil]
            exact Hm
          · rw [fm_snoc (by omega) hik]
            simp only [missOf, if_neg hf]
            rw [flatP_snoc] at H8
            exact OP.of H8
      · obtain rfl : c = (evs rr a).length := by omega
        refine ⟨EE, _, _, by rw [hv], ?_⟩
        rw [List.take_length] at Hm Hx
        rw [oneM, oneX, evsR, if_pos hv]
        exact ⟨Own.base Hm hz1, Own.base Hx hz1⟩
  · repeat' (conv => whnf
             first
             | (refine Dr.quiet tyOk (by kernel_rfl) ?_)
             | (refine Rng.mk (by omega) ?_)
             | (refine Split.pos (by omega) ?_)
             | (refine Split.neg (by omega) ?_)
             | (refine Split.mk (fun h => ?_) (fun h => ?_))
             | (refine Need.mk (by omega) ?_)
             | (refine Ints.ln (by assumption) ?_)
             | (refine Mat.ln (by assumption) ?_)
             | (refine Ints.ln (Mat.row (by assumption) _ (by omega)) ?_)
             | (refine Ints.ix (by assumption) (by omega) ?_)
             | (refine Mat.ix (by assumption) (by omega) ?_)
             | (refine Ints.ix (Mat.row (by assumption) _ (by omega)) (by omega) ?_)
             | (refine Ints.ix (c := 0) (by assumption) (by omega) ?_)
             | (refine Mat.ix (c := 0) (by assumption) (by omega) ?_)
             | (refine Ints.ix (c := 0) (Mat.row (by assumption) _ (by omega)) (by omega) ?_)
             | (refine Ints.ixI (by assumption) (by omega) ?_)
             | (refine Mat.ixI (by assumption) (by omega) ?_)
             | (refine Ints.ixI (Mat.row (by assumption) _ (by omega)) (by omega) ?_)
             | (refine Ints.ld (by assumption) (by omega) ?_)
             | (refine Mat.ld (by assumption) (by omega) ?_)
             | (refine Ints.ld (Mat.row (by assumption) _ (by omega)) (by omega) ?_)
             | (refine At.ld (by assumption) rfl ?_)
             | (refine At.ldN (by assumption) rfl ?_))
    refine ⟨EE, _, _, rfl, ?_⟩
    rw [oneM, oneX, evsR, if_neg hv]
    exact ⟨Own.nil, Own.nil⟩
theorem nany_rc {w : World} {gv av : Value} {vs : List Value} {rr : List (List Int)} {a : List Int} (Hg : Mat w gv vs rr) (Ha : Ints w av a) :
    RC Try.prog 40 [.agg #[gv], av] w NoB (fun u w' => ∃ mv, u = .tuple #[mv, .int .i64 (vld rr a)] ∧ OT w.heap.size w' mv (anyM rr a)) := by
  refine RC.mk tyOk Try.func40 rfl (by kernel_rfl) fun w1 E1 => ?_
  replace Hg := Hg.ext E1
  replace Ha := Ha.ext E1
  have EE := Ext.refl w1
  refine Bx.agg fun b2 w2 E2 hb2 Hb _ => ?_
  replace Hg := Hg.ext E2
  replace Ha := Ha.ext E2
  replace EE := EE.ext E2
  conv => whnf
  refine At.ldN Hb rfl ?_
  conv => whnf
  refine VC.rc (nenvies_rc Hg Ha) ?_
  rintro _ w3 E3 ⟨v, rfl, HO⟩
  replace Hg := Hg.ext E3
  replace Ha := Ha.ext E3
  replace EE := EE.ext E3
  replace Hb := Hb.ext E3
  by_cases hv : vld rr a = 0
  · have hal := al_of_vld hv
    have hn := hal.n6
    have hlen := hal.len
    have hrow := hal.row
    rw [evsR, if_pos hv] at HO
    have HT : Trs _ v _ := Own.sl HO
    have hel := envs_le (a := a) hn
    rw [← evs_len] at hel
    repeat' (conv => whnf
             first
             | (refine Dr.quiet tyOk (by kernel_rfl) ?_)
             | (refine Rng.mk (by omega) ?_)
             | (refine Split.pos (by omega) ?_)
             | (refine Split.neg (by omega) ?_)
             | (refine Split.mk (fun h => ?_) (fun h => ?_))
             | (refine Need.mk (by omega) ?_)
             | (refine Ints.ln (by assumption) ?_)
             | (refine Mat.ln (by assumption) ?_)
             | (refine Ints.ln (Mat.row (by assumption) _ (by omega)) ?_)
             | (refine Ints.ix (by assumption) (by omega) ?_)
             | (refine Mat.ix (by assumption) (by omega) ?_)
             | (refine Ints.ix (Mat.row (by assumption) _ (by omega)) (by omega) ?_)
             | (refine Ints.ix (c := 0) (by assumption) (by omega) ?_)
             | (refine Mat.ix (c := 0) (by assumption) (by omega) ?_)
             | (refine Ints.ix (c := 0) (Mat.row (by assumption) _ (by omega)) (by omega) ?_)
             | (refine Ints.ixI (by assumption) (by omega) ?_)
             | (refine Mat.ixI (by assumption) (by omega) ?_)
             | (refine Ints.ixI (Mat.row (by assumption) _ (by omega)) (by omega) ?_)
             | (refine Ints.ld (by assumption) (by omega) ?_)
             | (refine Mat.ld (by assumption) (by omega) ?_)
             | (refine Ints.ld (Mat.row (by assumption) _ (by omega)) (by omega) ?_)
             | (refine At.ld (by assumption) rfl ?_)
             | (refine At.ldN (by assumption) rfl ?_)
             | (refine Prs.ln (by assumption) ?_)
             | (refine Trs.ln (by assumption) ?_)
             | (refine Prs.ix (by assumption) (by omega) ?_)
             | (refine Trs.ix (by assumption) (by omega) ?_)
             | (refine Prs.ldN (by assumption) (by omega) ?_)
             | (refine Trs.ldN (by assumption) (by omega) ?_)
             | (refine At.ldN (Blk.at (by assumption)) rfl ?_)
             | (refine At.ld (Blk.at (by assumption)) rfl ?_)
             | (refine IxA.mk (by omega) ?_)
             | (refine Sl.ln (Own.sl (by assumption)) ?_))
    have Hg__1 := Hg
    have Ha__1 := Ha
    have EE__1 := EE
    have Hb__1 := Hb
    have HT__1 := HT
    have hz1 := Nat.le_trans E1.size EE.size
    refine Lp.mk tyOk [false, false, false, false, false, false, false, false, true, false, true, true, false, false, false, false, false, false, false, false, false, false, false, true, true, true, true, true, true, true, true, true, true, true, true, true, true, true, true, true, true, true, true] (fun m fr wr => getK fr 8 fun mv => getK fr 23 fun j => ∃ c : Nat, c ≤ (evs rr a).length ∧ m = (evs rr a).length - c ∧ j = .int .i64 (c : Int) ∧ (OT w3.heap.size wr mv (((evs rr a).take c).flatMap (markOf rr a false))) ∧ Ext w3 wr) ((evs rr a).length) ?_ ?_
    · exact ⟨0, Nat.zero_le _, rfl, rfl, Own.nil, Ext.refl _⟩
    · intro m w4 u8 u10 u11 u23 u24 u25 u26 u27 u28 u29 u30 u31 u32 u33 u34 u35 u36 u37 u38 u39 u40 u41 u42 hR
      obtain ⟨c, hc, rfl, rfl, Hm, EL1⟩ := hR
      replace Hg := Hg__1.ext EL1
      replace Ha := Ha__1.ext EL1
      replace EE := EE__1.ext EL1
      replace Hb := Hb__1.ext EL1
      replace HT := HT__1.ext EL1
      have hml := fm_len (markOf_len rr a false) ((evs rr a).take c)
      rw [List.length_take] at hml
      repeat' (conv => whnf
               first
               | (refine Dr.quiet tyOk (by kernel_rfl) ?_)
               | (refine Rng.mk (by omega) ?_)
               | (refine Split.pos (by omega) ?_)
               | (refine Split.neg (by omega) ?_)
               | (refine Split.mk (fun h => ?_) (fun h => ?_))
               | (refine Need.mk (by omega) ?_)
               | (refine Ints.ln (by assumption) ?_)
               | (refine Mat.ln (by assumption) ?_)
               | (refine Ints.ln (Mat.row (by assumption) _ (by omega)) ?_)
               | (refine Ints.ix (by assumption) (by omega) ?_)
               | (refine Mat.ix (by assumption) (by omega) ?_)
               | (refine Ints.ix (Mat.row (by assumption) _ (by omega)) (by omega) ?_)
               | (refine Ints.ix (c := 0) (by assumption) (by omega) ?_)
               | (refine Mat.ix (c := 0) (by assumption) (by omega) ?_)
               | (refine Ints.ix (c := 0) (Mat.row (by assumption) _ (by omega)) (by omega) ?_)
               | (refine Ints.ixI (by assumption) (by omega) ?_)
               | (refine Mat.ixI (by assumption) (by omega) ?_)
               | (refine Ints.ixI (Mat.row (by assumption) _ (by omega)) (by omega) ?_)
               | (refine Ints.ld (by assumption) (by omega) ?_)
               | (refine Mat.ld (by assumption) (by omega) ?_)
               | (refine Ints.ld (Mat.row (by assumption) _ (by omega)) (by omega) ?_)
               | (refine At.ld (by assumption) rfl ?_)
               | (refine At.ldN (by assumption) rfl ?_)
               | (refine Prs.ln (by assumption) ?_)
               | (refine Trs.ln (by assumption) ?_)
               | (refine Prs.ix (by assumption) (by omega) ?_)
               | (refine Trs.ix (by assumption) (by omega) ?_)
               | (refine Prs.ldN (by assumption) (by omega) ?_)
               | (refine Trs.ldN (by assumption) (by omega) ?_)
               | (refine At.ldN (Blk.at (by assumption)) rfl ?_)
               | (refine At.ld (Blk.at (by assumption)) rfl ?_)
               | (refine IxA.mk (by omega) ?_)
               | (refine Sl.ln (Own.sl (by assumption)) ?_))
      · obtain ⟨i, k, hi, hk, hlt, hik⟩ := evs_in (rr := rr) (a := a) (c := c) (by omega)
        rw [hik]
        have Hg__2 := Hg
        have Ha__2 := Ha
        have EE__2 := EE
        have Hb__2 := Hb
        have HT__2 := HT
        have EL1__2 := EL1
        have Hm__2 := Hm
        conv => whnf
        refine VE.alloc eEnvy fun xb w5 E5 hb_xb Hk => ?_
        replace Hg := Hg.ext E5
        replace Ha := Ha.ext E5
        replace EE := EE.ext E5
        replace Hb := Hb.ext E5
        replace HT := HT.ext E5
        replace EL1 := EL1.ext E5
        replace Hm := Hm.ext E5
        have EL2 := E5
        conv => whnf
        refine Blk.all Hk (by kernel_rfl) (by decide) rfl rfl (by intro v hv; simp at hv; rcases hv with rfl | rfl | rfl | rfl | rfl <;> rfl) fun w6 G6 Hk' => ?_
        have E6 : Ext w4 w6 := EL2.new G6 fun i hi hk => by omega
        replace Hk := Hk'
        replace Hg := Hg__2.ext E6
        replace Ha := Ha__2.ext E6
        replace EE := EE__2.ext E6
        replace Hb := Hb__2.ext E6
        replace HT := HT__2.ext E6
        replace EL1 := EL1__2.ext E6
        replace Hm := Hm__2.ext E6
        replace EL2 := E6
        have cf := nfirst_pc (k := (k : Int)) (x := moreV rr a i k) (b := false) Hg Ha hi (by rw [hrow i hi]; omega)
        by_cases hf : 0 ≤ firstG rr a i k (moreV rr a i k) false
        · repeat' (conv => whnf
                   first
                   | (refine Dr.quiet tyOk (by kernel_rfl) ?_)
                   | (refine VC.pure cf ?_)
                   | (refine VS.b3 Try.underlying74 eMark (by decide +kernel) ⟨rfl, rfl, rfl⟩ ?_)
                   | (refine Rng.mk (by omega) ?_)
                   | (refine Split.pos (by omega) ?_)
                   | (refine Split.neg (by omega) ?_)
                   | (refine Split.mk (fun h => ?_) (fun h => ?_))
                   | (refine Need.mk (by omega) ?_)
                   | (refine Ints.ln (by assumption) ?_)
                   | (refine Mat.ln (by assumption) ?_)
                   | (refine Ints.ln (Mat.row (by assumption) _ (by omega)) ?_)
                   | (refine Ints.ix (by assumption) (by omega) ?_)
                   | (refine Mat.ix (by assumption) (by omega) ?_)
                   | (refine Ints.ix (Mat.row (by assumption) _ (by omega)) (by omega) ?_)
                   | (refine Ints.ix (c := 0) (by assumption) (by omega) ?_)
                   | (refine Mat.ix (c := 0) (by assumption) (by omega) ?_)
                   | (refine Ints.ix (c := 0) (Mat.row (by assumption) _ (by omega)) (by omega) ?_)
                   | (refine Ints.ixI (by assumption) (by omega) ?_)
                   | (refine Mat.ixI (by assumption) (by omega) ?_)
                   | (refine Ints.ixI (Mat.row (by assumption) _ (by omega)) (by omega) ?_)
                   | (refine Ints.ld (by assumption) (by omega) ?_)
                   | (refine Mat.ld (by assumption) (by omega) ?_)
                   | (refine Ints.ld (Mat.row (by assumption) _ (by omega)) (by omega) ?_)
                   | (refine At.ld (by assumption) rfl ?_)
                   | (refine At.ldN (by assumption) rfl ?_)
                   | (refine Prs.ln (by assumption) ?_)
                   | (refine Trs.ln (by assumption) ?_)
                   | (refine Prs.ix (by assumption) (by omega) ?_)
                   | (refine Trs.ix (by assumption) (by omega) ?_)
                   | (refine Prs.ldN (by assumption) (by omega) ?_)
                   | (refine Trs.ldN (by assumption) (by omega) ?_)
                   | (refine At.ldN (Blk.at (by assumption)) rfl ?_)
                   | (refine At.ld (Blk.at (by assumption)) rfl ?_)
                   | (refine IxA.mk (by omega) ?_)
                   | (refine Sl.ln (Own.sl (by assumption)) ?_))
          refine VE.lit1A Try.underlying58 eMark rfl (by decide) fun lv w7 E7 Hl => ?_
          replace Hg := Hg.ext E7
          replace Ha := Ha.ext E7
          replace EE := EE.ext E7
          replace Hb := Hb.ext E7
          replace HT := HT.ext E7
          replace EL1 := EL1.ext E7
          replace Hm := Hm.ext E7
          replace EL2 := EL2.ext E7
          replace Hk := Hk.ext E7
          conv => whnf
          refine VE.app Try.underlying58 eMark rfl (by omega) Hm EL1 rfl Hl (by simp [Value.oneCell']) (by first | omega | (simp only [List.length_map, List.length_range]; omega) | (simp; omega)) (by first | omega | (simp only [List.length_map, List.length_range]; omega) | (simp; omega)) fun v8 w8 E8 G8 H8 => ?_
          replace Hg := Hg__1.ext E8
          replace Ha := Ha__1.ext E8
          replace EE := EE__1.ext E8
          replace Hb := Hb__1.ext E8
          replace HT := HT__1.ext E8
          replace EL1 := E8
          repeat' (conv => whnf
                   first
                   | (refine Dr.quiet tyOk (by kernel_rfl) ?_)
                   | (refine Rng.mk (by omega) ?_)
                   | (refine Split.pos (by omega) ?_)
                   | (refine Split.neg (by omega) ?_)
                   | (refine Split.mk (fun h => ?_) (fun h => ?_))
                   | (refine Need.mk (by omega) ?_)
                   | (refine Ints.ln (by assumption) ?_)
                   | (refine Mat.ln (by assumption) ?_)
                   | (refine Ints.ln (Mat.row (by assumption) _ (by omega)) ?_)
                   | (refine Ints.ix (by assumption) (by omega) ?_)
                   | (refine Mat.ix (by assumption) (by omega) ?_)
                   | (refine Ints.ix (Mat.row (by assumption) _ (by omega)) (by omega) ?_)
                   | (refine Ints.ix (c := 0) (by assumption) (by omega) ?_)
                   | (refine Mat.ix (c := 0) (by assumption) (by omega) ?_)
                   | (refine Ints.ix (c := 0) (Mat.row (by assumption) _ (by omega)) (by omega) ?_)
                   | (refine Ints.ixI (by assumption) (by omega) ?_)
                   | (refine Mat.ixI (by assumption) (by omega) ?_)
                   | (refine Ints.ixI (Mat.row (by assumption) _ (by omega)) (by omega) ?_)
                   | (refine Ints.ld (by assumption) (by omega) ?_)
                   | (refine Mat.ld (by assumption) (by omega) ?_)
                   | (refine Ints.ld (Mat.row (by assumption) _ (by omega)) (by omega) ?_)
                   | (refine At.ld (by assumption) rfl ?_)
                   | (refine At.ldN (by assumption) rfl ?_)
                   | (refine Prs.ln (by assumption) ?_)
                   | (refine Trs.ln (by assumption) ?_)
                   | (refine Prs.ix (by assumption) (by omega) ?_)
                   | (refine Trs.ix (by assumption) (by omega) ?_)
                   | (refine Prs.ldN (by assumption) (by omega) ?_)
                   | (refine Trs.ldN (by assumption) (by omega) ?_)
                   | (refine At.ldN (Blk.at (by assumption)) rfl ?_)
                   | (refine At.ld (Blk.at (by assumption)) rfl ?_)
                   | (refine IxA.mk (by omega) ?_)
                   | (refine Sl.ln (Own.sl (by assumption)) ?_))
          refine ⟨_, (by omega : (evs rr a).length - (c + 1) < (evs rr a).length - c), rfl, c + 1, by omega, rfl, rfl, ?_, EL1⟩
          · rw [fm_snoc (by omega) hik]
            simp only [markOf, if_pos hf]
            rw [flat3_snoc] at H8
            exact OT.of H8
        · repeat' (conv => whnf
                   first
                   | (refine Dr.quiet tyOk (by kernel_rfl) ?_)
                   | (refine VC.pure cf ?_)
                   | (refine Rng.mk (by omega) ?_)
                   | (refine Split.pos (by omega) ?_)
                   | (refine Split.neg (by omega) ?_)
                   | (refine Split.mk (fun h => ?_) (fun h => ?_))
                   | (refine Need.mk (by omega) ?_)
                   | (refine Ints.ln (by assumption) ?_)
                   | (refine Mat.ln (by assumption) ?_)
                   | (refine Ints.ln (Mat.row (by assumption) _ (by omega)) ?_)
                   | (refine Ints.ix (by assumption) (by omega) ?_)
                   | (refine Mat.ix (by assumption) (by omega) ?_)
                   | (refine Ints.ix (Mat.row (by assumption) _ (by omega)) (by omega) ?_)
                   | (refine Ints.ix (c := 0) (by assumption) (by omega) ?_)
                   | (refine Mat.ix (c := 0) (by assumption) (by omega) ?_)
                   | (refine Ints.ix (c := 0) (Mat.row (by assumption) _ (by omega)) (by omega) ?_)
                   | (refine Ints.ixI (by assumption) (by omega) ?_)
                   | (refine Mat.ixI (by assumption) (by omega) ?_)
                   | (refine Ints.ixI (Mat.row (by assumption) _ (by omega)) (by omega) ?_)
                   | (refine Ints.ld (by assumption) (by omega) ?_)
                   | (refine Mat.ld (by assumption) (by omega) ?_)
                   | (refine Ints.ld (Mat.row (by assumption) _ (by omega)) (by omega) ?_)
                   | (refine At.ld (by assumption) rfl ?_)
                   | (refine At.ldN (by assumption) rfl ?_)
                   | (refine Prs.ln (by assumption) ?_)
                   | (refine Trs.ln (by assumption) ?_)
                   | (refine Prs.ix (by assumption) (by omega) ?_)
                   | (refine Trs.ix (by assumption) (by omega) ?_)
                   | (refine Prs.ldN (by assumption) (by omega) ?_)
                   | (refine Trs.ldN (by assumption) (by omega) ?_)
                   | (refine At.ldN (Blk.at (by assumption)) rfl ?_)
                   | (refine At.ld (Blk.at (by assumption)) rfl ?_)
                   | (refine IxA.mk (by omega) ?_)
                   | (refine Sl.ln (Own.sl (by assumption)) ?_))
          refine ⟨_, (by omega : (evs rr a).length - (c + 1) < (evs rr a).length - c), rfl, c + 1, by omega, rfl, rfl, ?_, EL1⟩
          rw [fm_snoc (by omega) hik]
          simp only [markOf, if_neg hf, List.append_nil]
          exact Hm
      · obtain rfl : c = (evs rr a).length := by omega
        refine ⟨EE, _, by rw [hv], ?_⟩
        rw [List.take_length] at Hm
        rw [anyM, evsR, if_pos hv]
        exact Own.base Hm hz1
  · repeat' (conv => whnf
             first
             | (refine Dr.quiet tyOk (by kernel_rfl) ?_)
             | (refine Rng.mk (by omega) ?_)
             | (refine Split.pos (by omega) ?_)
             | (refine Split.neg (by omega) ?_)
             | (refine Split.mk (fun h => ?_) (fun h => ?_))
             | (refine Need.mk (by omega) ?_)
             | (refine Ints.ln (by assumption) ?_)
             | (refine Mat.ln (by assumption) ?_)
             | (refine Ints.ln (Mat.row (by assumption) _ (by omega)) ?_)
             | (refine Ints.ix (by assumption) (by omega) ?_)
             | (refine Mat.ix (by assumption) (by omega) ?_)
             | (refine Ints.ix (Mat.row (by assumption) _ (by omega)) (by omega) ?_)
             | (refine Ints.ix (c := 0) (by assumption) (by omega) ?_)
             | (refine Mat.ix (c := 0) (by assumption) (by omega) ?_)
             | (refine Ints.ix (c := 0) (Mat.row (by assumption) _ (by omega)) (by omega) ?_)
             | (refine Ints.ixI (by assumption) (by omega) ?_)
             | (refine Mat.ixI (by assumption) (by omega) ?_)
             | (refine Ints.ixI (Mat.row (by assumption) _ (by omega)) (by omega) ?_)
             | (refine Ints.ld (by assumption) (by omega) ?_)
             | (refine Mat.ld (by assumption) (by omega) ?_)
             | (refine Ints.ld (Mat.row (by assumption) _ (by omega)) (by omega) ?_)
             | (refine At.ld (by assumption) rfl ?_)
             | (refine At.ldN (by assumption) rfl ?_))
    refine ⟨EE, _, rfl, ?_⟩
    rw [anyM, evsR, if_neg hv]
    exact Own.nil
end Go.Proofs.Ytiahjkhfkbcjhaa
