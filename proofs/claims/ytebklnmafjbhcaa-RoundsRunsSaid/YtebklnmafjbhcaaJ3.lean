/- Joined texts: Near4 Near5 Near7 L17a Enum RoundsPl RoundsCl EngS Kit2 EngL EngT EngU Rounds1 Rounds2 PlainN. -/
import Derived.Test.YtebklnmafjbhcaaJ2
import Derived.Deep.Strs
import Derived.WalkSpells
set_option linter.unusedVariables false
set_option linter.unusedSimpArgs false
namespace Go.Proofs.Ytebklnmafjbhcaa
open Go.Eng
set_option maxRecDepth 100000
set_option maxHeartbeats 4000000

theorem evs_in {rr : List (List Int)} {a : List Int} {c : Nat} (h : c < (evs rr a).length) : ∃ i k : Nat, i < rr.length ∧ k < rr.length ∧ wth rr a i i < wth rr a i k ∧ (evs rr a).getD c (0, 0, 0) = ((i : Int), (k : Int), moreV rr a i k) := by
  rw [evs_len] at h
  obtain ⟨i, k, hi, hk, hl, e⟩ := envs_in h
  refine ⟨i, k, hi, hk, hl, ?_⟩
  rw [evs_get h, e]
  simp
theorem fm_len {α β : Type} {f : α → List β} (h : ∀ x, (f x).length ≤ 1) : ∀ l : List α, (l.flatMap f).length ≤ l.length
  | [] => by simp
  | x :: l => by have := fm_len h l; have := h x; simp only [List.flatMap_cons, List.length_append, List.length_cons]; omega
theorem fm_snoc {α β : Type} {f : α → List β} {l : List α} {x d : α} {c : Nat} (h : c < l.length) (e : l.getD c d = x) : (l.take (c + 1)).flatMap f = (l.take c).flatMap f ++ f x := by
  rw [take_snoc d l c h, e, List.flatMap_append]; simp
theorem markOf_len (rr : List (List Int)) (a : List Int) (b : Bool) (x : T3) : (markOf rr a b x).length ≤ 1 := by unfold markOf; split <;> simp
theorem missOf_len (rr : List (List Int)) (a : List Int) (x : T3) : (missOf rr a x).length ≤ 1 := by unfold missOf; split <;> simp

theorem none_rc {w : World} {gv av : Value} {vs : List Value} {rr : List (List Int)} {a : List Int} (Hg : Mat w gv vs rr) (Ha : Ints w av a) :
    RC Try.prog 30 [.agg #[gv], av] w NoB (fun u w' => ∃ mv xv, u = .tuple #[mv, xv, .int .i64 (vld rr a)] ∧ OT w.heap.size w' mv (oneM rr a) ∧ OP w.heap.size w' xv (oneX rr a)) := by
  refine RC.mk tyOk Try.func30 rfl (by kernel_rfl) fun w1 E1 => ?_
  replace Hg := Hg.ext E1
  replace Ha := Ha.ext E1
  have EE := Ext.refl w1
  refine Bx.agg fun b2 w2 E2 hb2 Hb _ => ?_
  replace Hg := Hg.ext E2
  replace Ha := Ha.ext E2
  replace EE := EE.ext E2
  conv => whnf
  refine At.ldN Hb rfl ?_
  conv => whnf
  refine VC.rc (nenvies_rc Hg Ha) ?_
  rintro _ w3 E3 ⟨v, rfl, HO⟩
  replace Hg := Hg.ext E3
  replace Ha := Ha.ext E3
  replace EE := EE.ext E3
  replace Hb := Hb.ext E3
  by_cases hv : vld rr a = 0
  · have hal := al_of_vld hv
    have hn := hal.n6
    have hlen := hal.len
    have hrow := hal.row
    rw [evsR, if_pos hv] at HO
    have HT : Trs _ v _ := Own.sl HO
    have hel := envs_le (a := a) hn
    rw [← evs_len] at hel
    repeat' ((conv => whnf); first | (refine Dr.quiet tyOk (by kernel_rfl) ?_) | (refine Rng.mk (by omega) ?_) | (refine Split.pos (by omega) ?_) | (refine Split.neg (by omega) ?_) | (refine Split.mk (fun h => ?_) (fun h => ?_)) | (refine Need.mk (by omega) ?_) | (refine Ints.ln (by assumption) ?_) | (refine Mat.ln (by assumption) ?_) | (refine Ints.ln (Mat.row (by assumption) _ (by omega)) ?_) | (refine Ints.ix (by assumption) (by omega) ?_) | (refine Mat.ix (by assumption) (by omega) ?_) | (refine Ints.ix (Mat.row (by assumption) _ (by omega)) (by omega) ?_) | (refine Ints.ix (c := 0) (by assumption) (by omega) ?_) | (refine Mat.ix (c := 0) (by assumption) (by omega) ?_) | (refine Ints.ix (c := 0) (Mat.row (by assumption) _ (by omega)) (by omega) ?_) | (refine Ints.ixI (by assumption) (by omega) ?_) | (refine Mat.ixI (by assumption) (by omega) ?_) | (refine Ints.ixI (Mat.row (by assumption) _ (by omega)) (by omega) ?_) | (refine Ints.ld (by assumption) (by omega) ?_) | (refine Mat.ld (by assumption) (by omega) ?_) | (refine Ints.ld (Mat.row (by assumption) _ (by omega)) (by omega) ?_) | (refine At.ld (by assumption) rfl ?_) | (refine At.ldN (by assumption) rfl ?_) | (refine Prs.ln (by assumption) ?_) | (refine Trs.ln (by assumption) ?_) | (refine Prs.ix (by assumption) (by omega) ?_) | (refine Trs.ix (by assumption) (by omega) ?_) | (refine Prs.ldN (by assumption) (by omega) ?_) | (refine Trs.ldN (by assumption) (by omega) ?_) | (refine At.ldN (Blk.at (by assumption)) rfl ?_) | (refine At.ld (Blk.at (by assumption)) rfl ?_) | (refine IxA.mk (by omega) ?_) | (refine Sl.ln (Own.sl (by assumption)) ?_) | (refine Ints.ix (Own.sl (by assumption)) (by omega) ?_) | (refine Ints.ixI (Own.sl (by assumption)) (by omega) ?_) | (refine Ints.ld (Own.sl (by assumption)) (by omega) ?_))
    have Hg__1 := Hg
    have Ha__1 := Ha
    have EE__1 := EE
    have Hb__1 := Hb
    have HT__1 := HT
    have hz1 := Nat.le_trans E1.size EE.size
    refine Lp.mk tyOk [false, false, false, false, true, true, false, false, false, true, true, false, false, false, false, false, false, false, false, false, false, false, true, true, true, true, true, true, true, true, true, true, true, true, true, true, true, true, true, true, true, true, true, true, true, true, true, true, true, true] (fun m fr wr => getK fr 4 fun mv => getK fr 5 fun xv => getK fr 22 fun j => ∃ c : Nat, c ≤ (evs rr a).length ∧ m = (evs rr a).length - c ∧ j = .int .i64 (c : Int) ∧ (OT w3.heap.size wr mv (((evs rr a).take c).flatMap (markOf rr a true))) ∧ (OP w3.heap.size wr xv (((evs rr a).take c).flatMap (missOf rr a))) ∧ Ext w3 wr) ((evs rr a).length) ?_ ?_
    · exact ⟨0, Nat.zero_le _, rfl, rfl, Own.nil, Own.nil, Ext.refl _⟩
    · intro m w4 u4 u5 u9 u10 u22 u23 u24 u25 u26 u27 u28 u29 u30 u31 u32 u33 u34 u35 u36 u37 u38 u39 u40 u41 u42 u43 u44 u45 u46 u47 u48 u49 hR
      obtain ⟨c, hc, rfl, rfl, Hm, Hx, EL1⟩ := hR
      replace Hg := Hg__1.ext EL1
      replace Ha := Ha__1.ext EL1
      replace EE := EE__1.ext EL1
      replace Hb := Hb__1.ext EL1
      replace HT := HT__1.ext EL1
      have hml := fm_len (markOf_len rr a true) ((evs rr a).take c)
      have hxl := fm_len (missOf_len rr a) ((evs rr a).take c)
      rw [List.length_take] at hml hxl
      repeat' ((conv => whnf); first | (refine Dr.quiet tyOk (by kernel_rfl) ?_) | (refine Rng.mk (by omega) ?_) | (refine Split.pos (by omega) ?_) | (refine Split.neg (by omega) ?_) | (refine Split.mk (fun h => ?_) (fun h => ?_)) | (refine Need.mk (by omega) ?_) | (refine Ints.ln (by assumption) ?_) | (refine Mat.ln (by assumption) ?_) | (refine Ints.ln (Mat.row (by assumption) _ (by omega)) ?_) | (refine Ints.ix (by assumption) (by omega) ?_) | (refine Mat.ix (by assumption) (by omega) ?_) | (refine Ints.ix (Mat.row (by assumption) _ (by omega)) (by omega) ?_) | (refine Ints.ix (c := 0) (by assumption) (by omega) ?_) | (refine Mat.ix (c := 0) (by assumption) (by omega) ?_) | (refine Ints.ix (c := 0) (Mat.row (by assumption) _ (by omega)) (by omega) ?_) | (refine Ints.ixI (by assumption) (by omega) ?_) | (refine Mat.ixI (by assumption) (by omega) ?_) | (refine Ints.ixI (Mat.row (by assumption) _ (by omega)) (by omega) ?_) | (refine Ints.ld (by assumption) (by omega) ?_) | (refine Mat.ld (by assumption) (by omega) ?_) | (refine Ints.ld (Mat.row (by assumption) _ (by omega)) (by omega) ?_) | (refine At.ld (by assumption) rfl ?_) | (refine At.ldN (by assumption) rfl ?_) | (refine Prs.ln (by assumption) ?_) | (refine Trs.ln (by assumption) ?_) | (refine Prs.ix (by assumption) (by omega) ?_) | (refine Trs.ix (by assumption) (by omega) ?_) | (refine Prs.ldN (by assumption) (by omega) ?_) | (refine Trs.ldN (by assumption) (by omega) ?_) | (refine At.ldN (Blk.at (by assumption)) rfl ?_) | (refine At.ld (Blk.at (by assumption)) rfl ?_) | (refine IxA.mk (by omega) ?_) | (refine Sl.ln (Own.sl (by assumption)) ?_) | (refine Ints.ix (Own.sl (by assumption)) (by omega) ?_) | (refine Ints.ixI (Own.sl (by assumption)) (by omega) ?_) | (refine Ints.ld (Own.sl (by assumption)) (by omega) ?_))
      · obtain ⟨i, k, hi, hk, hlt, hik⟩ := evs_in (rr := rr) (a := a) (c := c) (by omega)
        rw [hik]
        have Hg__2 := Hg
        have Ha__2 := Ha
        have EE__2 := EE
        have Hb__2 := Hb
        have HT__2 := HT
        have EL1__2 := EL1
        have Hm__2 := Hm
        have Hx__2 := Hx
        conv => whnf
        refine VE.alloc eEnvy fun xb w5 E5 hb_xb Hk => ?_
        replace Hg := Hg.ext E5
        replace Ha := Ha.ext E5
        replace EE := EE.ext E5
        replace Hb := Hb.ext E5
        replace HT := HT.ext E5
        replace EL1 := EL1.ext E5
        replace Hm := Hm.ext E5
        replace Hx := Hx.ext E5
        have EL2 := E5
        conv => whnf
        refine Blk.all Hk (by kernel_rfl) (by first | decide | simp) rfl rfl (by intro v hv; simp at hv; rcases hv with rfl | rfl | rfl | rfl | rfl <;> rfl) fun w6 G6 Hk' => ?_
        have E6 : Ext w4 w6 := EL2.new G6 fun i hi hk => by omega
        replace Hk := Hk'
        replace Hg := Hg__2.ext E6
        replace Ha := Ha__2.ext E6
        replace EE := EE__2.ext E6
        replace Hb := Hb__2.ext E6
        replace HT := HT__2.ext E6
        replace EL1 := EL1__2.ext E6
        replace Hm := Hm__2.ext E6
        replace Hx := Hx__2.ext E6
        replace EL2 := E6
        have cf := nfirst_pc (k := (k : Int)) (x := moreV rr a i k) (b := true) Hg Ha hi (by rw [hrow i hi]; omega)
        by_cases hf : 0 ≤ firstG rr a i k (moreV rr a i k) true
        · repeat' ((conv => whnf); first | (refine Dr.quiet tyOk (by kernel_rfl) ?_) | (refine VC.pure cf ?_) | (refine VS.b3 Try.underlying96 eMark (by decide +kernel) ⟨rfl, rfl, rfl⟩ ?_) | (refine Rng.mk (by omega) ?_) | (refine Split.pos (by omega) ?_) | (refine Split.neg (by omega) ?_) | (refine Split.mk (fun h => ?_) (fun h => ?_)) | (refine Need.mk (by omega) ?_) | (refine Ints.ln (by assumption) ?_) | (refine Mat.ln (by assumption) ?_) | (refine Ints.ln (Mat.row (by assumption) _ (by omega)) ?_) | (refine Ints.ix (by assumption) (by omega) ?_) | (refine Mat.ix (by assumption) (by omega) ?_) | (refine Ints.ix (Mat.row (by assumption) _ (by omega)) (by omega) ?_) | (refine Ints.ix (c := 0) (by assumption) (by omega) ?_) | (refine Mat.ix (c := 0) (by assumption) (by omega) ?_) | (refine Ints.ix (c := 0) (Mat.row (by assumption) _ (by omega)) (by omega) ?_) | (refine Ints.ixI (by assumption) (by omega) ?_) | (refine Mat.ixI (by assumption) (by omega) ?_) | (refine Ints.ixI (Mat.row (by assumption) _ (by omega)) (by omega) ?_) | (refine Ints.ld (by assumption) (by omega) ?_) | (refine Mat.ld (by assumption) (by omega) ?_) | (refine Ints.ld (Mat.row (by assumption) _ (by omega)) (by omega) ?_) | (refine At.ld (by assumption) rfl ?_) | (refine At.ldN (by assumption) rfl ?_) | (refine Prs.ln (by assumption) ?_) | (refine Trs.ln (by assumption) ?_) | (refine Prs.ix (by assumption) (by omega) ?_) | (refine Trs.ix (by assumption) (by omega) ?_) | (refine Prs.ldN (by assumption) (by omega) ?_) | (refine Trs.ldN (by assumption) (by omega) ?_) | (refine At.ldN (Blk.at (by assumption)) rfl ?_) | (refine At.ld (Blk.at (by assumption)) rfl ?_) | (refine IxA.mk (by omega) ?_) | (refine Sl.ln (Own.sl (by assumption)) ?_) | (refine Ints.ix (Own.sl (by assumption)) (by omega) ?_) | (refine Ints.ixI (Own.sl (by assumption)) (by omega) ?_) | (refine Ints.ld (Own.sl (by assumption)) (by omega) ?_))
          refine VE.lit1A Try.underlying47 eMark rfl (by decide) fun lv w7 E7 Hl => ?_
          replace Hg := Hg.ext E7
          replace Ha := Ha.ext E7
          replace EE := EE.ext E7
          replace Hb := Hb.ext E7
          replace HT := HT.ext E7
          replace EL1 := EL1.ext E7
          replace Hm := Hm.ext E7
          replace Hx := Hx.ext E7
          replace EL2 := EL2.ext E7
          replace Hk := Hk.ext E7
          conv => whnf
          refine VE.app Try.underlying47 eMark rfl (by omega) Hm EL1 rfl Hl (by simp [Value.oneCell']) (by first | omega | (simp only [List.length_map, List.length_range]; omega) | (simp; omega)) (by first | omega | (simp only [List.length_map, List.length_range]; omega) | (simp; omega)) fun v8 w8 E8 G8 H8 => ?_
          replace Hx := Own.gr Hx G8 (fun k hk hS => Own.ne Hm Hx (by decide) k hS hk)
          replace Hg := Hg__1.ext E8
          replace Ha := Ha__1.ext E8
          replace EE := EE__1.ext E8
          replace Hb := Hb__1.ext E8
          replace HT := HT__1.ext E8
          replace EL1 := E8
          repeat' ((conv => whnf); first | (refine Dr.quiet tyOk (by kernel_rfl) ?_) | (refine Rng.mk (by omega) ?_) | (refine Split.pos (by omega) ?_) | (refine Split.neg (by omega) ?_) | (refine Split.mk (fun h => ?_) (fun h => ?_)) | (refine Need.mk (by omega) ?_) | (refine Ints.ln (by assumption) ?_) | (refine Mat.ln (by assumption) ?_) | (refine Ints.ln (Mat.row (by assumption) _ (by omega)) ?_) | (refine Ints.ix (by assumption) (by omega) ?_) | (refine Mat.ix (by assumption) (by omega) ?_) | (refine Ints.ix (Mat.row (by assumption) _ (by omega)) (by omega) ?_) | (refine Ints.ix (c := 0) (by assumption) (by omega) ?_) | (refine Mat.ix (c := 0) (by assumption) (by omega) ?_) | (refine Ints.ix (c := 0) (Mat.row (by assumption) _ (by omega)) (by omega) ?_) | (refine Ints.ixI (by assumption) (by omega) ?_) | (refine Mat.ixI (by assumption) (by omega) ?_) | (refine Ints.ixI (Mat.row (by assumption) _ (by omega)) (by omega) ?_) | (refine Ints.ld (by assumption) (by omega) ?_) | (refine Mat.ld (by assumption) (by omega) ?_) | (refine Ints.ld (Mat.row (by assumption) _ (by omega)) (by omega) ?_) | (refine At.ld (by assumption) rfl ?_) | (refine At.ldN (by assumption) rfl ?_) | (refine Prs.ln (by assumption) ?_) | (refine Trs.ln (by assumption) ?_) | (refine Prs.ix (by assumption) (by omega) ?_) | (refine Trs.ix (by assumption) (by omega) ?_) | (refine Prs.ldN (by assumption) (by omega) ?_) | (refine Trs.ldN (by assumption) (by omega) ?_) | (refine At.ldN (Blk.at (by assumption)) rfl ?_) | (refine At.ld (Blk.at (by assumption)) rfl ?_) | (refine IxA.mk (by omega) ?_) | (refine Sl.ln (Own.sl (by assumption)) ?_) | (refine Ints.ix (Own.sl (by assumption)) (by omega) ?_) | (refine Ints.ixI (Own.sl (by assumption)) (by omega) ?_) | (refine Ints.ld (Own.sl (by assumption)) (by omega) ?_))
          refine ⟨_, (by omega : (evs rr a).length - (c + 1) < (evs rr a).length - c), rfl, c + 1, by omega, rfl, rfl, ?_, ?_, EL1⟩
          · rw [fm_snoc (by omega) hik]
            simp only [markOf, if_pos hf]
            rw [flat3_snoc] at H8
            exact OT.of H8
          · rw [fm_snoc (by omega) hik]
            simp only [missOf, if_pos hf, List.append_nil]
            exact Hx
        · repeat' ((conv => whnf); first | (refine Dr.quiet tyOk (by kernel_rfl) ?_) | (refine VC.pure cf ?_) | (refine VS.arr2 Try.underlying97 ePair cells3 ?_) | (refine Rng.mk (by omega) ?_) | (refine Split.pos (by omega) ?_) | (refine Split.neg (by omega) ?_) | (refine Split.mk (fun h => ?_) (fun h => ?_)) | (refine Need.mk (by omega) ?_) | (refine Ints.ln (by assumption) ?_) | (refine Mat.ln (by assumption) ?_) | (refine Ints.ln (Mat.row (by assumption) _ (by omega)) ?_) | (refine Ints.ix (by assumption) (by omega) ?_) | (refine Mat.ix (by assumption) (by omega) ?_) | (refine Ints.ix (Mat.row (by assumption) _ (by omega)) (by omega) ?_) | (refine Ints.ix (c := 0) (by assumption) (by omega) ?_) | (refine Mat.ix (c := 0) (by assumption) (by omega) ?_) | (refine Ints.ix (c := 0) (Mat.row (by assumption) _ (by omega)) (by omega) ?_) | (refine Ints.ixI (by assumption) (by omega) ?_) | (refine Mat.ixI (by assumption) (by omega) ?_) | (refine Ints.ixI (Mat.row (by assumption) _ (by omega)) (by omega) ?_) | (refine Ints.ld (by assumption) (by omega) ?_) | (refine Mat.ld (by assumption) (by omega) ?_) | (refine Ints.ld (Mat.row (by assumption) _ (by omega)) (by omega) ?_) | (refine At.ld (by assumption) rfl ?_) | (refine At.ldN (by assumption) rfl ?_) | (refine Prs.ln (by assumption) ?_) | (refine Trs.ln (by assumption) ?_) | (refine Prs.ix (by assumption) (by omega) ?_) | (refine Trs.ix (by assumption) (by omega) ?_) | (refine Prs.ldN (by assumption) (by omega) ?_) | (refine Trs.ldN (by assumption) (by omega) ?_) | (refine At.ldN (Blk.at (by assumption)) rfl ?_) | (refine At.ld (Blk.at (by assumption)) rfl ?_) | (refine IxA.mk (by omega) ?_) | (refine Sl.ln (Own.sl (by assumption)) ?_) | (refine Ints.ix (Own.sl (by assumption)) (by omega) ?_) | (refine Ints.ixI (Own.sl (by assumption)) (by omega) ?_) | (refine Ints.ld (Own.sl (by assumption)) (by omega) ?_))
          refine VE.lit1A Try.underlying48 ePair rfl (by decide) fun lv w9 E9 Hl => ?_
          replace Hg := Hg.ext E9
          replace Ha := Ha.ext E9
          replace EE := EE.ext E9
          replace Hb := Hb.ext E9
          replace HT := HT.ext E9
          replace EL1 := EL1.ext E9
          replace Hm := Hm.ext E9
          replace Hx := Hx.ext E9
          replace EL2 := EL2.ext E9
          replace Hk := Hk.ext E9
          conv => whnf
          refine VE.app Try.underlying48 ePair rfl (by omega) Hx EL1 rfl Hl (by simp [Value.oneCell']) (by first | omega | (simp only [List.length_map, List.length_range]; omega) | (simp; omega)) (by first | omega | (simp only [List.length_map, List.length_range]; omega) | (simp; omega)) fun v8 w10 E10 G10 H8 => ?_
          replace Hm := Own.gr Hm G10 (fun k hk hS => Own.ne Hx Hm (by decide) k hS hk)
          replace Hg := Hg__1.ext E10
          replace Ha := Ha__1.ext E10
          replace EE := EE__1.ext E10
          replace Hb := Hb__1.ext E10
          replace HT := HT__1.ext E10
          replace EL1 := E10
          repeat' ((conv => whnf); first | (refine Dr.quiet tyOk (by kernel_rfl) ?_) | (refine Rng.mk (by omega) ?_) | (refine Split.pos (by omega) ?_) | (refine Split.neg (by omega) ?_) | (refine Split.mk (fun h => ?_) (fun h => ?_)) | (refine Need.mk (by omega) ?_) | (refine Ints.ln (by assumption) ?_) | (refine Mat.ln (by assumption) ?_) | (refine Ints.ln (Mat.row (by assumption) _ (by omega)) ?_) | (refine Ints.ix (by assumption) (by omega) ?_) | (refine Mat.ix (by assumption) (by omega) ?_) | (refine Ints.ix (Mat.row (by assumption) _ (by omega)) (by omega) ?_) | (refine Ints.ix (c := 0) (by assumption) (by omega) ?_) | (refine Mat.ix (c := 0) (by assumption) (by omega) ?_) | (refine Ints.ix (c := 0) (Mat.row (by assumption) _ (by omega)) (by omega) ?_) | (refine Ints.ixI (by assumption) (by omega) ?_) | (refine Mat.ixI (by assumption) (by omega) ?_) | (refine Ints.ixI (Mat.row (by assumption) _ (by omega)) (by omega) ?_) | (refine Ints.ld (by assumption) (by omega) ?_) | (refine Mat.ld (by assumption) (by omega) ?_) | (refine Ints.ld (Mat.row (by assumption) _ (by omega)) (by omega) ?_) | (refine At.ld (by assumption) rfl ?_) | (refine At.ldN (by assumption) rfl ?_) | (refine Prs.ln (by assumption) ?_) | (refine Trs.ln (by assumption) ?_) | (refine Prs.ix (by assumption) (by omega) ?_) | (refine Trs.ix (by assumption) (by omega) ?_) | (refine Prs.ldN (by assumption) (by omega) ?_) | (refine Trs.ldN (by assumption) (by omega) ?_) | (refine At.ldN (Blk.at (by assumption)) rfl ?_) | (refine At.ld (Blk.at (by assumption)) rfl ?_) | (refine IxA.mk (by omega) ?_) | (refine Sl.ln (Own.sl (by assumption)) ?_) | (refine Ints.ix (Own.sl (by assumption)) (by omega) ?_) | (refine Ints.ixI (Own.sl (by assumption)) (by omega) ?_) | (refine Ints.ld (Own.sl (by assumption)) (by omega) ?_))
          refine ⟨_, (by omega : (evs rr a).length - (c + 1) < (evs rr a).length - c), rfl, c + 1, by omega, rfl, rfl, ?_, ?_, EL1⟩
          · rw [fm_snoc (by omega) hik]
            simp only [markOf, if_neg hf, List.append_nil]
            exact Hm
          · rw [fm_snoc (by omega) hik]
            simp only [missOf, if_neg hf]
            rw [flatP_snoc] at H8
            exact OP.of H8
      · obtain rfl : c = (evs rr a).length := by omega
        refine ⟨EE, _, _, by rw [hv], ?_⟩
        rw [List.take_length] at Hm Hx
        rw [oneM, oneX, evsR, if_pos hv]
        exact ⟨Own.base Hm hz1, Own.base Hx hz1⟩
  · repeat' ((conv => whnf); first | (refine Dr.quiet tyOk (by kernel_rfl) ?_) | (refine Rng.mk (by omega) ?_) | (refine Split.pos (by omega) ?_) | (refine Split.neg (by omega) ?_) | (refine Split.mk (fun h => ?_) (fun h => ?_)) | (refine Need.mk (by omega) ?_) | (refine Ints.ln (by assumption) ?_) | (refine Mat.ln (by assumption) ?_) | (refine Ints.ln (Mat.row (by assumption) _ (by omega)) ?_) | (refine Ints.ix (by assumption) (by omega) ?_) | (refine Mat.ix (by assumption) (by omega) ?_) | (refine Ints.ix (Mat.row (by assumption) _ (by omega)) (by omega) ?_) | (refine Ints.ix (c := 0) (by assumption) (by omega) ?_) | (refine Mat.ix (c := 0) (by assumption) (by omega) ?_) | (refine Ints.ix (c := 0) (Mat.row (by assumption) _ (by omega)) (by omega) ?_) | (refine Ints.ixI (by assumption) (by omega) ?_) | (refine Mat.ixI (by assumption) (by omega) ?_) | (refine Ints.ixI (Mat.row (by assumption) _ (by omega)) (by omega) ?_) | (refine Ints.ld (by assumption) (by omega) ?_) | (refine Mat.ld (by assumption) (by omega) ?_) | (refine Ints.ld (Mat.row (by assumption) _ (by omega)) (by omega) ?_) | (refine At.ld (by assumption) rfl ?_) | (refine At.ldN (by assumption) rfl ?_))
    refine ⟨EE, _, _, rfl, ?_⟩
    rw [oneM, oneX, evsR, if_neg hv]
    exact ⟨Own.nil, Own.nil⟩
end Go.Proofs.Ytebklnmafjbhcaa
set_option linter.unusedVariables false
set_option linter.unusedSimpArgs false
namespace Go.Proofs.Ytebklnmafjbhcaa
open Go.Eng
set_option maxRecDepth 100000
set_option maxHeartbeats 4000000

def hX (rr : List (List Int)) (a : List Int) (i k : Nat) : List (Int × Int) := if wth rr a i i < wth rr a i k then missOf rr a (i, k, moreV rr a i k) else []
theorem oneX_g {rr : List (List Int)} {a : List Int} (hv : vld rr a = 0) : oneX rr a = gTo (hX rr a) rr.length rr.length := by rw [oneX, evsR, if_pos hv, evs_flat]; rfl
end Go.Proofs.Ytebklnmafjbhcaa
set_option linter.unusedVariables false
set_option linter.unusedSimpArgs false
namespace Go.Proofs.Ytebklnmafjbhcaa
open Go.Eng
set_option maxRecDepth 100000
set_option maxHeartbeats 4000000

theorem worth_set {a r : List Int} {k x : Int} {q : Nat} (hq : q < a.length) : ∀ c : Nat, worth (a.set q x) r k c = worth a r k c + if q < c then ((if x = k then r.getD q 0 else 0) - (if a.getD q 0 = k then r.getD q 0 else 0)) else 0
  | 0 => by simp [worth]
  | c + 1 => by
    have ih := worth_set (r := r) (k := k) (x := x) hq c
    have hs := set_get (x := x) (k := c) hq
    simp only [worth, ih, hs]
    by_cases h1 : c = q
    · subst h1
      rw [if_pos rfl, if_neg (by omega : ¬ c < c), if_pos (by omega : c < c + 1)]
      omega
    · rw [if_neg h1]
      by_cases h2 : q < c
      · rw [if_pos h2, if_pos (by omega : q < c + 1)]; omega
      · rw [if_neg h2, if_neg (by omega : ¬ q < c + 1)]; omega
theorem wth_set {rr : List (List Int)} {a : List Int} {i q : Nat} {k x : Int} (hq : q < a.length) : wth rr (a.set q x) i k = wth rr a i k + ((if x = k then val rr i q else 0) - (if a.getD q 0 = k then val rr i q else 0)) := by
  unfold wth
  rw [worth_set (by simpa using hq), List.length_set, if_pos hq]
  rfl
end Go.Proofs.Ytebklnmafjbhcaa
set_option linter.unusedVariables false
set_option linter.unusedSimpArgs false
namespace Go.Proofs.Ytebklnmafjbhcaa
open Go.Eng
set_option maxRecDepth 100000
set_option maxHeartbeats 4000000

theorem OM.blk {B : Nat} {T : TypeId} {b : Nat} {w w' : World} {v : Value} {vs ys : List Value} {rr : List (List Int)} (h : OM B w v vs rr) (hk : Blk w b T ys) (h1 : 25 ≠ T) (h2 : 3 ≠ T) (hg : Gr (fun j => j = b) w w') : OM B w' v vs rr :=
  ⟨Own.blk h.top hk h1 hg, fun i hi => Own.blk (h.row i hi) hk h2 hg⟩

end Go.Proofs.Ytebklnmafjbhcaa
set_option linter.unusedVariables false
set_option linter.unusedSimpArgs false
namespace Go.Proofs.Ytebklnmafjbhcaa
open Go.Eng

/-- the digits of k to the base n, the first one first -/
def digs (n : Nat) : Nat → Nat → List Int
  | 0, _ => []
  | j + 1, k => ((k / n ^ j : Nat) : Int) :: digs n j (k % n ^ j)
theorem digs_len (n : Nat) : ∀ j k, (digs n j k).length = j
  | 0, _ => rfl
  | j + 1, k => by simp [digs, digs_len n j]
theorem digs_rng {n : Nat} (hn : 1 ≤ n) : ∀ {j k : Nat}, k < n ^ j → ∀ i, i < j → 0 ≤ (digs n j k).getD i 0 ∧ (digs n j k).getD i 0 < n
  | 0, _, _, i, hi => absurd hi (Nat.not_lt_zero _)
  | j + 1, k, hk, 0, _ => by
    have : k / n ^ j < n := Nat.div_lt_of_lt_mul (by rw [Nat.pow_succ] at hk; exact hk)
    exact ⟨Int.natCast_nonneg _, Int.ofNat_lt.2 this⟩
  | j + 1, k, hk, i + 1, hi => by
    have hp : 0 < n ^ j := Nat.pow_pos (by omega)
    have := digs_rng hn (Nat.mod_lt k hp) i (by omega)
    simpa [digs] using this
theorem digs_at {n j i r : Nat} (hr : r < n ^ j) : digs n (j + 1) (i * n ^ j + r) = (i : Int) :: digs n j r := by
  have hp : 0 < n ^ j := by omega
  have e1 : (i * n ^ j + r) / n ^ j = i := by
    rw [Nat.mul_comm, Nat.mul_add_div hp, Nat.div_eq_of_lt hr]; rfl
  have e2 : (i * n ^ j + r) % n ^ j = r := by
    rw [Nat.mul_comm, Nat.mul_add_mod]; exact Nat.mod_eq_of_lt hr
  simp only [digs, e1, e2]
theorem digs_zero (n : Nat) : ∀ j, digs n j 0 = List.replicate j 0
  | 0 => rfl
  | j + 1 => by simp only [digs, Nat.zero_div, Nat.zero_mod, List.replicate_succ]; rw [digs_zero n j]; rfl
/-- every list of numbers below n has its place -/
theorem digs_all {n : Nat} (hn : 1 ≤ n) : ∀ {l : List Int}, (∀ i, i < l.length → 0 ≤ l.getD i 0 ∧ l.getD i 0 < n) → ∃ k, k < n ^ l.length ∧ digs n l.length k = l
  | [], _ => ⟨0, by simp, rfl⟩
  | x :: l, h => by
    obtain ⟨k, hk, e⟩ := digs_all hn (l := l) (fun i hi => by have := h (i + 1) (by simpa using hi); simpa using this)
    have h0 : 0 ≤ x ∧ x < n := by have := h 0 (by simp); simpa using this
    have hx : ((x.toNat : Nat) : Int) = x := by omega
    refine ⟨x.toNat * n ^ l.length + k, ?_, ?_⟩
    · show _ < n ^ (l.length + 1)
      have h1 : x.toNat + 1 ≤ n := by omega
      have h2 := Nat.mul_le_mul_right (n ^ l.length) h1
      rw [Nat.add_mul, Nat.one_mul] at h2
      rw [Nat.pow_succ, Nat.mul_comm (n ^ l.length) n]; omega
    · show digs n (l.length + 1) _ = x :: l
      rw [digs_at hk, e, hx]
/-- lists in the order of their places -/
def lexlt : List Int → List Int → Prop
  | [], _ => False
  | _, [] => False
  | x :: l, y :: m => x < y ∨ (x = y ∧ lexlt l m)
theorem digs_lt {n : Nat} (hn : 1 ≤ n) : ∀ {j a b : Nat}, a < n ^ j → b < n ^ j → a < b → lexlt (digs n j a) (digs n j b)
  | 0, a, b, ha, hb, h => by simp at ha hb; omega
  | j + 1, a, b, ha, hb, h => by
    have hp : 0 < n ^ j := Nat.pow_pos (by omega)
    have ea := Nat.div_add_mod a (n ^ j)
    have eb := Nat.div_add_mod b (n ^ j)
    have ma := Nat.mod_lt a hp
    have mb := Nat.mod_lt b hp
    simp only [digs, lexlt]
    by_cases e : a / n ^ j = b / n ^ j
    · refine .inr ⟨by rw [e], digs_lt hn ma mb ?_⟩
      rw [e] at ea; omega
    · refine .inl ?_
      have hle : a / n ^ j ≤ b / n ^ j := Nat.div_le_div_right (by omega)
      omega
theorem lexlt_irrefl : ∀ l, ¬ lexlt l l
  | [], h => h
  | x :: l, h => by
    rcases h with h | ⟨_, h⟩
    · omega
    · exact lexlt_irrefl l h
theorem lexlt_asymm : ∀ {l m}, lexlt l m → ¬ lexlt m l
  | [], _, h, _ => h
  | _ :: _, [], h, _ => h
  | x :: l, y :: m, h, h2 => by
    rcases h with h | ⟨e, h⟩ <;> rcases h2 with h2 | ⟨e2, h2⟩
    · omega
    · omega
    · omega
    · exact lexlt_asymm h h2
/-- at the first place where they differ -/
theorem lexlt_at {l m : List Int} (h : lexlt l m) : ∃ k, k < l.length ∧ k < m.length ∧ (∀ i, i < k → l.getD i 0 = m.getD i 0) ∧ l.getD k 0 < m.getD k 0 := by
  induction l generalizing m with
  | nil => exact h.elim
  | cons x l ih =>
    cases m with
    | nil => exact h.elim
    | cons y m =>
      rcases h with h | ⟨e, h⟩
      · exact ⟨0, by simp, by simp, fun i hi => absurd hi (Nat.not_lt_zero _), by simpa using h⟩
      · obtain ⟨k, h1, h2, h3, h4⟩ := ih h
        refine ⟨k + 1, by simp; omega, by simp; omega, fun i hi => ?_, by simpa using h4⟩
        cases i with
        | zero => simpa using e
        | succ i => simpa using h3 i (by omega)

/-- the next list: (whether there is one, the list or the first one) -/
def nxt (n : Nat) : List Int → Bool × List Int
  | [] => (false, [])
  | x :: l => match nxt n l with
    | (true, m) => (true, x :: m)
    | (false, m) => if x + 1 < n then (true, (x + 1) :: m) else (false, 0 :: m)
theorem nxt_len (n : Nat) : ∀ l, (nxt n l).2.length = l.length
  | [] => rfl
  | x :: l => by
    have ih := nxt_len n l
    simp only [nxt]
    split
    · rename_i h; rw [h] at ih; simpa using ih
    · rename_i h; rw [h] at ih; split <;> simpa using ih
theorem nxt_digs {n : Nat} (hn : 1 ≤ n) : ∀ {j k : Nat}, k < n ^ j → nxt n (digs n j k) = if k + 1 < n ^ j then (true, digs n j (k + 1)) else (false, digs n j 0)
  | 0, k, h => by simp at h; subst h; rfl
  | j + 1, k, hk => by
    have hp : 0 < n ^ j := Nat.pow_pos (by omega)
    have ek := Nat.div_add_mod k (n ^ j)
    have hm := Nat.mod_lt k hp
    have hq : k / n ^ j < n := Nat.div_lt_of_lt_mul (by rw [Nat.pow_succ] at hk; exact hk)
    have ih := nxt_digs hn hm
    have hc : n ^ j * (k / n ^ j) = (k / n ^ j) * n ^ j := Nat.mul_comm _ _
    simp only [digs, nxt, ih]
    have hq2 := Nat.mul_le_mul_right (n ^ j) (show k / n ^ j + 1 ≤ n by omega)
    rw [Nat.add_mul, Nat.one_mul] at hq2
    have hpow : n ^ (j + 1) = n * n ^ j := by rw [Nat.pow_succ, Nat.mul_comm]
    by_cases h1 : k % n ^ j + 1 < n ^ j
    · rw [if_pos h1]
      have e : k + 1 = (k / n ^ j) * n ^ j + (k % n ^ j + 1) := by omega
      rw [if_pos (by rw [hpow]; omega)]
      simp only
      have := digs_at (n := n) (j := j) (i := k / n ^ j) h1
      rw [← e] at this
      rw [← digs, this]
    · rw [if_neg h1]
      simp only
      have e1 : k + 1 = (k / n ^ j + 1) * n ^ j + 0 := by rw [Nat.add_mul, Nat.one_mul]; omega
      by_cases h2 : ((k / n ^ j : Nat) : Int) + 1 < n
      · rw [if_pos h2]
        have h3 := Nat.mul_le_mul_right (n ^ j) (show k / n ^ j + 1 + 1 ≤ n by omega)
        rw [Nat.add_mul, Nat.add_mul, Nat.one_mul] at h3
        rw [if_pos (by rw [hpow]; omega)]
        have := digs_at (n := n) (j := j) (i := k / n ^ j + 1) (r := 0) hp
        rw [← e1] at this
        rw [← digs, this]
        rfl
      · rw [if_neg h2]
        have h3 : k / n ^ j + 1 = n := by omega
        rw [h3] at e1
        rw [if_neg (by rw [hpow]; omega)]
        simp
theorem nxt_app {n : Nat} {s t : List Int} (h : nxt n s = (true, t)) : ∀ p : List Int, nxt n (p ++ s) = (true, p ++ t)
  | [] => h
  | x :: p => by
    simp only [List.cons_append, nxt]
    rw [nxt_app h p]

end Go.Proofs.Ytebklnmafjbhcaa
set_option linter.unusedVariables false
set_option linter.unusedSimpArgs false
namespace Go.Proofs.Ytebklnmafjbhcaa
open Go.Eng

theorem lex_tri : ∀ {a b : List Int}, a.length = b.length → a = b ∨ lexlt a b ∨ lexlt b a
  | [], [], _ => .inl rfl
  | [], _ :: _, h => by simp at h
  | _ :: _, [], h => by simp at h
  | x :: a, y :: b, h => by
    rcases Int.lt_trichotomy x y with e | e | e
    · exact .inr (.inl (.inl e))
    · subst e
      rcases lex_tri (a := a) (b := b) (by simpa using h) with e | e | e
      · subst e; exact .inl rfl
      · exact .inr (.inl (.inr ⟨rfl, e⟩))
      · exact .inr (.inr (.inr ⟨rfl, e⟩))
    · exact .inr (.inr (.inl e))
theorem php : ∀ (n : Nat) (F : Nat → Nat), (∀ i, i ≤ n → F i < n) → ∃ i j, i < j ∧ j ≤ n ∧ F i = F j
  | 0, F, h => absurd (h 0 (Nat.le_refl _)) (Nat.not_lt_zero _)
  | n + 1, F, h => by
    by_cases hc : ∃ i, i ≤ n ∧ F i = F (n + 1)
    · obtain ⟨i, hi, e⟩ := hc
      exact ⟨i, n + 1, by omega, Nat.le_refl _, e⟩
    · have hne : ∀ i, i ≤ n → F i ≠ F (n + 1) := fun i hi e => hc ⟨i, hi, e⟩
      have hl := h (n + 1) (Nat.le_refl _)
      obtain ⟨i, j, hij, hj, e⟩ := php n (fun i => if F (n + 1) < F i then F i - 1 else F i) (fun i hi => by
        have h1 := hne i hi
        have h2 := h i (by omega)
        show (if F (n + 1) < F i then F i - 1 else F i) < n
        split <;> omega)
      refine ⟨i, j, hij, by omega, ?_⟩
      have h1 := hne i (by omega)
      have h2 := hne j hj
      split at e <;> split at e <;> omega

/-- agent i envies agent k -/
def En (rr : List (List Int)) (a : List Int) (i k : Int) : Prop := wth rr a i.toNat i < wth rr a i.toNat k
structure isC (rr : List (List Int)) (a l : List Int) : Prop where
  len : 1 < l.length
  rng : ∀ t, t < l.length → 0 ≤ l.getD t 0 ∧ l.getD t 0 < rr.length
  low : ∀ t, 0 < t → t < l.length → l.getD 0 0 < l.getD t 0
  dis : ∀ s t, s < t → t < l.length → l.getD s 0 ≠ l.getD t 0
  edg : ∀ t, t < l.length → En rr a (l.getD t 0) (l.getD ((t + 1) % l.length) 0)
theorem dis_le {l : List Int} {n : Nat} (h : ∀ t, t < l.length → 0 ≤ l.getD t 0 ∧ l.getD t 0 < n) (hd : ∀ s t, s < t → t < l.length → l.getD s 0 ≠ l.getD t 0) : l.length ≤ n := by
  refine Classical.byContradiction fun hn => ?_
  obtain ⟨i, j, h1, h2, e⟩ := php n (fun i => (l.getD i 0).toNat) (fun i hi => by have := h i (by omega); show (l.getD i 0).toNat < n; omega)
  have h3 := h i (by omega)
  have h4 := h j (by omega)
  exact hd i j h1 (by omega) (by omega)
theorem isC.le {rr : List (List Int)} {a l : List Int} (h : isC rr a l) : l.length ≤ rr.length := dis_le h.rng h.dis

/-- the circle: the first of the shortest ones, or nothing -/
def IsCirc (rr : List (List Int)) (a c : List Int) : Prop := (c = [] ∧ ∀ l, ¬ isC rr a l) ∨ (isC rr a c ∧ ∀ l, isC rr a l → c.length ≤ l.length ∧ (l.length = c.length → ¬ lexlt l c))
theorem IsCirc.one {rr : List (List Int)} {a b c : List Int} (hb : IsCirc rr a b) (hc : IsCirc rr a c) : b = c := by
  rcases hb with ⟨rfl, h1⟩ | ⟨h1, h2⟩ <;> rcases hc with ⟨rfl, h3⟩ | ⟨h3, h4⟩
  · rfl
  · exact absurd h3 (h1 _)
  · exact absurd h1 (h3 _)
  · have h5 := h2 c h3
    have h6 := h4 b h1
    have e : b.length = c.length := by omega
    rcases lex_tri e with h | h | h
    · exact h
    · exact absurd h (h6.2 e)
    · exact absurd h (h5.2 e.symm)
open Classical in
noncomputable def circ (rr : List (List Int)) (a : List Int) : List Int := if h : ∃ c, IsCirc rr a c then h.choose else []
theorem circ_is {rr : List (List Int)} {a c : List Int} (h : IsCirc rr a c) : circ rr a = c := by
  have hex : ∃ c, IsCirc rr a c := ⟨c, h⟩
  unfold circ
  rw [dif_pos hex]
  exact hex.choose_spec.one h

/-- nobody is free of envy: there is a circle -/
def frees (rr : List (List Int)) (a : List Int) (i : Nat) : Prop := ∀ k : Nat, k < rr.length → ¬ En rr a k i
theorem has_circle {rr : List (List Int)} {a : List Int} (hn : 1 ≤ rr.length) (h : ∀ i, i < rr.length → ¬ frees rr a i) : ∃ l, isC rr a l := by
  have hex : ∀ i : Nat, ∃ k : Nat, i < rr.length → k < rr.length ∧ En rr a k i := fun i => by
    by_cases hi : i < rr.length
    · refine Classical.byContradiction fun hno => h i hi fun k hk he => hno ⟨k, fun _ => ⟨hk, he⟩⟩
    · exact ⟨0, fun h => absurd h hi⟩
  obtain ⟨f, hf⟩ : ∃ f : Nat → Nat, ∀ i, i < rr.length → f i < rr.length ∧ En rr a (f i : Nat) i := ⟨fun i => (hex i).choose, fun i => (hex i).choose_spec⟩
  -- the t-th one before i
  obtain ⟨P, P0, PS⟩ : ∃ P : Nat → Nat → Nat, (∀ i, P 0 i = i) ∧ ∀ t i, P (t + 1) i = f (P t i) := ⟨fun t i => Nat.rec i (fun _ x => f x) t, fun _ => rfl, fun _ _ => rfl⟩
  have Padd : ∀ s t i, P (s + t) i = P s (P t i) := fun s t i => by
    induction s with
    | zero => rw [Nat.zero_add, P0]
    | succ s ih => rw [show s + 1 + t = (s + t) + 1 by omega, PS, PS, ih]
  have Plt : ∀ t i, i < rr.length → P t i < rr.length := fun t i hi => by
    induction t with
    | zero => rw [P0]; exact hi
    | succ t ih => rw [PS]; exact (hf _ ih).1
  -- someone comes back
  have hper : ∃ m, m < rr.length ∧ ∃ j, 0 < j ∧ P j m = m := by
    obtain ⟨s, t, h1, _, e⟩ := php rr.length (fun t => P t 0) (fun t _ => Plt t 0 (by omega))
    refine ⟨P s 0, Plt s 0 (by omega), t - s, by omega, ?_⟩
    rw [← Padd, show t - s + s = t by omega]; exact e.symm
  obtain ⟨m, ⟨hm, j0, hj0, ej0⟩, hmin⟩ := least_nat hper
  obtain ⟨j, ⟨hj, ej⟩, hjm⟩ := least_nat (p := fun j => 0 < j ∧ P j m = m) ⟨j0, hj0, ej0⟩
  have hinj : ∀ s t, s < t → t < j → P s m ≠ P t m := fun s t hst ht e => by
    refine hjm (j - (t - s)) (by omega) ⟨by omega, ?_⟩
    have e1 : P (j - t) (P s m) = P (j - t) (P t m) := by rw [e]
    rw [← Padd, ← Padd, show j - t + t = j by omega, ej] at e1
    rw [show j - (t - s) = j - t + s by omega]; exact e1
  have hge : ∀ t, t < j → 0 < t → m < P t m := fun t ht h0 => by
    have h1 : ¬ P t m < m := fun hlt => hmin (P t m) hlt ⟨Plt t m hm, j, hj, by rw [← Padd, show j + t = t + j by omega, Padd, ej]⟩
    have h2 := hinj 0 t h0 ht
    rw [P0] at h2
    omega
  have hjne : j ≠ 1 := fun e => by
    subst e
    have h1 := (hf m hm).2
    rw [show (1 : Nat) = 0 + 1 from rfl, PS, P0] at ej
    rw [ej] at h1
    unfold En at h1
    omega
  refine ⟨(List.range j).map fun t => ((P (j - t) m : Nat) : Int), ?_⟩
  have hg : ∀ t, t < j → ((List.range j).map fun t => ((P (j - t) m : Nat) : Int)).getD t 0 = ((P (j - t) m : Nat) : Int) := fun t ht => by simp [List.getD, ht]
  refine ⟨by simp; omega, fun t ht => ?_, fun t h0 ht => ?_, fun s t hst ht => ?_, fun t ht => ?_⟩
  · simp at ht; rw [hg t ht]; have := Plt (j - t) m hm; omega
  · simp at ht; rw [hg t ht, hg 0 (by omega), Nat.sub_zero, ej]; have := hge (j - t) (by omega) (by omega); omega
  · simp at ht
    rw [hg t ht, hg s (by omega)]
    intro e
    by_cases hs : s = 0
    · subst hs
      have := hge (j - t) (by omega) (by omega)
      rw [Nat.sub_zero, ej] at e; omega
    · exact hinj (j - t) (j - s) (by omega) (by omega) (by omega)
  · simp at ht
    simp only [List.length_map, List.length_range]
    rw [hg t ht]
    by_cases e : t + 1 = j
    · rw [e, Nat.mod_self, hg 0 (by omega), Nat.sub_zero, ej, show j - t = 0 + 1 by omega, PS, P0]
      exact (hf m hm).2
    · rw [Nat.mod_eq_of_lt (by omega), hg (t + 1) (by omega), show j - t = (j - (t + 1)) + 1 by omega, PS]
      exact (hf _ (Plt _ m hm)).2
/-- there is a first of the shortest ones -/
theorem circ_ex (rr : List (List Int)) (a : List Int) (hn : 1 ≤ rr.length) : IsCirc rr a (circ rr a) := by
  by_cases h : ∃ l, isC rr a l
  · obtain ⟨l, hl⟩ := h
    obtain ⟨N, ⟨l1, hl1, e1⟩, hN⟩ := least_nat (p := fun N => ∃ l, isC rr a l ∧ l.length = N) ⟨_, l, hl, rfl⟩
    have hd : ∀ l, isC rr a l → ∃ k, k < rr.length ^ l.length ∧ digs rr.length l.length k = l := fun l h => digs_all hn h.rng
    obtain ⟨k1, hk1, ek1⟩ := hd l1 hl1
    obtain ⟨k, ⟨hk, hC⟩, hkm⟩ := least_nat (p := fun k => k < rr.length ^ N ∧ isC rr a (digs rr.length N k)) ⟨k1, by rw [← e1]; exact hk1, by rw [← e1, ek1]; exact hl1⟩
    have hX : IsCirc rr a (digs rr.length N k) := .inr ⟨hC, fun l2 hl2 => ⟨by rw [digs_len]; exact Nat.le_of_not_lt fun h => hN _ h ⟨l2, hl2, rfl⟩, fun e hx => by
      obtain ⟨q, hq, eq⟩ := hd l2 hl2
      rw [digs_len] at e
      rw [e] at hq eq
      rw [← eq] at hx hl2
      have hkq : k ≤ q := Nat.le_of_not_lt fun h => hkm q h ⟨hq, hl2⟩
      by_cases e2 : k = q
      · subst e2; exact lexlt_irrefl _ hx
      · exact lexlt_asymm hx (digs_lt hn hk hq (by omega))⟩⟩
    rw [circ_is hX]; exact hX
  · have hX : IsCirc rr a [] := .inl ⟨rfl, fun l hl => h ⟨l, hl⟩⟩
    rw [circ_is hX]; exact hX

/-! ### passing along a circle -/
def idL (n : Nat) : List Int := (List.range n).map fun k : Nat => (k : Int)
theorem idL_len (n : Nat) : (idL n).length = n := by simp [idL]
theorem idL_get {n k : Nat} (h : k < n) : (idL n).getD k 0 = (k : Int) := by simp [idL, List.getD, h]
/-- the order after the first q of the circle -/
def ordTo (c : List Int) (n : Nat) : Nat → List Int
  | 0 => idL n
  | q + 1 => (ordTo c n q).set (c.getD q 0).toNat (c.getD ((q + 1) % c.length) 0)
theorem ordTo_len (c : List Int) (n : Nat) : ∀ q, (ordTo c n q).length = n
  | 0 => idL_len n
  | q + 1 => by simp only [ordTo]; rw [List.length_set]; exact ordTo_len c n q
/-- a list of some agents, each at most once -/
structure Ags (c : List Int) (n : Nat) : Prop where
  rng : ∀ t, t < c.length → 0 ≤ c.getD t 0 ∧ c.getD t 0 < n
  dis : ∀ s t, s < t → t < c.length → c.getD s 0 ≠ c.getD t 0
theorem isC.ags {rr : List (List Int)} {a l : List Int} (h : isC rr a l) : Ags l rr.length := ⟨h.rng, h.dis⟩
theorem Ags.inj {c : List Int} {n s t : Nat} (h : Ags c n) (hs : s < c.length) (ht : t < c.length) (e : c.getD s 0 = c.getD t 0) : s = t := by
  rcases Nat.lt_trichotomy s t with h1 | h1 | h1
  · exact absurd e (h.dis s t h1 ht)
  · exact h1
  · exact absurd e.symm (h.dis t s h1 hs)
theorem ord_at {c : List Int} {n : Nat} (h : Ags c n) : ∀ {q : Nat}, q ≤ c.length → (∀ t, t < q → (ordTo c n q).getD (c.getD t 0).toNat 0 = c.getD ((t + 1) % c.length) 0) ∧ ∀ x : Nat, x < n → (∀ t, t < q → c.getD t 0 ≠ x) → (ordTo c n q).getD x 0 = x
  | 0, _ => ⟨fun t ht => absurd ht (Nat.not_lt_zero _), fun x hx _ => idL_get hx⟩
  | q + 1, hq => by
    have ih := ord_at h (q := q) (by omega)
    have hr := h.rng q (by omega)
    refine ⟨fun t ht => ?_, fun x hx hno => ?_⟩
    · simp only [ordTo]
      rw [set_get (by rw [ordTo_len]; omega)]
      by_cases e : t = q
      · subst e; rw [if_pos rfl]
      · have h1 := h.dis t q (by omega) (by omega)
        have h2 := h.rng t (by omega)
        rw [if_neg (by omega)]
        exact ih.1 t (by omega)
    · simp only [ordTo]
      have h1 := hno q (by omega)
      rw [set_get (by rw [ordTo_len]; omega), if_neg (by omega)]
      exact ih.2 x hx fun t ht => hno t (by omega)
def ordL (c : List Int) (n : Nat) : List Int := ordTo c n c.length
theorem ordL_len (c : List Int) (n : Nat) : (ordL c n).length = n := ordTo_len c n _
theorem ordL_in {c : List Int} {n t : Nat} (h : Ags c n) (ht : t < c.length) : (ordL c n).getD (c.getD t 0).toNat 0 = c.getD ((t + 1) % c.length) 0 := (ord_at h (Nat.le_refl _)).1 t ht
theorem ordL_out {c : List Int} {n x : Nat} (h : Ags c n) (hx : x < n) (hno : ∀ t, t < c.length → c.getD t 0 ≠ x) : (ordL c n).getD x 0 = x := (ord_at h (Nat.le_refl _)).2 x hx hno
theorem ordL_asg {c : List Int} {n : Nat} (h : Ags c n) : asg (ordL c n) n := by
  refine (asg_iff (ordL_len c n)).2 ⟨fun i hi => ?_, fun j hj => ?_⟩
  · by_cases hin : ∃ t, t < c.length ∧ c.getD t 0 = (i : Int)
    · obtain ⟨t, ht, e⟩ := hin
      have := ordL_in h ht
      rw [e, Int.toNat_natCast] at this
      rw [this]
      exact h.rng _ (Nat.mod_lt _ (by omega))
    · rw [ordL_out h hi fun t ht e => hin ⟨t, ht, e⟩]; omega
  · by_cases hin : ∃ t, t < c.length ∧ c.getD t 0 = (j : Int)
    · obtain ⟨t, ht, e⟩ := hin
      by_cases h0 : t = 0
      · subst h0
        refine ⟨(c.getD (c.length - 1) 0).toNat, by have := h.rng (c.length - 1) (by omega); omega, ?_⟩
        rw [ordL_in h (by omega), show c.length - 1 + 1 = c.length by omega, Nat.mod_self, e]
      · refine ⟨(c.getD (t - 1) 0).toNat, by have := h.rng (t - 1) (by omega); omega, ?_⟩
        rw [ordL_in h (by omega), show t - 1 + 1 = t by omega, Nat.mod_eq_of_lt ht, e]
    · exact ⟨j, hj, ordL_out h hj fun t ht e => hin ⟨t, ht, e⟩⟩
/-- after passing along a circle -/
def pas (n : Nat) (a c : List Int) : List Int := passV a (ordL c n)
theorem pas_len (n : Nat) (a c : List Int) : (pas n a c).length = a.length := passV_len _ _
theorem vld_pas {rr : List (List Int)} {a c : List Int} (h : vld rr a = 0) (hc : Ags c rr.length) : vld rr (pas rr.length a c) = 0 := vld_pass h (ordL_asg hc)
theorem wth_pas {rr : List (List Int)} {a c : List Int} (h : vld rr a = 0) (hc : Ags c rr.length) {i k : Nat} (hk : k < rr.length) : wth rr (pas rr.length a c) i k = wth rr a i ((ordL c rr.length).getD k 0) := by
  unfold wth pas; rw [passV_len]; exact worth_pass h (ordL_asg hc) hk _ (Nat.le_refl _)
/-- of the agents of the circle each one has more, the others have as much -/
theorem own_in {rr : List (List Int)} {a c : List Int} (h : vld rr a = 0) (hc : isC rr a c) {t : Nat} (ht : t < c.length) : wth rr a (c.getD t 0).toNat (c.getD t 0) < wth rr (pas rr.length a c) (c.getD t 0).toNat (c.getD t 0) := by
  have h1 := hc.rng t ht
  have h2 := wth_pas h hc.ags (i := (c.getD t 0).toNat) (k := (c.getD t 0).toNat) (by omega)
  rw [ordL_in hc.ags ht, Int.toNat_of_nonneg h1.1] at h2
  rw [h2]; exact hc.edg t ht
theorem own_out {rr : List (List Int)} {a c : List Int} (h : vld rr a = 0) (hc : Ags c rr.length) {i : Nat} (hi : i < rr.length) (hno : ∀ t, t < c.length → c.getD t 0 ≠ i) : wth rr (pas rr.length a c) i i = wth rr a i i := by
  rw [wth_pas h hc hi, ordL_out hc hi hno]
theorem own_le {rr : List (List Int)} {a c : List Int} (h : vld rr a = 0) (hc : isC rr a c) {i : Nat} (hi : i < rr.length) : wth rr a i i ≤ wth rr (pas rr.length a c) i i := by
  by_cases hin : ∃ t, t < c.length ∧ c.getD t 0 = (i : Int)
  · obtain ⟨t, ht, e⟩ := hin
    have := own_in h hc ht
    rw [e, Int.toNat_natCast] at this
    omega
  · rw [own_out h hc.ags hi fun t ht e => hin ⟨t, ht, e⟩]; exact Int.le_refl _
/-- the sum of all own values -/
def pot (rr : List (List Int)) (a : List Int) : Int := sumK (fun i : Nat => wth rr a i i) rr.length
theorem sumK_lt {f g : Nat → Int} : ∀ {n : Nat}, (∀ k, k < n → f k ≤ g k) → (∃ k, k < n ∧ f k < g k) → sumK f n < sumK g n
  | 0, _, ⟨k, hk, _⟩ => absurd hk (Nat.not_lt_zero _)
  | n + 1, h, ⟨k, hk, hl⟩ => by
    have h1 := h n (by omega)
    simp only [sumK]
    by_cases e : k = n
    · subst e
      have := sumK_le (f := f) (g := g) (n := k) (fun q hq => h q (by omega))
      omega
    · have := sumK_lt (f := f) (g := g) (n := n) (fun q hq => h q (by omega)) ⟨k, by omega, hl⟩
      omega
theorem pot_up {rr : List (List Int)} {a c : List Int} (h : vld rr a = 0) (hc : isC rr a c) : pot rr a < pot rr (pas rr.length a c) := by
  have hl := hc.len
  have h0 := hc.rng 0 (by omega)
  refine sumK_lt (fun k hk => own_le h hc hk) ⟨(c.getD 0 0).toNat, by omega, ?_⟩
  have := own_in h hc (t := 0) (by omega)
  rw [show (((c.getD 0 0).toNat : Nat) : Int) = c.getD 0 0 by omega]; exact this
theorem pot_bd {rr : List (List Int)} {a : List Int} (h : vld rr a = 0) : 0 ≤ pot rr a ∧ pot rr a ≤ 60000 := by
  have hal := al_of_vld h
  have hn := hal.n6
  have hm := hal.m10
  have hl := hal.len
  have := sumK_bd (f := fun i : Nat => wth rr a i i) (X := 10000) (fun i => by have := wth_bd hal.toGd (a := a) i (i : Int); omega) rr.length
  unfold pot
  omega

/-- passing along circles until there is none -/
inductive Und (rr : List (List Int)) : List Int → List Int → Prop
  | stop {a : List Int} : circ rr a = [] → Und rr a a
  | go {a b : List Int} : circ rr a ≠ [] → Und rr (pas rr.length a (circ rr a)) b → Und rr a b
theorem Und.one {rr : List (List Int)} {a b c : List Int} (h : Und rr a b) (k : Und rr a c) : b = c := by
  induction h with
  | stop h => cases k with
    | stop _ => rfl
    | go k1 _ => exact absurd h k1
  | go h1 _ ih => cases k with
    | stop k => exact absurd k h1
    | go _ k2 => exact ih k2
theorem circ_isC {rr : List (List Int)} {a : List Int} (hn : 1 ≤ rr.length) (h : circ rr a ≠ []) : isC rr a (circ rr a) := by
  rcases circ_ex rr a hn with ⟨h1, _⟩ | ⟨h1, _⟩
  · exact absurd h1 h
  · exact h1
theorem circ_none {rr : List (List Int)} {a : List Int} (hn : 1 ≤ rr.length) (h : circ rr a = []) : ∀ l, ¬ isC rr a l := by
  rcases circ_ex rr a hn with ⟨_, h1⟩ | ⟨h1, _⟩
  · exact h1
  · have := h1.len
    rw [h] at this
    simp at this

/-! ### who is free -/
noncomputable def fre (rr : List (List Int)) (a : List Int) : Int := firstFrom (fun i => tf (frees rr a i)) rr.length 0
theorem fre_cases (rr : List (List Int)) (a : List Int) : (∃ i : Nat, i < rr.length ∧ fre rr a = (i : Int) ∧ frees rr a i ∧ ∀ k, k < i → ¬ frees rr a k) ∨ (fre rr a = -1 ∧ ∀ i, i < rr.length → ¬ frees rr a i) := by
  rcases firstFrom_spec (fun i => tf (frees rr a i)) rr.length 0 with ⟨j, _, h2, h3, h4, h5⟩ | ⟨h, h2⟩
  · refine .inl ⟨j, by omega, h4, Classical.byContradiction fun hn => ?_, fun k hk hf => ?_⟩
    · rw [tf_f hn] at h3; cases h3
    · have := h5 k (Nat.zero_le _) hk
      rw [tf_t hf] at this; cases this
  · refine .inr ⟨h, fun i hi hf => ?_⟩
    have := h2 i (Nat.zero_le _) (by omega)
    rw [tf_t hf] at this; cases this
theorem fre_neg {rr : List (List Int)} {a : List Int} (hn : 1 ≤ rr.length) (h : fre rr a < 0) : isC rr a (circ rr a) := by
  rcases fre_cases rr a with ⟨i, _, e, _⟩ | ⟨_, h1⟩
  · omega
  · obtain ⟨l, hl⟩ := has_circle hn h1
    refine circ_isC hn fun e => circ_none hn e l hl

/-! ### Run -/
abbrev Stp := List Int × Int × Int
/-- what the rest of the order leads to, by which steps -/
inductive RunS (rr : List (List Int)) : List Int → List Int → List Stp → List Int → Prop
  | nil {a : List Int} : RunS rr [] a [] a
  | circ {g : Int} {o a : List Int} {S : List Stp} {b : List Int} : fre rr a < 0 → RunS rr (g :: o) (pas rr.length a (circ rr a)) S b → RunS rr (g :: o) a ((Go.Proofs.Ytebklnmafjbhcaa.circ rr a, -1, -1) :: S) b
  | give {g : Int} {o a : List Int} {S : List Stp} {b : List Int} : 0 ≤ fre rr a → RunS rr o (a.set g.toNat (fre rr a)) S b → RunS rr (g :: o) a (([], fre rr a, g) :: S) b
theorem RunS.one {rr : List (List Int)} {o a b b' : List Int} {S S' : List Stp} (h : RunS rr o a S b) (k : RunS rr o a S' b') : S = S' ∧ b = b' := by
  induction h generalizing S' b' with
  | nil => cases k; exact ⟨rfl, rfl⟩
  | circ h1 _ ih => cases k with
    | circ _ k2 => obtain ⟨rfl, rfl⟩ := ih k2; exact ⟨rfl, rfl⟩
    | give k1 _ => omega
  | give h1 _ ih => cases k with
    | circ k1 _ => omega
    | give _ k2 => obtain ⟨rfl, rfl⟩ := ih k2; exact ⟨rfl, rfl⟩
end Go.Proofs.Ytebklnmafjbhcaa
set_option linter.unusedVariables false
set_option linter.unusedSimpArgs false
namespace Go.Proofs.Ytebklnmafjbhcaa
open Go.Eng

/-- envy between agents -/
def EnG (rr : List (List Int)) (a : List Int) (i k : Int) : Prop := i < rr.length ∧ k < rr.length ∧ En rr a i k
/-- a way that may become a circle -/
structure Pth (rr : List (List Int)) (a l : List Int) : Prop where
  ne : 1 ≤ l.length
  rng : ∀ t, t < l.length → 0 ≤ l.getD t 0 ∧ l.getD t 0 < 6
  low : ∀ t, 0 < t → t < l.length → l.getD 0 0 < l.getD t 0
  dis : ∀ s t, s < t → t < l.length → l.getD s 0 ≠ l.getD t 0
  edg : ∀ t, t + 1 < l.length → EnG rr a (l.getD t 0) (l.getD (t + 1) 0)
theorem snoc_lt {l : List Int} {k : Int} {t : Nat} (h : t < l.length) : (l ++ [k]).getD t 0 = l.getD t 0 := by
  simp only [List.getD]; rw [List.getElem?_append_left h]
theorem snoc_at (l : List Int) (k : Int) : (l ++ [k]).getD l.length 0 = k := by simp [List.getD]
theorem snoc_len (l : List Int) (k : Int) : (l ++ [k]).length = l.length + 1 := by simp
section
variable {rr : List (List Int)} {a l r : List Int} {k : Int} {m : Nat}
theorem Pth.one (h : 0 ≤ k ∧ k < 6) : Pth rr a [k] := by
  refine ⟨by simp, fun t ht => ?_, fun t h0 ht => ?_, fun s t hst ht => ?_, fun t ht => ?_⟩
  · simp at ht; subst ht; exact h
  · simp at ht; omega
  · simp at ht; omega
  · simp at ht
theorem Pth.snoc (h : Pth rr a l) (h0 : l.getD 0 0 < k) (h6 : k < 6) (hn : ∀ t, t < l.length → l.getD t 0 ≠ k) (he : EnG rr a (l.getD (l.length - 1) 0) k) : Pth rr a (l ++ [k]) := by
  have hne := h.ne
  have hl := snoc_len l k
  have h00 := h.rng 0 (by omega)
  have hat := snoc_at l k
  refine ⟨by omega, fun t ht => ?_, fun t h1 ht => ?_, fun s t hst ht => ?_, fun t ht => ?_⟩
  · by_cases e : t = l.length
    · subst e; rw [hat]; omega
    · rw [snoc_lt (by omega)]; exact h.rng t (by omega)
  · rw [snoc_lt (t := 0) (by omega)]
    by_cases e : t = l.length
    · subst e; rw [hat]; exact h0
    · rw [snoc_lt (by omega)]; exact h.low t h1 (by omega)
  · rw [snoc_lt (t := s) (by omega)]
    by_cases e : t = l.length
    · subst e; rw [hat]; exact hn s hst
    · rw [snoc_lt (by omega)]; exact h.dis s t hst (by omega)
  · rw [snoc_lt (t := t) (by omega)]
    by_cases e : t + 1 = l.length
    · rw [e, hat, show t = l.length - 1 by omega]; exact he
    · rw [snoc_lt (by omega)]; exact h.edg t (by omega)
/-- circles that begin with a list and have so many more agents -/
def Dl (rr : List (List Int)) (a l : List Int) (m : Nat) (r : List Int) : Prop := isC rr a r ∧ r.length = l.length + m ∧ ∀ i, i < l.length → r.getD i 0 = l.getD i 0
def Non (rr : List (List Int)) (a l : List Int) (m : Nat) : Prop := ∀ r, ¬ Dl rr a l m r
def Fst (rr : List (List Int)) (a l : List Int) (m : Nat) (r : List Int) : Prop := Dl rr a l m r ∧ ∀ r', Dl rr a l m r' → ¬ lexlt r' r
theorem Dl.zero (h : Dl rr a l 0 r) (h2 : 1 ≤ l.length) : r = l ∧ EnG rr a (l.getD (l.length - 1) 0) (l.getD 0 0) := by
  obtain ⟨h3, h4, h5⟩ := h
  obtain rfl : r = l := ext_getD 0 (by omega) fun i hi => h5 i (by omega)
  refine ⟨rfl, (h3.rng _ (by omega)).2, (h3.rng 0 (by omega)).2, ?_⟩
  have := h3.edg (r.length - 1) (by omega)
  rwa [show r.length - 1 + 1 = r.length by omega, Nat.mod_self] at this
theorem Fst.zero (h : Pth rr a l) (h2 : 2 ≤ l.length) (he : EnG rr a (l.getD (l.length - 1) 0) (l.getD 0 0)) : Fst rr a l 0 l := by
  refine ⟨⟨⟨by omega, fun t ht => ⟨(h.rng t ht).1, ?_⟩, h.low, h.dis, fun t ht => ?_⟩, rfl, fun _ _ => rfl⟩, fun r' hr => ?_⟩
  · by_cases e : t + 1 < l.length
    · exact (h.edg t e).1
    · rw [show t = l.length - 1 by omega]; exact he.1
  · by_cases e : t + 1 < l.length
    · rw [Nat.mod_eq_of_lt e]; exact (h.edg t e).2.2
    · rw [show t + 1 = l.length by omega, Nat.mod_self, show t = l.length - 1 by omega]; exact he.2.2
  · obtain ⟨rfl, _⟩ := hr.zero (by omega)
    exact lexlt_irrefl _
theorem Non.zero (h2 : 1 ≤ l.length) (he : ¬ EnG rr a (l.getD (l.length - 1) 0) (l.getD 0 0)) : Non rr a l 0 := fun _ hr => he (hr.zero h2).2
theorem Dl.step (h : Dl rr a l (m + 1) r) (h2 : 1 ≤ l.length) : Dl rr a (l ++ [r.getD l.length 0]) m r ∧ l.getD 0 0 < r.getD l.length 0 ∧ r.getD l.length 0 < rr.length := by
  obtain ⟨h3, h4, h5⟩ := h
  refine ⟨⟨h3, by rw [snoc_len]; omega, fun i hi => ?_⟩, ?_, (h3.rng _ (by omega)).2⟩
  · rw [snoc_len] at hi
    by_cases e : i = l.length
    · subst e; rw [snoc_at]
    · rw [snoc_lt (by omega)]; exact h5 i (by omega)
  · rw [← h5 0 (by omega)]; exact h3.low _ (by omega) (by omega)
theorem Dl.up (h : Dl rr a (l ++ [k]) m r) : Dl rr a l (m + 1) r ∧ r.getD l.length 0 = k := by
  obtain ⟨h3, h4, h5⟩ := h
  rw [snoc_len] at h4 h5
  refine ⟨⟨h3, by omega, fun i hi => ?_⟩, ?_⟩
  · rw [h5 i (by omega), snoc_lt hi]
  · rw [h5 l.length (by omega), snoc_at]
theorem Non.bad (h2 : 1 ≤ l.length) (h : ¬ EnG rr a (l.getD (l.length - 1) 0) k ∨ ∃ t, t < l.length ∧ l.getD t 0 = k) : Non rr a (l ++ [k]) m := fun r hr => by
  obtain ⟨h3, h4, h5⟩ := hr
  rw [snoc_len] at h4 h5
  have e1 := h5 l.length (by omega)
  rw [snoc_at] at e1
  rcases h with h | ⟨t, ht, e⟩
  · have e2 := h5 (l.length - 1) (by omega)
    rw [snoc_lt (by omega)] at e2
    have := h3.edg (l.length - 1) (by omega)
    rw [Nat.mod_eq_of_lt (by omega), show l.length - 1 + 1 = l.length by omega, e1, e2] at this
    exact h ⟨by rw [← e2]; exact (h3.rng _ (by omega)).2, by rw [← e1]; exact (h3.rng _ (by omega)).2, this⟩
  · have e2 := h5 t (by omega)
    rw [snoc_lt ht] at e2
    exact h3.dis t l.length ht (by omega) (by rw [e1, e2, e])
theorem Non.up (hn : rr.length ≤ 6) (h2 : 1 ≤ l.length) (h : ∀ k, l.getD 0 0 < k → k < 6 → Non rr a (l ++ [k]) m) : Non rr a l (m + 1) := fun r hr => by
  obtain ⟨h3, h4, h5⟩ := hr.step h2
  exact h _ h4 (by omega) r h3
theorem Fst.up (h2 : 1 ≤ l.length) (hf : Fst rr a (l ++ [k]) m r) (h : ∀ q, l.getD 0 0 < q → q < k → Non rr a (l ++ [q]) m) : Fst rr a l (m + 1) r := by
  obtain ⟨h3, h4⟩ := hf.1.up
  refine ⟨h3, fun r' hr hl => ?_⟩
  obtain ⟨h5, h6, h7⟩ := hr.step h2
  rcases Int.lt_trichotomy (r'.getD l.length 0) k with e | e | e
  · exact h _ h6 e r' h5
  · rw [e] at h5; exact hf.2 r' h5 hl
  · obtain ⟨j, j1, j2, j3, j4⟩ := lexlt_at hl
    have e1 := hr.2.2
    have e2 := h3.2.2
    rcases Nat.lt_trichotomy j l.length with e3 | e3 | e3
    · rw [e1 j e3, e2 j e3] at j4; omega
    · subst e3; omega
    · have := j3 l.length e3; omega
theorem circ_some {more : Nat} {i : Int} (hn : rr.length ≤ 6) (hf : Fst rr a [i] more r) (h1 : ∀ q, 1 ≤ q → q < more → ∀ x : Int, 0 ≤ x → x < 6 → Non rr a [x] q) (h2 : ∀ x : Int, 0 ≤ x → x < i → Non rr a [x] more) : circ rr a = r := by
  have hlr := hf.1.2.1
  simp only [List.length_singleton] at hlr
  have hD : ∀ r', isC rr a r' → Dl rr a [r'.getD 0 0] (r'.length - 1) r' := fun r' h => ⟨h, by have := h.len; simp; omega, fun j hj => by simp at hj; subst hj; rfl⟩
  refine circ_is (.inr ⟨hf.1.1, fun r' hr => ⟨Classical.byContradiction fun hlt => ?_, fun e hl => ?_⟩⟩)
  · have h3 := hr.len
    have h4 := hr.rng 0 (by omega)
    exact h1 (r'.length - 1) (by omega) (by omega) _ h4.1 (by omega) r' (hD r' hr)
  · have h3 := hr.len
    have h4 := hr.rng 0 (by omega)
    have h5 := hD r' hr
    rw [show r'.length - 1 = more by omega] at h5
    have e0 : r.getD 0 0 = i := hf.1.2.2 0 (by simp)
    rcases Int.lt_trichotomy (r'.getD 0 0) i with e1 | e1 | e1
    · exact h2 _ h4.1 e1 r' h5
    · rw [e1] at h5; exact hf.2 r' h5 hl
    · obtain ⟨j, j1, j2, j3, j4⟩ := lexlt_at hl
      by_cases ej : j = 0
      · subst ej; omega
      · have := j3 0 (by omega); omega
theorem circ_nil (hn : rr.length ≤ 6) (h1 : ∀ q, 1 ≤ q → q < 6 → ∀ x : Int, 0 ≤ x → x < 6 → Non rr a [x] q) : circ rr a = [] := by
  refine circ_is (.inl ⟨rfl, fun r' hr => ?_⟩)
  have h3 := hr.len
  have h4 := hr.rng 0 (by omega)
  have h5 := hr.le
  exact h1 (r'.length - 1) (by omega) (by omega) _ h4.1 (by omega) r' ⟨hr, by simp; omega, fun j hj => by simp at hj; subst hj; rfl⟩
end
end Go.Proofs.Ytebklnmafjbhcaa
set_option linter.unusedVariables false
set_option linter.unusedSimpArgs false
namespace Go.Eng
open Go.RowKit

section
variable {P : Program} {w w' : World} {b : Nat} {T : TypeId} {xs : List Value}

theorem Blk.row {B n s : Nat} {e : TypeId} {v : Value} {ys : List Value} (h : Blk w b T xs) (ho : Own B e s w v n ys) (he : e ≠ T) (hg : Gr (fun k => v.ownBlock = some k) w w') : Blk w' b T xs :=
  h.gr hg fun hb => by
    have hb : v.ownBlock = some b := hb
    rcases ho.2 with ⟨rfl, _⟩ | ⟨g, cap, cur, rfl, _, hgg, _⟩
    · simp [Value.ownBlock] at hb
    · simp [Value.ownBlock] at hb
      subst hb
      unfold Blk at h
      rw [h] at hgg
      simp at hgg
      exact he hgg.2.symm
theorem Blk.two {b' : Nat} {T' : TypeId} {ys : List Value} (h : Blk w b T xs) (_h' : Blk w b' T' ys) (he : b ≠ b') (hg : Gr (fun k => k = b') w w') : Blk w' b T xs := h.gr hg he
theorem Own.row {B n s B' n' s' : Nat} {e e' : TypeId} {v v' : Value} {ys ys' : List Value} (h : Own B e s w v n ys) (h' : Own B' e' s' w v' n' ys') (he : e ≠ e') (hg : Gr (fun k => v'.ownBlock = some k) w w') : Own B e s w' v n ys :=
  Own.gr h hg fun k hk hS => Own.ne h h' he k hk hS

theorem Blk.ldA {k : Nat} {x : Value} {K : Value → Prop} (h : Blk w b T xs) (hx : xs[k]? = some x) (hk : K x) : Ld w ((⟨b, 0, none⟩ : Addr).add k) K := At.ld h.at hx hk
theorem At.sub {p : Addr} (h : At w p xs) (k : Nat) : At w (p.add k) (xs.drop k) := fun i x hx => by
  rw [add_add]
  exact h (k + i) x (by rw [← hx, List.getElem?_drop])
theorem Blk.setA {i : Nat} {x : Value} {K : World → Prop} (h : Blk w b T xs) (hi : i < xs.length) (hx : x.oneCell' = true)
    (hK : ∀ w', Gr (fun j => j = b) w w' → Blk w' b T (xs.set i x) → K w') : St w ((⟨b, 0, none⟩ : Addr).add i) x K := by
  rw [add0]; exact h.set hi hx hK

end
end Go.Eng
set_option linter.unusedVariables false
set_option linter.unusedSimpArgs false
namespace Go.Proofs.Ytebklnmafjbhcaa
open Go.Eng
abbrev OB (B : Nat) (w : World) (v : Value) (l : List Int) : Prop := Own B 3 1 w v l.length (l.map i64v)
theorem OB.set {B k : Nat} {x : Int} {w : World} {v : Value} {l : List Int} {K : World → Prop} (h : OB B w v l) (hk : k < l.length) (hK : ∀ w', Gr (fun j => v.ownBlock = some j) w w' → OB B w' v (l.set k x) → K w') : St w (ea v k) (.int .i64 x) K :=
  Own.set h (by rw [List.length_map]; exact hk) rfl fun w' hg h' => hK w' hg (by
    rw [set_map] at h'
    show Own B 3 1 w' v (l.set k x).length _
    rw [List.length_set]; exact h')
theorem OB.made {B n : Nat} {w : World} {v : Value} (h : Own B 3 1 w v n (List.replicate n (.int .i64 0))) : OB B w v (List.replicate n 0) := by
  show Own B 3 1 w v (List.replicate n (0 : Int)).length ((List.replicate n (0 : Int)).map i64v)
  rw [List.length_replicate, List.map_replicate]; exact h
end Go.Proofs.Ytebklnmafjbhcaa
set_option linter.unusedVariables false
set_option linter.unusedSimpArgs false
namespace Go.Eng
open Go.RowKit Go.ChangeShapes Go.WideShapes Go.ChangeAt

section
variable {H : Type} {enc : TypeId × Value → H} {P : Program} {w : World} {base b0 : Nat} {spare : Nat → Bool} {held : Bool} {r : Reach} {v : Value} {d : DataW H} {ps : List MemPlace}

theorem open_L {t e : TypeId} (ht : P.underlying t = some (.slice e)) (he : P.underlying e = some (.int .i64)) (hs : P.cellsOf e = 1) (hv : Value.okWide P w r b0 t v) (hd : DataW.Trod enc P w base spare held t v d ps) : ∃ l, Ints w v l ∧ ∀ i, I64 (l.getD i 0) := by
  obtain ⟨a, n, c, rfl⟩ := okWide_slice ht hv
  obtain ⟨fuel, h⟩ := hd
  obtain ⟨m, l, hm, h1, h2⟩ := read_ints ht he hs h
  simp [Value.cells] at hm; subst hm
  exact ⟨l, h1, h2⟩

/-- A struct of one matrix. -/
theorem open_G {t e q : TypeId} {f : Field} (ht : P.underlying t = some (.struct #[f])) (ho : f.offset = 0) (hc : P.cellsOf t = 1) (hcf : P.cellsOf f.type = 1) (hf : P.underlying f.type = some (.slice e)) (he : P.underlying e = some (.slice q)) (hq : P.underlying q = some (.int .i64)) (hs : P.cellsOf e = 1) (hs2 : P.cellsOf q = 1)
    (hv : Value.okWide P w r b0 t v) (hd : DataW.Trod enc P w base spare held t v d ps) : ∃ gv vs rr, v = .agg #[gv] ∧ Mat w gv vs rr ∧ ∀ i j, I64 ((rr.getD i []).getD j 0) := by
  obtain ⟨cs, rfl, hcs⟩ := okWide_struct ht hv
  obtain ⟨fuel, h⟩ := hd
  obtain ⟨y, n, _, hl, hy⟩ := trod_struct1 ht h
  rw [ho, hcf] at hy
  obtain ⟨u, vs, rr, hm, h1, h2⟩ := read_mat hf he hq hs hs2 hy
  have hsz : cs.size = 1 := by omega
  have : cs = #[u] := by
    apply Array.toList_inj.1
    simp only [Value.cells, List.drop_zero] at hm
    rw [List.take_of_length_le (by simp [hsz])] at hm
    simpa using hm
  subst this
  exact ⟨u, vs, rr, rfl, h1, h2⟩
end
end Go.Eng
set_option linter.unusedVariables false
set_option linter.unusedSimpArgs false
namespace Go.Eng
open Go.RowKit Go.ChangeShapes Go.WideShapes Go.ChangeAt Go.Deep

section
variable {H : Type} {enc : TypeId × Value → H} {P : Program} {w : World} {base b0 : Nat} {spare : Nat → Bool} {held : Bool} {r : Reach} {v : Value} {d : DataW H} {ps : List MemPlace}

theorem read_three {t : TypeId} {f0 f1 f2 : Field} {fuel : Nat} {cs : List Value} {x : DataW H × List MemPlace} (ht : P.underlying t = some (.struct #[f0, f1, f2])) (ho : f0.offset = 0 ∧ f1.offset = 1 ∧ f2.offset = 2) (hc : P.cellsOf t = 3)
    (hs : P.cellsOf f0.type = 1 ∧ P.cellsOf f1.type = 1 ∧ P.cellsOf f2.type = 1) (h0 : P.underlying f0.type = some (.int .i64)) (h1 : P.underlying f1.type = some (.int .i64)) (h2 : P.underlying f2.type = some (.int .i64))
    (h : DataW.trod enc P w base spare held fuel t cs = some x) : ∃ a b c, cs = [.int .i64 a, .int .i64 b, .int .i64 c] ∧ I64 a ∧ I64 b ∧ I64 c := by
  obtain ⟨y0, y1, y2, n, _, hl, e0, e1, e2⟩ := trod_struct3 ht h
  rw [ho.1, hs.1] at e0
  rw [ho.2.1, hs.2.1] at e1
  rw [ho.2.2, hs.2.2] at e2
  obtain ⟨a, ha, ra⟩ := read_i64 h0 e0
  obtain ⟨b, hb, rb⟩ := read_i64 h1 e1
  obtain ⟨c, hc', rc⟩ := read_i64 h2 e2
  refine ⟨a, b, c, ?_, ra, rb, rc⟩
  rw [hc] at hl
  match cs, hl with
  | [x, y, z], _ =>
    simp at ha hb hc'
    rw [ha, hb, hc']

end
end Go.Eng
set_option linter.unusedVariables false
set_option linter.unusedSimpArgs false
namespace Go.Eng
open Go.RowKit

section
variable {P : Program} {w : World} {t e : TypeId} {x y : Operand} {v : Value} {K : Value → Prop}
theorem VS.nenil (b : Bool) (ht : P.underlying t = some (.slice e)) (h : ∃ a n c, v = .slice a n c ∧ a.isNone = b) (hk : K (.bool (!b))) : VS P (binSem .neq t x y v (.slice none 0 0)) w K := by
  obtain ⟨a, n, c, rfl, rfl⟩ := h
  refine VS.mk (fun w1 _ => ?_) hk
  have h := run_neq_slice_nil_any w1 t e a n c 0 0 ht
  simp only [binSem, eqGuard, Sem.run_bind]
  simpa using h
theorem Own.some_of {B s n : Nat} {e : TypeId} {xs : List Value} (h : Own B e s w v n xs) (hn : n ≠ 0) : ∃ a m c, v = .slice a m c ∧ a.isNone = false := by
  rcases h.2 with ⟨_, h0⟩ | ⟨g, cap, cur, rfl, _⟩
  · exact absurd h0 hn
  · exact ⟨_, _, _, rfl, rfl⟩
end

/-- A new box, as a block. -/
theorem Bx.blk {T : TypeId} {l : List Value} {w : World} {K : Value → World → Prop} (h : ∀ (b : Nat) w', Ext w w' → w.heap.size ≤ b → Blk w' b T l → K (.pointer (some ⟨b, 0, none⟩)) w') : Bx T (.agg l.toArray) w K := by
  simp only [Bx]
  intro w1 hw1
  exact h w1.heap.size _ (hw1.alloc _) hw1.size (Blk.new w1 T l)

theorem places_run {P : Program} {w : World} : ∀ {l : List Field}, (∀ f ∈ l, P.cellsOf f.type ≠ 0) →
    ((l.toArray).mapM (m := Sem) fun f => do pure (f.offset, ← Go.sizeOf f.type)).run P w = .ok (l.map fun f => (f.offset, P.cellsOf f.type)).toArray w := by
  intro l hl
  rw [List.mapM_toArray]
  have h := mapM_run (P := P) (w := w) (fun f : Field => (do pure (f.offset, ← Go.sizeOf f.type) : Sem (Nat × Nat))) (fun f => (f.offset, P.cellsOf f.type)) l (fun f hf => by
    simp only [Sem.run_bind, sizeOf_run rfl (hl f hf), Result.andThen_ok, Sem.run_pure])
  simp only [Sem.run_bind, Sem.run_map, h, Result.andThen_ok, Sem.run_pure]
  try rfl
theorem fill_at (pl : Array (Nat × Nat)) (n : Nat) : ∀ (ps : List (Nat × Value)) (zc : Array Value), (∀ p ∈ ps, pl[p.1]? = some (p.1, 1) ∧ p.1 < n ∧ p.2.cells = #[p.2]) → zc.size = n →
    Instr.fill (pl[·]?) zc ps = some (ps.foldl (fun c p => c.setIfInBounds p.1 p.2) zc)
  | [], zc, _, _ => rfl
  | (i, v) :: ps, zc, h, hz => by
    obtain ⟨e2, h1, h2⟩ := h (i, v) (by simp)
    have h1 : i < n := h1
    have h2 : v.cells = #[v] := h2
    have e2 : pl[i]? = some (i, 1) := e2
    have e3 : ¬ (decide (#[v].size ≠ 1) || decide (i + #[v].size > zc.size)) = true := by simp; omega
    have e4 : Array.foldl (fun (cs : Array Value) (x : Value × Nat) => cs.setIfInBounds (i + x.snd) x.fst) zc #[v].zipIdx = zc.setIfInBounds i v := by simp [Array.zipIdx]
    simp only [Instr.fill, e2, h2, List.foldl_cons]
    rw [if_neg e3, e4]
    exact fill_at pl n ps _ (fun p hp => h p (by simp [hp])) (by simpa using hz)
/-- 'T{F: x, ..}', fields of several cells among the others. -/
theorem VS.sparse2 {P : Program} {w : World} {t : TypeId} {zc : Array Value} {N b : Nat} {l : List Field} {ps : List (Nat × Value)} {K : Value → Prop} (ht : P.underlying t = some (.struct l.toArray)) (hz : Elem P t (.agg zc) N b)
    (hg : ∀ f ∈ l, P.cellsOf f.type ≠ 0) (hv : ∀ p ∈ ps, (l.map fun f => (f.offset, P.cellsOf f.type)).toArray[p.1]? = some (p.1, 1) ∧ p.1 < zc.size ∧ p.2.cells = #[p.2])
    (hk : K (.agg (ps.foldl (fun c p => c.setIfInBounds p.1 p.2) zc))) : VS P (Instr.build t ps.toArray) w K := by
  refine VS.mk (v := .agg (ps.foldl (fun c p => c.setIfInBounds p.1 p.2) zc)) (fun w1 _ => ?_) hk
  obtain ⟨i, hi, hz1, _, _⟩ := hz.info
  have hfill := fill_at _ zc.size ps zc hv rfl
  simp only [Instr.build, Sem.run_bind, zeroValue, typeInfo, run_program, Result.andThen_ok, hi, hz1, Sem.run_pure, run_underlying ht, places_run hg, Value.cells, hfill]
theorem VS.sparseR {P : Program} {w : World} {t : TypeId} {zc : Array Value} {N b : Nat} {l : List Field} {ps : List (Nat × Value)} {K : Value → Prop} (r : Array Value) (ht : P.underlying t = some (.struct l.toArray)) (hz : Elem P t (.agg zc) N b)
    (hg : ∀ f ∈ l, P.cellsOf f.type ≠ 0) (hv : ∀ p ∈ ps, (l.map fun f => (f.offset, P.cellsOf f.type)).toArray[p.1]? = some (p.1, 1) ∧ p.1 < zc.size ∧ p.2.cells = #[p.2]) (hr : ps.foldl (fun c p => c.setIfInBounds p.1 p.2) zc = r)
    (hk : K (.agg r)) : VS P (Instr.build t ps.toArray) w K := VS.sparse2 ht hz hg hv (by rw [hr]; exact hk)
end Go.Eng
set_option linter.unusedVariables false
set_option linter.unusedSimpArgs false
namespace Go.Proofs.Ytebklnmafjbhcaa
open Go.Eng
set_option maxRecDepth 100000
set_option maxHeartbeats 4000000

/-! ### boxes that hold arrays of arrays -/
theorem add_add (b x y : Nat) : ((⟨b, 0, none⟩ : Addr).add x).add y = (⟨b, 0, none⟩ : Addr).add (x + y) := by
  rw [Addr.add_lit, Addr.add_lit, Addr.add_lit]
  simp [Nat.add_assoc]
theorem Blk.ldAA {w : World} {b : Nat} {T : TypeId} {xs : List Value} {x y : Nat} {v : Value} {K : Value → Prop} (h : Blk w b T xs) (hx : xs[x + y]? = some v) (hk : K v) : Ld w (((⟨b, 0, none⟩ : Addr).add x).add y) K := by
  rw [add_add]; exact Blk.ldA h hx hk
theorem Blk.setAA {w : World} {b : Nat} {T : TypeId} {xs : List Value} {x y : Nat} {v : Value} {K : World → Prop} (h : Blk w b T xs) (hi : x + y < xs.length) (hv : v.oneCell' = true)
    (hK : ∀ w', Gr (fun j => j = b) w w' → Blk w' b T (xs.set (x + y) v) → K w') : St w (((⟨b, 0, none⟩ : Addr).add x).add y) v K := by
  rw [add_add]; exact Blk.setA h hi hv hK
def bvs (l : List Bool) : List Value := l.map Value.bool
theorem bvs_len (l : List Bool) : (bvs l).length = l.length := List.length_map ..
theorem bvs_at {l : List Bool} {k : Nat} {b : Bool} (h : l.getD k false = b) (hk : k < l.length) : (bvs l)[k]? = some (.bool b) := by
  unfold bvs
  rw [List.getElem?_map, List.getElem?_eq_getElem hk]
  simp only [List.getD] at h
  rw [List.getElem?_eq_getElem hk] at h
  simp at h
  simp [h]
theorem bvs_set {l : List Bool} {k : Nat} {b : Bool} : (bvs l).set k (.bool b) = bvs (l.set k b) := by unfold bvs; rw [List.map_set]

/-! ### the graph -/
noncomputable def gL (rr : List (List Int)) (a : List Int) : List Bool := mk 36 fun q => tf (EnG rr a ((q / 6 : Nat) : Int) ((q % 6 : Nat) : Int))
theorem gL_len (rr : List (List Int)) (a : List Int) : (gL rr a).length = 36 := mk_len _ _
theorem gL_at {rr : List (List Int)} {a : List Int} {i k : Int} (hi : 0 ≤ i ∧ i < 6) (hk : 0 ≤ k ∧ k < 6) : (bvs (gL rr a))[i.toNat * 6 + k.toNat * 1]? = some (.bool (tf (EnG rr a i k))) := by
  have hlt : i.toNat * 6 + k.toNat * 1 < 36 := by omega
  refine bvs_at ?_ (by rw [gL_len]; exact hlt)
  unfold gL
  rw [mk_get false hlt]
  have e1 : (((i.toNat * 6 + k.toNat * 1) / 6 : Nat) : Int) = i := by omega
  have e2 : (((i.toNat * 6 + k.toNat * 1) % 6 : Nat) : Int) = k := by omega
  rw [e1, e2]
noncomputable def gT (l : List (Int × Int)) (c : Nat) : List Bool := mk 36 fun q => tf (∃ t, t < c ∧ l.getD t (0, 0) = (((q / 6 : Nat) : Int), ((q % 6 : Nat) : Int)))
theorem gT_len (l : List (Int × Int)) (c : Nat) : (gT l c).length = 36 := mk_len _ _
theorem gT_zero (l : List (Int × Int)) : List.replicate 36 false = gT l 0 := by
  refine ext_getD false (by rw [gT_len]; rfl) fun q hq => ?_
  have hq : q < 36 := by simpa using hq
  unfold gT
  rw [mk_get false hq, tf_f (by rintro ⟨t, ht, _⟩; omega)]
  simp only [List.getD, List.getElem?_replicate, if_pos hq]; rfl
theorem setB_get {l : List Bool} {i j : Nat} {x : Bool} (hi : i < l.length) : (l.set i x).getD j false = if i = j then x else l.getD j false := by
  simp only [List.getD, List.getElem?_set]
  by_cases e : i = j
  · subst e; rw [if_pos rfl, if_pos rfl, if_pos hi]; rfl
  · rw [if_neg e, if_neg e]
theorem gT_set {l : List (Int × Int)} {c : Nat} (h1 : 0 ≤ (l.getD c (0, 0)).1 ∧ (l.getD c (0, 0)).1 < 6) (h2 : 0 ≤ (l.getD c (0, 0)).2 ∧ (l.getD c (0, 0)).2 < 6) :
    (gT l c).set ((l.getD c (0, 0)).1.toNat * 6 + (l.getD c (0, 0)).2.toNat * 1) true = gT l (c + 1) := by
  have hlt : (l.getD c (0, 0)).1.toNat * 6 + (l.getD c (0, 0)).2.toNat * 1 < 36 := by omega
  refine ext_getD false (by rw [List.length_set, gT_len, gT_len]) fun q hq => ?_
  rw [List.length_set, gT_len] at hq
  rw [setB_get (by rw [gT_len]; exact hlt)]
  unfold gT
  rw [mk_get false hq, mk_get false hq]
  by_cases e : (l.getD c (0, 0)).1.toNat * 6 + (l.getD c (0, 0)).2.toNat * 1 = q
  · rw [if_pos e, tf_t ⟨c, by omega, Prod.ext (by show _ = ((q / 6 : Nat) : Int); omega) (by show _ = ((q % 6 : Nat) : Int); omega)⟩]
  · rw [if_neg e]
    congr 1
    refine propext ⟨fun ⟨t, ht, h⟩ => ⟨t, by omega, h⟩, fun ⟨t, ht, h⟩ => ⟨t, ?_, h⟩⟩
    refine Classical.byContradiction fun hn => e ?_
    obtain rfl : t = c := by omega
    rw [h]
    show ((q / 6 : Nat) : Int).toNat * 6 + ((q % 6 : Nat) : Int).toNat * 1 = q
    omega
theorem gT_all {rr : List (List Int)} {a : List Int} : gT (envs rr a) (envs rr a).length = gL rr a := by
  refine ext_getD false (by rw [gT_len, gL_len]) fun q hq => ?_
  rw [gT_len] at hq
  unfold gT gL
  rw [mk_get false hq, mk_get false hq]
  congr 1
  refine propext ⟨fun ⟨t, ht, h⟩ => ?_, fun ⟨h1, h2, h3⟩ => ?_⟩
  · have hm : (((q / 6 : Nat) : Int), ((q % 6 : Nat) : Int)) ∈ envs rr a := by rw [← h, show (envs rr a).getD t (0, 0) = (envs rr a)[t] by simp [List.getD, ht]]; exact List.getElem_mem ht
    obtain ⟨i, k, hi, hk, hl, e⟩ := mem_envTo.1 hm
    have e1 := congrArg Prod.fst e
    have e2 := congrArg Prod.snd e
    simp only at e1 e2
    refine ⟨by omega, by omega, ?_⟩
    unfold En
    rw [e1, e2, Int.toNat_natCast]; exact hl
  · have hm : (((q / 6 : Nat) : Int), ((q % 6 : Nat) : Int)) ∈ envs rr a := mem_envTo.2 ⟨q / 6, q % 6, by omega, by omega, by unfold En at h3; rw [Int.toNat_natCast] at h3; exact h3, rfl⟩
    obtain ⟨t, ht, e⟩ := List.getElem_of_mem hm
    exact ⟨t, ht, by simp [List.getD, ht, e]⟩
theorem envs_rng {rr : List (List Int)} {a : List Int} {c : Nat} (hn : rr.length ≤ 6) (hc : c < (envs rr a).length) : (0 ≤ ((envs rr a).getD c (0, 0)).1 ∧ ((envs rr a).getD c (0, 0)).1 < 6) ∧ 0 ≤ ((envs rr a).getD c (0, 0)).2 ∧ ((envs rr a).getD c (0, 0)).2 < 6 := by
  have hm : (envs rr a).getD c (0, 0) ∈ envs rr a := by rw [show (envs rr a).getD c (0, 0) = (envs rr a)[c] by simp [List.getD, hc]]; exact List.getElem_mem hc
  obtain ⟨i, k, hi, hk, hl, e⟩ := mem_envTo.1 hm
  rw [e]; simp only; omega

theorem eGraph : Elem Try.prog 83 (.agg (bvs (List.replicate 36 false)).toArray) 36 36 := by unfold Elem; kernel_rfl
structure EnvS (w0 w : World) (rb ob : Nat) (lv : Value) (l : List (Int × Int)) (c : Nat) : Prop where
  ex : Ext w0 w
  hr : Blk w rb 83 (bvs (List.replicate 36 false))
  ho : Blk w ob 83 (bvs (gT l c))
  hl : OP w0.heap.size w lv l
  ne : rb ≠ ob
  b1 : w0.heap.size ≤ ob
theorem EnvS.ext {w0 w w' : World} {rb ob : Nat} {lv : Value} {l : List (Int × Int)} {c : Nat} (h : EnvS w0 w rb ob lv l c) (hx : Ext w w') : EnvS w0 w' rb ob lv l c :=
  ⟨h.ex.trans hx, h.hr.ext hx, h.ho.ext hx, Own.ext h.hl hx, h.ne, h.b1⟩
theorem EnvS.mark {w0 w : World} {rb ob : Nat} {lv : Value} {l : List (Int × Int)} {c x y : Nat} {K : World → Prop} (h : EnvS w0 w rb ob lv l c) (hs : (gT l c).set (x + y) true = gT l (c + 1)) (hi : x + y < 36)
    (hK : ∀ w', EnvS w0 w' rb ob lv l (c + 1) → K w') : St w (((⟨ob, 0, none⟩ : Addr).add x).add y) (.bool true) K :=
  Blk.setAA h.ho (by rw [bvs_len, gT_len]; exact hi) rfl fun w' hg hb => hK w' ⟨h.ex.new hg (fun i hi e => by have := h.b1; omega), h.hr.two h.ho h.ne hg, by rw [bvs_set, hs] at hb; exact hb, Own.blk h.hl h.ho (by decide) hg, h.ne, h.b1⟩

theorem envy_pc {w : World} {gv av : Value} {vs : List Value} {rr : List (List Int)} {a : List Int} (Hg : Mat w gv vs rr) (Ha : Ints w av a) (hv : vld rr a = 0) : PC Try.prog 67 [.agg #[gv], av] w (.agg (bvs (gL rr a)).toArray) := by
  have hal := al_of_vld hv
  have hn6 := hal.n6
  refine PC.mk tyOk Try.func67 rfl (by kernel_rfl) fun w1 E1 => ?_
  replace Hg := Hg.ext E1
  replace Ha := Ha.ext E1
  have EE := Ext.refl w1
  refine Bx.agg fun b2 w2 E2 hb2 Hb _ => ?_
  replace Hg := Hg.ext E2
  replace Ha := Ha.ext E2
  replace EE := EE.ext E2
  have Hg__1 := Hg
  have Ha__1 := Ha
  have EE__1 := EE
  have Hb__1 := Hb
  conv => whnf
  refine VE.alloc eGraph fun rb w3 E3 hb_rb Hr => ?_
  replace Hg := Hg.ext E3
  replace Ha := Ha.ext E3
  replace EE := EE.ext E3
  replace Hb := Hb.ext E3
  have EL1 := E3
  have hrl := Hr.lt
  have Hg__2 := Hg
  have Ha__2 := Ha
  have EE__2 := EE
  have Hb__2 := Hb
  have EL1__2 := EL1
  have Hr__2 := Hr
  conv => whnf
  refine VE.alloc eGraph fun ob w4 E4 hb_ob Hk => ?_
  replace Hg := Hg.ext E4
  replace Ha := Ha.ext E4
  replace EE := EE.ext E4
  replace Hb := Hb.ext E4
  replace EL1 := EL1.ext E4
  replace Hr := Hr.ext E4
  have EL2 := E4
  have hs3 := E3.size
  have hs4 := E4.size
  repeat' ((conv => whnf); first | (refine Dr.quiet tyOk (by kernel_rfl) ?_) | (refine Rng.mk (by omega) ?_) | (refine Split.pos (by omega) ?_) | (refine Split.neg (by omega) ?_) | (refine Split.mk (fun h => ?_) (fun h => ?_)) | (refine Need.mk (by omega) ?_) | (refine Ints.ln (by assumption) ?_) | (refine Mat.ln (by assumption) ?_) | (refine Ints.ln (Mat.row (by assumption) _ (by omega)) ?_) | (refine Ints.ix (by assumption) (by omega) ?_) | (refine Mat.ix (by assumption) (by omega) ?_) | (refine Ints.ix (Mat.row (by assumption) _ (by omega)) (by omega) ?_) | (refine Ints.ix (c := 0) (by assumption) (by omega) ?_) | (refine Mat.ix (c := 0) (by assumption) (by omega) ?_) | (refine Ints.ix (c := 0) (Mat.row (by assumption) _ (by omega)) (by omega) ?_) | (refine Ints.ixI (by assumption) (by omega) ?_) | (refine Mat.ixI (by assumption) (by omega) ?_) | (refine Ints.ixI (Mat.row (by assumption) _ (by omega)) (by omega) ?_) | (refine Ints.ld (by assumption) (by omega) ?_) | (refine Mat.ld (by assumption) (by omega) ?_) | (refine Ints.ld (Mat.row (by assumption) _ (by omega)) (by omega) ?_) | (refine At.ld (by assumption) rfl ?_) | (refine At.ldN (by assumption) rfl ?_) | (refine Prs.ln (by assumption) ?_) | (refine Trs.ln (by assumption) ?_) | (refine Prs.ix (by assumption) (by omega) ?_) | (refine Trs.ix (by assumption) (by omega) ?_) | (refine Prs.ldN (by assumption) (by omega) ?_) | (refine Trs.ldN (by assumption) (by omega) ?_) | (refine At.ldN (Blk.at (by assumption)) rfl ?_) | (refine At.ld (Blk.at (by assumption)) rfl ?_) | (refine IxA.mk (by omega) ?_) | (refine Sl.ln (Own.sl (by assumption)) ?_) | (refine Ints.ix (Own.sl (by assumption)) (by omega) ?_) | (refine Ints.ixI (Own.sl (by assumption)) (by omega) ?_) | (refine Ints.ld (Own.sl (by assumption)) (by omega) ?_))
  conv => whnf
  refine VC.rc (genvies_rc Hg Ha) ?_
  rintro _ w5 E5 ⟨lv, rfl, HL⟩
  replace Hg := Hg.ext E5
  replace Ha := Ha.ext E5
  replace EE := EE.ext E5
  replace Hb := Hb.ext E5
  replace EL1 := EL1.ext E5
  replace Hr := Hr.ext E5
  replace EL2 := EL2.ext E5
  replace Hk := Hk.ext E5
  rw [envsR, if_pos hv] at HL
  have HLP : Prs w5 lv (envs rr a) := Own.sl HL
  have hll := HLP.le
  have HX : EnvS w2 w5 rb ob lv (envs rr a) 0 := ⟨EL1, Hr, by rw [← gT_zero]; exact Hk, Own.base HL (by omega), by omega, by omega⟩
  repeat' ((conv => whnf); first | (refine Dr.quiet tyOk (by kernel_rfl) ?_) | (refine Rng.mk (by omega) ?_) | (refine Split.pos (by omega) ?_) | (refine Split.neg (by omega) ?_) | (refine Split.mk (fun h => ?_) (fun h => ?_)) | (refine Need.mk (by omega) ?_) | (refine Ints.ln (by assumption) ?_) | (refine Mat.ln (by assumption) ?_) | (refine Ints.ln (Mat.row (by assumption) _ (by omega)) ?_) | (refine Ints.ix (by assumption) (by omega) ?_) | (refine Mat.ix (by assumption) (by omega) ?_) | (refine Ints.ix (Mat.row (by assumption) _ (by omega)) (by omega) ?_) | (refine Ints.ix (c := 0) (by assumption) (by omega) ?_) | (refine Mat.ix (c := 0) (by assumption) (by omega) ?_) | (refine Ints.ix (c := 0) (Mat.row (by assumption) _ (by omega)) (by omega) ?_) | (refine Ints.ixI (by assumption) (by omega) ?_) | (refine Mat.ixI (by assumption) (by omega) ?_) | (refine Ints.ixI (Mat.row (by assumption) _ (by omega)) (by omega) ?_) | (refine Ints.ld (by assumption) (by omega) ?_) | (refine Mat.ld (by assumption) (by omega) ?_) | (refine Ints.ld (Mat.row (by assumption) _ (by omega)) (by omega) ?_) | (refine At.ld (by assumption) rfl ?_) | (refine At.ldN (by assumption) rfl ?_) | (refine Prs.ln (by assumption) ?_) | (refine Trs.ln (by assumption) ?_) | (refine Prs.ix (by assumption) (by omega) ?_) | (refine Trs.ix (by assumption) (by omega) ?_) | (refine Prs.ldN (by assumption) (by omega) ?_) | (refine Trs.ldN (by assumption) (by omega) ?_) | (refine At.ldN (Blk.at (by assumption)) rfl ?_) | (refine At.ld (Blk.at (by assumption)) rfl ?_) | (refine IxA.mk (by omega) ?_) | (refine Sl.ln (Own.sl (by assumption)) ?_) | (refine Ints.ix (Own.sl (by assumption)) (by omega) ?_) | (refine Ints.ixI (Own.sl (by assumption)) (by omega) ?_) | (refine Ints.ld (Own.sl (by assumption)) (by omega) ?_))
  refine Lp.mk tyOk [false, false, false, false, false, false, false, false, false, true, false, false, false, false, false, false, false, false, true, true, true, true, true, true, true, true, true, true, true] (fun m fr wr => getK fr 18 fun j => ∃ c : Nat, c ≤ (envs rr a).length ∧ m = (envs rr a).length - c ∧ j = .int .i64 (c : Int) ∧ (EnvS w2 wr rb ob lv (envs rr a) c)) ((envs rr a).length) ?_ ?_
  · exact ⟨0, Nat.zero_le _, rfl, rfl, HX⟩
  · intro m w6 u9 u18 u19 u20 u21 u22 u23 u24 u25 u26 u27 u28 hR
    obtain ⟨c, hc, rfl, rfl, HX⟩ := hR
    have HLP : Prs w6 lv (envs rr a) := Own.sl HX.hl
    by_cases hcl : c < (envs rr a).length
    · obtain ⟨h1, h2⟩ := envs_rng hn6 hcl
      have hlt : ((envs rr a).getD c (0, 0)).1.toNat * 6 + ((envs rr a).getD c (0, 0)).2.toNat * 1 < 36 := by omega
      repeat' ((conv => whnf); first | (refine Dr.quiet tyOk (by kernel_rfl) ?_) | (refine Rng.mk (by omega) ?_) | (refine Split.pos (by omega) ?_) | (refine Split.neg (by omega) ?_) | (refine Split.mk (fun h => ?_) (fun h => ?_)) | (refine Need.mk (by omega) ?_) | (refine Ints.ln (by assumption) ?_) | (refine Mat.ln (by assumption) ?_) | (refine Ints.ln (Mat.row (by assumption) _ (by omega)) ?_) | (refine Ints.ix (by assumption) (by omega) ?_) | (refine Mat.ix (by assumption) (by omega) ?_) | (refine Ints.ix (Mat.row (by assumption) _ (by omega)) (by omega) ?_) | (refine Ints.ix (c := 0) (by assumption) (by omega) ?_) | (refine Mat.ix (c := 0) (by assumption) (by omega) ?_) | (refine Ints.ix (c := 0) (Mat.row (by assumption) _ (by omega)) (by omega) ?_) | (refine Ints.ixI (by assumption) (by omega) ?_) | (refine Mat.ixI (by assumption) (by omega) ?_) | (refine Ints.ixI (Mat.row (by assumption) _ (by omega)) (by omega) ?_) | (refine Ints.ld (by assumption) (by omega) ?_) | (refine Mat.ld (by assumption) (by omega) ?_) | (refine Ints.ld (Mat.row (by assumption) _ (by omega)) (by omega) ?_) | (refine At.ld (by assumption) rfl ?_) | (refine At.ldN (by assumption) rfl ?_) | (refine Prs.ln (by assumption) ?_) | (refine Trs.ln (by assumption) ?_) | (refine Prs.ix (by assumption) (by omega) ?_) | (refine Trs.ix (by assumption) (by omega) ?_) | (refine Prs.ldN (by assumption) (by omega) ?_) | (refine Trs.ldN (by assumption) (by omega) ?_) | (refine At.ldN (Blk.at (by assumption)) rfl ?_) | (refine At.ld (Blk.at (by assumption)) rfl ?_) | (refine IxA.mk (by omega) ?_) | (refine Sl.ln (Own.sl (by assumption)) ?_) | (refine Ints.ix (Own.sl (by assumption)) (by omega) ?_) | (refine Ints.ixI (Own.sl (by assumption)) (by omega) ?_) | (refine Ints.ld (Own.sl (by assumption)) (by omega) ?_))
      have HX__3 := HX
      conv => whnf
      refine VE.alloc ePair fun pb w7 E7 hb_pb Hp => ?_
      replace HX := HX.ext E7
      have EL3 := E7
      conv => whnf
      refine Blk.all Hp (by kernel_rfl) (by first | decide | simp) rfl rfl (by intro v hv; simp at hv; rcases hv with rfl | rfl | rfl | rfl | rfl <;> rfl) fun w8 G8 Hp' => ?_
      have E8 : Ext w6 w8 := EL3.new G8 fun i hi hk => by omega
      replace Hp := Hp'
      replace HX := HX__3.ext E8
      replace EL3 := E8
      have HK := HX.ho
      repeat' ((conv => whnf); first | (refine Dr.plan 22 [6] (.q 0 (.q 1 (.q 2 (.q 3 (.q 4 (.q 5 (.e 6 .nil .nil))))))) tyOk rfl (by kernel_rfl) ?_) | (refine Dr.quiet tyOk (by kernel_rfl) ?_) | (refine IxA.mk (by omega) ?_) | (refine Blk.ldA Hp rfl ?_) | (refine Rng.mk (by omega) ?_) | (refine Split.pos (by omega) ?_) | (refine Split.neg (by omega) ?_) | (refine Split.mk (fun h => ?_) (fun h => ?_)) | (refine Need.mk (by omega) ?_) | (refine Ints.ln (by assumption) ?_) | (refine Mat.ln (by assumption) ?_) | (refine Ints.ln (Mat.row (by assumption) _ (by omega)) ?_) | (refine Ints.ix (by assumption) (by omega) ?_) | (refine Mat.ix (by assumption) (by omega) ?_) | (refine Ints.ix (Mat.row (by assumption) _ (by omega)) (by omega) ?_) | (refine Ints.ix (c := 0) (by assumption) (by omega) ?_) | (refine Mat.ix (c := 0) (by assumption) (by omega) ?_) | (refine Ints.ix (c := 0) (Mat.row (by assumption) _ (by omega)) (by omega) ?_) | (refine Ints.ixI (by assumption) (by omega) ?_) | (refine Mat.ixI (by assumption) (by omega) ?_) | (refine Ints.ixI (Mat.row (by assumption) _ (by omega)) (by omega) ?_) | (refine Ints.ld (by assumption) (by omega) ?_) | (refine Mat.ld (by assumption) (by omega) ?_) | (refine Ints.ld (Mat.row (by assumption) _ (by omega)) (by omega) ?_) | (refine At.ld (by assumption) rfl ?_) | (refine At.ldN (by assumption) rfl ?_) | (refine Prs.ln (by assumption) ?_) | (refine Trs.ln (by assumption) ?_) | (refine Prs.ix (by assumption) (by omega) ?_) | (refine Trs.ix (by assumption) (by omega) ?_) | (refine Prs.ldN (by assumption) (by omega) ?_) | (refine Trs.ldN (by assumption) (by omega) ?_) | (refine At.ldN (Blk.at (by assumption)) rfl ?_) | (refine At.ld (Blk.at (by assumption)) rfl ?_) | (refine IxA.mk (by omega) ?_) | (refine Sl.ln (Own.sl (by assumption)) ?_) | (refine Ints.ix (Own.sl (by assumption)) (by omega) ?_) | (refine Ints.ixI (Own.sl (by assumption)) (by omega) ?_) | (refine Ints.ld (Own.sl (by assumption)) (by omega) ?_))
      refine EnvS.mark HX (gT_set h1 h2) hlt fun w9 HX => ?_
      repeat' ((conv => whnf); first | (refine Dr.quiet tyOk (by kernel_rfl) ?_) | (refine Rng.mk (by omega) ?_) | (refine Split.pos (by omega) ?_) | (refine Split.neg (by omega) ?_) | (refine Split.mk (fun h => ?_) (fun h => ?_)) | (refine Need.mk (by omega) ?_) | (refine Ints.ln (by assumption) ?_) | (refine Mat.ln (by assumption) ?_) | (refine Ints.ln (Mat.row (by assumption) _ (by omega)) ?_) | (refine Ints.ix (by assumption) (by omega) ?_) | (refine Mat.ix (by assumption) (by omega) ?_) | (refine Ints.ix (Mat.row (by assumption) _ (by omega)) (by omega) ?_) | (refine Ints.ix (c := 0) (by assumption) (by omega) ?_) | (refine Mat.ix (c := 0) (by assumption) (by omega) ?_) | (refine Ints.ix (c := 0) (Mat.row (by assumption) _ (by omega)) (by omega) ?_) | (refine Ints.ixI (by assumption) (by omega) ?_) | (refine Mat.ixI (by assumption) (by omega) ?_) | (refine Ints.ixI (Mat.row (by assumption) _ (by omega)) (by omega) ?_) | (refine Ints.ld (by assumption) (by omega) ?_) | (refine Mat.ld (by assumption) (by omega) ?_) | (refine Ints.ld (Mat.row (by assumption) _ (by omega)) (by omega) ?_) | (refine At.ld (by assumption) rfl ?_) | (refine At.ldN (by assumption) rfl ?_) | (refine Prs.ln (by assumption) ?_) | (refine Trs.ln (by assumption) ?_) | (refine Prs.ix (by assumption) (by omega) ?_) | (refine Trs.ix (by assumption) (by omega) ?_) | (refine Prs.ldN (by assumption) (by omega) ?_) | (refine Trs.ldN (by assumption) (by omega) ?_) | (refine At.ldN (Blk.at (by assumption)) rfl ?_) | (refine At.ld (Blk.at (by assumption)) rfl ?_) | (refine IxA.mk (by omega) ?_) | (refine Sl.ln (Own.sl (by assumption)) ?_) | (refine Ints.ix (Own.sl (by assumption)) (by omega) ?_) | (refine Ints.ixI (Own.sl (by assumption)) (by omega) ?_) | (refine Ints.ld (Own.sl (by assumption)) (by omega) ?_))
      refine ⟨_, (by omega : (envs rr a).length - (c + 1) < (envs rr a).length - c), rfl, c + 1, by omega, rfl, rfl, HX⟩
    · obtain rfl : c = (envs rr a).length := by omega
      have HK := HX.ho
      repeat' ((conv => whnf); first | (refine Dr.quiet tyOk (by kernel_rfl) ?_) | (refine At.ldN (Blk.at HK) (by rw [bvs_len, gT_len]) ?_) | (refine Rng.mk (by omega) ?_) | (refine Split.pos (by omega) ?_) | (refine Split.neg (by omega) ?_) | (refine Split.mk (fun h => ?_) (fun h => ?_)) | (refine Need.mk (by omega) ?_) | (refine Ints.ln (by assumption) ?_) | (refine Mat.ln (by assumption) ?_) | (refine Ints.ln (Mat.row (by assumption) _ (by omega)) ?_) | (refine Ints.ix (by assumption) (by omega) ?_) | (refine Mat.ix (by assumption) (by omega) ?_) | (refine Ints.ix (Mat.row (by assumption) _ (by omega)) (by omega) ?_) | (refine Ints.ix (c := 0) (by assumption) (by omega) ?_) | (refine Mat.ix (c := 0) (by assumption) (by omega) ?_) | (refine Ints.ix (c := 0) (Mat.row (by assumption) _ (by omega)) (by omega) ?_) | (refine Ints.ixI (by assumption) (by omega) ?_) | (refine Mat.ixI (by assumption) (by omega) ?_) | (refine Ints.ixI (Mat.row (by assumption) _ (by omega)) (by omega) ?_) | (refine Ints.ld (by assumption) (by omega) ?_) | (refine Mat.ld (by assumption) (by omega) ?_) | (refine Ints.ld (Mat.row (by assumption) _ (by omega)) (by omega) ?_) | (refine At.ld (by assumption) rfl ?_) | (refine At.ldN (by assumption) rfl ?_) | (refine Prs.ln (by assumption) ?_) | (refine Trs.ln (by assumption) ?_) | (refine Prs.ix (by assumption) (by omega) ?_) | (refine Trs.ix (by assumption) (by omega) ?_) | (refine Prs.ldN (by assumption) (by omega) ?_) | (refine Trs.ldN (by assumption) (by omega) ?_) | (refine At.ldN (Blk.at (by assumption)) rfl ?_) | (refine At.ld (Blk.at (by assumption)) rfl ?_) | (refine IxA.mk (by omega) ?_) | (refine Sl.ln (Own.sl (by assumption)) ?_) | (refine Ints.ix (Own.sl (by assumption)) (by omega) ?_) | (refine Ints.ixI (Own.sl (by assumption)) (by omega) ?_) | (refine Ints.ld (Own.sl (by assumption)) (by omega) ?_))
      refine Blk.all HX.hr (s := 36) (by kernel_rfl) (by decide) (by rw [bvs_len]; rfl) (by rw [bvs_len, gT_len]) (by intro v hv; obtain ⟨_, _, rfl⟩ := List.mem_map.1 hv; rfl) fun w10 G10 Hr10 => ?_
      repeat' ((conv => whnf); first | (refine Dr.quiet tyOk (by kernel_rfl) ?_) | (refine At.ldN (Blk.at Hr10) (by rw [bvs_len, gT_len]) ?_) | (refine Rng.mk (by omega) ?_) | (refine Split.pos (by omega) ?_) | (refine Split.neg (by omega) ?_) | (refine Split.mk (fun h => ?_) (fun h => ?_)) | (refine Need.mk (by omega) ?_) | (refine Ints.ln (by assumption) ?_) | (refine Mat.ln (by assumption) ?_) | (refine Ints.ln (Mat.row (by assumption) _ (by omega)) ?_) | (refine Ints.ix (by assumption) (by omega) ?_) | (refine Mat.ix (by assumption) (by omega) ?_) | (refine Ints.ix (Mat.row (by assumption) _ (by omega)) (by omega) ?_) | (refine Ints.ix (c := 0) (by assumption) (by omega) ?_) | (refine Mat.ix (c := 0) (by assumption) (by omega) ?_) | (refine Ints.ix (c := 0) (Mat.row (by assumption) _ (by omega)) (by omega) ?_) | (refine Ints.ixI (by assumption) (by omega) ?_) | (refine Mat.ixI (by assumption) (by omega) ?_) | (refine Ints.ixI (Mat.row (by assumption) _ (by omega)) (by omega) ?_) | (refine Ints.ld (by assumption) (by omega) ?_) | (refine Mat.ld (by assumption) (by omega) ?_) | (refine Ints.ld (Mat.row (by assumption) _ (by omega)) (by omega) ?_) | (refine At.ld (by assumption) rfl ?_) | (refine At.ldN (by assumption) rfl ?_) | (refine Prs.ln (by assumption) ?_) | (refine Trs.ln (by assumption) ?_) | (refine Prs.ix (by assumption) (by omega) ?_) | (refine Trs.ix (by assumption) (by omega) ?_) | (refine Prs.ldN (by assumption) (by omega) ?_) | (refine Trs.ldN (by assumption) (by omega) ?_) | (refine At.ldN (Blk.at (by assumption)) rfl ?_) | (refine At.ld (Blk.at (by assumption)) rfl ?_) | (refine IxA.mk (by omega) ?_) | (refine Sl.ln (Own.sl (by assumption)) ?_) | (refine Ints.ix (Own.sl (by assumption)) (by omega) ?_) | (refine Ints.ixI (Own.sl (by assumption)) (by omega) ?_) | (refine Ints.ld (Own.sl (by assumption)) (by omega) ?_))
      rw [gT_all]
      exact ⟨rfl, E2.trans (HX.ex.new G10 fun i hi e => by omega)⟩

theorem Ints.some_of {w : World} {v : Value} {l : List Int} (h : Ints w v l) (hn : 1 ≤ l.length) : ∃ x m c, v = .slice x m c ∧ x.isNone = false := by
  obtain ⟨x, cap, rfl, _, _, _, h⟩ := id h
  rcases h with h | ⟨p, rfl, _⟩
  · omega
  · exact ⟨_, _, _, rfl, rfl⟩
theorem Ints.ldq {w : World} {v : Value} {l : List Int} {K : Value → Prop} {c : Nat} {x : Int} (h : Ints w v l) (hv : l.getD c 0 = x) (hc : c < l.length) (hk : K (.int .i64 x)) : Ld w (ea v c) K :=
  Ints.ld h hc (by rw [hv]; exact hk)
/-- the search's answer -/
def ClR (rr : List (List Int)) (a l : List Int) (m : Nat) (w : World) (u : Value) : Prop := (u = .slice none 0 0 ∧ Non rr a l m) ∨ ∃ r, Fst rr a l m r ∧ OI w u r
theorem close_rc {rr : List (List Int)} {a : List Int} (hn : rr.length ≤ 6) : ∀ (mo : Nat) {w : World} {lv : Value} {l : List Int}, Pth rr a l → 2 ≤ l.length + mo → l.length + mo ≤ 6 → OI w lv l →
    RC Try.prog 99 [.agg (bvs (gL rr a)).toArray, lv, .int .i64 (mo : Int)] w NoB (fun u w' => ClR rr a l mo w' u) := by
  intro mo
  induction mo with
  | zero =>
    intro w lv l hP h2 h6 HI
    have hne := hP.ne
    have hlast := hP.rng (l.length - 1) (by omega)
    have h0 := hP.rng 0 (by omega)
    have el : ((l.length : Int) - 1).toNat = l.length - 1 := by omega
    obtain ⟨la, hla⟩ : ∃ x, l.getD (l.length - 1) 0 = x := ⟨_, rfl⟩
    obtain ⟨fi, hfi⟩ : ∃ x, l.getD 0 0 = x := ⟨_, rfl⟩
    rw [hla] at hlast
    rw [hfi] at h0
    refine RC.mk tyOk Try.func99 rfl (by kernel_rfl) fun w1 E1 => ?_
    replace HI := HI.ext E1
    have EE := Ext.refl w1
    have Hl : Ints w1 lv l := Own.sl HI
    refine Bx.blk (l := bvs (gL rr a)) fun b w2 E2 hb2 HK => ?_
    replace HI := HI.ext E2
    replace EE := EE.ext E2
    replace Hl := Hl.ext E2
    have hla' : l.getD ((l.length : Int) - 1).toNat 0 = la := by rw [el]; exact hla
    have hg := gL_at (rr := rr) (a := a) hlast h0
    by_cases hE : EnG rr a la fi
    · rw [tf_t hE] at hg
      repeat' ((conv => whnf); first | (refine Dr.quiet tyOk (by kernel_rfl) ?_) | (refine Ints.ldq Hl hla' (by omega) ?_) | (refine Ints.ldq (c := 0) Hl hfi (by omega) ?_) | (refine IxA.mk (by omega) ?_) | (refine Blk.ldAA HK hg ?_) | (refine Rng.mk (by omega) ?_) | (refine Split.pos (by omega) ?_) | (refine Split.neg (by omega) ?_) | (refine Split.mk (fun h => ?_) (fun h => ?_)) | (refine Need.mk (by omega) ?_) | (refine Ints.ln (by assumption) ?_) | (refine Mat.ln (by assumption) ?_) | (refine Ints.ln (Mat.row (by assumption) _ (by omega)) ?_) | (refine Ints.ix (by assumption) (by omega) ?_) | (refine Mat.ix (by assumption) (by omega) ?_) | (refine Ints.ix (Mat.row (by assumption) _ (by omega)) (by omega) ?_) | (refine Ints.ix (c := 0) (by assumption) (by omega) ?_) | (refine Mat.ix (c := 0) (by assumption) (by omega) ?_) | (refine Ints.ix (c := 0) (Mat.row (by assumption) _ (by omega)) (by omega) ?_) | (refine Ints.ixI (by assumption) (by omega) ?_) | (refine Mat.ixI (by assumption) (by omega) ?_) | (refine Ints.ixI (Mat.row (by assumption) _ (by omega)) (by omega) ?_) | (refine Ints.ld (by assumption) (by omega) ?_) | (refine Mat.ld (by assumption) (by omega) ?_) | (refine Ints.ld (Mat.row (by assumption) _ (by omega)) (by omega) ?_) | (refine At.ld (by assumption) rfl ?_) | (refine At.ldN (by assumption) rfl ?_) | (refine Prs.ln (by assumption) ?_) | (refine Trs.ln (by assumption) ?_) | (refine Prs.ix (by assumption) (by omega) ?_) | (refine Trs.ix (by assumption) (by omega) ?_) | (refine Prs.ldN (by assumption) (by omega) ?_) | (refine Trs.ldN (by assumption) (by omega) ?_) | (refine At.ldN (Blk.at (by assumption)) rfl ?_) | (refine At.ld (Blk.at (by assumption)) rfl ?_) | (refine IxA.mk (by omega) ?_) | (refine Sl.ln (Own.sl (by assumption)) ?_) | (refine Ints.ix (Own.sl (by assumption)) (by omega) ?_) | (refine Ints.ixI (Own.sl (by assumption)) (by omega) ?_) | (refine Ints.ld (Own.sl (by assumption)) (by omega) ?_))
      exact ⟨EE, .inr ⟨l, Fst.zero hP (by omega) (by rw [hla, hfi]; exact hE), HI⟩⟩
    · rw [tf_f hE] at hg
      repeat' ((conv => whnf); first | (refine Dr.quiet tyOk (by kernel_rfl) ?_) | (refine Ints.ldq Hl hla' (by omega) ?_) | (refine Ints.ldq (c := 0) Hl hfi (by omega) ?_) | (refine IxA.mk (by omega) ?_) | (refine Blk.ldAA HK hg ?_) | (refine Rng.mk (by omega) ?_) | (refine Split.pos (by omega) ?_) | (refine Split.neg (by omega) ?_) | (refine Split.mk (fun h => ?_) (fun h => ?_)) | (refine Need.mk (by omega) ?_) | (refine Ints.ln (by assumption) ?_) | (refine Mat.ln (by assumption) ?_) | (refine Ints.ln (Mat.row (by assumption) _ (by omega)) ?_) | (refine Ints.ix (by assumption) (by omega) ?_) | (refine Mat.ix (by assumption) (by omega) ?_) | (refine Ints.ix (Mat.row (by assumption) _ (by omega)) (by omega) ?_) | (refine Ints.ix (c := 0) (by assumption) (by omega) ?_) | (refine Mat.ix (c := 0) (by assumption) (by omega) ?_) | (refine Ints.ix (c := 0) (Mat.row (by assumption) _ (by omega)) (by omega) ?_) | (refine Ints.ixI (by assumption) (by omega) ?_) | (refine Mat.ixI (by assumption) (by omega) ?_) | (refine Ints.ixI (Mat.row (by assumption) _ (by omega)) (by omega) ?_) | (refine Ints.ld (by assumption) (by omega) ?_) | (refine Mat.ld (by assumption) (by omega) ?_) | (refine Ints.ld (Mat.row (by assumption) _ (by omega)) (by omega) ?_) | (refine At.ld (by assumption) rfl ?_) | (refine At.ldN (by assumption) rfl ?_) | (refine Prs.ln (by assumption) ?_) | (refine Trs.ln (by assumption) ?_) | (refine Prs.ix (by assumption) (by omega) ?_) | (refine Trs.ix (by assumption) (by omega) ?_) | (refine Prs.ldN (by assumption) (by omega) ?_) | (refine Trs.ldN (by assumption) (by omega) ?_) | (refine At.ldN (Blk.at (by assumption)) rfl ?_) | (refine At.ld (Blk.at (by assumption)) rfl ?_) | (refine IxA.mk (by omega) ?_) | (refine Sl.ln (Own.sl (by assumption)) ?_) | (refine Ints.ix (Own.sl (by assumption)) (by omega) ?_) | (refine Ints.ixI (Own.sl (by assumption)) (by omega) ?_) | (refine Ints.ld (Own.sl (by assumption)) (by omega) ?_))
      exact ⟨EE, .inl ⟨rfl, Non.zero (by omega) (by rw [hla, hfi]; exact hE)⟩⟩
  | succ mo ih =>
    intro w lv l hP h2 h6 HI
    have hne := hP.ne
    have hlast := hP.rng (l.length - 1) (by omega)
    have h0 := hP.rng 0 (by omega)
    have el : ((l.length : Int) - 1).toNat = l.length - 1 := by omega
    obtain ⟨la, hla⟩ : ∃ x, l.getD (l.length - 1) 0 = x := ⟨_, rfl⟩
    obtain ⟨fi, hfi⟩ : ∃ x, l.getD 0 0 = x := ⟨_, rfl⟩
    rw [hla] at hlast
    rw [hfi] at h0
    refine RC.mk tyOk Try.func99 rfl (by kernel_rfl) fun w1 E1 => ?_
    replace HI := HI.ext E1
    have EE := Ext.refl w1
    have Hl : Ints w1 lv l := Own.sl HI
    refine Bx.blk (l := bvs (gL rr a)) fun b w2 E2 hb2 HK => ?_
    replace HI := HI.ext E2
    replace EE := EE.ext E2
    replace Hl := Hl.ext E2
    have hla' : l.getD ((l.length : Int) - 1).toNat 0 = la := by rw [el]; exact hla
    repeat' ((conv => whnf); first | (refine Dr.quiet tyOk (by kernel_rfl) ?_) | (refine Ints.ldq Hl hla' (by omega) ?_) | (refine Ints.ldq (c := 0) Hl hfi (by omega) ?_) | (refine Rng.mk (by omega) ?_) | (refine Split.pos (by omega) ?_) | (refine Split.neg (by omega) ?_) | (refine Split.mk (fun h => ?_) (fun h => ?_)) | (refine Need.mk (by omega) ?_) | (refine Ints.ln (by assumption) ?_) | (refine Mat.ln (by assumption) ?_) | (refine Ints.ln (Mat.row (by assumption) _ (by omega)) ?_) | (refine Ints.ix (by assumption) (by omega) ?_) | (refine Mat.ix (by assumption) (by omega) ?_) | (refine Ints.ix (Mat.row (by assumption) _ (by omega)) (by omega) ?_) | (refine Ints.ix (c := 0) (by assumption) (by omega) ?_) | (refine Mat.ix (c := 0) (by assumption) (by omega) ?_) | (refine Ints.ix (c := 0) (Mat.row (by assumption) _ (by omega)) (by omega) ?_) | (refine Ints.ixI (by assumption) (by omega) ?_) | (refine Mat.ixI (by assumption) (by omega) ?_) | (refine Ints.ixI (Mat.row (by assumption) _ (by omega)) (by omega) ?_) | (refine Ints.ld (by assumption) (by omega) ?_) | (refine Mat.ld (by assumption) (by omega) ?_) | (refine Ints.ld (Mat.row (by assumption) _ (by omega)) (by omega) ?_) | (refine At.ld (by assumption) rfl ?_) | (refine At.ldN (by assumption) rfl ?_) | (refine Prs.ln (by assumption) ?_) | (refine Trs.ln (by assumption) ?_) | (refine Prs.ix (by assumption) (by omega) ?_) | (refine Trs.ix (by assumption) (by omega) ?_) | (refine Prs.ldN (by assumption) (by omega) ?_) | (refine Trs.ldN (by assumption) (by omega) ?_) | (refine At.ldN (Blk.at (by assumption)) rfl ?_) | (refine At.ld (Blk.at (by assumption)) rfl ?_) | (refine IxA.mk (by omega) ?_) | (refine Sl.ln (Own.sl (by assumption)) ?_) | (refine Ints.ix (Own.sl (by assumption)) (by omega) ?_) | (refine Ints.ixI (Own.sl (by assumption)) (by omega) ?_) | (refine Ints.ld (Own.sl (by assumption)) (by omega) ?_))
    have HI__1 := HI
    have EE__1 := EE
    have Hl__1 := Hl
    have HK__1 := HK
    have hz1 := Nat.le_trans E1.size EE.size
    refine Lp.mk tyOk [false, false, false, false, false, false, true, false, true, true, false, false, false, false, false, false, false, false, false, false, false, false, false, false, false, false, false, false, false, false, true, true, true, true, true, true, true, true, true, true, true, true, true, true, true, true, true, true, true, true, true, true, true, true, true, true, true] (fun m fr wr => getK fr 8 fun k => ∃ c : Nat, c ≤ (5 - fi.toNat) ∧ m = (5 - fi.toNat) - c ∧ k = .int .i64 (fi + 1 + (c : Int)) ∧ (∀ q, fi < q → q < fi + 1 + (c : Int) → Non rr a (l ++ [q]) mo) ∧ Ext w2 wr) ((5 - fi.toNat)) ?_ ?_
    · exact ⟨0, Nat.zero_le _, rfl, (congrArg (Value.int .i64) (by omega)), (fun q h1 h2 => by omega), Ext.refl _⟩
    · intro m w3 u6 u8 u9 u30 u31 u32 u33 u34 u35 u36 u37 u38 u39 u40 u41 u42 u43 u44 u45 u46 u47 u48 u49 u50 u51 u52 u53 u54 u55 u56 hR
      obtain ⟨c, hc, rfl, rfl, hq, EL1⟩ := hR
      replace HI := HI__1.ext EL1
      replace EE := EE__1.ext EL1
      replace Hl := Hl__1.ext EL1
      replace HK := HK__1.ext EL1
      by_cases hcl : c < 5 - fi.toNat
      · have hg := gL_at (rr := rr) (a := a) hlast (k := fi + 1 + (c : Int)) (by omega)
        obtain ⟨k, hkd⟩ : ∃ k, fi + 1 + (c : Int) = k := ⟨_, rfl⟩
        rw [hkd] at hg hq ⊢
        have hnext : Non rr a (l ++ [k]) mo → ∀ q, fi < q → q < fi + 1 + ((c + 1 : Nat) : Int) → Non rr a (l ++ [q]) mo := fun h q h1 h2 => by
          by_cases e : q = k
          · subst e; exact h
          · exact hq q h1 (by omega)
        have ck := contains_pc (x := k) Hl
        by_cases hE : EnG rr a la k
        · rw [tf_t hE] at hg
          by_cases hin : k ∈ l
          · rw [tf_t hin] at ck
            repeat' ((conv => whnf); first | (refine Dr.quiet tyOk (by kernel_rfl) ?_) | (refine IxA.mk (by omega) ?_) | (refine Blk.ldAA HK hg ?_) | (refine VC.pure ck ?_) | (refine VCQ.pure ck ?_) | (refine Rng.mk (by omega) ?_) | (refine Split.pos (by omega) ?_) | (refine Split.neg (by omega) ?_) | (refine Split.mk (fun h => ?_) (fun h => ?_)) | (refine Need.mk (by omega) ?_) | (refine Ints.ln (by assumption) ?_) | (refine Mat.ln (by assumption) ?_) | (refine Ints.ln (Mat.row (by assumption) _ (by omega)) ?_) | (refine Ints.ix (by assumption) (by omega) ?_) | (refine Mat.ix (by assumption) (by omega) ?_) | (refine Ints.ix (Mat.row (by assumption) _ (by omega)) (by omega) ?_) | (refine Ints.ix (c := 0) (by assumption) (by omega) ?_) | (refine Mat.ix (c := 0) (by assumption) (by omega) ?_) | (refine Ints.ix (c := 0) (Mat.row (by assumption) _ (by omega)) (by omega) ?_) | (refine Ints.ixI (by assumption) (by omega) ?_) | (refine Mat.ixI (by assumption) (by omega) ?_) | (refine Ints.ixI (Mat.row (by assumption) _ (by omega)) (by omega) ?_) | (refine Ints.ld (by assumption) (by omega) ?_) | (refine Mat.ld (by assumption) (by omega) ?_) | (refine Ints.ld (Mat.row (by assumption) _ (by omega)) (by omega) ?_) | (refine At.ld (by assumption) rfl ?_) | (refine At.ldN (by assumption) rfl ?_) | (refine Prs.ln (by assumption) ?_) | (refine Trs.ln (by assumption) ?_) | (refine Prs.ix (by assumption) (by omega) ?_) | (refine Trs.ix (by assumption) (by omega) ?_) | (refine Prs.ldN (by assumption) (by omega) ?_) | (refine Trs.ldN (by assumption) (by omega) ?_) | (refine At.ldN (Blk.at (by assumption)) rfl ?_) | (refine At.ld (Blk.at (by assumption)) rfl ?_) | (refine IxA.mk (by omega) ?_) | (refine Sl.ln (Own.sl (by assumption)) ?_) | (refine Ints.ix (Own.sl (by assumption)) (by omega) ?_) | (refine Ints.ixI (Own.sl (by assumption)) (by omega) ?_) | (refine Ints.ld (Own.sl (by assumption)) (by omega) ?_))
            refine ⟨_, (by omega : (5 - fi.toNat) - (c + 1) < (5 - fi.toNat) - c), rfl, c + 1, by omega, rfl, (congrArg (Value.int .i64) (by omega)), hnext (Non.bad (by omega) (.inr (mem_getD.1 hin))), EL1⟩
          · rw [tf_f hin] at ck
            have F : Ext w3 w3 := Ext.refl _
            repeat' ((conv => whnf); first | (refine Dr.plan 45 [5] (.q 1 (.q 3 (.q 6 (.e 0 (.e 2 (.e 4 (.e 5 (.e 7 (.e 8 (.q 9 .nil) .nil) .nil) (.e 7 (.e 5 (.e 8 (.q 9 .nil) .nil) .nil) .nil)) (.e 7 (.e 4 (.e 5 (.e 8 (.q 9 .nil) .nil) .nil) .nil) .nil)) (.e 4 (.e 2 (.e 5 (.e 7 (.e 8 (.q 9 .nil) .nil) .nil) (.e 7 (.e 5 (.e 8 (.q 9 .nil) .nil) .nil) .nil)) (.e 7 (.e 2 (.e 5 (.e 8 (.q 9 .nil) .nil) .nil) .nil) .nil)) (.e 7 (.e 2 (.e 4 (.e 5 (.e 8 (.q 9 .nil) .nil) .nil) .nil) (.e 4 (.e 2 (.e 5 (.e 8 (.q 9 .nil) .nil) .nil) .nil) .nil)) .nil))) (.e 2 (.e 0 (.e 4 (.e 5 (.e 7 (.e 8 (.q 9 .nil) .nil) .nil) (.e 7 (.e 5 (.e 8 (.q 9 .nil) .nil) .nil) .nil)) (.e 7 (.e 4 (.e 5 (.e 8 (.q 9 .nil) .nil) .nil) .nil) .nil)) (.e 4 (.e 0 (.e 5 (.e 7 (.e 8 (.q 9 .nil) .nil) .nil) (.e 7 (.e 5 (.e 8 (.q 9 .nil) .nil) .nil) .nil)) (.e 5 (.e 0 (.e 7 (.e 8 (.q 9 .nil) .nil) .nil) (.e 7 (.e 0 (.e 8 (.q 9 .nil) .nil) .nil) .nil)) (.e 7 (.e 0 (.e 5 (.e 8 (.q 9 .nil) .nil) .nil) (.e 5 (.e 0 (.e 8 (.q 9 .nil) .nil) .nil) .nil)) .nil))) (.e 7 (.e 0 (.e 4 (.e 5 (.e 8 (.q 9 .nil) .nil) .nil) .nil) (.e 4 (.e 0 (.e 5 (.e 8 (.q 9 .nil) .nil) .nil) (.e 5 (.e 0 (.e 8 (.q 9 .nil) .nil) .nil) .nil)) .nil)) .nil))) (.e 4 (.e 0 (.e 2 (.e 5 (.e 7 (.e 8 (.q 9 .nil) .nil) .nil) (.e 7 (.e 5 (.e 8 (.q 9 .nil) .nil) .nil) .nil)) (.e 7 (.e 2 (.e 5 (.e 8 (.q 9 .nil) .nil) .nil) .nil) .nil)) (.e 2 (.e 0 (.e 5 (.e 7 (.e 8 (.q 9 .nil) .nil) .nil) (.e 7 (.e 5 (.e 8 (.q 9 .nil) .nil) .nil) .nil)) (.e 5 (.e 0 (.e 7 (.e 8 (.q 9 .nil) .nil) .nil) (.e 7 (.e 0 (.e 8 (.q 9 .nil) .nil) .nil) .nil)) (.e 7 (.e 0 (.e 5 (.e 8 (.q 9 .nil) .nil) .nil) (.e 5 (.e 0 (.e 8 (.q 9 .nil) .nil) .nil) .nil)) .nil))) (.e 7 (.e 0 (.e 2 (.e 5 (.e 8 (.q 9 .nil) .nil) .nil) .nil) (.e 2 (.e 0 (.e 5 (.e 8 (.q 9 .nil) .nil) .nil) (.e 5 (.e 0 (.e 8 (.q 9 .nil) .nil) .nil) .nil)) .nil)) .nil))) (.e 7 (.e 0 (.e 2 (.e 4 (.e 5 (.e 8 (.q 9 .nil) .nil) .nil) .nil) (.e 4 (.e 2 (.e 5 (.e 8 (.q 9 .nil) .nil) .nil) .nil) .nil)) (.e 2 (.e 0 (.e 4 (.e 5 (.e 8 (.q 9 .nil) .nil) .nil) .nil) (.e 4 (.e 0 (.e 5 (.e 8 (.q 9 .nil) .nil) .nil) (.e 5 (.e 0 (.e 8 (.q 9 .nil) .nil) .nil) .nil)) .nil)) (.e 4 (.e 0 (.e 2 (.e 5 (.e 8 (.q 9 .nil) .nil) .nil) .nil) (.e 2 (.e 0 (.e 5 (.e 8 (.q 9 .nil) .nil) .nil) (.e 5 (.e 0 (.e 8 (.q 9 .nil) .nil) .nil) .nil)) .nil)) .nil))) .nil))))))) tyOk rfl (by kernel_rfl) ?_) | (refine Dr.quiet tyOk (by kernel_rfl) ?_) | (refine IxA.mk (by omega) ?_) | (refine Blk.ldAA HK hg ?_) | (refine VC.pure ck ?_) | (refine VCQ.pure ck ?_) | (refine Rng.mk (by omega) ?_) | (refine Split.pos (by omega) ?_) | (refine Split.neg (by omega) ?_) | (refine Split.mk (fun h => ?_) (fun h => ?_)) | (refine Need.mk (by omega) ?_) | (refine Ints.ln (by assumption) ?_) | (refine Mat.ln (by assumption) ?_) | (refine Ints.ln (Mat.row (by assumption) _ (by omega)) ?_) | (refine Ints.ix (by assumption) (by omega) ?_) | (refine Mat.ix (by assumption) (by omega) ?_) | (refine Ints.ix (Mat.row (by assumption) _ (by omega)) (by omega) ?_) | (refine Ints.ix (c := 0) (by assumption) (by omega) ?_) | (refine Mat.ix (c := 0) (by assumption) (by omega) ?_) | (refine Ints.ix (c := 0) (Mat.row (by assumption) _ (by omega)) (by omega) ?_) | (refine Ints.ixI (by assumption) (by omega) ?_) | (refine Mat.ixI (by assumption) (by omega) ?_) | (refine Ints.ixI (Mat.row (by assumption) _ (by omega)) (by omega) ?_) | (refine Ints.ld (by assumption) (by omega) ?_) | (refine Mat.ld (by assumption) (by omega) ?_) | (refine Ints.ld (Mat.row (by assumption) _ (by omega)) (by omega) ?_) | (refine At.ld (by assumption) rfl ?_) | (refine At.ldN (by assumption) rfl ?_) | (refine Prs.ln (by assumption) ?_) | (refine Trs.ln (by assumption) ?_) | (refine Prs.ix (by assumption) (by omega) ?_) | (refine Trs.ix (by assumption) (by omega) ?_) | (refine Prs.ldN (by assumption) (by omega) ?_) | (refine Trs.ldN (by assumption) (by omega) ?_) | (refine At.ldN (Blk.at (by assumption)) rfl ?_) | (refine At.ld (Blk.at (by assumption)) rfl ?_) | (refine IxA.mk (by omega) ?_) | (refine Sl.ln (Own.sl (by assumption)) ?_) | (refine Ints.ix (Own.sl (by assumption)) (by omega) ?_) | (refine Ints.ixI (Own.sl (by assumption)) (by omega) ?_) | (refine Ints.ld (Own.sl (by assumption)) (by omega) ?_))
            have key : ∀ (wz : World) (cv bv dv : Value), Ext w3 wz → Go.Eng.Own w3.heap.size 3 1 wz dv (l.length + 1) (l.map i64v ++ [.int .i64 k]) → (?P : World → Value → Value → Value → Prop) wz cv bv dv := ?key
            · repeat' ((conv => whnf); first | (refine And.intro ?_ ?_) | (refine At.ldN (Blk.at (HK.ext F)) (by rw [bvs_len, gL_len]) ?_) | (refine Rng.mk (by omega) ?_) | (refine VCX.rc (clone_rc (Hl.ext F) (by omega)) ?_; rintro cv wc Fc ⟨_, HC⟩; replace HC := Own.base HC F.size; (try replace HB := Sl.ext HB Fc); replace F := F.trans Fc) | (refine VX.lit1 Try.underlying25 eInt rfl fun bv wb Fb HB => ?_; (try replace HC := Own.ext HC Fb); replace F := F.trans Fb) | (refine VE.app Try.underlying25 eInt rfl (by omega) HC F rfl HB (by simp [Value.oneCell']) (by omega) (by omega) fun dv wd Fd Gd HD => ?_; replace F := Fd) | (refine key _ cv bv _ F HD))
            intro wz cv bv dv Fz HD
            have HDL : OB w3.heap.size wz dv (l ++ [k]) := by
              show Go.Eng.Own _ _ _ _ _ (l ++ [k]).length ((l ++ [k]).map i64v)
              rw [List.length_append, List.map_append]; exact HD
            have hP2 := hP.snoc (k := k) (by rw [hfi]; omega) (by omega) (fun t ht e => hin (mem_getD.2 ⟨t, ht, e⟩)) (by rw [hla]; exact hE)
            have hl2 := snoc_len l k
            have em : (((mo + 1 : Nat) : Int) - 1) = (mo : Int) := by omega
            conv => whnf
            rw [em]
            refine VCX.rc (ih hP2 (by omega) (by omega) (Own.base HDL (Nat.zero_le _))) ?_
            rintro u w9 E9 HR
            rcases HR with ⟨rfl, hno⟩ | ⟨r, hf, Hr⟩
            · repeat' ((conv => whnf); first | (refine Dr.quiet tyOk (by kernel_rfl) ?_) | (refine VS.nenil true Try.underlying25 ⟨_, _, _, rfl, rfl⟩ ?_) | (refine Rng.mk (by omega) ?_) | (refine Split.pos (by omega) ?_) | (refine Split.neg (by omega) ?_) | (refine Split.mk (fun h => ?_) (fun h => ?_)) | (refine Need.mk (by omega) ?_) | (refine Ints.ln (by assumption) ?_) | (refine Mat.ln (by assumption) ?_) | (refine Ints.ln (Mat.row (by assumption) _ (by omega)) ?_) | (refine Ints.ix (by assumption) (by omega) ?_) | (refine Mat.ix (by assumption) (by omega) ?_) | (refine Ints.ix (Mat.row (by assumption) _ (by omega)) (by omega) ?_) | (refine Ints.ix (c := 0) (by assumption) (by omega) ?_) | (refine Mat.ix (c := 0) (by assumption) (by omega) ?_) | (refine Ints.ix (c := 0) (Mat.row (by assumption) _ (by omega)) (by omega) ?_) | (refine Ints.ixI (by assumption) (by omega) ?_) | (refine Mat.ixI (by assumption) (by omega) ?_) | (refine Ints.ixI (Mat.row (by assumption) _ (by omega)) (by omega) ?_) | (refine Ints.ld (by assumption) (by omega) ?_) | (refine Mat.ld (by assumption) (by omega) ?_) | (refine Ints.ld (Mat.row (by assumption) _ (by omega)) (by omega) ?_) | (refine At.ld (by assumption) rfl ?_) | (refine At.ldN (by assumption) rfl ?_) | (refine Prs.ln (by assumption) ?_) | (refine Trs.ln (by assumption) ?_) | (refine Prs.ix (by assumption) (by omega) ?_) | (refine Trs.ix (by assumption) (by omega) ?_) | (refine Prs.ldN (by assumption) (by omega) ?_) | (refine Trs.ldN (by assumption) (by omega) ?_) | (refine At.ldN (Blk.at (by assumption)) rfl ?_) | (refine At.ld (Blk.at (by assumption)) rfl ?_) | (refine IxA.mk (by omega) ?_) | (refine Sl.ln (Own.sl (by assumption)) ?_) | (refine Ints.ix (Own.sl (by assumption)) (by omega) ?_) | (refine Ints.ixI (Own.sl (by assumption)) (by omega) ?_) | (refine Ints.ld (Own.sl (by assumption)) (by omega) ?_))
              refine ⟨_, (by omega : (5 - fi.toNat) - (c + 1) < (5 - fi.toNat) - c), rfl, c + 1, by omega, rfl, (congrArg (Value.int .i64) (by omega)), hnext hno, (EL1.trans (Fz.trans E9))⟩
            · have hrl := hf.1.2.1
              obtain ⟨ux, um, uc, rfl, hux⟩ := Ints.some_of (Own.sl Hr) (by omega)
              repeat' ((conv => whnf); first | (refine Dr.quiet tyOk (by kernel_rfl) ?_) | (refine VS.nenil false Try.underlying25 ⟨_, _, _, rfl, hux⟩ ?_) | (refine Rng.mk (by omega) ?_) | (refine Split.pos (by omega) ?_) | (refine Split.neg (by omega) ?_) | (refine Split.mk (fun h => ?_) (fun h => ?_)) | (refine Need.mk (by omega) ?_) | (refine Ints.ln (by assumption) ?_) | (refine Mat.ln (by assumption) ?_) | (refine Ints.ln (Mat.row (by assumption) _ (by omega)) ?_) | (refine Ints.ix (by assumption) (by omega) ?_) | (refine Mat.ix (by assumption) (by omega) ?_) | (refine Ints.ix (Mat.row (by assumption) _ (by omega)) (by omega) ?_) | (refine Ints.ix (c := 0) (by assumption) (by omega) ?_) | (refine Mat.ix (c := 0) (by assumption) (by omega) ?_) | (refine Ints.ix (c := 0) (Mat.row (by assumption) _ (by omega)) (by omega) ?_) | (refine Ints.ixI (by assumption) (by omega) ?_) | (refine Mat.ixI (by assumption) (by omega) ?_) | (refine Ints.ixI (Mat.row (by assumption) _ (by omega)) (by omega) ?_) | (refine Ints.ld (by assumption) (by omega) ?_) | (refine Mat.ld (by assumption) (by omega) ?_) | (refine Ints.ld (Mat.row (by assumption) _ (by omega)) (by omega) ?_) | (refine At.ld (by assumption) rfl ?_) | (refine At.ldN (by assumption) rfl ?_) | (refine Prs.ln (by assumption) ?_) | (refine Trs.ln (by assumption) ?_) | (refine Prs.ix (by assumption) (by omega) ?_) | (refine Trs.ix (by assumption) (by omega) ?_) | (refine Prs.ldN (by assumption) (by omega) ?_) | (refine Trs.ldN (by assumption) (by omega) ?_) | (refine At.ldN (Blk.at (by assumption)) rfl ?_) | (refine At.ld (Blk.at (by assumption)) rfl ?_) | (refine IxA.mk (by omega) ?_) | (refine Sl.ln (Own.sl (by assumption)) ?_) | (refine Ints.ix (Own.sl (by assumption)) (by omega) ?_) | (refine Ints.ixI (Own.sl (by assumption)) (by omega) ?_) | (refine Ints.ld (Own.sl (by assumption)) (by omega) ?_))
              exact ⟨EE.trans (Fz.trans E9), .inr ⟨r, hf.up (by omega) (fun q h1 h2 => hq q (by omega) h2), Hr⟩⟩
        · rw [tf_f hE] at hg
          repeat' ((conv => whnf); first | (refine Dr.quiet tyOk (by kernel_rfl) ?_) | (refine IxA.mk (by omega) ?_) | (refine Blk.ldAA HK hg ?_) | (refine Rng.mk (by omega) ?_) | (refine Split.pos (by omega) ?_) | (refine Split.neg (by omega) ?_) | (refine Split.mk (fun h => ?_) (fun h => ?_)) | (refine Need.mk (by omega) ?_) | (refine Ints.ln (by assumption) ?_) | (refine Mat.ln (by assumption) ?_) | (refine Ints.ln (Mat.row (by assumption) _ (by omega)) ?_) | (refine Ints.ix (by assumption) (by omega) ?_) | (refine Mat.ix (by assumption) (by omega) ?_) | (refine Ints.ix (Mat.row (by assumption) _ (by omega)) (by omega) ?_) | (refine Ints.ix (c := 0) (by assumption) (by omega) ?_) | (refine Mat.ix (c := 0) (by assumption) (by omega) ?_) | (refine Ints.ix (c := 0) (Mat.row (by assumption) _ (by omega)) (by omega) ?_) | (refine Ints.ixI (by assumption) (by omega) ?_) | (refine Mat.ixI (by assumption) (by omega) ?_) | (refine Ints.ixI (Mat.row (by assumption) _ (by omega)) (by omega) ?_) | (refine Ints.ld (by assumption) (by omega) ?_) | (refine Mat.ld (by assumption) (by omega) ?_) | (refine Ints.ld (Mat.row (by assumption) _ (by omega)) (by omega) ?_) | (refine At.ld (by assumption) rfl ?_) | (refine At.ldN (by assumption) rfl ?_) | (refine Prs.ln (by assumption) ?_) | (refine Trs.ln (by assumption) ?_) | (refine Prs.ix (by assumption) (by omega) ?_) | (refine Trs.ix (by assumption) (by omega) ?_) | (refine Prs.ldN (by assumption) (by omega) ?_) | (refine Trs.ldN (by assumption) (by omega) ?_) | (refine At.ldN (Blk.at (by assumption)) rfl ?_) | (refine At.ld (Blk.at (by assumption)) rfl ?_) | (refine IxA.mk (by omega) ?_) | (refine Sl.ln (Own.sl (by assumption)) ?_) | (refine Ints.ix (Own.sl (by assumption)) (by omega) ?_) | (refine Ints.ixI (Own.sl (by assumption)) (by omega) ?_) | (refine Ints.ld (Own.sl (by assumption)) (by omega) ?_))
          refine ⟨_, (by omega : (5 - fi.toNat) - (c + 1) < (5 - fi.toNat) - c), rfl, c + 1, by omega, rfl, (congrArg (Value.int .i64) (by omega)), hnext (Non.bad (by omega) (.inl (by rw [hla]; exact hE))), EL1⟩
      · repeat' ((conv => whnf); first | (refine Dr.quiet tyOk (by kernel_rfl) ?_) | (refine Rng.mk (by omega) ?_) | (refine Split.pos (by omega) ?_) | (refine Split.neg (by omega) ?_) | (refine Split.mk (fun h => ?_) (fun h => ?_)) | (refine Need.mk (by omega) ?_) | (refine Ints.ln (by assumption) ?_) | (refine Mat.ln (by assumption) ?_) | (refine Ints.ln (Mat.row (by assumption) _ (by omega)) ?_) | (refine Ints.ix (by assumption) (by omega) ?_) | (refine Mat.ix (by assumption) (by omega) ?_) | (refine Ints.ix (Mat.row (by assumption) _ (by omega)) (by omega) ?_) | (refine Ints.ix (c := 0) (by assumption) (by omega) ?_) | (refine Mat.ix (c := 0) (by assumption) (by omega) ?_) | (refine Ints.ix (c := 0) (Mat.row (by assumption) _ (by omega)) (by omega) ?_) | (refine Ints.ixI (by assumption) (by omega) ?_) | (refine Mat.ixI (by assumption) (by omega) ?_) | (refine Ints.ixI (Mat.row (by assumption) _ (by omega)) (by omega) ?_) | (refine Ints.ld (by assumption) (by omega) ?_) | (refine Mat.ld (by assumption) (by omega) ?_) | (refine Ints.ld (Mat.row (by assumption) _ (by omega)) (by omega) ?_) | (refine At.ld (by assumption) rfl ?_) | (refine At.ldN (by assumption) rfl ?_) | (refine Prs.ln (by assumption) ?_) | (refine Trs.ln (by assumption) ?_) | (refine Prs.ix (by assumption) (by omega) ?_) | (refine Trs.ix (by assumption) (by omega) ?_) | (refine Prs.ldN (by assumption) (by omega) ?_) | (refine Trs.ldN (by assumption) (by omega) ?_) | (refine At.ldN (Blk.at (by assumption)) rfl ?_) | (refine At.ld (Blk.at (by assumption)) rfl ?_) | (refine IxA.mk (by omega) ?_) | (refine Sl.ln (Own.sl (by assumption)) ?_) | (refine Ints.ix (Own.sl (by assumption)) (by omega) ?_) | (refine Ints.ixI (Own.sl (by assumption)) (by omega) ?_) | (refine Ints.ld (Own.sl (by assumption)) (by omega) ?_))
        exact ⟨EE, .inl ⟨rfl, Non.up hn (by omega) (fun q h1 h2 => hq q (by omega) (by omega))⟩⟩
end Go.Proofs.Ytebklnmafjbhcaa
set_option linter.unusedVariables false
set_option linter.unusedSimpArgs false
namespace Go.Proofs.Ytebklnmafjbhcaa
open Go.Eng
set_option maxRecDepth 100000
set_option maxHeartbeats 4000000

/-- the circle as a slice: nil if there is none -/
def CiR (rr : List (List Int)) (a : List Int) (w : World) (u : Value) : Prop := (u = .slice none 0 0 ∧ circ rr a = []) ∨ (isC rr a (circ rr a) ∧ OI w u (circ rr a))
theorem CiR.ext {rr : List (List Int)} {a : List Int} {w w' : World} {u : Value} (h : CiR rr a w u) (hx : Ext w w') : CiR rr a w' u := h.imp id fun h => ⟨h.1, Own.ext h.2 hx⟩
theorem circle_rc {rr : List (List Int)} {a : List Int} {w : World} (hn : rr.length ≤ 6) : RC Try.prog 69 [.agg (bvs (gL rr a)).toArray] w NoB (fun u w' => CiR rr a w' u) := by
  refine RC.mk tyOk Try.func69 rfl (by kernel_rfl) fun w1 E1 => ?_
  have EE := Ext.refl w1
  refine Bx.blk (l := bvs (gL rr a)) fun b w2 E2 hb2 HK => ?_
  replace EE := EE.ext E2
  repeat' ((conv => whnf); first | (refine Dr.quiet tyOk (by kernel_rfl) ?_) | (refine Rng.mk (by omega) ?_) | (refine Split.pos (by omega) ?_) | (refine Split.neg (by omega) ?_) | (refine Split.mk (fun h => ?_) (fun h => ?_)) | (refine Need.mk (by omega) ?_) | (refine Ints.ln (by assumption) ?_) | (refine Mat.ln (by assumption) ?_) | (refine Ints.ln (Mat.row (by assumption) _ (by omega)) ?_) | (refine Ints.ix (by assumption) (by omega) ?_) | (refine Mat.ix (by assumption) (by omega) ?_) | (refine Ints.ix (Mat.row (by assumption) _ (by omega)) (by omega) ?_) | (refine Ints.ix (c := 0) (by assumption) (by omega) ?_) | (refine Mat.ix (c := 0) (by assumption) (by omega) ?_) | (refine Ints.ix (c := 0) (Mat.row (by assumption) _ (by omega)) (by omega) ?_) | (refine Ints.ixI (by assumption) (by omega) ?_) | (refine Mat.ixI (by assumption) (by omega) ?_) | (refine Ints.ixI (Mat.row (by assumption) _ (by omega)) (by omega) ?_) | (refine Ints.ld (by assumption) (by omega) ?_) | (refine Mat.ld (by assumption) (by omega) ?_) | (refine Ints.ld (Mat.row (by assumption) _ (by omega)) (by omega) ?_) | (refine At.ld (by assumption) rfl ?_) | (refine At.ldN (by assumption) rfl ?_) | (refine Prs.ln (by assumption) ?_) | (refine Trs.ln (by assumption) ?_) | (refine Prs.ix (by assumption) (by omega) ?_) | (refine Trs.ix (by assumption) (by omega) ?_) | (refine Prs.ldN (by assumption) (by omega) ?_) | (refine Trs.ldN (by assumption) (by omega) ?_) | (refine At.ldN (Blk.at (by assumption)) rfl ?_) | (refine At.ld (Blk.at (by assumption)) rfl ?_) | (refine IxA.mk (by omega) ?_) | (refine Sl.ln (Own.sl (by assumption)) ?_) | (refine Ints.ix (Own.sl (by assumption)) (by omega) ?_) | (refine Ints.ixI (Own.sl (by assumption)) (by omega) ?_) | (refine Ints.ld (Own.sl (by assumption)) (by omega) ?_))
  have EE__1 := EE
  have HK__1 := HK
  have hz1 := Nat.le_trans E1.size EE.size
  refine Lp.mk tyOk [false, false, true, true, true, true, true, true, true, true, true, true, true, true, true, true, true, true, true, true, true, true] (fun m fr wr => getK fr 3 fun mo => ∃ c : Nat, c ≤ 5 ∧ m = 5 - c ∧ mo = .int .i64 (1 + (c : Int)) ∧ (∀ q, 1 ≤ q → q < 1 + c → ∀ x : Int, 0 ≤ x → x < 6 → Non rr a [x] q) ∧ Ext w2 wr) (5) ?_ ?_
  · exact ⟨0, Nat.zero_le _, rfl, rfl, (fun q h1 h2 => by omega), Ext.refl _⟩
  · intro m w3 u2 u3 u4 u5 u6 u7 u8 u9 u10 u11 u12 u13 u14 u15 u16 u17 u18 u19 u20 u21 hR
    obtain ⟨c, hc, rfl, rfl, h1, EL1⟩ := hR
    replace EE := EE__1.ext EL1
    replace HK := HK__1.ext EL1
    by_cases hcl : c < 5
    · repeat' ((conv => whnf); first | (refine Dr.quiet tyOk (by kernel_rfl) ?_) | (refine Rng.mk (by omega) ?_) | (refine Split.pos (by omega) ?_) | (refine Split.neg (by omega) ?_) | (refine Split.mk (fun h => ?_) (fun h => ?_)) | (refine Need.mk (by omega) ?_) | (refine Ints.ln (by assumption) ?_) | (refine Mat.ln (by assumption) ?_) | (refine Ints.ln (Mat.row (by assumption) _ (by omega)) ?_) | (refine Ints.ix (by assumption) (by omega) ?_) | (refine Mat.ix (by assumption) (by omega) ?_) | (refine Ints.ix (Mat.row (by assumption) _ (by omega)) (by omega) ?_) | (refine Ints.ix (c := 0) (by assumption) (by omega) ?_) | (refine Mat.ix (c := 0) (by assumption) (by omega) ?_) | (refine Ints.ix (c := 0) (Mat.row (by assumption) _ (by omega)) (by omega) ?_) | (refine Ints.ixI (by assumption) (by omega) ?_) | (refine Mat.ixI (by assumption) (by omega) ?_) | (refine Ints.ixI (Mat.row (by assumption) _ (by omega)) (by omega) ?_) | (refine Ints.ld (by assumption) (by omega) ?_) | (refine Mat.ld (by assumption) (by omega) ?_) | (refine Ints.ld (Mat.row (by assumption) _ (by omega)) (by omega) ?_) | (refine At.ld (by assumption) rfl ?_) | (refine At.ldN (by assumption) rfl ?_) | (refine Prs.ln (by assumption) ?_) | (refine Trs.ln (by assumption) ?_) | (refine Prs.ix (by assumption) (by omega) ?_) | (refine Trs.ix (by assumption) (by omega) ?_) | (refine Prs.ldN (by assumption) (by omega) ?_) | (refine Trs.ldN (by assumption) (by omega) ?_) | (refine At.ldN (Blk.at (by assumption)) rfl ?_) | (refine At.ld (Blk.at (by assumption)) rfl ?_) | (refine IxA.mk (by omega) ?_) | (refine Sl.ln (Own.sl (by assumption)) ?_) | (refine Ints.ix (Own.sl (by assumption)) (by omega) ?_) | (refine Ints.ixI (Own.sl (by assumption)) (by omega) ?_) | (refine Ints.ld (Own.sl (by assumption)) (by omega) ?_))
      have EE__2 := EE
      have HK__2 := HK
      have EL1__2 := EL1
      have hz2 := Nat.le_trans E1.size EE.size
      refine Lp.mk tyOk [false, false, true, false, true, true, false, false, false, false, true, true, true, true, true, true, true, true, true, true, true, true] (fun m fr wr => getK fr 10 fun i => ∃ d : Nat, d ≤ 6 ∧ m = 6 - d ∧ i = .int .i64 (d : Int) ∧ (∀ x : Int, 0 ≤ x → x < d → Non rr a [x] (1 + c)) ∧ Ext w3 wr) (6) ?_ ?_
      · exact ⟨0, Nat.zero_le _, rfl, rfl, (fun x h1 h2 => by omega), Ext.refl _⟩
      · intro m w4 u2 u4 u5 u10 u11 u12 u13 u14 u15 u16 u17 u18 u19 u20 u21 hR
        obtain ⟨d, hd, rfl, rfl, h2, EL2⟩ := hR
        replace EE := EE__2.ext EL2
        replace HK := HK__2.ext EL2
        replace EL1 := EL1__2.ext EL2
        by_cases hdl : d < 6
        · repeat' ((conv => whnf); first | (refine Dr.quiet tyOk (by kernel_rfl) ?_) | (refine At.ldN (Blk.at HK) (by rw [bvs_len, gL_len]) ?_) | (refine Rng.mk (by omega) ?_) | (refine Split.pos (by omega) ?_) | (refine Split.neg (by omega) ?_) | (refine Split.mk (fun h => ?_) (fun h => ?_)) | (refine Need.mk (by omega) ?_) | (refine Ints.ln (by assumption) ?_) | (refine Mat.ln (by assumption) ?_) | (refine Ints.ln (Mat.row (by assumption) _ (by omega)) ?_) | (refine Ints.ix (by assumption) (by omega) ?_) | (refine Mat.ix (by assumption) (by omega) ?_) | (refine Ints.ix (Mat.row (by assumption) _ (by omega)) (by omega) ?_) | (refine Ints.ix (c := 0) (by assumption) (by omega) ?_) | (refine Mat.ix (c := 0) (by assumption) (by omega) ?_) | (refine Ints.ix (c := 0) (Mat.row (by assumption) _ (by omega)) (by omega) ?_) | (refine Ints.ixI (by assumption) (by omega) ?_) | (refine Mat.ixI (by assumption) (by omega) ?_) | (refine Ints.ixI (Mat.row (by assumption) _ (by omega)) (by omega) ?_) | (refine Ints.ld (by assumption) (by omega) ?_) | (refine Mat.ld (by assumption) (by omega) ?_) | (refine Ints.ld (Mat.row (by assumption) _ (by omega)) (by omega) ?_) | (refine At.ld (by assumption) rfl ?_) | (refine At.ldN (by assumption) rfl ?_) | (refine Prs.ln (by assumption) ?_) | (refine Trs.ln (by assumption) ?_) | (refine Prs.ix (by assumption) (by omega) ?_) | (refine Trs.ix (by assumption) (by omega) ?_) | (refine Prs.ldN (by assumption) (by omega) ?_) | (refine Trs.ldN (by assumption) (by omega) ?_) | (refine At.ldN (Blk.at (by assumption)) rfl ?_) | (refine At.ld (Blk.at (by assumption)) rfl ?_) | (refine IxA.mk (by omega) ?_) | (refine Sl.ln (Own.sl (by assumption)) ?_) | (refine Ints.ix (Own.sl (by assumption)) (by omega) ?_) | (refine Ints.ixI (Own.sl (by assumption)) (by omega) ?_) | (refine Ints.ld (Own.sl (by assumption)) (by omega) ?_))
          conv => whnf
          refine VE.litI [(d : Int)] Try.underlying25 eInt (by first | decide | simp) fun lv w5 E5 HL _ => ?_
          replace HL := HL 0 (Nat.zero_le _)
          replace EE := EE.ext E5
          replace HK := HK.ext E5
          replace EL1 := EL1.ext E5
          replace EL2 := EL2.ext E5
          have em : (1 + (c : Int)) = ((1 + c : Nat) : Int) := by omega
          rw [em]
          conv => whnf
          refine VC.rc (close_rc hn (1 + c) (Pth.one (k := (d : Int)) (by omega)) (by simp; omega) (by simp; omega) HL) ?_
          rintro _ w6 E6 HR
          replace EE := EE.ext E6
          replace HK := HK.ext E6
          replace EL1 := EL1.ext E6
          replace EL2 := EL2.ext E6
          replace HL := HL.ext E6
          rw [← em]
          rcases HR with ⟨rfl, hno⟩ | ⟨r, hf, Hr⟩
          · repeat' ((conv => whnf); first | (refine Dr.quiet tyOk (by kernel_rfl) ?_) | (refine VS.nenil true Try.underlying25 ⟨_, _, _, rfl, rfl⟩ ?_) | (refine Rng.mk (by omega) ?_) | (refine Split.pos (by omega) ?_) | (refine Split.neg (by omega) ?_) | (refine Split.mk (fun h => ?_) (fun h => ?_)) | (refine Need.mk (by omega) ?_) | (refine Ints.ln (by assumption) ?_) | (refine Mat.ln (by assumption) ?_) | (refine Ints.ln (Mat.row (by assumption) _ (by omega)) ?_) | (refine Ints.ix (by assumption) (by omega) ?_) | (refine Mat.ix (by assumption) (by omega) ?_) | (refine Ints.ix (Mat.row (by assumption) _ (by omega)) (by omega) ?_) | (refine Ints.ix (c := 0) (by assumption) (by omega) ?_) | (refine Mat.ix (c := 0) (by assumption) (by omega) ?_) | (refine Ints.ix (c := 0) (Mat.row (by assumption) _ (by omega)) (by omega) ?_) | (refine Ints.ixI (by assumption) (by omega) ?_) | (refine Mat.ixI (by assumption) (by omega) ?_) | (refine Ints.ixI (Mat.row (by assumption) _ (by omega)) (by omega) ?_) | (refine Ints.ld (by assumption) (by omega) ?_) | (refine Mat.ld (by assumption) (by omega) ?_) | (refine Ints.ld (Mat.row (by assumption) _ (by omega)) (by omega) ?_) | (refine At.ld (by assumption) rfl ?_) | (refine At.ldN (by assumption) rfl ?_) | (refine Prs.ln (by assumption) ?_) | (refine Trs.ln (by assumption) ?_) | (refine Prs.ix (by assumption) (by omega) ?_) | (refine Trs.ix (by assumption) (by omega) ?_) | (refine Prs.ldN (by assumption) (by omega) ?_) | (refine Trs.ldN (by assumption) (by omega) ?_) | (refine At.ldN (Blk.at (by assumption)) rfl ?_) | (refine At.ld (Blk.at (by assumption)) rfl ?_) | (refine IxA.mk (by omega) ?_) | (refine Sl.ln (Own.sl (by assumption)) ?_) | (refine Ints.ix (Own.sl (by assumption)) (by omega) ?_) | (refine Ints.ixI (Own.sl (by assumption)) (by omega) ?_) | (refine Ints.ld (Own.sl (by assumption)) (by omega) ?_))
            refine ⟨_, (by omega : 6 - (d + 1) < 6 - d), rfl, d + 1, by omega, rfl, rfl, fun x h3 h4 => ?_, EL2⟩
            by_cases e : x = d
            · subst e; exact hno
            · exact h2 x h3 (by omega)
          · have hc := circ_some hn hf h1 (fun x h3 h4 => h2 x h3 h4)
            have hrl := hf.1.2.1
            obtain ⟨ux, um, uc, rfl, hux⟩ := Ints.some_of (Own.sl Hr) (by simp at hrl; omega)
            repeat' ((conv => whnf); first | (refine Dr.quiet tyOk (by kernel_rfl) ?_) | (refine VS.nenil false Try.underlying25 ⟨_, _, _, rfl, hux⟩ ?_) | (refine Rng.mk (by omega) ?_) | (refine Split.pos (by omega) ?_) | (refine Split.neg (by omega) ?_) | (refine Split.mk (fun h => ?_) (fun h => ?_)) | (refine Need.mk (by omega) ?_) | (refine Ints.ln (by assumption) ?_) | (refine Mat.ln (by assumption) ?_) | (refine Ints.ln (Mat.row (by assumption) _ (by omega)) ?_) | (refine Ints.ix (by assumption) (by omega) ?_) | (refine Mat.ix (by assumption) (by omega) ?_) | (refine Ints.ix (Mat.row (by assumption) _ (by omega)) (by omega) ?_) | (refine Ints.ix (c := 0) (by assumption) (by omega) ?_) | (refine Mat.ix (c := 0) (by assumption) (by omega) ?_) | (refine Ints.ix (c := 0) (Mat.row (by assumption) _ (by omega)) (by omega) ?_) | (refine Ints.ixI (by assumption) (by omega) ?_) | (refine Mat.ixI (by assumption) (by omega) ?_) | (refine Ints.ixI (Mat.row (by assumption) _ (by omega)) (by omega) ?_) | (refine Ints.ld (by assumption) (by omega) ?_) | (refine Mat.ld (by assumption) (by omega) ?_) | (refine Ints.ld (Mat.row (by assumption) _ (by omega)) (by omega) ?_) | (refine At.ld (by assumption) rfl ?_) | (refine At.ldN (by assumption) rfl ?_) | (refine Prs.ln (by assumption) ?_) | (refine Trs.ln (by assumption) ?_) | (refine Prs.ix (by assumption) (by omega) ?_) | (refine Trs.ix (by assumption) (by omega) ?_) | (refine Prs.ldN (by assumption) (by omega) ?_) | (refine Trs.ldN (by assumption) (by omega) ?_) | (refine At.ldN (Blk.at (by assumption)) rfl ?_) | (refine At.ld (Blk.at (by assumption)) rfl ?_) | (refine IxA.mk (by omega) ?_) | (refine Sl.ln (Own.sl (by assumption)) ?_) | (refine Ints.ix (Own.sl (by assumption)) (by omega) ?_) | (refine Ints.ixI (Own.sl (by assumption)) (by omega) ?_) | (refine Ints.ld (Own.sl (by assumption)) (by omega) ?_))
            exact ⟨EE, .inr (by rw [hc]; exact ⟨hf.1.1, Hr⟩)⟩
        · repeat' ((conv => whnf); first | (refine Dr.quiet tyOk (by kernel_rfl) ?_) | (refine Rng.mk (by omega) ?_) | (refine Split.pos (by omega) ?_) | (refine Split.neg (by omega) ?_) | (refine Split.mk (fun h => ?_) (fun h => ?_)) | (refine Need.mk (by omega) ?_) | (refine Ints.ln (by assumption) ?_) | (refine Mat.ln (by assumption) ?_) | (refine Ints.ln (Mat.row (by assumption) _ (by omega)) ?_) | (refine Ints.ix (by assumption) (by omega) ?_) | (refine Mat.ix (by assumption) (by omega) ?_) | (refine Ints.ix (Mat.row (by assumption) _ (by omega)) (by omega) ?_) | (refine Ints.ix (c := 0) (by assumption) (by omega) ?_) | (refine Mat.ix (c := 0) (by assumption) (by omega) ?_) | (refine Ints.ix (c := 0) (Mat.row (by assumption) _ (by omega)) (by omega) ?_) | (refine Ints.ixI (by assumption) (by omega) ?_) | (refine Mat.ixI (by assumption) (by omega) ?_) | (refine Ints.ixI (Mat.row (by assumption) _ (by omega)) (by omega) ?_) | (refine Ints.ld (by assumption) (by omega) ?_) | (refine Mat.ld (by assumption) (by omega) ?_) | (refine Ints.ld (Mat.row (by assumption) _ (by omega)) (by omega) ?_) | (refine At.ld (by assumption) rfl ?_) | (refine At.ldN (by assumption) rfl ?_) | (refine Prs.ln (by assumption) ?_) | (refine Trs.ln (by assumption) ?_) | (refine Prs.ix (by assumption) (by omega) ?_) | (refine Trs.ix (by assumption) (by omega) ?_) | (refine Prs.ldN (by assumption) (by omega) ?_) | (refine Trs.ldN (by assumption) (by omega) ?_) | (refine At.ldN (Blk.at (by assumption)) rfl ?_) | (refine At.ld (Blk.at (by assumption)) rfl ?_) | (refine IxA.mk (by omega) ?_) | (refine Sl.ln (Own.sl (by assumption)) ?_) | (refine Ints.ix (Own.sl (by assumption)) (by omega) ?_) | (refine Ints.ixI (Own.sl (by assumption)) (by omega) ?_) | (refine Ints.ld (Own.sl (by assumption)) (by omega) ?_))
          refine ⟨_, (by omega : 5 - (c + 1) < 5 - c), rfl, c + 1, by omega, rfl, (congrArg (Value.int .i64) (by omega)), fun q h3 h4 x h5 h6 => ?_, EL1⟩
          by_cases e : q = 1 + c
          · subst e; exact h2 x h5 (by omega)
          · exact h1 q h3 (by omega) x h5 h6
    · repeat' ((conv => whnf); first | (refine Dr.quiet tyOk (by kernel_rfl) ?_) | (refine Rng.mk (by omega) ?_) | (refine Split.pos (by omega) ?_) | (refine Split.neg (by omega) ?_) | (refine Split.mk (fun h => ?_) (fun h => ?_)) | (refine Need.mk (by omega) ?_) | (refine Ints.ln (by assumption) ?_) | (refine Mat.ln (by assumption) ?_) | (refine Ints.ln (Mat.row (by assumption) _ (by omega)) ?_) | (refine Ints.ix (by assumption) (by omega) ?_) | (refine Mat.ix (by assumption) (by omega) ?_) | (refine Ints.ix (Mat.row (by assumption) _ (by omega)) (by omega) ?_) | (refine Ints.ix (c := 0) (by assumption) (by omega) ?_) | (refine Mat.ix (c := 0) (by assumption) (by omega) ?_) | (refine Ints.ix (c := 0) (Mat.row (by assumption) _ (by omega)) (by omega) ?_) | (refine Ints.ixI (by assumption) (by omega) ?_) | (refine Mat.ixI (by assumption) (by omega) ?_) | (refine Ints.ixI (Mat.row (by assumption) _ (by omega)) (by omega) ?_) | (refine Ints.ld (by assumption) (by omega) ?_) | (refine Mat.ld (by assumption) (by omega) ?_) | (refine Ints.ld (Mat.row (by assumption) _ (by omega)) (by omega) ?_) | (refine At.ld (by assumption) rfl ?_) | (refine At.ldN (by assumption) rfl ?_) | (refine Prs.ln (by assumption) ?_) | (refine Trs.ln (by assumption) ?_) | (refine Prs.ix (by assumption) (by omega) ?_) | (refine Trs.ix (by assumption) (by omega) ?_) | (refine Prs.ldN (by assumption) (by omega) ?_) | (refine Trs.ldN (by assumption) (by omega) ?_) | (refine At.ldN (Blk.at (by assumption)) rfl ?_) | (refine At.ld (Blk.at (by assumption)) rfl ?_) | (refine IxA.mk (by omega) ?_) | (refine Sl.ln (Own.sl (by assumption)) ?_) | (refine Ints.ix (Own.sl (by assumption)) (by omega) ?_) | (refine Ints.ixI (Own.sl (by assumption)) (by omega) ?_) | (refine Ints.ld (Own.sl (by assumption)) (by omega) ?_))
      exact ⟨EE, .inl ⟨rfl, circ_nil hn fun q h3 h4 x h5 h6 => h1 q h3 (by omega) x h5 h6⟩⟩

theorem free_pc {rr : List (List Int)} {a : List Int} {w : World} (hn : rr.length ≤ 6) : PC Try.prog 68 [.agg (bvs (gL rr a)).toArray, .int .i64 (rr.length : Int)] w (.int .i64 (fre rr a)) := by
  refine PC.mk tyOk Try.func68 rfl (by kernel_rfl) fun w1 E1 => ?_
  have EE := Ext.refl w1
  refine Bx.blk (l := bvs (gL rr a)) fun b w2 E2 hb2 HK => ?_
  replace EE := EE.ext E2
  repeat' ((conv => whnf); first | (refine Dr.quiet tyOk (by kernel_rfl) ?_) | (refine Rng.mk (by omega) ?_) | (refine Split.pos (by omega) ?_) | (refine Split.neg (by omega) ?_) | (refine Split.mk (fun h => ?_) (fun h => ?_)) | (refine Need.mk (by omega) ?_) | (refine Ints.ln (by assumption) ?_) | (refine Mat.ln (by assumption) ?_) | (refine Ints.ln (Mat.row (by assumption) _ (by omega)) ?_) | (refine Ints.ix (by assumption) (by omega) ?_) | (refine Mat.ix (by assumption) (by omega) ?_) | (refine Ints.ix (Mat.row (by assumption) _ (by omega)) (by omega) ?_) | (refine Ints.ix (c := 0) (by assumption) (by omega) ?_) | (refine Mat.ix (c := 0) (by assumption) (by omega) ?_) | (refine Ints.ix (c := 0) (Mat.row (by assumption) _ (by omega)) (by omega) ?_) | (refine Ints.ixI (by assumption) (by omega) ?_) | (refine Mat.ixI (by assumption) (by omega) ?_) | (refine Ints.ixI (Mat.row (by assumption) _ (by omega)) (by omega) ?_) | (refine Ints.ld (by assumption) (by omega) ?_) | (refine Mat.ld (by assumption) (by omega) ?_) | (refine Ints.ld (Mat.row (by assumption) _ (by omega)) (by omega) ?_) | (refine At.ld (by assumption) rfl ?_) | (refine At.ldN (by assumption) rfl ?_) | (refine Prs.ln (by assumption) ?_) | (refine Trs.ln (by assumption) ?_) | (refine Prs.ix (by assumption) (by omega) ?_) | (refine Trs.ix (by assumption) (by omega) ?_) | (refine Prs.ldN (by assumption) (by omega) ?_) | (refine Trs.ldN (by assumption) (by omega) ?_) | (refine At.ldN (Blk.at (by assumption)) rfl ?_) | (refine At.ld (Blk.at (by assumption)) rfl ?_) | (refine IxA.mk (by omega) ?_) | (refine Sl.ln (Own.sl (by assumption)) ?_) | (refine Ints.ix (Own.sl (by assumption)) (by omega) ?_) | (refine Ints.ixI (Own.sl (by assumption)) (by omega) ?_) | (refine Ints.ld (Own.sl (by assumption)) (by omega) ?_))
  refine Lp.mk tyOk [false, false, false, false, true, true, true, false, true, true, true, true, true, true, true, true, true, true, true, true, true, true, true] (fun m fr wr => getK fr 8 fun i => ∃ c : Nat, c ≤ rr.length ∧ m = rr.length - c ∧ i = .int .i64 (c : Int) ∧ (∀ i, i < c → ¬ frees rr a i) ∧ wr = w2) (rr.length) ?_ ?_
  · exact ⟨0, Nat.zero_le _, rfl, rfl, (by first | exact fun _ hi => absurd hi (Nat.not_lt_zero _) | exact fun _ _ hi => absurd hi (Nat.not_lt_zero _) | assumption | exact Own.nil | omega | simp), rfl⟩
  · intro m w3 u4 u5 u6 u8 u9 u10 u11 u12 u13 u14 u15 u16 u17 u18 u19 u20 u21 u22 hR
    obtain ⟨c, hc, rfl, rfl, h1, rfl⟩ := hR
    by_cases hcl : c < rr.length
    · repeat' ((conv => whnf); first | (refine Dr.quiet tyOk (by kernel_rfl) ?_) | (refine Rng.mk (by omega) ?_) | (refine Split.pos (by omega) ?_) | (refine Split.neg (by omega) ?_) | (refine Split.mk (fun h => ?_) (fun h => ?_)) | (refine Need.mk (by omega) ?_) | (refine Ints.ln (by assumption) ?_) | (refine Mat.ln (by assumption) ?_) | (refine Ints.ln (Mat.row (by assumption) _ (by omega)) ?_) | (refine Ints.ix (by assumption) (by omega) ?_) | (refine Mat.ix (by assumption) (by omega) ?_) | (refine Ints.ix (Mat.row (by assumption) _ (by omega)) (by omega) ?_) | (refine Ints.ix (c := 0) (by assumption) (by omega) ?_) | (refine Mat.ix (c := 0) (by assumption) (by omega) ?_) | (refine Ints.ix (c := 0) (Mat.row (by assumption) _ (by omega)) (by omega) ?_) | (refine Ints.ixI (by assumption) (by omega) ?_) | (refine Mat.ixI (by assumption) (by omega) ?_) | (refine Ints.ixI (Mat.row (by assumption) _ (by omega)) (by omega) ?_) | (refine Ints.ld (by assumption) (by omega) ?_) | (refine Mat.ld (by assumption) (by omega) ?_) | (refine Ints.ld (Mat.row (by assumption) _ (by omega)) (by omega) ?_) | (refine At.ld (by assumption) rfl ?_) | (refine At.ldN (by assumption) rfl ?_) | (refine Prs.ln (by assumption) ?_) | (refine Trs.ln (by assumption) ?_) | (refine Prs.ix (by assumption) (by omega) ?_) | (refine Trs.ix (by assumption) (by omega) ?_) | (refine Prs.ldN (by assumption) (by omega) ?_) | (refine Trs.ldN (by assumption) (by omega) ?_) | (refine At.ldN (Blk.at (by assumption)) rfl ?_) | (refine At.ld (Blk.at (by assumption)) rfl ?_) | (refine IxA.mk (by omega) ?_) | (refine Sl.ln (Own.sl (by assumption)) ?_) | (refine Ints.ix (Own.sl (by assumption)) (by omega) ?_) | (refine Ints.ixI (Own.sl (by assumption)) (by omega) ?_) | (refine Ints.ld (Own.sl (by assumption)) (by omega) ?_))
      refine Lp.mk tyOk [false, false, false, false, false, false, true, false, false, false, false, false, true, true, true, true, true, true, true, true, true] (fun m fr wr => getK fr 12 fun k => ∃ d : Nat, d ≤ rr.length ∧ m = rr.length - d ∧ k = .int .i64 (d : Int) ∧ (∀ k : Nat, k < d → ¬ En rr a k c) ∧ wr = w3) (rr.length) ?_ ?_
      · exact ⟨0, Nat.zero_le _, rfl, rfl, (by first | exact fun _ hi => absurd hi (Nat.not_lt_zero _) | exact fun _ _ hi => absurd hi (Nat.not_lt_zero _) | assumption | exact Own.nil | omega | simp), rfl⟩
      · intro m w4 u6 u12 u13 u14 u15 u16 u17 u18 u19 u20 hR
        obtain ⟨d, hd, rfl, rfl, h2, rfl⟩ := hR
        by_cases hdl : d < rr.length
        · have hg := gL_at (rr := rr) (a := a) (i := (d : Int)) (k := (c : Int)) (by omega) (by omega)
          by_cases hE : En rr a d c
          · rw [tf_t (p := EnG rr a d c) ⟨by omega, by omega, hE⟩] at hg
            repeat' ((conv => whnf); first | (refine Dr.quiet tyOk (by kernel_rfl) ?_) | (refine IxA.mk (by omega) ?_) | (refine Blk.ldAA HK hg ?_) | (refine Rng.mk (by omega) ?_) | (refine Split.pos (by omega) ?_) | (refine Split.neg (by omega) ?_) | (refine Split.mk (fun h => ?_) (fun h => ?_)) | (refine Need.mk (by omega) ?_) | (refine Ints.ln (by assumption) ?_) | (refine Mat.ln (by assumption) ?_) | (refine Ints.ln (Mat.row (by assumption) _ (by omega)) ?_) | (refine Ints.ix (by assumption) (by omega) ?_) | (refine Mat.ix (by assumption) (by omega) ?_) | (refine Ints.ix (Mat.row (by assumption) _ (by omega)) (by omega) ?_) | (refine Ints.ix (c := 0) (by assumption) (by omega) ?_) | (refine Mat.ix (c := 0) (by assumption) (by omega) ?_) | (refine Ints.ix (c := 0) (Mat.row (by assumption) _ (by omega)) (by omega) ?_) | (refine Ints.ixI (by assumption) (by omega) ?_) | (refine Mat.ixI (by assumption) (by omega) ?_) | (refine Ints.ixI (Mat.row (by assumption) _ (by omega)) (by omega) ?_) | (refine Ints.ld (by assumption) (by omega) ?_) | (refine Mat.ld (by assumption) (by omega) ?_) | (refine Ints.ld (Mat.row (by assumption) _ (by omega)) (by omega) ?_) | (refine At.ld (by assumption) rfl ?_) | (refine At.ldN (by assumption) rfl ?_) | (refine Prs.ln (by assumption) ?_) | (refine Trs.ln (by assumption) ?_) | (refine Prs.ix (by assumption) (by omega) ?_) | (refine Trs.ix (by assumption) (by omega) ?_) | (refine Prs.ldN (by assumption) (by omega) ?_) | (refine Trs.ldN (by assumption) (by omega) ?_) | (refine At.ldN (Blk.at (by assumption)) rfl ?_) | (refine At.ld (Blk.at (by assumption)) rfl ?_) | (refine IxA.mk (by omega) ?_) | (refine Sl.ln (Own.sl (by assumption)) ?_) | (refine Ints.ix (Own.sl (by assumption)) (by omega) ?_) | (refine Ints.ixI (Own.sl (by assumption)) (by omega) ?_) | (refine Ints.ld (Own.sl (by assumption)) (by omega) ?_))
            refine ⟨_, (by omega : rr.length - (c + 1) < rr.length - c), rfl, c + 1, by omega, rfl, rfl, fun i hi => ?_, rfl⟩
            by_cases e : i = c
            · subst e; exact fun hf => hf d hdl hE
            · exact h1 i (by omega)
          · rw [tf_f (p := EnG rr a d c) (fun h => hE h.2.2)] at hg
            repeat' ((conv => whnf); first | (refine Dr.quiet tyOk (by kernel_rfl) ?_) | (refine IxA.mk (by omega) ?_) | (refine Blk.ldAA HK hg ?_) | (refine Rng.mk (by omega) ?_) | (refine Split.pos (by omega) ?_) | (refine Split.neg (by omega) ?_) | (refine Split.mk (fun h => ?_) (fun h => ?_)) | (refine Need.mk (by omega) ?_) | (refine Ints.ln (by assumption) ?_) | (refine Mat.ln (by assumption) ?_) | (refine Ints.ln (Mat.row (by assumption) _ (by omega)) ?_) | (refine Ints.ix (by assumption) (by omega) ?_) | (refine Mat.ix (by assumption) (by omega) ?_) | (refine Ints.ix (Mat.row (by assumption) _ (by omega)) (by omega) ?_) | (refine Ints.ix (c := 0) (by assumption) (by omega) ?_) | (refine Mat.ix (c := 0) (by assumption) (by omega) ?_) | (refine Ints.ix (c := 0) (Mat.row (by assumption) _ (by omega)) (by omega) ?_) | (refine Ints.ixI (by assumption) (by omega) ?_) | (refine Mat.ixI (by assumption) (by omega) ?_) | (refine Ints.ixI (Mat.row (by assumption) _ (by omega)) (by omega) ?_) | (refine Ints.ld (by assumption) (by omega) ?_) | (refine Mat.ld (by assumption) (by omega) ?_) | (refine Ints.ld (Mat.row (by assumption) _ (by omega)) (by omega) ?_) | (refine At.ld (by assumption) rfl ?_) | (refine At.ldN (by assumption) rfl ?_) | (refine Prs.ln (by assumption) ?_) | (refine Trs.ln (by assumption) ?_) | (refine Prs.ix (by assumption) (by omega) ?_) | (refine Trs.ix (by assumption) (by omega) ?_) | (refine Prs.ldN (by assumption) (by omega) ?_) | (refine Trs.ldN (by assumption) (by omega) ?_) | (refine At.ldN (Blk.at (by assumption)) rfl ?_) | (refine At.ld (Blk.at (by assumption)) rfl ?_) | (refine IxA.mk (by omega) ?_) | (refine Sl.ln (Own.sl (by assumption)) ?_) | (refine Ints.ix (Own.sl (by assumption)) (by omega) ?_) | (refine Ints.ixI (Own.sl (by assumption)) (by omega) ?_) | (refine Ints.ld (Own.sl (by assumption)) (by omega) ?_))
            refine ⟨_, (by omega : rr.length - (d + 1) < rr.length - d), rfl, d + 1, by omega, rfl, rfl, fun k hk => ?_, rfl⟩
            by_cases e : k = d
            · subst e; exact hE
            · exact h2 k (by omega)
        · have hf : fre rr a = (c : Int) := by
            rcases fre_cases rr a with ⟨i, e1, e2, e3, e4⟩ | ⟨e1, e2⟩
            · rcases Nat.lt_trichotomy i c with h | h | h
              · exact absurd e3 (h1 i h)
              · rw [e2, h]
              · exact absurd (fun k hk => h2 k (by omega)) (e4 c h)
            · exact absurd (fun k hk => h2 k (by omega)) (e2 c hcl)
          rw [hf]
          repeat' ((conv => whnf); first | (refine Dr.quiet tyOk (by kernel_rfl) ?_) | (refine Rng.mk (by omega) ?_) | (refine Split.pos (by omega) ?_) | (refine Split.neg (by omega) ?_) | (refine Split.mk (fun h => ?_) (fun h => ?_)) | (refine Need.mk (by omega) ?_) | (refine Ints.ln (by assumption) ?_) | (refine Mat.ln (by assumption) ?_) | (refine Ints.ln (Mat.row (by assumption) _ (by omega)) ?_) | (refine Ints.ix (by assumption) (by omega) ?_) | (refine Mat.ix (by assumption) (by omega) ?_) | (refine Ints.ix (Mat.row (by assumption) _ (by omega)) (by omega) ?_) | (refine Ints.ix (c := 0) (by assumption) (by omega) ?_) | (refine Mat.ix (c := 0) (by assumption) (by omega) ?_) | (refine Ints.ix (c := 0) (Mat.row (by assumption) _ (by omega)) (by omega) ?_) | (refine Ints.ixI (by assumption) (by omega) ?_) | (refine Mat.ixI (by assumption) (by omega) ?_) | (refine Ints.ixI (Mat.row (by assumption) _ (by omega)) (by omega) ?_) | (refine Ints.ld (by assumption) (by omega) ?_) | (refine Mat.ld (by assumption) (by omega) ?_) | (refine Ints.ld (Mat.row (by assumption) _ (by omega)) (by omega) ?_) | (refine At.ld (by assumption) rfl ?_) | (refine At.ldN (by assumption) rfl ?_) | (refine Prs.ln (by assumption) ?_) | (refine Trs.ln (by assumption) ?_) | (refine Prs.ix (by assumption) (by omega) ?_) | (refine Trs.ix (by assumption) (by omega) ?_) | (refine Prs.ldN (by assumption) (by omega) ?_) | (refine Trs.ldN (by assumption) (by omega) ?_) | (refine At.ldN (Blk.at (by assumption)) rfl ?_) | (refine At.ld (Blk.at (by assumption)) rfl ?_) | (refine IxA.mk (by omega) ?_) | (refine Sl.ln (Own.sl (by assumption)) ?_) | (refine Ints.ix (Own.sl (by assumption)) (by omega) ?_) | (refine Ints.ixI (Own.sl (by assumption)) (by omega) ?_) | (refine Ints.ld (Own.sl (by assumption)) (by omega) ?_))
          exact ⟨rfl, EE⟩
    · have hf : fre rr a = -1 := by
        rcases fre_cases rr a with ⟨i, e1, e2, e3, e4⟩ | ⟨e1, e2⟩
        · exact absurd e3 (h1 i (by omega))
        · exact e1
      rw [hf]
      repeat' ((conv => whnf); first | (refine Dr.quiet tyOk (by kernel_rfl) ?_) | (refine Rng.mk (by omega) ?_) | (refine Split.pos (by omega) ?_) | (refine Split.neg (by omega) ?_) | (refine Split.mk (fun h => ?_) (fun h => ?_)) | (refine Need.mk (by omega) ?_) | (refine Ints.ln (by assumption) ?_) | (refine Mat.ln (by assumption) ?_) | (refine Ints.ln (Mat.row (by assumption) _ (by omega)) ?_) | (refine Ints.ix (by assumption) (by omega) ?_) | (refine Mat.ix (by assumption) (by omega) ?_) | (refine Ints.ix (Mat.row (by assumption) _ (by omega)) (by omega) ?_) | (refine Ints.ix (c := 0) (by assumption) (by omega) ?_) | (refine Mat.ix (c := 0) (by assumption) (by omega) ?_) | (refine Ints.ix (c := 0) (Mat.row (by assumption) _ (by omega)) (by omega) ?_) | (refine Ints.ixI (by assumption) (by omega) ?_) | (refine Mat.ixI (by assumption) (by omega) ?_) | (refine Ints.ixI (Mat.row (by assumption) _ (by omega)) (by omega) ?_) | (refine Ints.ld (by assumption) (by omega) ?_) | (refine Mat.ld (by assumption) (by omega) ?_) | (refine Ints.ld (Mat.row (by assumption) _ (by omega)) (by omega) ?_) | (refine At.ld (by assumption) rfl ?_) | (refine At.ldN (by assumption) rfl ?_) | (refine Prs.ln (by assumption) ?_) | (refine Trs.ln (by assumption) ?_) | (refine Prs.ix (by assumption) (by omega) ?_) | (refine Trs.ix (by assumption) (by omega) ?_) | (refine Prs.ldN (by assumption) (by omega) ?_) | (refine Trs.ldN (by assumption) (by omega) ?_) | (refine At.ldN (Blk.at (by assumption)) rfl ?_) | (refine At.ld (Blk.at (by assumption)) rfl ?_) | (refine IxA.mk (by omega) ?_) | (refine Sl.ln (Own.sl (by assumption)) ?_) | (refine Ints.ix (Own.sl (by assumption)) (by omega) ?_) | (refine Ints.ixI (Own.sl (by assumption)) (by omega) ?_) | (refine Ints.ld (Own.sl (by assumption)) (by omega) ?_))
      exact ⟨rfl, EE⟩

theorem idL_snoc (n : Nat) : idL n ++ [(n : Int)] = idL (n + 1) := by unfold idL; rw [List.range_succ, List.map_append]; rfl
theorem pass_rc {w : World} {gv av cv : Value} {vs : List Value} {rr : List (List Int)} {a cc : List Int} (Hg : Mat w gv vs rr) (Ha : Ints w av a) (Hc : Ints w cv cc) (hv : vld rr a = 0) (hags : Ags cc rr.length) :
    RC Try.prog 70 [.agg #[gv], av, cv] w NoB (fun u w' => OB w.heap.size w' u (pas rr.length a cc)) := by
  have hal := al_of_vld hv
  have hn6 := hal.n6
  refine RC.mk tyOk Try.func70 rfl (by kernel_rfl) fun w1 E1 => ?_
  replace Hg := Hg.ext E1
  replace Ha := Ha.ext E1
  replace Hc := Hc.ext E1
  have EE := Ext.refl w1
  refine Bx.agg fun b2 w2 E2 hb2 Hb _ => ?_
  replace Hg := Hg.ext E2
  replace Ha := Ha.ext E2
  replace Hc := Hc.ext E2
  replace EE := EE.ext E2
  have hcl0 := dis_le hags.rng hags.dis
  have hgl := Hg.top.le
  have hz2 : w.heap.size ≤ w2.heap.size := Nat.le_trans E1.size E2.size
  repeat' ((conv => whnf); first | (refine Dr.quiet tyOk (by kernel_rfl) ?_) | (refine Rng.mk (by omega) ?_) | (refine Split.pos (by omega) ?_) | (refine Split.neg (by omega) ?_) | (refine Split.mk (fun h => ?_) (fun h => ?_)) | (refine Need.mk (by omega) ?_) | (refine Ints.ln (by assumption) ?_) | (refine Mat.ln (by assumption) ?_) | (refine Ints.ln (Mat.row (by assumption) _ (by omega)) ?_) | (refine Ints.ix (by assumption) (by omega) ?_) | (refine Mat.ix (by assumption) (by omega) ?_) | (refine Ints.ix (Mat.row (by assumption) _ (by omega)) (by omega) ?_) | (refine Ints.ix (c := 0) (by assumption) (by omega) ?_) | (refine Mat.ix (c := 0) (by assumption) (by omega) ?_) | (refine Ints.ix (c := 0) (Mat.row (by assumption) _ (by omega)) (by omega) ?_) | (refine Ints.ixI (by assumption) (by omega) ?_) | (refine Mat.ixI (by assumption) (by omega) ?_) | (refine Ints.ixI (Mat.row (by assumption) _ (by omega)) (by omega) ?_) | (refine Ints.ld (by assumption) (by omega) ?_) | (refine Mat.ld (by assumption) (by omega) ?_) | (refine Ints.ld (Mat.row (by assumption) _ (by omega)) (by omega) ?_) | (refine At.ld (by assumption) rfl ?_) | (refine At.ldN (by assumption) rfl ?_) | (refine Prs.ln (by assumption) ?_) | (refine Trs.ln (by assumption) ?_) | (refine Prs.ix (by assumption) (by omega) ?_) | (refine Trs.ix (by assumption) (by omega) ?_) | (refine Prs.ldN (by assumption) (by omega) ?_) | (refine Trs.ldN (by assumption) (by omega) ?_) | (refine At.ldN (Blk.at (by assumption)) rfl ?_) | (refine At.ld (Blk.at (by assumption)) rfl ?_) | (refine IxA.mk (by omega) ?_) | (refine Sl.ln (Own.sl (by assumption)) ?_) | (refine Ints.ix (Own.sl (by assumption)) (by omega) ?_) | (refine Ints.ixI (Own.sl (by assumption)) (by omega) ?_) | (refine Ints.ld (Own.sl (by assumption)) (by omega) ?_))
  have Hg__1 := Hg
  have Ha__1 := Ha
  have Hc__1 := Hc
  have EE__1 := EE
  have Hb__1 := Hb
  have EL1 := Ext.refl w2
  have HO0 : OB w2.heap.size w2 (.slice none 0 0) (idL 0) := Own.nil
  refine Lp.mk tyOk [false, false, false, false, false, false, false, true, true, false, false, false, false, false, false, false, true, true, true, true, true, true, true, true] (fun m fr wr => getK fr 16 fun i => getK fr 7 fun ou => ∃ c : Nat, c ≤ rr.length ∧ m = rr.length - c ∧ i = .int .i64 (c : Int) ∧ (OB w2.heap.size wr ou (idL c)) ∧ Ext w2 wr) (rr.length) ?_ ?_
  · exact ⟨0, Nat.zero_le _, rfl, rfl, HO0, EL1⟩
  · intro m w3 u7 u8 u16 u17 u18 u19 u20 u21 u22 u23 hR
    obtain ⟨c, hc, rfl, rfl, HO, EL1⟩ := hR
    replace Hg := Hg__1.ext EL1
    replace Ha := Ha__1.ext EL1
    replace Hc := Hc__1.ext EL1
    replace EE := EE__1.ext EL1
    replace Hb := Hb__1.ext EL1
    have hil := idL_len c
    by_cases hcl : c < rr.length
    · repeat' ((conv => whnf); first | (refine Dr.quiet tyOk (by kernel_rfl) ?_) | (refine Rng.mk (by omega) ?_) | (refine Split.pos (by omega) ?_) | (refine Split.neg (by omega) ?_) | (refine Split.mk (fun h => ?_) (fun h => ?_)) | (refine Need.mk (by omega) ?_) | (refine Ints.ln (by assumption) ?_) | (refine Mat.ln (by assumption) ?_) | (refine Ints.ln (Mat.row (by assumption) _ (by omega)) ?_) | (refine Ints.ix (by assumption) (by omega) ?_) | (refine Mat.ix (by assumption) (by omega) ?_) | (refine Ints.ix (Mat.row (by assumption) _ (by omega)) (by omega) ?_) | (refine Ints.ix (c := 0) (by assumption) (by omega) ?_) | (refine Mat.ix (c := 0) (by assumption) (by omega) ?_) | (refine Ints.ix (c := 0) (Mat.row (by assumption) _ (by omega)) (by omega) ?_) | (refine Ints.ixI (by assumption) (by omega) ?_) | (refine Mat.ixI (by assumption) (by omega) ?_) | (refine Ints.ixI (Mat.row (by assumption) _ (by omega)) (by omega) ?_) | (refine Ints.ld (by assumption) (by omega) ?_) | (refine Mat.ld (by assumption) (by omega) ?_) | (refine Ints.ld (Mat.row (by assumption) _ (by omega)) (by omega) ?_) | (refine At.ld (by assumption) rfl ?_) | (refine At.ldN (by assumption) rfl ?_) | (refine Prs.ln (by assumption) ?_) | (refine Trs.ln (by assumption) ?_) | (refine Prs.ix (by assumption) (by omega) ?_) | (refine Trs.ix (by assumption) (by omega) ?_) | (refine Prs.ldN (by assumption) (by omega) ?_) | (refine Trs.ldN (by assumption) (by omega) ?_) | (refine At.ldN (Blk.at (by assumption)) rfl ?_) | (refine At.ld (Blk.at (by assumption)) rfl ?_) | (refine IxA.mk (by omega) ?_) | (refine Sl.ln (Own.sl (by assumption)) ?_) | (refine Ints.ix (Own.sl (by assumption)) (by omega) ?_) | (refine Ints.ixI (Own.sl (by assumption)) (by omega) ?_) | (refine Ints.ld (Own.sl (by assumption)) (by omega) ?_))
      refine VE.lit1 Try.underlying25 eInt (rfl) fun lv w4 E4 Hl => ?_
      replace Hg := Hg.ext E4
      replace Ha := Ha.ext E4
      replace Hc := Hc.ext E4
      replace EE := EE.ext E4
      replace Hb := Hb.ext E4
      replace EL1 := EL1.ext E4
      replace HO := HO.ext E4
      conv => whnf
      refine VE.app Try.underlying25 eInt rfl (by omega) HO EL1 rfl Hl (by simp [Value.oneCell']) (by first | omega | (simp only [List.length_map, List.length_range]; omega) | (simp; omega)) (by first | omega | (simp only [List.length_map, List.length_range]; omega) | (simp; omega)) fun v8 w5 E5 G5 H8 => ?_
      replace Hg := Hg__1.ext E5
      replace Ha := Ha__1.ext E5
      replace Hc := Hc__1.ext E5
      replace EE := EE__1.ext E5
      replace Hb := Hb__1.ext E5
      replace EL1 := E5
      repeat' ((conv => whnf); first | (refine Dr.quiet tyOk (by kernel_rfl) ?_) | (refine Rng.mk (by omega) ?_) | (refine Split.pos (by omega) ?_) | (refine Split.neg (by omega) ?_) | (refine Split.mk (fun h => ?_) (fun h => ?_)) | (refine Need.mk (by omega) ?_) | (refine Ints.ln (by assumption) ?_) | (refine Mat.ln (by assumption) ?_) | (refine Ints.ln (Mat.row (by assumption) _ (by omega)) ?_) | (refine Ints.ix (by assumption) (by omega) ?_) | (refine Mat.ix (by assumption) (by omega) ?_) | (refine Ints.ix (Mat.row (by assumption) _ (by omega)) (by omega) ?_) | (refine Ints.ix (c := 0) (by assumption) (by omega) ?_) | (refine Mat.ix (c := 0) (by assumption) (by omega) ?_) | (refine Ints.ix (c := 0) (Mat.row (by assumption) _ (by omega)) (by omega) ?_) | (refine Ints.ixI (by assumption) (by omega) ?_) | (refine Mat.ixI (by assumption) (by omega) ?_) | (refine Ints.ixI (Mat.row (by assumption) _ (by omega)) (by omega) ?_) | (refine Ints.ld (by assumption) (by omega) ?_) | (refine Mat.ld (by assumption) (by omega) ?_) | (refine Ints.ld (Mat.row (by assumption) _ (by omega)) (by omega) ?_) | (refine At.ld (by assumption) rfl ?_) | (refine At.ldN (by assumption) rfl ?_) | (refine Prs.ln (by assumption) ?_) | (refine Trs.ln (by assumption) ?_) | (refine Prs.ix (by assumption) (by omega) ?_) | (refine Trs.ix (by assumption) (by omega) ?_) | (refine Prs.ldN (by assumption) (by omega) ?_) | (refine Trs.ldN (by assumption) (by omega) ?_) | (refine At.ldN (Blk.at (by assumption)) rfl ?_) | (refine At.ld (Blk.at (by assumption)) rfl ?_) | (refine IxA.mk (by omega) ?_) | (refine Sl.ln (Own.sl (by assumption)) ?_) | (refine Ints.ix (Own.sl (by assumption)) (by omega) ?_) | (refine Ints.ixI (Own.sl (by assumption)) (by omega) ?_) | (refine Ints.ld (Own.sl (by assumption)) (by omega) ?_))
      refine ⟨_, (by omega : rr.length - (c + 1) < rr.length - c), rfl, c + 1, by omega, rfl, rfl, (by rw [← idL_snoc]; show Go.Eng.Own _ _ _ _ _ (idL c ++ [(c : Int)]).length ((idL c ++ [(c : Int)]).map i64v); rw [List.length_append, List.map_append]; exact H8), EL1⟩
    · obtain rfl : c = rr.length := by omega
      repeat' ((conv => whnf); first | (refine Dr.quiet tyOk (by kernel_rfl) ?_) | (refine Rng.mk (by omega) ?_) | (refine Split.pos (by omega) ?_) | (refine Split.neg (by omega) ?_) | (refine Split.mk (fun h => ?_) (fun h => ?_)) | (refine Need.mk (by omega) ?_) | (refine Ints.ln (by assumption) ?_) | (refine Mat.ln (by assumption) ?_) | (refine Ints.ln (Mat.row (by assumption) _ (by omega)) ?_) | (refine Ints.ix (by assumption) (by omega) ?_) | (refine Mat.ix (by assumption) (by omega) ?_) | (refine Ints.ix (Mat.row (by assumption) _ (by omega)) (by omega) ?_) | (refine Ints.ix (c := 0) (by assumption) (by omega) ?_) | (refine Mat.ix (c := 0) (by assumption) (by omega) ?_) | (refine Ints.ix (c := 0) (Mat.row (by assumption) _ (by omega)) (by omega) ?_) | (refine Ints.ixI (by assumption) (by omega) ?_) | (refine Mat.ixI (by assumption) (by omega) ?_) | (refine Ints.ixI (Mat.row (by assumption) _ (by omega)) (by omega) ?_) | (refine Ints.ld (by assumption) (by omega) ?_) | (refine Mat.ld (by assumption) (by omega) ?_) | (refine Ints.ld (Mat.row (by assumption) _ (by omega)) (by omega) ?_) | (refine At.ld (by assumption) rfl ?_) | (refine At.ldN (by assumption) rfl ?_) | (refine Prs.ln (by assumption) ?_) | (refine Trs.ln (by assumption) ?_) | (refine Prs.ix (by assumption) (by omega) ?_) | (refine Trs.ix (by assumption) (by omega) ?_) | (refine Prs.ldN (by assumption) (by omega) ?_) | (refine Trs.ldN (by assumption) (by omega) ?_) | (refine At.ldN (Blk.at (by assumption)) rfl ?_) | (refine At.ld (Blk.at (by assumption)) rfl ?_) | (refine IxA.mk (by omega) ?_) | (refine Sl.ln (Own.sl (by assumption)) ?_) | (refine Ints.ix (Own.sl (by assumption)) (by omega) ?_) | (refine Ints.ixI (Own.sl (by assumption)) (by omega) ?_) | (refine Ints.ld (Own.sl (by assumption)) (by omega) ?_))
      refine Lp.mk tyOk [false, false, false, false, false, false, false, false, false, true, true, false, false, false, false, false, false, false, false, false, false, false, false, false, false, false, true, true, true, true, true, true, true, true, true, true, true, true, true, true, true, true, true] (fun m fr wr => getK fr 26 fun i => ∃ d : Nat, d ≤ cc.length ∧ m = cc.length - d ∧ i = .int .i64 (d : Int) ∧ (OB w2.heap.size wr u7 (ordTo cc rr.length d)) ∧ Ext w2 wr) (cc.length) ?_ ?_
      · exact ⟨0, Nat.zero_le _, rfl, rfl, HO, EL1⟩
      · intro m w6 u9 u10 u26 u27 u28 u29 u30 u31 u32 u33 u34 u35 u36 u37 u38 u39 u40 u41 u42 hR
        obtain ⟨d, hd, rfl, rfl, HP, EL1⟩ := hR
        replace Hg := Hg__1.ext EL1
        replace Ha := Ha__1.ext EL1
        replace Hc := Hc__1.ext EL1
        replace EE := EE__1.ext EL1
        replace Hb := Hb__1.ext EL1
        have hol := ordTo_len cc rr.length d
        by_cases hdl : d < cc.length
        · have hr := hags.rng d hdl
          have hml : (d + 1) % cc.length < cc.length := Nat.mod_lt _ (by omega)
          have e0 : ((d : Int) + 1) % (cc.length : Int) = (((d + 1) % cc.length : Nat) : Int) := by rw [Int.natCast_emod]; rfl
          have em : (((d : Int) + 1) % (cc.length : Int)).toNat = (d + 1) % cc.length := by rw [e0, Int.toNat_natCast]
          obtain ⟨y, hy⟩ : ∃ y, cc.getD ((d + 1) % cc.length) 0 = y := ⟨_, rfl⟩
          have hlt : 0 ≤ ((d : Int) + 1) % (cc.length : Int) ∧ ((d : Int) + 1) % (cc.length : Int) < cc.length := by rw [e0]; exact ⟨Int.natCast_nonneg _, Int.ofNat_lt.2 hml⟩
          repeat' ((conv => whnf); first | (refine Dr.quiet tyOk (by kernel_rfl) ?_) | (refine Ints.ixI (Own.sl HP) (by omega) ?_) | (refine Ints.ixI Hc hlt ?_) | (refine Ints.ldq Hc (by rw [em]; exact hy) (by omega) ?_) | (refine Rng.mk (by omega) ?_) | (refine Split.pos (by omega) ?_) | (refine Split.neg (by omega) ?_) | (refine Split.mk (fun h => ?_) (fun h => ?_)) | (refine Need.mk (by omega) ?_) | (refine Ints.ln (by assumption) ?_) | (refine Mat.ln (by assumption) ?_) | (refine Ints.ln (Mat.row (by assumption) _ (by omega)) ?_) | (refine Ints.ix (by assumption) (by omega) ?_) | (refine Mat.ix (by assumption) (by omega) ?_) | (refine Ints.ix (Mat.row (by assumption) _ (by omega)) (by omega) ?_) | (refine Ints.ix (c := 0) (by assumption) (by omega) ?_) | (refine Mat.ix (c := 0) (by assumption) (by omega) ?_) | (refine Ints.ix (c := 0) (Mat.row (by assumption) _ (by omega)) (by omega) ?_) | (refine Ints.ixI (by assumption) (by omega) ?_) | (refine Mat.ixI (by assumption) (by omega) ?_) | (refine Ints.ixI (Mat.row (by assumption) _ (by omega)) (by omega) ?_) | (refine Ints.ld (by assumption) (by omega) ?_) | (refine Mat.ld (by assumption) (by omega) ?_) | (refine Ints.ld (Mat.row (by assumption) _ (by omega)) (by omega) ?_) | (refine At.ld (by assumption) rfl ?_) | (refine At.ldN (by assumption) rfl ?_) | (refine Prs.ln (by assumption) ?_) | (refine Trs.ln (by assumption) ?_) | (refine Prs.ix (by assumption) (by omega) ?_) | (refine Trs.ix (by assumption) (by omega) ?_) | (refine Prs.ldN (by assumption) (by omega) ?_) | (refine Trs.ldN (by assumption) (by omega) ?_) | (refine At.ldN (Blk.at (by assumption)) rfl ?_) | (refine At.ld (Blk.at (by assumption)) rfl ?_) | (refine IxA.mk (by omega) ?_) | (refine Sl.ln (Own.sl (by assumption)) ?_) | (refine Ints.ix (Own.sl (by assumption)) (by omega) ?_) | (refine Ints.ixI (Own.sl (by assumption)) (by omega) ?_) | (refine Ints.ld (Own.sl (by assumption)) (by omega) ?_))
          refine OB.set HP (by omega) fun w9 G9 HP9 => ?_
          have F9 := Own.keep HP EL1 (Nat.le_refl _) G9
          repeat' ((conv => whnf); first | (refine Dr.quiet tyOk (by kernel_rfl) ?_) | (refine Rng.mk (by omega) ?_) | (refine Split.pos (by omega) ?_) | (refine Split.neg (by omega) ?_) | (refine Split.mk (fun h => ?_) (fun h => ?_)) | (refine Need.mk (by omega) ?_) | (refine Ints.ln (by assumption) ?_) | (refine Mat.ln (by assumption) ?_) | (refine Ints.ln (Mat.row (by assumption) _ (by omega)) ?_) | (refine Ints.ix (by assumption) (by omega) ?_) | (refine Mat.ix (by assumption) (by omega) ?_) | (refine Ints.ix (Mat.row (by assumption) _ (by omega)) (by omega) ?_) | (refine Ints.ix (c := 0) (by assumption) (by omega) ?_) | (refine Mat.ix (c := 0) (by assumption) (by omega) ?_) | (refine Ints.ix (c := 0) (Mat.row (by assumption) _ (by omega)) (by omega) ?_) | (refine Ints.ixI (by assumption) (by omega) ?_) | (refine Mat.ixI (by assumption) (by omega) ?_) | (refine Ints.ixI (Mat.row (by assumption) _ (by omega)) (by omega) ?_) | (refine Ints.ld (by assumption) (by omega) ?_) | (refine Mat.ld (by assumption) (by omega) ?_) | (refine Ints.ld (Mat.row (by assumption) _ (by omega)) (by omega) ?_) | (refine At.ld (by assumption) rfl ?_) | (refine At.ldN (by assumption) rfl ?_) | (refine Prs.ln (by assumption) ?_) | (refine Trs.ln (by assumption) ?_) | (refine Prs.ix (by assumption) (by omega) ?_) | (refine Trs.ix (by assumption) (by omega) ?_) | (refine Prs.ldN (by assumption) (by omega) ?_) | (refine Trs.ldN (by assumption) (by omega) ?_) | (refine At.ldN (Blk.at (by assumption)) rfl ?_) | (refine At.ld (Blk.at (by assumption)) rfl ?_) | (refine IxA.mk (by omega) ?_) | (refine Sl.ln (Own.sl (by assumption)) ?_) | (refine Ints.ix (Own.sl (by assumption)) (by omega) ?_) | (refine Ints.ixI (Own.sl (by assumption)) (by omega) ?_) | (refine Ints.ld (Own.sl (by assumption)) (by omega) ?_))
          refine ⟨_, (by omega : cc.length - (d + 1) < cc.length - d), rfl, d + 1, by omega, rfl, rfl, (by rw [em] at HP9; exact HP9), F9⟩
        · obtain rfl : d = cc.length := by omega
          have HPI : Ints w6 u7 (ordL cc rr.length) := Own.sl HP
          repeat' ((conv => whnf); first | (refine Dr.quiet tyOk (by kernel_rfl) ?_) | (refine Rng.mk (by omega) ?_) | (refine Split.pos (by omega) ?_) | (refine Split.neg (by omega) ?_) | (refine Split.mk (fun h => ?_) (fun h => ?_)) | (refine Need.mk (by omega) ?_) | (refine Ints.ln (by assumption) ?_) | (refine Mat.ln (by assumption) ?_) | (refine Ints.ln (Mat.row (by assumption) _ (by omega)) ?_) | (refine Ints.ix (by assumption) (by omega) ?_) | (refine Mat.ix (by assumption) (by omega) ?_) | (refine Ints.ix (Mat.row (by assumption) _ (by omega)) (by omega) ?_) | (refine Ints.ix (c := 0) (by assumption) (by omega) ?_) | (refine Mat.ix (c := 0) (by assumption) (by omega) ?_) | (refine Ints.ix (c := 0) (Mat.row (by assumption) _ (by omega)) (by omega) ?_) | (refine Ints.ixI (by assumption) (by omega) ?_) | (refine Mat.ixI (by assumption) (by omega) ?_) | (refine Ints.ixI (Mat.row (by assumption) _ (by omega)) (by omega) ?_) | (refine Ints.ld (by assumption) (by omega) ?_) | (refine Mat.ld (by assumption) (by omega) ?_) | (refine Ints.ld (Mat.row (by assumption) _ (by omega)) (by omega) ?_) | (refine At.ld (by assumption) rfl ?_) | (refine At.ldN (by assumption) rfl ?_) | (refine Prs.ln (by assumption) ?_) | (refine Trs.ln (by assumption) ?_) | (refine Prs.ix (by assumption) (by omega) ?_) | (refine Trs.ix (by assumption) (by omega) ?_) | (refine Prs.ldN (by assumption) (by omega) ?_) | (refine Trs.ldN (by assumption) (by omega) ?_) | (refine At.ldN (Blk.at (by assumption)) rfl ?_) | (refine At.ld (Blk.at (by assumption)) rfl ?_) | (refine IxA.mk (by omega) ?_) | (refine Sl.ln (Own.sl (by assumption)) ?_) | (refine Ints.ix (Own.sl (by assumption)) (by omega) ?_) | (refine Ints.ixI (Own.sl (by assumption)) (by omega) ?_) | (refine Ints.ld (Own.sl (by assumption)) (by omega) ?_))
          have hs0 := EL1.size
          conv => whnf
          refine VC.rc (gpass_rc Hg Ha HPI) ?_
          rintro _ w7 E7 ⟨pv, rfl, HR⟩
          replace Hg := Hg.ext E7
          replace Ha := Ha.ext E7
          replace Hc := Hc.ext E7
          replace EE := EE.ext E7
          replace Hb := Hb.ext E7
          replace EL1 := EL1.ext E7
          replace HP := HP.ext E7
          rw [passR, if_pos ⟨hv, ordL_asg hags⟩] at HR
          repeat' ((conv => whnf); first | (refine Dr.quiet tyOk (by kernel_rfl) ?_) | (refine Rng.mk (by omega) ?_) | (refine Split.pos (by omega) ?_) | (refine Split.neg (by omega) ?_) | (refine Split.mk (fun h => ?_) (fun h => ?_)) | (refine Need.mk (by omega) ?_) | (refine Ints.ln (by assumption) ?_) | (refine Mat.ln (by assumption) ?_) | (refine Ints.ln (Mat.row (by assumption) _ (by omega)) ?_) | (refine Ints.ix (by assumption) (by omega) ?_) | (refine Mat.ix (by assumption) (by omega) ?_) | (refine Ints.ix (Mat.row (by assumption) _ (by omega)) (by omega) ?_) | (refine Ints.ix (c := 0) (by assumption) (by omega) ?_) | (refine Mat.ix (c := 0) (by assumption) (by omega) ?_) | (refine Ints.ix (c := 0) (Mat.row (by assumption) _ (by omega)) (by omega) ?_) | (refine Ints.ixI (by assumption) (by omega) ?_) | (refine Mat.ixI (by assumption) (by omega) ?_) | (refine Ints.ixI (Mat.row (by assumption) _ (by omega)) (by omega) ?_) | (refine Ints.ld (by assumption) (by omega) ?_) | (refine Mat.ld (by assumption) (by omega) ?_) | (refine Ints.ld (Mat.row (by assumption) _ (by omega)) (by omega) ?_) | (refine At.ld (by assumption) rfl ?_) | (refine At.ldN (by assumption) rfl ?_) | (refine Prs.ln (by assumption) ?_) | (refine Trs.ln (by assumption) ?_) | (refine Prs.ix (by assumption) (by omega) ?_) | (refine Trs.ix (by assumption) (by omega) ?_) | (refine Prs.ldN (by assumption) (by omega) ?_) | (refine Trs.ldN (by assumption) (by omega) ?_) | (refine At.ldN (Blk.at (by assumption)) rfl ?_) | (refine At.ld (Blk.at (by assumption)) rfl ?_) | (refine IxA.mk (by omega) ?_) | (refine Sl.ln (Own.sl (by assumption)) ?_) | (refine Ints.ix (Own.sl (by assumption)) (by omega) ?_) | (refine Ints.ixI (Own.sl (by assumption)) (by omega) ?_) | (refine Ints.ld (Own.sl (by assumption)) (by omega) ?_))
          exact ⟨EE, Own.base HR (Nat.le_trans hz2 hs0)⟩

theorem Circle_rc {w : World} {gv av : Value} {vs : List Value} {rr : List (List Int)} {a : List Int} (Hg : Mat w gv vs rr) (Ha : Ints w av a) :
    RC Try.prog 48 [.agg #[gv], av] w NoB (fun u w' => ∃ v, u = .tuple #[v, .int .i64 (vld rr a)] ∧ (vld rr a = 0 → CiR rr a w' v) ∧ (vld rr a ≠ 0 → v = .slice none 0 0)) := by
  refine RC.mk tyOk Try.func48 rfl (by kernel_rfl) fun w1 E1 => ?_
  replace Hg := Hg.ext E1
  replace Ha := Ha.ext E1
  have EE := Ext.refl w1
  refine Bx.agg fun b2 w2 E2 hb2 Hb _ => ?_
  replace Hg := Hg.ext E2
  replace Ha := Ha.ext E2
  replace EE := EE.ext E2
  have c1 := gvalid_pc Hg Ha
  by_cases hv : vld rr a = 0
  · have hal := al_of_vld hv
    have hn6 := hal.n6
    rw [hv] at c1 ⊢
    have c2 := envy_pc Hg Ha hv
    repeat' ((conv => whnf); first | (refine Dr.quiet tyOk (by kernel_rfl) ?_) | (refine VC.pure c1 ?_) | (refine VC.pure c2 ?_) | (refine Rng.mk (by omega) ?_) | (refine Split.pos (by omega) ?_) | (refine Split.neg (by omega) ?_) | (refine Split.mk (fun h => ?_) (fun h => ?_)) | (refine Need.mk (by omega) ?_) | (refine Ints.ln (by assumption) ?_) | (refine Mat.ln (by assumption) ?_) | (refine Ints.ln (Mat.row (by assumption) _ (by omega)) ?_) | (refine Ints.ix (by assumption) (by omega) ?_) | (refine Mat.ix (by assumption) (by omega) ?_) | (refine Ints.ix (Mat.row (by assumption) _ (by omega)) (by omega) ?_) | (refine Ints.ix (c := 0) (by assumption) (by omega) ?_) | (refine Mat.ix (c := 0) (by assumption) (by omega) ?_) | (refine Ints.ix (c := 0) (Mat.row (by assumption) _ (by omega)) (by omega) ?_) | (refine Ints.ixI (by assumption) (by omega) ?_) | (refine Mat.ixI (by assumption) (by omega) ?_) | (refine Ints.ixI (Mat.row (by assumption) _ (by omega)) (by omega) ?_) | (refine Ints.ld (by assumption) (by omega) ?_) | (refine Mat.ld (by assumption) (by omega) ?_) | (refine Ints.ld (Mat.row (by assumption) _ (by omega)) (by omega) ?_) | (refine At.ld (by assumption) rfl ?_) | (refine At.ldN (by assumption) rfl ?_) | (refine Prs.ln (by assumption) ?_) | (refine Trs.ln (by assumption) ?_) | (refine Prs.ix (by assumption) (by omega) ?_) | (refine Trs.ix (by assumption) (by omega) ?_) | (refine Prs.ldN (by assumption) (by omega) ?_) | (refine Trs.ldN (by assumption) (by omega) ?_) | (refine At.ldN (Blk.at (by assumption)) rfl ?_) | (refine At.ld (Blk.at (by assumption)) rfl ?_) | (refine IxA.mk (by omega) ?_) | (refine Sl.ln (Own.sl (by assumption)) ?_) | (refine Ints.ix (Own.sl (by assumption)) (by omega) ?_) | (refine Ints.ixI (Own.sl (by assumption)) (by omega) ?_) | (refine Ints.ld (Own.sl (by assumption)) (by omega) ?_))
    conv => whnf
    refine VC.rc (circle_rc hn6) ?_
    rintro _ w3 E3 HR
    replace Hg := Hg.ext E3
    replace Ha := Ha.ext E3
    replace EE := EE.ext E3
    replace Hb := Hb.ext E3
    repeat' ((conv => whnf); first | (refine Dr.quiet tyOk (by kernel_rfl) ?_) | (refine Rng.mk (by omega) ?_) | (refine Split.pos (by omega) ?_) | (refine Split.neg (by omega) ?_) | (refine Split.mk (fun h => ?_) (fun h => ?_)) | (refine Need.mk (by omega) ?_) | (refine Ints.ln (by assumption) ?_) | (refine Mat.ln (by assumption) ?_) | (refine Ints.ln (Mat.row (by assumption) _ (by omega)) ?_) | (refine Ints.ix (by assumption) (by omega) ?_) | (refine Mat.ix (by assumption) (by omega) ?_) | (refine Ints.ix (Mat.row (by assumption) _ (by omega)) (by omega) ?_) | (refine Ints.ix (c := 0) (by assumption) (by omega) ?_) | (refine Mat.ix (c := 0) (by assumption) (by omega) ?_) | (refine Ints.ix (c := 0) (Mat.row (by assumption) _ (by omega)) (by omega) ?_) | (refine Ints.ixI (by assumption) (by omega) ?_) | (refine Mat.ixI (by assumption) (by omega) ?_) | (refine Ints.ixI (Mat.row (by assumption) _ (by omega)) (by omega) ?_) | (refine Ints.ld (by assumption) (by omega) ?_) | (refine Mat.ld (by assumption) (by omega) ?_) | (refine Ints.ld (Mat.row (by assumption) _ (by omega)) (by omega) ?_) | (refine At.ld (by assumption) rfl ?_) | (refine At.ldN (by assumption) rfl ?_) | (refine Prs.ln (by assumption) ?_) | (refine Trs.ln (by assumption) ?_) | (refine Prs.ix (by assumption) (by omega) ?_) | (refine Trs.ix (by assumption) (by omega) ?_) | (refine Prs.ldN (by assumption) (by omega) ?_) | (refine Trs.ldN (by assumption) (by omega) ?_) | (refine At.ldN (Blk.at (by assumption)) rfl ?_) | (refine At.ld (Blk.at (by assumption)) rfl ?_) | (refine IxA.mk (by omega) ?_) | (refine Sl.ln (Own.sl (by assumption)) ?_) | (refine Ints.ix (Own.sl (by assumption)) (by omega) ?_) | (refine Ints.ixI (Own.sl (by assumption)) (by omega) ?_) | (refine Ints.ld (Own.sl (by assumption)) (by omega) ?_))
    exact ⟨EE, _, rfl, fun _ => HR, fun h => absurd rfl h⟩
  · repeat' ((conv => whnf); first | (refine Dr.quiet tyOk (by kernel_rfl) ?_) | (refine VC.pure c1 ?_) | (refine Rng.mk (by omega) ?_) | (refine Split.pos (by omega) ?_) | (refine Split.neg (by omega) ?_) | (refine Split.mk (fun h => ?_) (fun h => ?_)) | (refine Need.mk (by omega) ?_) | (refine Ints.ln (by assumption) ?_) | (refine Mat.ln (by assumption) ?_) | (refine Ints.ln (Mat.row (by assumption) _ (by omega)) ?_) | (refine Ints.ix (by assumption) (by omega) ?_) | (refine Mat.ix (by assumption) (by omega) ?_) | (refine Ints.ix (Mat.row (by assumption) _ (by omega)) (by omega) ?_) | (refine Ints.ix (c := 0) (by assumption) (by omega) ?_) | (refine Mat.ix (c := 0) (by assumption) (by omega) ?_) | (refine Ints.ix (c := 0) (Mat.row (by assumption) _ (by omega)) (by omega) ?_) | (refine Ints.ixI (by assumption) (by omega) ?_) | (refine Mat.ixI (by assumption) (by omega) ?_) | (refine Ints.ixI (Mat.row (by assumption) _ (by omega)) (by omega) ?_) | (refine Ints.ld (by assumption) (by omega) ?_) | (refine Mat.ld (by assumption) (by omega) ?_) | (refine Ints.ld (Mat.row (by assumption) _ (by omega)) (by omega) ?_) | (refine At.ld (by assumption) rfl ?_) | (refine At.ldN (by assumption) rfl ?_) | (refine Prs.ln (by assumption) ?_) | (refine Trs.ln (by assumption) ?_) | (refine Prs.ix (by assumption) (by omega) ?_) | (refine Trs.ix (by assumption) (by omega) ?_) | (refine Prs.ldN (by assumption) (by omega) ?_) | (refine Trs.ldN (by assumption) (by omega) ?_) | (refine At.ldN (Blk.at (by assumption)) rfl ?_) | (refine At.ld (Blk.at (by assumption)) rfl ?_) | (refine IxA.mk (by omega) ?_) | (refine Sl.ln (Own.sl (by assumption)) ?_) | (refine Ints.ix (Own.sl (by assumption)) (by omega) ?_) | (refine Ints.ixI (Own.sl (by assumption)) (by omega) ?_) | (refine Ints.ld (Own.sl (by assumption)) (by omega) ?_))
    exact ⟨EE, _, rfl, fun h => absurd h hv, fun _ => rfl⟩
theorem Undo_rc {w : World} {gv av : Value} {vs : List Value} {rr : List (List Int)} {a : List Int} (Hg : Mat w gv vs rr) (Ha : Ints w av a) :
    RC Try.prog 50 [.agg #[gv], av] w NoB (fun u w' => ∃ v, u = .tuple #[v, .int .i64 (vld rr a)] ∧ (vld rr a = 0 → ∃ b, Und rr a b ∧ OI w' v b) ∧ (vld rr a ≠ 0 → v = .slice none 0 0)) := by
  refine RC.mk tyOk Try.func50 rfl (by kernel_rfl) fun w1 E1 => ?_
  replace Hg := Hg.ext E1
  replace Ha := Ha.ext E1
  have EE := Ext.refl w1
  refine Bx.agg fun b2 w2 E2 hb2 Hb _ => ?_
  replace Hg := Hg.ext E2
  replace Ha := Ha.ext E2
  replace EE := EE.ext E2
  have c1 := gvalid_pc Hg Ha
  by_cases hv : vld rr a = 0
  · have hal := al_of_vld hv
    have hm10 := hal.m10
    have hn1 := hal.n1
    have hn6 := hal.n6
    have hlen := hal.len
    rw [hv] at c1 ⊢
    repeat' ((conv => whnf); first | (refine Dr.quiet tyOk (by kernel_rfl) ?_) | (refine VC.pure c1 ?_) | (refine Rng.mk (by omega) ?_) | (refine Split.pos (by omega) ?_) | (refine Split.neg (by omega) ?_) | (refine Split.mk (fun h => ?_) (fun h => ?_)) | (refine Need.mk (by omega) ?_) | (refine Ints.ln (by assumption) ?_) | (refine Mat.ln (by assumption) ?_) | (refine Ints.ln (Mat.row (by assumption) _ (by omega)) ?_) | (refine Ints.ix (by assumption) (by omega) ?_) | (refine Mat.ix (by assumption) (by omega) ?_) | (refine Ints.ix (Mat.row (by assumption) _ (by omega)) (by omega) ?_) | (refine Ints.ix (c := 0) (by assumption) (by omega) ?_) | (refine Mat.ix (c := 0) (by assumption) (by omega) ?_) | (refine Ints.ix (c := 0) (Mat.row (by assumption) _ (by omega)) (by omega) ?_) | (refine Ints.ixI (by assumption) (by omega) ?_) | (refine Mat.ixI (by assumption) (by omega) ?_) | (refine Ints.ixI (Mat.row (by assumption) _ (by omega)) (by omega) ?_) | (refine Ints.ld (by assumption) (by omega) ?_) | (refine Mat.ld (by assumption) (by omega) ?_) | (refine Ints.ld (Mat.row (by assumption) _ (by omega)) (by omega) ?_) | (refine At.ld (by assumption) rfl ?_) | (refine At.ldN (by assumption) rfl ?_) | (refine Prs.ln (by assumption) ?_) | (refine Trs.ln (by assumption) ?_) | (refine Prs.ix (by assumption) (by omega) ?_) | (refine Trs.ix (by assumption) (by omega) ?_) | (refine Prs.ldN (by assumption) (by omega) ?_) | (refine Trs.ldN (by assumption) (by omega) ?_) | (refine At.ldN (Blk.at (by assumption)) rfl ?_) | (refine At.ld (Blk.at (by assumption)) rfl ?_) | (refine IxA.mk (by omega) ?_) | (refine Sl.ln (Own.sl (by assumption)) ?_) | (refine Ints.ix (Own.sl (by assumption)) (by omega) ?_) | (refine Ints.ixI (Own.sl (by assumption)) (by omega) ?_) | (refine Ints.ld (Own.sl (by assumption)) (by omega) ?_))
    conv => whnf
    refine VC.rc (clone_rc Ha (by omega)) ?_
    rintro _ w3 E3 ⟨HC, _⟩
    replace Hg := Hg.ext E3
    replace Ha := Ha.ext E3
    replace EE := EE.ext E3
    replace Hb := Hb.ext E3
    repeat' ((conv => whnf); first | (refine Dr.quiet tyOk (by kernel_rfl) ?_) | (refine Rng.mk (by omega) ?_) | (refine Split.pos (by omega) ?_) | (refine Split.neg (by omega) ?_) | (refine Split.mk (fun h => ?_) (fun h => ?_)) | (refine Need.mk (by omega) ?_) | (refine Ints.ln (by assumption) ?_) | (refine Mat.ln (by assumption) ?_) | (refine Ints.ln (Mat.row (by assumption) _ (by omega)) ?_) | (refine Ints.ix (by assumption) (by omega) ?_) | (refine Mat.ix (by assumption) (by omega) ?_) | (refine Ints.ix (Mat.row (by assumption) _ (by omega)) (by omega) ?_) | (refine Ints.ix (c := 0) (by assumption) (by omega) ?_) | (refine Mat.ix (c := 0) (by assumption) (by omega) ?_) | (refine Ints.ix (c := 0) (Mat.row (by assumption) _ (by omega)) (by omega) ?_) | (refine Ints.ixI (by assumption) (by omega) ?_) | (refine Mat.ixI (by assumption) (by omega) ?_) | (refine Ints.ixI (Mat.row (by assumption) _ (by omega)) (by omega) ?_) | (refine Ints.ld (by assumption) (by omega) ?_) | (refine Mat.ld (by assumption) (by omega) ?_) | (refine Ints.ld (Mat.row (by assumption) _ (by omega)) (by omega) ?_) | (refine At.ld (by assumption) rfl ?_) | (refine At.ldN (by assumption) rfl ?_) | (refine Prs.ln (by assumption) ?_) | (refine Trs.ln (by assumption) ?_) | (refine Prs.ix (by assumption) (by omega) ?_) | (refine Trs.ix (by assumption) (by omega) ?_) | (refine Prs.ldN (by assumption) (by omega) ?_) | (refine Trs.ldN (by assumption) (by omega) ?_) | (refine At.ldN (Blk.at (by assumption)) rfl ?_) | (refine At.ld (Blk.at (by assumption)) rfl ?_) | (refine IxA.mk (by omega) ?_) | (refine Sl.ln (Own.sl (by assumption)) ?_) | (refine Ints.ix (Own.sl (by assumption)) (by omega) ?_) | (refine Ints.ixI (Own.sl (by assumption)) (by omega) ?_) | (refine Ints.ld (Own.sl (by assumption)) (by omega) ?_))
    have c2 := envy_pc Hg (Own.sl HC) hv
    have hp0 := (pot_bd hv).1
    repeat' ((conv => whnf); first | (refine Dr.quiet tyOk (by kernel_rfl) ?_) | (refine VC.pure c2 ?_) | (refine Rng.mk (by omega) ?_) | (refine Split.pos (by omega) ?_) | (refine Split.neg (by omega) ?_) | (refine Split.mk (fun h => ?_) (fun h => ?_)) | (refine Need.mk (by omega) ?_) | (refine Ints.ln (by assumption) ?_) | (refine Mat.ln (by assumption) ?_) | (refine Ints.ln (Mat.row (by assumption) _ (by omega)) ?_) | (refine Ints.ix (by assumption) (by omega) ?_) | (refine Mat.ix (by assumption) (by omega) ?_) | (refine Ints.ix (Mat.row (by assumption) _ (by omega)) (by omega) ?_) | (refine Ints.ix (c := 0) (by assumption) (by omega) ?_) | (refine Mat.ix (c := 0) (by assumption) (by omega) ?_) | (refine Ints.ix (c := 0) (Mat.row (by assumption) _ (by omega)) (by omega) ?_) | (refine Ints.ixI (by assumption) (by omega) ?_) | (refine Mat.ixI (by assumption) (by omega) ?_) | (refine Ints.ixI (Mat.row (by assumption) _ (by omega)) (by omega) ?_) | (refine Ints.ld (by assumption) (by omega) ?_) | (refine Mat.ld (by assumption) (by omega) ?_) | (refine Ints.ld (Mat.row (by assumption) _ (by omega)) (by omega) ?_) | (refine At.ld (by assumption) rfl ?_) | (refine At.ldN (by assumption) rfl ?_) | (refine Prs.ln (by assumption) ?_) | (refine Trs.ln (by assumption) ?_) | (refine Prs.ix (by assumption) (by omega) ?_) | (refine Trs.ix (by assumption) (by omega) ?_) | (refine Prs.ldN (by assumption) (by omega) ?_) | (refine Trs.ldN (by assumption) (by omega) ?_) | (refine At.ldN (Blk.at (by assumption)) rfl ?_) | (refine At.ld (Blk.at (by assumption)) rfl ?_) | (refine IxA.mk (by omega) ?_) | (refine Sl.ln (Own.sl (by assumption)) ?_) | (refine Ints.ix (Own.sl (by assumption)) (by omega) ?_) | (refine Ints.ixI (Own.sl (by assumption)) (by omega) ?_) | (refine Ints.ld (Own.sl (by assumption)) (by omega) ?_))
    conv => whnf
    refine VC.rc (circle_rc (rr := rr) (a := a) hn6) ?_
    rintro _ w4 E4 HR
    replace Hg := Hg.ext E4
    replace Ha := Ha.ext E4
    replace EE := EE.ext E4
    replace Hb := Hb.ext E4
    replace HC := HC.ext E4
    repeat' ((conv => whnf); first | (refine Dr.quiet tyOk (by kernel_rfl) ?_) | (refine Rng.mk (by omega) ?_) | (refine Split.pos (by omega) ?_) | (refine Split.neg (by omega) ?_) | (refine Split.mk (fun h => ?_) (fun h => ?_)) | (refine Need.mk (by omega) ?_) | (refine Ints.ln (by assumption) ?_) | (refine Mat.ln (by assumption) ?_) | (refine Ints.ln (Mat.row (by assumption) _ (by omega)) ?_) | (refine Ints.ix (by assumption) (by omega) ?_) | (refine Mat.ix (by assumption) (by omega) ?_) | (refine Ints.ix (Mat.row (by assumption) _ (by omega)) (by omega) ?_) | (refine Ints.ix (c := 0) (by assumption) (by omega) ?_) | (refine Mat.ix (c := 0) (by assumption) (by omega) ?_) | (refine Ints.ix (c := 0) (Mat.row (by assumption) _ (by omega)) (by omega) ?_) | (refine Ints.ixI (by assumption) (by omega) ?_) | (refine Mat.ixI (by assumption) (by omega) ?_) | (refine Ints.ixI (Mat.row (by assumption) _ (by omega)) (by omega) ?_) | (refine Ints.ld (by assumption) (by omega) ?_) | (refine Mat.ld (by assumption) (by omega) ?_) | (refine Ints.ld (Mat.row (by assumption) _ (by omega)) (by omega) ?_) | (refine At.ld (by assumption) rfl ?_) | (refine At.ldN (by assumption) rfl ?_) | (refine Prs.ln (by assumption) ?_) | (refine Trs.ln (by assumption) ?_) | (refine Prs.ix (by assumption) (by omega) ?_) | (refine Trs.ix (by assumption) (by omega) ?_) | (refine Prs.ldN (by assumption) (by omega) ?_) | (refine Trs.ldN (by assumption) (by omega) ?_) | (refine At.ldN (Blk.at (by assumption)) rfl ?_) | (refine At.ld (Blk.at (by assumption)) rfl ?_) | (refine IxA.mk (by omega) ?_) | (refine Sl.ln (Own.sl (by assumption)) ?_) | (refine Ints.ix (Own.sl (by assumption)) (by omega) ?_) | (refine Ints.ixI (Own.sl (by assumption)) (by omega) ?_) | (refine Ints.ld (Own.sl (by assumption)) (by omega) ?_))
    have Hg__1 := Hg
    have Ha__1 := Ha
    have EE__1 := EE
    have Hb__1 := Hb
    have HC__1 := HC
    have HR__1 := HR
    have hz1 := Nat.le_trans E1.size EE.size
    refine Lp.mk tyOk [false, true, false, false, false, false, false, true, false, false, false, false, false, false, false, false, false, false, false, false, true, true, true, true, true, true, true, true, true, true] (fun m fr wr => getK fr 1 fun qv => getK fr 7 fun kv => ∃ c : Nat, c ≤ 60001 ∧ m = 60001 - c ∧ ((∃ b, vld rr b = 0 ∧ OI wr qv b ∧ CiR rr b wr kv ∧ (c : Int) ≤ pot rr b ∧ ∀ z, Und rr b z → Und rr a z)) ∧ Ext w4 wr) (60001) ?_ ?_
    · exact ⟨0, Nat.zero_le _, rfl, ⟨a, hv, HC, HR, by omega, fun z h => h⟩, Ext.refl _⟩
    · intro m w5 u1 u7 u20 u21 u22 u23 u24 u25 u26 u27 u28 u29 hR
      obtain ⟨c, hc, rfl, HL, EL1⟩ := hR
      replace Hg := Hg__1.ext EL1
      replace Ha := Ha__1.ext EL1
      replace EE := EE__1.ext EL1
      replace Hb := Hb__1.ext EL1
      replace HC := HC__1.ext EL1
      replace HR := HR__1.ext EL1
      obtain ⟨b, hvb, HB, HR, hcb, hz⟩ := HL
      have hpb := pot_bd hvb
      rcases HR with ⟨rfl, hnil⟩ | ⟨hC, HI⟩
      · repeat' ((conv => whnf); first | (refine Dr.quiet tyOk (by kernel_rfl) ?_) | (refine VS.nenil true Try.underlying25 ⟨_, _, _, rfl, rfl⟩ ?_) | (refine Rng.mk (by omega) ?_) | (refine Split.pos (by omega) ?_) | (refine Split.neg (by omega) ?_) | (refine Split.mk (fun h => ?_) (fun h => ?_)) | (refine Need.mk (by omega) ?_) | (refine Ints.ln (by assumption) ?_) | (refine Mat.ln (by assumption) ?_) | (refine Ints.ln (Mat.row (by assumption) _ (by omega)) ?_) | (refine Ints.ix (by assumption) (by omega) ?_) | (refine Mat.ix (by assumption) (by omega) ?_) | (refine Ints.ix (Mat.row (by assumption) _ (by omega)) (by omega) ?_) | (refine Ints.ix (c := 0) (by assumption) (by omega) ?_) | (refine Mat.ix (c := 0) (by assumption) (by omega) ?_) | (refine Ints.ix (c := 0) (Mat.row (by assumption) _ (by omega)) (by omega) ?_) | (refine Ints.ixI (by assumption) (by omega) ?_) | (refine Mat.ixI (by assumption) (by omega) ?_) | (refine Ints.ixI (Mat.row (by assumption) _ (by omega)) (by omega) ?_) | (refine Ints.ld (by assumption) (by omega) ?_) | (refine Mat.ld (by assumption) (by omega) ?_) | (refine Ints.ld (Mat.row (by assumption) _ (by omega)) (by omega) ?_) | (refine At.ld (by assumption) rfl ?_) | (refine At.ldN (by assumption) rfl ?_) | (refine Prs.ln (by assumption) ?_) | (refine Trs.ln (by assumption) ?_) | (refine Prs.ix (by assumption) (by omega) ?_) | (refine Trs.ix (by assumption) (by omega) ?_) | (refine Prs.ldN (by assumption) (by omega) ?_) | (refine Trs.ldN (by assumption) (by omega) ?_) | (refine At.ldN (Blk.at (by assumption)) rfl ?_) | (refine At.ld (Blk.at (by assumption)) rfl ?_) | (refine IxA.mk (by omega) ?_) | (refine Sl.ln (Own.sl (by assumption)) ?_) | (refine Ints.ix (Own.sl (by assumption)) (by omega) ?_) | (refine Ints.ixI (Own.sl (by assumption)) (by omega) ?_) | (refine Ints.ld (Own.sl (by assumption)) (by omega) ?_))
        exact ⟨EE, _, rfl, fun _ => ⟨b, hz _ (.stop hnil), HB⟩, fun h => absurd rfl h⟩
      · have hCl := hC.len
        have hne : circ rr b ≠ [] := fun e => by rw [e] at hCl; simp at hCl
        obtain ⟨ux, um, uc, rfl, hux⟩ := Ints.some_of (Own.sl HI) (by omega)
        repeat' ((conv => whnf); first | (refine Dr.quiet tyOk (by kernel_rfl) ?_) | (refine VS.nenil false Try.underlying25 ⟨_, _, _, rfl, hux⟩ ?_) | (refine Rng.mk (by omega) ?_) | (refine Split.pos (by omega) ?_) | (refine Split.neg (by omega) ?_) | (refine Split.mk (fun h => ?_) (fun h => ?_)) | (refine Need.mk (by omega) ?_) | (refine Ints.ln (by assumption) ?_) | (refine Mat.ln (by assumption) ?_) | (refine Ints.ln (Mat.row (by assumption) _ (by omega)) ?_) | (refine Ints.ix (by assumption) (by omega) ?_) | (refine Mat.ix (by assumption) (by omega) ?_) | (refine Ints.ix (Mat.row (by assumption) _ (by omega)) (by omega) ?_) | (refine Ints.ix (c := 0) (by assumption) (by omega) ?_) | (refine Mat.ix (c := 0) (by assumption) (by omega) ?_) | (refine Ints.ix (c := 0) (Mat.row (by assumption) _ (by omega)) (by omega) ?_) | (refine Ints.ixI (by assumption) (by omega) ?_) | (refine Mat.ixI (by assumption) (by omega) ?_) | (refine Ints.ixI (Mat.row (by assumption) _ (by omega)) (by omega) ?_) | (refine Ints.ld (by assumption) (by omega) ?_) | (refine Mat.ld (by assumption) (by omega) ?_) | (refine Ints.ld (Mat.row (by assumption) _ (by omega)) (by omega) ?_) | (refine At.ld (by assumption) rfl ?_) | (refine At.ldN (by assumption) rfl ?_) | (refine Prs.ln (by assumption) ?_) | (refine Trs.ln (by assumption) ?_) | (refine Prs.ix (by assumption) (by omega) ?_) | (refine Trs.ix (by assumption) (by omega) ?_) | (refine Prs.ldN (by assumption) (by omega) ?_) | (refine Trs.ldN (by assumption) (by omega) ?_) | (refine At.ldN (Blk.at (by assumption)) rfl ?_) | (refine At.ld (Blk.at (by assumption)) rfl ?_) | (refine IxA.mk (by omega) ?_) | (refine Sl.ln (Own.sl (by assumption)) ?_) | (refine Ints.ix (Own.sl (by assumption)) (by omega) ?_) | (refine Ints.ixI (Own.sl (by assumption)) (by omega) ?_) | (refine Ints.ld (Own.sl (by assumption)) (by omega) ?_))
        conv => whnf
        refine VC.rc (pass_rc Hg (Own.sl HB) (Own.sl HI) hvb hC.ags) ?_
        rintro _ w6 E6 HB2
        replace Hg := Hg.ext E6
        replace Ha := Ha.ext E6
        replace EE := EE.ext E6
        replace Hb := Hb.ext E6
        replace HC := HC.ext E6
        replace HR := HR.ext E6
        replace EL1 := EL1.ext E6
        replace HB2 := Own.base HB2 (Nat.zero_le _)
        have hv2 := vld_pas hvb hC.ags
        have hpu := pot_up hvb hC
        have c3 := envy_pc Hg (Own.sl HB2) hv2
        repeat' ((conv => whnf); first | (refine Dr.quiet tyOk (by kernel_rfl) ?_) | (refine VC.pure c3 ?_) | (refine Rng.mk (by omega) ?_) | (refine Split.pos (by omega) ?_) | (refine Split.neg (by omega) ?_) | (refine Split.mk (fun h => ?_) (fun h => ?_)) | (refine Need.mk (by omega) ?_) | (refine Ints.ln (by assumption) ?_) | (refine Mat.ln (by assumption) ?_) | (refine Ints.ln (Mat.row (by assumption) _ (by omega)) ?_) | (refine Ints.ix (by assumption) (by omega) ?_) | (refine Mat.ix (by assumption) (by omega) ?_) | (refine Ints.ix (Mat.row (by assumption) _ (by omega)) (by omega) ?_) | (refine Ints.ix (c := 0) (by assumption) (by omega) ?_) | (refine Mat.ix (c := 0) (by assumption) (by omega) ?_) | (refine Ints.ix (c := 0) (Mat.row (by assumption) _ (by omega)) (by omega) ?_) | (refine Ints.ixI (by assumption) (by omega) ?_) | (refine Mat.ixI (by assumption) (by omega) ?_) | (refine Ints.ixI (Mat.row (by assumption) _ (by omega)) (by omega) ?_) | (refine Ints.ld (by assumption) (by omega) ?_) | (refine Mat.ld (by assumption) (by omega) ?_) | (refine Ints.ld (Mat.row (by assumption) _ (by omega)) (by omega) ?_) | (refine At.ld (by assumption) rfl ?_) | (refine At.ldN (by assumption) rfl ?_) | (refine Prs.ln (by assumption) ?_) | (refine Trs.ln (by assumption) ?_) | (refine Prs.ix (by assumption) (by omega) ?_) | (refine Trs.ix (by assumption) (by omega) ?_) | (refine Prs.ldN (by assumption) (by omega) ?_) | (refine Trs.ldN (by assumption) (by omega) ?_) | (refine At.ldN (Blk.at (by assumption)) rfl ?_) | (refine At.ld (Blk.at (by assumption)) rfl ?_) | (refine IxA.mk (by omega) ?_) | (refine Sl.ln (Own.sl (by assumption)) ?_) | (refine Ints.ix (Own.sl (by assumption)) (by omega) ?_) | (refine Ints.ixI (Own.sl (by assumption)) (by omega) ?_) | (refine Ints.ld (Own.sl (by assumption)) (by omega) ?_))
        conv => whnf
        refine VC.rc (circle_rc (rr := rr) (a := pas rr.length b (circ rr b)) hn6) ?_
        rintro _ w7 E7 HR
        replace Hg := Hg.ext E7
        replace Ha := Ha.ext E7
        replace EE := EE.ext E7
        replace Hb := Hb.ext E7
        replace HC := HC.ext E7
        replace EL1 := EL1.ext E7
        replace HB2 := HB2.ext E7
        repeat' ((conv => whnf); first | (refine Dr.quiet tyOk (by kernel_rfl) ?_) | (refine Rng.mk (by omega) ?_) | (refine Split.pos (by omega) ?_) | (refine Split.neg (by omega) ?_) | (refine Split.mk (fun h => ?_) (fun h => ?_)) | (refine Need.mk (by omega) ?_) | (refine Ints.ln (by assumption) ?_) | (refine Mat.ln (by assumption) ?_) | (refine Ints.ln (Mat.row (by assumption) _ (by omega)) ?_) | (refine Ints.ix (by assumption) (by omega) ?_) | (refine Mat.ix (by assumption) (by omega) ?_) | (refine Ints.ix (Mat.row (by assumption) _ (by omega)) (by omega) ?_) | (refine Ints.ix (c := 0) (by assumption) (by omega) ?_) | (refine Mat.ix (c := 0) (by assumption) (by omega) ?_) | (refine Ints.ix (c := 0) (Mat.row (by assumption) _ (by omega)) (by omega) ?_) | (refine Ints.ixI (by assumption) (by omega) ?_) | (refine Mat.ixI (by assumption) (by omega) ?_) | (refine Ints.ixI (Mat.row (by assumption) _ (by omega)) (by omega) ?_) | (refine Ints.ld (by assumption) (by omega) ?_) | (refine Mat.ld (by assumption) (by omega) ?_) | (refine Ints.ld (Mat.row (by assumption) _ (by omega)) (by omega) ?_) | (refine At.ld (by assumption) rfl ?_) | (refine At.ldN (by assumption) rfl ?_) | (refine Prs.ln (by assumption) ?_) | (refine Trs.ln (by assumption) ?_) | (refine Prs.ix (by assumption) (by omega) ?_) | (refine Trs.ix (by assumption) (by omega) ?_) | (refine Prs.ldN (by assumption) (by omega) ?_) | (refine Trs.ldN (by assumption) (by omega) ?_) | (refine At.ldN (Blk.at (by assumption)) rfl ?_) | (refine At.ld (Blk.at (by assumption)) rfl ?_) | (refine IxA.mk (by omega) ?_) | (refine Sl.ln (Own.sl (by assumption)) ?_) | (refine Ints.ix (Own.sl (by assumption)) (by omega) ?_) | (refine Ints.ixI (Own.sl (by assumption)) (by omega) ?_) | (refine Ints.ld (Own.sl (by assumption)) (by omega) ?_))
        refine ⟨_, (by omega : 60001 - (c + 1) < 60001 - c), rfl, c + 1, by omega, rfl, ⟨_, hv2, HB2, HR, by omega, fun z h => hz z (.go hne h)⟩, EL1⟩
  · repeat' ((conv => whnf); first | (refine Dr.quiet tyOk (by kernel_rfl) ?_) | (refine VC.pure c1 ?_) | (refine Rng.mk (by omega) ?_) | (refine Split.pos (by omega) ?_) | (refine Split.neg (by omega) ?_) | (refine Split.mk (fun h => ?_) (fun h => ?_)) | (refine Need.mk (by omega) ?_) | (refine Ints.ln (by assumption) ?_) | (refine Mat.ln (by assumption) ?_) | (refine Ints.ln (Mat.row (by assumption) _ (by omega)) ?_) | (refine Ints.ix (by assumption) (by omega) ?_) | (refine Mat.ix (by assumption) (by omega) ?_) | (refine Ints.ix (Mat.row (by assumption) _ (by omega)) (by omega) ?_) | (refine Ints.ix (c := 0) (by assumption) (by omega) ?_) | (refine Mat.ix (c := 0) (by assumption) (by omega) ?_) | (refine Ints.ix (c := 0) (Mat.row (by assumption) _ (by omega)) (by omega) ?_) | (refine Ints.ixI (by assumption) (by omega) ?_) | (refine Mat.ixI (by assumption) (by omega) ?_) | (refine Ints.ixI (Mat.row (by assumption) _ (by omega)) (by omega) ?_) | (refine Ints.ld (by assumption) (by omega) ?_) | (refine Mat.ld (by assumption) (by omega) ?_) | (refine Ints.ld (Mat.row (by assumption) _ (by omega)) (by omega) ?_) | (refine At.ld (by assumption) rfl ?_) | (refine At.ldN (by assumption) rfl ?_) | (refine Prs.ln (by assumption) ?_) | (refine Trs.ln (by assumption) ?_) | (refine Prs.ix (by assumption) (by omega) ?_) | (refine Trs.ix (by assumption) (by omega) ?_) | (refine Prs.ldN (by assumption) (by omega) ?_) | (refine Trs.ldN (by assumption) (by omega) ?_) | (refine At.ldN (Blk.at (by assumption)) rfl ?_) | (refine At.ld (Blk.at (by assumption)) rfl ?_) | (refine IxA.mk (by omega) ?_) | (refine Sl.ln (Own.sl (by assumption)) ?_) | (refine Ints.ix (Own.sl (by assumption)) (by omega) ?_) | (refine Ints.ixI (Own.sl (by assumption)) (by omega) ?_) | (refine Ints.ld (Own.sl (by assumption)) (by omega) ?_))
    exact ⟨EE, _, rfl, fun h => absurd h hv, fun _ => rfl⟩
end Go.Proofs.Ytebklnmafjbhcaa
set_option linter.unusedVariables false
set_option linter.unusedSimpArgs false
namespace Go.Proofs.Ytebklnmafjbhcaa
open Go.Eng
set_option maxRecDepth 100000

theorem first_le {p : Nat → Bool} {n j : Nat} (hj : j < n) (hp : p j = true) : 0 ≤ firstFrom p n 0 := by
  rcases firstFrom_spec p n 0 with ⟨i, _, h2, h3, h4, h5⟩ | ⟨_, h2⟩
  · rw [h4]; omega
  · rw [h2 j (Nat.zero_le _) (by omega)] at hp; cases hp
theorem first_is {p : Nat → Bool} {n : Nat} (h : 0 ≤ firstFrom p n 0) : ∃ j : Nat, firstFrom p n 0 = j ∧ j < n ∧ p j = true ∧ ∀ k, k < j → p k = false := by
  rcases firstFrom_spec p n 0 with ⟨j, _, h2, h3, h4, h5⟩ | ⟨h1, _⟩
  · exact ⟨j, h4, by omega, h3, fun k hk => h5 k (Nat.zero_le _) hk⟩
  · omega

theorem oneX_nil {rr : List (List Int)} {a : List Int} (hv : vld rr a = 0) : oneX rr a = [] ↔ ∀ i k : Nat, i < rr.length → k < rr.length → wth rr a i i < wth rr a i k → ∃ j, j < a.length ∧ a.getD j 0 = k ∧ moreV rr a i k ≤ val rr i j := by
  rw [oneX_g hv]
  constructor
  · intro h i k hi hk hl
    refine Classical.byContradiction fun hn => ?_
    have hm : ((i : Int), (k : Int)) ∈ gTo (hX rr a) rr.length rr.length := by
      refine mem_gTo.2 ⟨i, k, hi, hk, ?_⟩
      unfold hX
      rw [if_pos hl]
      unfold missOf
      rw [if_neg]
      · simp
      · show ¬ 0 ≤ firstG rr a i k (moreV rr a i k) true
        intro h0
        rw [firstG_eq] at h0
        obtain ⟨j, _, hj, hp, _⟩ := first_is h0
        exact hn ⟨j, hj, gP_t.1 hp⟩
    rw [h] at hm; cases hm
  · intro h
    apply List.eq_nil_iff_forall_not_mem.2
    intro x hx
    obtain ⟨i, k, hi, hk, hx⟩ := mem_gTo.1 hx
    unfold hX at hx
    split at hx
    · rename_i hl
      obtain ⟨j, hj, hp⟩ := h i k hi hk hl
      unfold missOf at hx
      rw [if_pos] at hx
      · cases hx
      · show 0 ≤ firstG rr a i k (moreV rr a i k) true
        rw [firstG_eq]; exact first_le hj (gP_t.2 hp)
    · cases hx
/-- A bundle of some worth has a good. -/
theorem worth_pos {a r : List Int} {k : Int} : ∀ {c : Nat}, 0 < worth a r k c → ∃ j, j < c ∧ a.getD j 0 = k
  | 0, h => by simp [worth] at h
  | c + 1, h => by
    simp only [worth] at h
    by_cases e : a.getD c 0 = k
    · exact ⟨c, by omega, e⟩
    · rw [if_neg e] at h
      obtain ⟨j, hj, e2⟩ := worth_pos (a := a) (r := r) (k := k) (c := c) (by omega)
      exact ⟨j, by omega, e2⟩
/-- A good for who is not envied. -/
theorem grown_one {rr : List (List Int)} {a : List Int} {good agent : Nat} (hv : vld rr a = 0) (hg : good < a.length) (hn : a.getD good 0 = -1) (ha : agent < rr.length) (h : oneX rr a = [])
    (he : ∀ i, i < rr.length → wth rr a i agent ≤ wth rr a i i) : oneX rr (a.set good agent) = [] := by
  have hgo : giveOk rr a good agent := ⟨by omega, by omega, by omega, by omega⟩
  have hvb : vld rr (a.set good agent) = 0 := by have := vld_give hv hgo; rwa [Int.toNat_natCast] at this
  have hal := al_of_vld hv
  refine (oneX_nil hvb).2 fun i k hi hk hl => ?_
  have hb : ∀ q : Nat, wth rr (a.set good agent) i q = wth rr a i q + (if agent = q then val rr i good else 0) := fun q => by
    rw [wth_set hg, if_neg (by omega : ¬ a.getD good 0 = (q : Int))]
    by_cases e : agent = q
    · rw [if_pos e, if_pos (by omega)]; omega
    · rw [if_neg e, if_neg (by omega)]; omega
  have hbk := hb k
  have hbi := hb i
  have hvg := (hal.val i good).1
  by_cases ek : agent = k
  · subst ek
    have hai : agent ≠ i := by rintro rfl; omega
    rw [if_pos rfl] at hbk
    rw [if_neg hai] at hbi
    refine ⟨good, by rw [List.length_set]; exact hg, by rw [set_get hg, if_pos rfl], ?_⟩
    have := he i hi
    unfold moreV; omega
  · rw [if_neg ek] at hbk
    have hwi : wth rr a i i ≤ wth rr (a.set good agent) i i := by rw [hbi]; split <;> omega
    obtain ⟨j, hj, e, hm⟩ := (oneX_nil hv).1 h i k hi hk (by omega)
    refine ⟨j, by rw [List.length_set]; exact hj, ?_, ?_⟩
    · rw [set_get hg, if_neg]
      · exact e
      · rintro rfl; omega
    · unfold moreV at *; omega

end Go.Proofs.Ytebklnmafjbhcaa
