/- Joined texts: Rounds1 Rounds2 RoundsEf Rounds3 Rounds4 EngAE Rounds6. -/
import Derived.Test.YtebklnmafjbhcaaJ2
set_option linter.unusedVariables false
set_option linter.unusedSimpArgs false
namespace Go.Proofs.Ytebklnmafjbhcaa
open Go.Eng
set_option maxRecDepth 100000
set_option maxHeartbeats 4000000

/-! ### boxes that hold arrays of arrays -/
theorem add_add (b x y : Nat) : ((⟨b, 0, none⟩ : Addr).add x).add y = (⟨b, 0, none⟩ : Addr).add (x + y) := by
  rw [Addr.add_lit, Addr.add_lit, Addr.add_lit]
  simp [Nat.add_assoc]
theorem Blk.ldAA {w : World} {b : Nat} {T : TypeId} {xs : List Value} {x y : Nat} {v : Value} {K : Value → Prop} (h : Blk w b T xs) (hx : xs[x + y]? = some v) (hk : K v) : Ld w (((⟨b, 0, none⟩ : Addr).add x).add y) K := by
  rw [add_add]; exact Blk.ldA h hx hk
theorem Blk.setAA {w : World} {b : Nat} {T : TypeId} {xs : List Value} {x y : Nat} {v : Value} {K : World → Prop} (h : Blk w b T xs) (hi : x + y < xs.length) (hv : v.oneCell' = true)
    (hK : ∀ w', Gr (fun j => j = b) w w' → Blk w' b T (xs.set (x + y) v) → K w') : St w (((⟨b, 0, none⟩ : Addr).add x).add y) v K := by
  rw [add_add]; exact Blk.setA h hi hv hK
def bvs (l : List Bool) : List Value := l.map Value.bool
theorem bvs_len (l : List Bool) : (bvs l).length = l.length := List.length_map ..
theorem bvs_at {l : List Bool} {k : Nat} {b : Bool} (h : l.getD k false = b) (hk : k < l.length) : (bvs l)[k]? = some (.bool b) := by
  unfold bvs
  rw [List.getElem?_map, List.getElem?_eq_getElem hk]
  simp only [List.getD] at h
  rw [List.getElem?_eq_getElem hk] at h
  simp at h
  simp [h]
theorem bvs_set {l : List Bool} {k : Nat} {b : Bool} : (bvs l).set k (.bool b) = bvs (l.set k b) := by unfold bvs; rw [List.map_set]

/-! ### the graph -/
noncomputable def gL (rr : List (List Int)) (a : List Int) : List Bool := mk 36 fun q => tf (EnG rr a ((q / 6 : Nat) : Int) ((q % 6 : Nat) : Int))
theorem gL_len (rr : List (List Int)) (a : List Int) : (gL rr a).length = 36 := mk_len _ _
theorem gL_at {rr : List (List Int)} {a : List Int} {i k : Int} (hi : 0 ≤ i ∧ i < 6) (hk : 0 ≤ k ∧ k < 6) : (bvs (gL rr a))[i.toNat * 6 + k.toNat * 1]? = some (.bool (tf (EnG rr a i k))) := by
  have hlt : i.toNat * 6 + k.toNat * 1 < 36 := by omega
  refine bvs_at ?_ (by rw [gL_len]; exact hlt)
  unfold gL
  rw [mk_get false hlt]
  have e1 : (((i.toNat * 6 + k.toNat * 1) / 6 : Nat) : Int) = i := by omega
  have e2 : (((i.toNat * 6 + k.toNat * 1) % 6 : Nat) : Int) = k := by omega
  rw [e1, e2]
noncomputable def gT (l : List (Int × Int)) (c : Nat) : List Bool := mk 36 fun q => tf (∃ t, t < c ∧ l.getD t (0, 0) = (((q / 6 : Nat) : Int), ((q % 6 : Nat) : Int)))
theorem gT_len (l : List (Int × Int)) (c : Nat) : (gT l c).length = 36 := mk_len _ _
theorem gT_zero (l : List (Int × Int)) : List.replicate 36 false = gT l 0 := by
  refine ext_getD false (by rw [gT_len]; rfl) fun q hq => ?_
  have hq : q < 36 := by simpa using hq
  unfold gT
  rw [mk_get false hq, tf_f (by rintro ⟨t, ht, _⟩; omega)]
  simp only [List.getD, List.getElem?_replicate, if_pos hq]; rfl
theorem setB_get {l : List Bool} {i j : Nat} {x : Bool} (hi : i < l.length) : (l.set i x).getD j false = if i = j then x else l.getD j false := by
  simp only [List.getD, List.getElem?_set]
  by_cases e : i = j
  · subst e; rw [if_pos rfl, if_pos rfl, if_pos hi]; rfl
  · rw [if_neg e, if_neg e]
theorem gT_set {l : List (Int × Int)} {c : Nat} (h1 : 0 ≤ (l.getD c (0, 0)).1 ∧ (l.getD c (0, 0)).1 < 6) (h2 : 0 ≤ (l.getD c (0, 0)).2 ∧ (l.getD c (0, 0)).2 < 6) :
    (gT l c).set ((l.getD c (0, 0)).1.toNat * 6 + (l.getD c (0, 0)).2.toNat * 1) true = gT l (c + 1) := by
  have hlt : (l.getD c (0, 0)).1.toNat * 6 + (l.getD c (0, 0)).2.toNat * 1 < 36 := by omega
  refine ext_getD false (by rw [List.length_set, gT_len, gT_len]) fun q hq => ?_
  rw [List.length_set, gT_len] at hq
  rw [setB_get (by rw [gT_len]; exact hlt)]
  unfold gT
  rw [mk_get false hq, mk_get false hq]
  by_cases e : (l.getD c (0, 0)).1.toNat * 6 + (l.getD c (0, 0)).2.toNat * 1 = q
  · rw [if_pos e, tf_t ⟨c, by omega, Prod.ext (by show _ = ((q / 6 : Nat) : Int); omega) (by show _ = ((q % 6 : Nat) : Int); omega)⟩]
  · rw [if_neg e]
    congr 1
    refine propext ⟨fun ⟨t, ht, h⟩ => ⟨t, by omega, h⟩, fun ⟨t, ht, h⟩ => ⟨t, ?_, h⟩⟩
    refine Classical.byContradiction fun hn => e ?_
    obtain rfl : t = c := by omega
    rw [h]
    show ((q / 6 : Nat) : Int).toNat * 6 + ((q % 6 : Nat) : Int).toNat * 1 = q
    omega
theorem gT_all {rr : List (List Int)} {a : List Int} : gT (envs rr a) (envs rr a).length = gL rr a := by
  refine ext_getD false (by rw [gT_len, gL_len]) fun q hq => ?_
  rw [gT_len] at hq
  unfold gT gL
  rw [mk_get false hq, mk_get false hq]
  congr 1
  refine propext ⟨fun ⟨t, ht, h⟩ => ?_, fun ⟨h1, h2, h3⟩ => ?_⟩
  · have hm : (((q / 6 : Nat) : Int), ((q % 6 : Nat) : Int)) ∈ envs rr a := by rw [← h, show (envs rr a).getD t (0, 0) = (envs rr a)[t] by simp [List.getD, ht]]; exact List.getElem_mem ht
    obtain ⟨i, k, hi, hk, hl, e⟩ := mem_envTo.1 hm
    have e1 := congrArg Prod.fst e
    have e2 := congrArg Prod.snd e
    simp only at e1 e2
    refine ⟨by omega, by omega, ?_⟩
    unfold En
    rw [e1, e2, Int.toNat_natCast]; exact hl
  · have hm : (((q / 6 : Nat) : Int), ((q % 6 : Nat) : Int)) ∈ envs rr a := mem_envTo.2 ⟨q / 6, q % 6, by omega, by omega, by unfold En at h3; rw [Int.toNat_natCast] at h3; exact h3, rfl⟩
    obtain ⟨t, ht, e⟩ := List.getElem_of_mem hm
    exact ⟨t, ht, by simp [List.getD, ht, e]⟩
theorem envs_rng {rr : List (List Int)} {a : List Int} {c : Nat} (hn : rr.length ≤ 6) (hc : c < (envs rr a).length) : (0 ≤ ((envs rr a).getD c (0, 0)).1 ∧ ((envs rr a).getD c (0, 0)).1 < 6) ∧ 0 ≤ ((envs rr a).getD c (0, 0)).2 ∧ ((envs rr a).getD c (0, 0)).2 < 6 := by
  have hm : (envs rr a).getD c (0, 0) ∈ envs rr a := by rw [show (envs rr a).getD c (0, 0) = (envs rr a)[c] by simp [List.getD, hc]]; exact List.getElem_mem hc
  obtain ⟨i, k, hi, hk, hl, e⟩ := mem_envTo.1 hm
  rw [e]; simp only; omega

theorem eGraph : Elem Try.prog 83 (.agg (bvs (List.replicate 36 false)).toArray) 36 36 := by unfold Elem; kernel_rfl
structure EnvS (w0 w : World) (rb ob : Nat) (lv : Value) (l : List (Int × Int)) (c : Nat) : Prop where
  ex : Ext w0 w
  hr : Blk w rb 83 (bvs (List.replicate 36 false))
  ho : Blk w ob 83 (bvs (gT l c))
  hl : OP w0.heap.size w lv l
  ne : rb ≠ ob
  b1 : w0.heap.size ≤ ob
theorem EnvS.ext {w0 w w' : World} {rb ob : Nat} {lv : Value} {l : List (Int × Int)} {c : Nat} (h : EnvS w0 w rb ob lv l c) (hx : Ext w w') : EnvS w0 w' rb ob lv l c :=
  ⟨h.ex.trans hx, h.hr.ext hx, h.ho.ext hx, Own.ext h.hl hx, h.ne, h.b1⟩
theorem EnvS.mark {w0 w : World} {rb ob : Nat} {lv : Value} {l : List (Int × Int)} {c x y : Nat} {K : World → Prop} (h : EnvS w0 w rb ob lv l c) (hs : (gT l c).set (x + y) true = gT l (c + 1)) (hi : x + y < 36)
    (hK : ∀ w', EnvS w0 w' rb ob lv l (c + 1) → K w') : St w (((⟨ob, 0, none⟩ : Addr).add x).add y) (.bool true) K :=
  Blk.setAA h.ho (by rw [bvs_len, gT_len]; exact hi) rfl fun w' hg hb => hK w' ⟨h.ex.new hg (fun i hi e => by have := h.b1; omega), h.hr.two h.ho h.ne hg, by rw [bvs_set, hs] at hb; exact hb, Own.blk h.hl h.ho (by decide) hg, h.ne, h.b1⟩

theorem envy_pc {w : World} {gv av : Value} {vs : List Value} {rr : List (List Int)} {a : List Int} (Hg : Mat w gv vs rr) (Ha : Ints w av a) (hv : vld rr a = 0) : PC Try.prog 67 [.agg #[gv], av] w (.agg (bvs (gL rr a)).toArray) := by
  have hal := al_of_vld hv
  have hn6 := hal.n6
  refine PC.mk tyOk Try.func67 rfl (by kernel_rfl) fun w1 E1 => ?_
  replace Hg := Hg.ext E1
  replace Ha := Ha.ext E1
  have EE := Ext.refl w1
  refine Bx.agg fun b2 w2 E2 hb2 Hb _ => ?_
  replace Hg := Hg.ext E2
  replace Ha := Ha.ext E2
  replace EE := EE.ext E2
  have Hg__1 := Hg
  have Ha__1 := Ha
  have EE__1 := EE
  have Hb__1 := Hb
  conv => whnf
  refine VE.alloc eGraph fun rb w3 E3 hb_rb Hr => ?_
  replace Hg := Hg.ext E3
  replace Ha := Ha.ext E3
  replace EE := EE.ext E3
  replace Hb := Hb.ext E3
  have EL1 := E3
  have hrl := Hr.lt
  have Hg__2 := Hg
  have Ha__2 := Ha
  have EE__2 := EE
  have Hb__2 := Hb
  have EL1__2 := EL1
  have Hr__2 := Hr
  conv => whnf
  refine VE.alloc eGraph fun ob w4 E4 hb_ob Hk => ?_
  replace Hg := Hg.ext E4
  replace Ha := Ha.ext E4
  replace EE := EE.ext E4
  replace Hb := Hb.ext E4
  replace EL1 := EL1.ext E4
  replace Hr := Hr.ext E4
  have EL2 := E4
  have hs3 := E3.size
  have hs4 := E4.size
  repeat' ((conv => whnf); first | (refine Dr.quiet tyOk (by kernel_rfl) ?_) | (refine Rng.mk (by omega) ?_) | (refine Split.pos (by omega) ?_) | (refine Split.neg (by omega) ?_) | (refine Split.mk (fun h => ?_) (fun h => ?_)) | (refine Need.mk (by omega) ?_) | (refine Ints.ln (by assumption) ?_) | (refine Mat.ln (by assumption) ?_) | (refine Ints.ln (Mat.row (by assumption) _ (by omega)) ?_) | (refine Ints.ix (by assumption) (by omega) ?_) | (refine Mat.ix (by assumption) (by omega) ?_) | (refine Ints.ix (Mat.row (by assumption) _ (by omega)) (by omega) ?_) | (refine Ints.ix (c := 0) (by assumption) (by omega) ?_) | (refine Mat.ix (c := 0) (by assumption) (by omega) ?_) | (refine Ints.ix (c := 0) (Mat.row (by assumption) _ (by omega)) (by omega) ?_) | (refine Ints.ixI (by assumption) (by omega) ?_) | (refine Mat.ixI (by assumption) (by omega) ?_) | (refine Ints.ixI (Mat.row (by assumption) _ (by omega)) (by omega) ?_) | (refine Ints.ld (by assumption) (by omega) ?_) | (refine Mat.ld (by assumption) (by omega) ?_) | (refine Ints.ld (Mat.row (by assumption) _ (by omega)) (by omega) ?_) | (refine At.ld (by assumption) rfl ?_) | (refine At.ldN (by assumption) rfl ?_) | (refine Prs.ln (by assumption) ?_) | (refine Trs.ln (by assumption) ?_) | (refine Prs.ix (by assumption) (by omega) ?_) | (refine Trs.ix (by assumption) (by omega) ?_) | (refine Prs.ldN (by assumption) (by omega) ?_) | (refine Trs.ldN (by assumption) (by omega) ?_) | (refine At.ldN (Blk.at (by assumption)) rfl ?_) | (refine At.ld (Blk.at (by assumption)) rfl ?_) | (refine IxA.mk (by omega) ?_) | (refine Sl.ln (Own.sl (by assumption)) ?_) | (refine Ints.ix (Own.sl (by assumption)) (by omega) ?_) | (refine Ints.ixI (Own.sl (by assumption)) (by omega) ?_) | (refine Ints.ld (Own.sl (by assumption)) (by omega) ?_))
  conv => whnf
  refine VC.rc (genvies_rc Hg Ha) ?_
  rintro _ w5 E5 ⟨lv, rfl, HL⟩
  replace Hg := Hg.ext E5
  replace Ha := Ha.ext E5
  replace EE := EE.ext E5
  replace Hb := Hb.ext E5
  replace EL1 := EL1.ext E5
  replace Hr := Hr.ext E5
  replace EL2 := EL2.ext E5
  replace Hk := Hk.ext E5
  rw [envsR, if_pos hv] at HL
  have HLP : Prs w5 lv (envs rr a) := Own.sl HL
  have hll := HLP.le
  have HX : EnvS w2 w5 rb ob lv (envs rr a) 0 := ⟨EL1, Hr, by rw [← gT_zero]; exact Hk, Own.base HL (by omega), by omega, by omega⟩
  repeat' ((conv => whnf); first | (refine Dr.quiet tyOk (by kernel_rfl) ?_) | (refine Rng.mk (by omega) ?_) | (refine Split.pos (by omega) ?_) | (refine Split.neg (by omega) ?_) | (refine Split.mk (fun h => ?_) (fun h => ?_)) | (refine Need.mk (by omega) ?_) | (refine Ints.ln (by assumption) ?_) | (refine Mat.ln (by assumption) ?_) | (refine Ints.ln (Mat.row (by assumption) _ (by omega)) ?_) | (refine Ints.ix (by assumption) (by omega) ?_) | (refine Mat.ix (by assumption) (by omega) ?_) | (refine Ints.ix (Mat.row (by assumption) _ (by omega)) (by omega) ?_) | (refine Ints.ix (c := 0) (by assumption) (by omega) ?_) | (refine Mat.ix (c := 0) (by assumption) (by omega) ?_) | (refine Ints.ix (c := 0) (Mat.row (by assumption) _ (by omega)) (by omega) ?_) | (refine Ints.ixI (by assumption) (by omega) ?_) | (refine Mat.ixI (by assumption) (by omega) ?_) | (refine Ints.ixI (Mat.row (by assumption) _ (by omega)) (by omega) ?_) | (refine Ints.ld (by assumption) (by omega) ?_) | (refine Mat.ld (by assumption) (by omega) ?_) | (refine Ints.ld (Mat.row (by assumption) _ (by omega)) (by omega) ?_) | (refine At.ld (by assumption) rfl ?_) | (refine At.ldN (by assumption) rfl ?_) | (refine Prs.ln (by assumption) ?_) | (refine Trs.ln (by assumption) ?_) | (refine Prs.ix (by assumption) (by omega) ?_) | (refine Trs.ix (by assumption) (by omega) ?_) | (refine Prs.ldN (by assumption) (by omega) ?_) | (refine Trs.ldN (by assumption) (by omega) ?_) | (refine At.ldN (Blk.at (by assumption)) rfl ?_) | (refine At.ld (Blk.at (by assumption)) rfl ?_) | (refine IxA.mk (by omega) ?_) | (refine Sl.ln (Own.sl (by assumption)) ?_) | (refine Ints.ix (Own.sl (by assumption)) (by omega) ?_) | (refine Ints.ixI (Own.sl (by assumption)) (by omega) ?_) | (refine Ints.ld (Own.sl (by assumption)) (by omega) ?_))
  refine Lp.mk tyOk [false, false, false, false, false, false, false, false, false, true, false, false, false, false, false, false, false, false, true, true, true, true, true, true, true, true, true, true, true] (fun m fr wr => getK fr 18 fun j => ∃ c : Nat, c ≤ (envs rr a).length ∧ m = (envs rr a).length - c ∧ j = .int .i64 (c : Int) ∧ (EnvS w2 wr rb ob lv (envs rr a) c)) ((envs rr a).length) ?_ ?_
  · exact ⟨0, Nat.zero_le _, rfl, rfl, HX⟩
  · intro m w6 u9 u18 u19 u20 u21 u22 u23 u24 u25 u26 u27 u28 hR
    obtain ⟨c, hc, rfl, rfl, HX⟩ := hR
    have HLP : Prs w6 lv (envs rr a) := Own.sl HX.hl
    by_cases hcl : c < (envs rr a).length
    · obtain ⟨h1, h2⟩ := envs_rng hn6 hcl
      have hlt : ((envs rr a).getD c (0, 0)).1.toNat * 6 + ((envs rr a).getD c (0, 0)).2.toNat * 1 < 36 := by omega
      repeat' ((conv => whnf); first | (refine Dr.quiet tyOk (by kernel_rfl) ?_) | (refine Rng.mk (by omega) ?_) | (refine Split.pos (by omega) ?_) | (refine Split.neg (by omega) ?_) | (refine Split.mk (fun h => ?_) (fun h => ?_)) | (refine Need.mk (by omega) ?_) | (refine Ints.ln (by assumption) ?_) | (refine Mat.ln (by assumption) ?_) | (refine Ints.ln (Mat.row (by assumption) _ (by omega)) ?_) | (refine Ints.ix (by assumption) (by omega) ?_) | (refine Mat.ix (by assumption) (by omega) ?_) | (refine Ints.ix (Mat.row (by assumption) _ (by omega)) (by omega) ?_) | (refine Ints.ix (c := 0) (by assumption) (by omega) ?_) | (refine Mat.ix (c := 0) (by assumption) (by omega) ?_) | (refine Ints.ix (c := 0) (Mat.row (by assumption) _ (by omega)) (by omega) ?_) | (refine Ints.ixI (by assumption) (by omega) ?_) | (refine Mat.ixI (by assumption) (by omega) ?_) | (refine Ints.ixI (Mat.row (by assumption) _ (by omega)) (by omega) ?_) | (refine Ints.ld (by assumption) (by omega) ?_) | (refine Mat.ld (by assumption) (by omega) ?_) | (refine Ints.ld (Mat.row (by assumption) _ (by omega)) (by omega) ?_) | (refine At.ld (by assumption) rfl ?_) | (refine At.ldN (by assumption) rfl ?_) | (refine Prs.ln (by assumption) ?_) | (refine Trs.ln (by assumption) ?_) | (refine Prs.ix (by assumption) (by omega) ?_) | (refine Trs.ix (by assumption) (by omega) ?_) | (refine Prs.ldN (by assumption) (by omega) ?_) | (refine Trs.ldN (by assumption) (by omega) ?_) | (refine At.ldN (Blk.at (by assumption)) rfl ?_) | (refine At.ld (Blk.at (by assumption)) rfl ?_) | (refine IxA.mk (by omega) ?_) | (refine Sl.ln (Own.sl (by assumption)) ?_) | (refine Ints.ix (Own.sl (by assumption)) (by omega) ?_) | (refine Ints.ixI (Own.sl (by assumption)) (by omega) ?_) | (refine Ints.ld (Own.sl (by assumption)) (by omega) ?_))
      have HX__3 := HX
      conv => whnf
      refine VE.alloc ePair fun pb w7 E7 hb_pb Hp => ?_
      replace HX := HX.ext E7
      have EL3 := E7
      conv => whnf
      refine Blk.all Hp (by kernel_rfl) (by first | decide | simp) rfl rfl (by intro v hv; simp at hv; rcases hv with rfl | rfl | rfl | rfl | rfl <;> rfl) fun w8 G8 Hp' => ?_
      have E8 : Ext w6 w8 := EL3.new G8 fun i hi hk => by omega
      replace Hp := Hp'
      replace HX := HX__3.ext E8
      replace EL3 := E8
      have HK := HX.ho
      repeat' ((conv => whnf); first | (refine Dr.plan 22 [6] (.q 0 (.q 1 (.q 2 (.q 3 (.q 4 (.q 5 (.e 6 .nil .nil))))))) tyOk rfl (by kernel_rfl) ?_) | (refine Dr.quiet tyOk (by kernel_rfl) ?_) | (refine IxA.mk (by omega) ?_) | (refine Blk.ldA Hp rfl ?_) | (refine Rng.mk (by omega) ?_) | (refine Split.pos (by omega) ?_) | (refine Split.neg (by omega) ?_) | (refine Split.mk (fun h => ?_) (fun h => ?_)) | (refine Need.mk (by omega) ?_) | (refine Ints.ln (by assumption) ?_) | (refine Mat.ln (by assumption) ?_) | (refine Ints.ln (Mat.row (by assumption) _ (by omega)) ?_) | (refine Ints.ix (by assumption) (by omega) ?_) | (refine Mat.ix (by assumption) (by omega) ?_) | (refine Ints.ix (Mat.row (by assumption) _ (by omega)) (by omega) ?_) | (refine Ints.ix (c := 0) (by assumption) (by omega) ?_) | (refine Mat.ix (c := 0) (by assumption) (by omega) ?_) | (refine Ints.ix (c := 0) (Mat.row (by assumption) _ (by omega)) (by omega) ?_) | (refine Ints.ixI (by assumption) (by omega) ?_) | (refine Mat.ixI (by assumption) (by omega) ?_) | (refine Ints.ixI (Mat.row (by assumption) _ (by omega)) (by omega) ?_) | (refine Ints.ld (by assumption) (by omega) ?_) | (refine Mat.ld (by assumption) (by omega) ?_) | (refine Ints.ld (Mat.row (by assumption) _ (by omega)) (by omega) ?_) | (refine At.ld (by assumption) rfl ?_) | (refine At.ldN (by assumption) rfl ?_) | (refine Prs.ln (by assumption) ?_) | (refine Trs.ln (by assumption) ?_) | (refine Prs.ix (by assumption) (by omega) ?_) | (refine Trs.ix (by assumption) (by omega) ?_) | (refine Prs.ldN (by assumption) (by omega) ?_) | (refine Trs.ldN (by assumption) (by omega) ?_) | (refine At.ldN (Blk.at (by assumption)) rfl ?_) | (refine At.ld (Blk.at (by assumption)) rfl ?_) | (refine IxA.mk (by omega) ?_) | (refine Sl.ln (Own.sl (by assumption)) ?_) | (refine Ints.ix (Own.sl (by assumption)) (by omega) ?_) | (refine Ints.ixI (Own.sl (by assumption)) (by omega) ?_) | (refine Ints.ld (Own.sl (by assumption)) (by omega) ?_))
      refine EnvS.mark HX (gT_set h1 h2) hlt fun w9 HX => ?_
      repeat' ((conv => whnf); first | (refine Dr.quiet tyOk (by kernel_rfl) ?_) | (refine Rng.mk (by omega) ?_) | (refine Split.pos (by omega) ?_) | (refine Split.neg (by omega) ?_) | (refine Split.mk (fun h => ?_) (fun h => ?_)) | (refine Need.mk (by omega) ?_) | (refine Ints.ln (by assumption) ?_) | (refine Mat.ln (by assumption) ?_) | (refine Ints.ln (Mat.row (by assumption) _ (by omega)) ?_) | (refine Ints.ix (by assumption) (by omega) ?_) | (refine Mat.ix (by assumption) (by omega) ?_) | (refine Ints.ix (Mat.row (by assumption) _ (by omega)) (by omega) ?_) | (refine Ints.ix (c := 0) (by assumption) (by omega) ?_) | (refine Mat.ix (c := 0) (by assumption) (by omega) ?_) | (refine Ints.ix (c := 0) (Mat.row (by assumption) _ (by omega)) (by omega) ?_) | (refine Ints.ixI (by assumption) (by omega) ?_) | (refine Mat.ixI (by assumption) (by omega) ?_) | (refine Ints.ixI (Mat.row (by assumption) _ (by omega)) (by omega) ?_) | (refine Ints.ld (by assumption) (by omega) ?_) | (refine Mat.ld (by assumption) (by omega) ?_) | (refine Ints.ld (Mat.row (by assumption) _ (by omega)) (by omega) ?_) | (refine At.ld (by assumption) rfl ?_) | (refine At.ldN (by assumption) rfl ?_) | (refine Prs.ln (by assumption) ?_) | (refine Trs.ln (by assumption) ?_) | (refine Prs.ix (by assumption) (by omega) ?_) | (refine Trs.ix (by assumption) (by omega) ?_) | (refine Prs.ldN (by assumption) (by omega) ?_) | (refine Trs.ldN (by assumption) (by omega) ?_) | (refine At.ldN (Blk.at (by assumption)) rfl ?_) | (refine At.ld (Blk.at (by assumption)) rfl ?_) | (refine IxA.mk (by omega) ?_) | (refine Sl.ln (Own.sl (by assumption)) ?_) | (refine Ints.ix (Own.sl (by assumption)) (by omega) ?_) | (refine Ints.ixI (Own.sl (by assumption)) (by omega) ?_) | (refine Ints.ld (Own.sl (by assumption)) (by omega) ?_))
      refine ⟨_, (by omega : (envs rr a).length - (c + 1) < (envs rr a).length - c), rfl, c + 1, by omega, rfl, rfl, HX⟩
    · obtain rfl : c = (envs rr a).length := by omega
      have HK := HX.ho
      repeat' ((conv => whnf); first | (refine Dr.quiet tyOk (by kernel_rfl) ?_) | (refine At.ldN (Blk.at HK) (by rw [bvs_len, gT_len]) ?_) | (refine Rng.mk (by omega) ?_) | (refine Split.pos (by omega) ?_) | (refine Split.neg (by omega) ?_) | (refine Split.mk (fun h => ?_) (fun h => ?_)) | (refine Need.mk (by omega) ?_) | (refine Ints.ln (by assumption) ?_) | (refine Mat.ln (by assumption) ?_) | (refine Ints.ln (Mat.row (by assumption) _ (by omega)) ?_) | (refine Ints.ix (by assumption) (by omega) ?_) | (refine Mat.ix (by assumption) (by omega) ?_) | (refine Ints.ix (Mat.row (by assumption) _ (by omega)) (by omega) ?_) | (refine Ints.ix (c := 0) (by assumption) (by omega) ?_) | (refine Mat.ix (c := 0) (by assumption) (by omega) ?_) | (refine Ints.ix (c := 0) (Mat.row (by assumption) _ (by omega)) (by omega) ?_) | (refine Ints.ixI (by assumption) (by omega) ?_) | (refine Mat.ixI (by assumption) (by omega) ?_) | (refine Ints.ixI (Mat.row (by assumption) _ (by omega)) (by omega) ?_) | (refine Ints.ld (by assumption) (by omega) ?_) | (refine Mat.ld (by assumption) (by omega) ?_) | (refine Ints.ld (Mat.row (by assumption) _ (by omega)) (by omega) ?_) | (refine At.ld (by assumption) rfl ?_) | (refine At.ldN (by assumption) rfl ?_) | (refine Prs.ln (by assumption) ?_) | (refine Trs.ln (by assumption) ?_) | (refine Prs.ix (by assumption) (by omega) ?_) | (refine Trs.ix (by assumption) (by omega) ?_) | (refine Prs.ldN (by assumption) (by omega) ?_) | (refine Trs.ldN (by assumption) (by omega) ?_) | (refine At.ldN (Blk.at (by assumption)) rfl ?_) | (refine At.ld (Blk.at (by assumption)) rfl ?_) | (refine IxA.mk (by omega) ?_) | (refine Sl.ln (Own.sl (by assumption)) ?_) | (refine Ints.ix (Own.sl (by assumption)) (by omega) ?_) | (refine Ints.ixI (Own.sl (by assumption)) (by omega) ?_) | (refine Ints.ld (Own.sl (by assumption)) (by omega) ?_))
      refine Blk.all HX.hr (s := 36) (by kernel_rfl) (by decide) (by rw [bvs_len]; rfl) (by rw [bvs_len, gT_len]) (by intro v hv; obtain ⟨_, _, rfl⟩ := List.mem_map.1 hv; rfl) fun w10 G10 Hr10 => ?_
      repeat' ((conv => whnf); first | (refine Dr.quiet tyOk (by kernel_rfl) ?_) | (refine At.ldN (Blk.at Hr10) (by rw [bvs_len, gT_len]) ?_) | (refine Rng.mk (by omega) ?_) | (refine Split.pos (by omega) ?_) | (refine Split.neg (by omega) ?_) | (refine Split.mk (fun h => ?_) (fun h => ?_)) | (refine Need.mk (by omega) ?_) | (refine Ints.ln (by assumption) ?_) | (refine Mat.ln (by assumption) ?_) | (refine Ints.ln (Mat.row (by assumption) _ (by omega)) ?_) | (refine Ints.ix (by assumption) (by omega) ?_) | (refine Mat.ix (by assumption) (by omega) ?_) | (refine Ints.ix (Mat.row (by assumption) _ (by omega)) (by omega) ?_) | (refine Ints.ix (c := 0) (by assumption) (by omega) ?_) | (refine Mat.ix (c := 0) (by assumption) (by omega) ?_) | (refine Ints.ix (c := 0) (Mat.row (by assumption) _ (by omega)) (by omega) ?_) | (refine Ints.ixI (by assumption) (by omega) ?_) | (refine Mat.ixI (by assumption) (by omega) ?_) | (refine Ints.ixI (Mat.row (by assumption) _ (by omega)) (by omega) ?_) | (refine Ints.ld (by assumption) (by omega) ?_) | (refine Mat.ld (by assumption) (by omega) ?_) | (refine Ints.ld (Mat.row (by assumption) _ (by omega)) (by omega) ?_) | (refine At.ld (by assumption) rfl ?_) | (refine At.ldN (by assumption) rfl ?_) | (refine Prs.ln (by assumption) ?_) | (refine Trs.ln (by assumption) ?_) | (refine Prs.ix (by assumption) (by omega) ?_) | (refine Trs.ix (by assumption) (by omega) ?_) | (refine Prs.ldN (by assumption) (by omega) ?_) | (refine Trs.ldN (by assumption) (by omega) ?_) | (refine At.ldN (Blk.at (by assumption)) rfl ?_) | (refine At.ld (Blk.at (by assumption)) rfl ?_) | (refine IxA.mk (by omega) ?_) | (refine Sl.ln (Own.sl (by assumption)) ?_) | (refine Ints.ix (Own.sl (by assumption)) (by omega) ?_) | (refine Ints.ixI (Own.sl (by assumption)) (by omega) ?_) | (refine Ints.ld (Own.sl (by assumption)) (by omega) ?_))
      rw [gT_all]
      exact ⟨rfl, E2.trans (HX.ex.new G10 fun i hi e => by omega)⟩

theorem Ints.some_of {w : World} {v : Value} {l : List Int} (h : Ints w v l) (hn : 1 ≤ l.length) : ∃ x m c, v = .slice x m c ∧ x.isNone = false := by
  obtain ⟨x, cap, rfl, _, _, _, h⟩ := id h
  rcases h with h | ⟨p, rfl, _⟩
  · omega
  · exact ⟨_, _, _, rfl, rfl⟩
theorem Ints.ldq {w : World} {v : Value} {l : List Int} {K : Value → Prop} {c : Nat} {x : Int} (h : Ints w v l) (hv : l.getD c 0 = x) (hc : c < l.length) (hk : K (.int .i64 x)) : Ld w (ea v c) K :=
  Ints.ld h hc (by rw [hv]; exact hk)
/-- the search's answer -/
def ClR (rr : List (List Int)) (a l : List Int) (m : Nat) (w : World) (u : Value) : Prop := (u = .slice none 0 0 ∧ Non rr a l m) ∨ ∃ r, Fst rr a l m r ∧ OI w u r
theorem close_rc {rr : List (List Int)} {a : List Int} (hn : rr.length ≤ 6) : ∀ (mo : Nat) {w : World} {lv : Value} {l : List Int}, Pth rr a l → 2 ≤ l.length + mo → l.length + mo ≤ 6 → OI w lv l →
    RC Try.prog 99 [.agg (bvs (gL rr a)).toArray, lv, .int .i64 (mo : Int)] w NoB (fun u w' => ClR rr a l mo w' u) := by
  intro mo
  induction mo with
  | zero =>
    intro w lv l hP h2 h6 HI
    have hne := hP.ne
    have hlast := hP.rng (l.length - 1) (by omega)
    have h0 := hP.rng 0 (by omega)
    have el : ((l.length : Int) - 1).toNat = l.length - 1 := by omega
    obtain ⟨la, hla⟩ : ∃ x, l.getD (l.length - 1) 0 = x := ⟨_, rfl⟩
    obtain ⟨fi, hfi⟩ : ∃ x, l.getD 0 0 = x := ⟨_, rfl⟩
    rw [hla] at hlast
    rw [hfi] at h0
    refine RC.mk tyOk Try.func99 rfl (by kernel_rfl) fun w1 E1 => ?_
    replace HI := HI.ext E1
    have EE := Ext.refl w1
    have Hl : Ints w1 lv l := Own.sl HI
    refine Bx.blk (l := bvs (gL rr a)) fun b w2 E2 hb2 HK => ?_
    replace HI := HI.ext E2
    replace EE := EE.ext E2
    replace Hl := Hl.ext E2
    have hla' : l.getD ((l.length : Int) - 1).toNat 0 = la := by rw [el]; exact hla
    have hg := gL_at (rr := rr) (a := a) hlast h0
    by_cases hE : EnG rr a la fi
    · rw [tf_t hE] at hg
      repeat' ((conv => whnf); first | (refine Dr.quiet tyOk (by kernel_rfl) ?_) | (refine Ints.ldq Hl hla' (by omega) ?_) | (refine Ints.ldq (c := 0) Hl hfi (by omega) ?_) | (refine IxA.mk (by omega) ?_) | (refine Blk.ldAA HK hg ?_) | (refine Rng.mk (by omega) ?_) | (refine Split.pos (by omega) ?_) | (refine Split.neg (by omega) ?_) | (refine Split.mk (fun h => ?_) (fun h => ?_)) | (refine Need.mk (by omega) ?_) | (refine Ints.ln (by assumption) ?_) | (refine Mat.ln (by assumption) ?_) | (refine Ints.ln (Mat.row (by assumption) _ (by omega)) ?_) | (refine Ints.ix (by assumption) (by omega) ?_) | (refine Mat.ix (by assumption) (by omega) ?_) | (refine Ints.ix (Mat.row (by assumption) _ (by omega)) (by omega) ?_) | (refine Ints.ix (c := 0) (by assumption) (by omega) ?_) | (refine Mat.ix (c := 0) (by assumption) (by omega) ?_) | (refine Ints.ix (c := 0) (Mat.row (by assumption) _ (by omega)) (by omega) ?_) | (refine Ints.ixI (by assumption) (by omega) ?_) | (refine Mat.ixI (by assumption) (by omega) ?_) | (refine Ints.ixI (Mat.row (by assumption) _ (by omega)) (by omega) ?_) | (refine Ints.ld (by assumption) (by omega) ?_) | (refine Mat.ld (by assumption) (by omega) ?_) | (refine Ints.ld (Mat.row (by assumption) _ (by omega)) (by omega) ?_) | (refine At.ld (by assumption) rfl ?_) | (refine At.ldN (by assumption) rfl ?_) | (refine Prs.ln (by assumption) ?_) | (refine Trs.ln (by assumption) ?_) | (refine Prs.ix (by assumption) (by omega) ?_) | (refine Trs.ix (by assumption) (by omega) ?_) | (refine Prs.ldN (by assumption) (by omega) ?_) | (refine Trs.ldN (by assumption) (by omega) ?_) | (refine At.ldN (Blk.at (by assumption)) rfl ?_) | (refine At.ld (Blk.at (by assumption)) rfl ?_) | (refine IxA.mk (by omega) ?_) | (refine Sl.ln (Own.sl (by assumption)) ?_) | (refine Ints.ix (Own.sl (by assumption)) (by omega) ?_) | (refine Ints.ixI (Own.sl (by assumption)) (by omega) ?_) | (refine Ints.ld (Own.sl (by assumption)) (by omega) ?_))
      exact ⟨EE, .inr ⟨l, Fst.zero hP (by omega) (by rw [hla, hfi]; exact hE), HI⟩⟩
    · rw [tf_f hE] at hg
      repeat' ((conv => whnf); first | (refine Dr.quiet tyOk (by kernel_rfl) ?_) | (refine Ints.ldq Hl hla' (by omega) ?_) | (refine Ints.ldq (c := 0) Hl hfi (by omega) ?_) | (refine IxA.mk (by omega) ?_) | (refine Blk.ldAA HK hg ?_) | (refine Rng.mk (by omega) ?_) | (refine Split.pos (by omega) ?_) | (refine Split.neg (by omega) ?_) | (refine Split.mk (fun h => ?_) (fun h => ?_)) | (refine Need.mk (by omega) ?_) | (refine Ints.ln (by assumption) ?_) | (refine Mat.ln (by assumption) ?_) | (refine Ints.ln (Mat.row (by assumption) _ (by omega)) ?_) | (refine Ints.ix (by assumption) (by omega) ?_) | (refine Mat.ix (by assumption) (by omega) ?_) | (refine Ints.ix (Mat.row (by assumption) _ (by omega)) (by omega) ?_) | (refine Ints.ix (c := 0) (by assumption) (by omega) ?_) | (refine Mat.ix (c := 0) (by assumption) (by omega) ?_) | (refine Ints.ix (c := 0) (Mat.row (by assumption) _ (by omega)) (by omega) ?_) | (refine Ints.ixI (by assumption) (by omega) ?_) | (refine Mat.ixI (by assumption) (by omega) ?_) | (refine Ints.ixI (Mat.row (by assumption) _ (by omega)) (by omega) ?_) | (refine Ints.ld (by assumption) (by omega) ?_) | (refine Mat.ld (by assumption) (by omega) ?_) | (refine Ints.ld (Mat.row (by assumption) _ (by omega)) (by omega) ?_) | (refine At.ld (by assumption) rfl ?_) | (refine At.ldN (by assumption) rfl ?_) | (refine Prs.ln (by assumption) ?_) | (refine Trs.ln (by assumption) ?_) | (refine Prs.ix (by assumption) (by omega) ?_) | (refine Trs.ix (by assumption) (by omega) ?_) | (refine Prs.ldN (by assumption) (by omega) ?_) | (refine Trs.ldN (by assumption) (by omega) ?_) | (refine At.ldN (Blk.at (by assumption)) rfl ?_) | (refine At.ld (Blk.at (by assumption)) rfl ?_) | (refine IxA.mk (by omega) ?_) | (refine Sl.ln (Own.sl (by assumption)) ?_) | (refine Ints.ix (Own.sl (by assumption)) (by omega) ?_) | (refine Ints.ixI (Own.sl (by assumption)) (by omega) ?_) | (refine Ints.ld (Own.sl (by assumption)) (by omega) ?_))
      exact ⟨EE, .inl ⟨rfl, Non.zero (by omega) (by rw [hla, hfi]; exact hE)⟩⟩
  | succ mo ih =>
    intro w lv l hP h2 h6 HI
    have hne := hP.ne
    have hlast := hP.rng (l.length - 1) (by omega)
    have h0 := hP.rng 0 (by omega)
    have el : ((l.length : Int) - 1).toNat = l.length - 1 := by omega
    obtain ⟨la, hla⟩ : ∃ x, l.getD (l.length - 1) 0 = x := ⟨_, rfl⟩
    obtain ⟨fi, hfi⟩ : ∃ x, l.getD 0 0 = x := ⟨_, rfl⟩
    rw [hla] at hlast
    rw [hfi] at h0
    refine RC.mk tyOk Try.func99 rfl (by kernel_rfl) fun w1 E1 => ?_
    replace HI := HI.ext E1
    have EE := Ext.refl w1
    have Hl : Ints w1 lv l := Own.sl HI
    refine Bx.blk (l := bvs (gL rr a)) fun b w2 E2 hb2 HK => ?_
    replace HI := HI.ext E2
    replace EE := EE.ext E2
    replace Hl := Hl.ext E2
    have hla' : l.getD ((l.length : Int) - 1).toNat 0 = la := by rw [el]; exact hla
    repeat' ((conv => whnf); first | (refine Dr.quiet tyOk (by kernel_rfl) ?_) | (refine Ints.ldq Hl hla' (by omega) ?_) | (refine Ints.ldq (c := 0) Hl hfi (by omega) ?_) | (refine Rng.mk (by omega) ?_) | (refine Split.pos (by omega) ?_) | (refine Split.neg (by omega) ?_) | (refine Split.mk (fun h => ?_) (fun h => ?_)) | (refine Need.mk (by omega) ?_) | (refine Ints.ln (by assumption) ?_) | (refine Mat.ln (by assumption) ?_) | (refine Ints.ln (Mat.row (by assumption) _ (by omega)) ?_) | (refine Ints.ix (by assumption) (by omega) ?_) | (refine Mat.ix (by assumption) (by omega) ?_) | (refine Ints.ix (Mat.row (by assumption) _ (by omega)) (by omega) ?_) | (refine Ints.ix (c := 0) (by assumption) (by omega) ?_) | (refine Mat.ix (c := 0) (by assumption) (by omega) ?_) | (refine Ints.ix (c := 0) (Mat.row (by assumption) _ (by omega)) (by omega) ?_) | (refine Ints.ixI (by assumption) (by omega) ?_) | (refine Mat.ixI (by assumption) (by omega) ?_) | (refine Ints.ixI (Mat.row (by assumption) _ (by omega)) (by omega) ?_) | (refine Ints.ld (by assumption) (by omega) ?_) | (refine Mat.ld (by assumption) (by omega) ?_) | (refine Ints.ld (Mat.row (by assumption) _ (by omega)) (by omega) ?_) | (refine At.ld (by assumption) rfl ?_) | (refine At.ldN (by assumption) rfl ?_) | (refine Prs.ln (by assumption) ?_) | (refine Trs.ln (by assumption) ?_) | (refine Prs.ix (by assumption) (by omega) ?_) | (refine Trs.ix (by assumption) (by omega) ?_) | (refine Prs.ldN (by assumption) (by omega) ?_) | (refine Trs.ldN (by assumption) (by omega) ?_) | (refine At.ldN (Blk.at (by assumption)) rfl ?_) | (refine At.ld (Blk.at (by assumption)) rfl ?_) | (refine IxA.mk (by omega) ?_) | (refine Sl.ln (Own.sl (by assumption)) ?_) | (refine Ints.ix (Own.sl (by assumption)) (by omega) ?_) | (refine Ints.ixI (Own.sl (by assumption)) (by omega) ?_) | (refine Ints.ld (Own.sl (by assumption)) (by omega) ?_))
    have HI__1 := HI
    have EE__1 := EE
    have Hl__1 := Hl
    have HK__1 := HK
    have hz1 := Nat.le_trans E1.size EE.size
    refine Lp.mk tyOk [false, false, false, false, false, false, true, false, true, true, false, false, false, false, false, false, false, false, false, false, false, false, false, false, false, false, false, false, false, false, true, true, true, true, true, true, true, true, true, true, true, true, true, true, true, true, true, true, true, true, true, true, true, true, true, true, true] (fun m fr wr => getK fr 8 fun k => ∃ c : Nat, c ≤ (5 - fi.toNat) ∧ m = (5 - fi.toNat) - c ∧ k = .int .i64 (fi + 1 + (c : Int)) ∧ (∀ q, fi < q → q < fi + 1 + (c : Int) → Non rr a (l ++ [q]) mo) ∧ Ext w2 wr) ((5 - fi.toNat)) ?_ ?_
    · exact ⟨0, Nat.zero_le _, rfl, (congrArg (Value.int .i64) (by omega)), (fun q h1 h2 => by omega), Ext.refl _⟩
    · intro m w3 u6 u8 u9 u30 u31 u32 u33 u34 u35 u36 u37 u38 u39 u40 u41 u42 u43 u44 u45 u46 u47 u48 u49 u50 u51 u52 u53 u54 u55 u56 hR
      obtain ⟨c, hc, rfl, rfl, hq, EL1⟩ := hR
      replace HI := HI__1.ext EL1
      replace EE := EE__1.ext EL1
      replace Hl := Hl__1.ext EL1
      replace HK := HK__1.ext EL1
      by_cases hcl : c < 5 - fi.toNat
      · have hg := gL_at (rr := rr) (a := a) hlast (k := fi + 1 + (c : Int)) (by omega)
        obtain ⟨k, hkd⟩ : ∃ k, fi + 1 + (c : Int) = k := ⟨_, rfl⟩
        rw [hkd] at hg hq ⊢
        have hnext : Non rr a (l ++ [k]) mo → ∀ q, fi < q → q < fi + 1 + ((c + 1 : Nat) : Int) → Non rr a (l ++ [q]) mo := fun h q h1 h2 => by
          by_cases e : q = k
          · subst e; exact h
          · exact hq q h1 (by omega)
        have ck := contains_pc (x := k) Hl
        by_cases hE : EnG rr a la k
        · rw [tf_t hE] at hg
          by_cases hin : k ∈ l
          · rw [tf_t hin] at ck
            repeat' ((conv => whnf); first | (refine Dr.quiet tyOk (by kernel_rfl) ?_) | (refine IxA.mk (by omega) ?_) | (refine Blk.ldAA HK hg ?_) | (refine VC.pure ck ?_) | (refine VCQ.pure ck ?_) | (refine Rng.mk (by omega) ?_) | (refine Split.pos (by omega) ?_) | (refine Split.neg (by omega) ?_) | (refine Split.mk (fun h => ?_) (fun h => ?_)) | (refine Need.mk (by omega) ?_) | (refine Ints.ln (by assumption) ?_) | (refine Mat.ln (by assumption) ?_) | (refine Ints.ln (Mat.row (by assumption) _ (by omega)) ?_) | (refine Ints.ix (by assumption) (by omega) ?_) | (refine Mat.ix (by assumption) (by omega) ?_) | (refine Ints.ix (Mat.row (by assumption) _ (by omega)) (by omega) ?_) | (refine Ints.ix (c := 0) (by assumption) (by omega) ?_) | (refine Mat.ix (c := 0) (by assumption) (by omega) ?_) | (refine Ints.ix (c := 0) (Mat.row (by assumption) _ (by omega)) (by omega) ?_) | (refine Ints.ixI (by assumption) (by omega) ?_) | (refine Mat.ixI (by assumption) (by omega) ?_) | (refine Ints.ixI (Mat.row (by assumption) _ (by omega)) (by omega) ?_) | (refine Ints.ld (by assumption) (by omega) ?_) | (refine Mat.ld (by assumption) (by omega) ?_) | (refine Ints.ld (Mat.row (by assumption) _ (by omega)) (by omega) ?_) | (refine At.ld (by assumption) rfl ?_) | (refine At.ldN (by assumption) rfl ?_) | (refine Prs.ln (by assumption) ?_) | (refine Trs.ln (by assumption) ?_) | (refine Prs.ix (by assumption) (by omega) ?_) | (refine Trs.ix (by assumption) (by omega) ?_) | (refine Prs.ldN (by assumption) (by omega) ?_) | (refine Trs.ldN (by assumption) (by omega) ?_) | (refine At.ldN (Blk.at (by assumption)) rfl ?_) | (refine At.ld (Blk.at (by assumption)) rfl ?_) | (refine IxA.mk (by omega) ?_) | (refine Sl.ln (Own.sl (by assumption)) ?_) | (refine Ints.ix (Own.sl (by assumption)) (by omega) ?_) | (refine Ints.ixI (Own.sl (by assumption)) (by omega) ?_) | (refine Ints.ld (Own.sl (by assumption)) (by omega) ?_))
            refine ⟨_, (by omega : (5 - fi.toNat) - (c + 1) < (5 - fi.toNat) - c), rfl, c + 1, by omega, rfl, (congrArg (Value.int .i64) (by omega)), hnext (Non.bad (by omega) (.inr (mem_getD.1 hin))), EL1⟩
          · rw [tf_f hin] at ck
            have F : Ext w3 w3 := Ext.refl _
            repeat' ((conv => whnf); first | (refine Dr.plan 45 [5] (.q 1 (.q 3 (.q 6 (.e 0 (.e 2 (.e 4 (.e 5 (.e 7 (.e 8 (.q 9 .nil) .nil) .nil) (.e 7 (.e 5 (.e 8 (.q 9 .nil) .nil) .nil) .nil)) (.e 7 (.e 4 (.e 5 (.e 8 (.q 9 .nil) .nil) .nil) .nil) .nil)) (.e 4 (.e 2 (.e 5 (.e 7 (.e 8 (.q 9 .nil) .nil) .nil) (.e 7 (.e 5 (.e 8 (.q 9 .nil) .nil) .nil) .nil)) (.e 7 (.e 2 (.e 5 (.e 8 (.q 9 .nil) .nil) .nil) .nil) .nil)) (.e 7 (.e 2 (.e 4 (.e 5 (.e 8 (.q 9 .nil) .nil) .nil) .nil) (.e 4 (.e 2 (.e 5 (.e 8 (.q 9 .nil) .nil) .nil) .nil) .nil)) .nil))) (.e 2 (.e 0 (.e 4 (.e 5 (.e 7 (.e 8 (.q 9 .nil) .nil) .nil) (.e 7 (.e 5 (.e 8 (.q 9 .nil) .nil) .nil) .nil)) (.e 7 (.e 4 (.e 5 (.e 8 (.q 9 .nil) .nil) .nil) .nil) .nil)) (.e 4 (.e 0 (.e 5 (.e 7 (.e 8 (.q 9 .nil) .nil) .nil) (.e 7 (.e 5 (.e 8 (.q 9 .nil) .nil) .nil) .nil)) (.e 5 (.e 0 (.e 7 (.e 8 (.q 9 .nil) .nil) .nil) (.e 7 (.e 0 (.e 8 (.q 9 .nil) .nil) .nil) .nil)) (.e 7 (.e 0 (.e 5 (.e 8 (.q 9 .nil) .nil) .nil) (.e 5 (.e 0 (.e 8 (.q 9 .nil) .nil) .nil) .nil)) .nil))) (.e 7 (.e 0 (.e 4 (.e 5 (.e 8 (.q 9 .nil) .nil) .nil) .nil) (.e 4 (.e 0 (.e 5 (.e 8 (.q 9 .nil) .nil) .nil) (.e 5 (.e 0 (.e 8 (.q 9 .nil) .nil) .nil) .nil)) .nil)) .nil))) (.e 4 (.e 0 (.e 2 (.e 5 (.e 7 (.e 8 (.q 9 .nil) .nil) .nil) (.e 7 (.e 5 (.e 8 (.q 9 .nil) .nil) .nil) .nil)) (.e 7 (.e 2 (.e 5 (.e 8 (.q 9 .nil) .nil) .nil) .nil) .nil)) (.e 2 (.e 0 (.e 5 (.e 7 (.e 8 (.q 9 .nil) .nil) .nil) (.e 7 (.e 5 (.e 8 (.q 9 .nil) .nil) .nil) .nil)) (.e 5 (.e 0 (.e 7 (.e 8 (.q 9 .nil) .nil) .nil) (.e 7 (.e 0 (.e 8 (.q 9 .nil) .nil) .nil) .nil)) (.e 7 (.e 0 (.e 5 (.e 8 (.q 9 .nil) .nil) .nil) (.e 5 (.e 0 (.e 8 (.q 9 .nil) .nil) .nil) .nil)) .nil))) (.e 7 (.e 0 (.e 2 (.e 5 (.e 8 (.q 9 .nil) .nil) .nil) .nil) (.e 2 (.e 0 (.e 5 (.e 8 (.q 9 .nil) .nil) .nil) (.e 5 (.e 0 (.e 8 (.q 9 .nil) .nil) .nil) .nil)) .nil)) .nil))) (.e 7 (.e 0 (.e 2 (.e 4 (.e 5 (.e 8 (.q 9 .nil) .nil) .nil) .nil) (.e 4 (.e 2 (.e 5 (.e 8 (.q 9 .nil) .nil) .nil) .nil) .nil)) (.e 2 (.e 0 (.e 4 (.e 5 (.e 8 (.q 9 .nil) .nil) .nil) .nil) (.e 4 (.e 0 (.e 5 (.e 8 (.q 9 .nil) .nil) .nil) (.e 5 (.e 0 (.e 8 (.q 9 .nil) .nil) .nil) .nil)) .nil)) (.e 4 (.e 0 (.e 2 (.e 5 (.e 8 (.q 9 .nil) .nil) .nil) .nil) (.e 2 (.e 0 (.e 5 (.e 8 (.q 9 .nil) .nil) .nil) (.e 5 (.e 0 (.e 8 (.q 9 .nil) .nil) .nil) .nil)) .nil)) .nil))) .nil))))))) tyOk rfl (by kernel_rfl) ?_) | (refine Dr.quiet tyOk (by kernel_rfl) ?_) | (refine IxA.mk (by omega) ?_) | (refine Blk.ldAA HK hg ?_) | (refine VC.pure ck ?_) | (refine VCQ.pure ck ?_) | (refine Rng.mk (by omega) ?_) | (refine Split.pos (by omega) ?_) | (refine Split.neg (by omega) ?_) | (refine Split.mk (fun h => ?_) (fun h => ?_)) | (refine Need.mk (by omega) ?_) | (refine Ints.ln (by assumption) ?_) | (refine Mat.ln (by assumption) ?_) | (refine Ints.ln (Mat.row (by assumption) _ (by omega)) ?_) | (refine Ints.ix (by assumption) (by omega) ?_) | (refine Mat.ix (by assumption) (by omega) ?_) | (refine Ints.ix (Mat.row (by assumption) _ (by omega)) (by omega) ?_) | (refine Ints.ix (c := 0) (by assumption) (by omega) ?_) | (refine Mat.ix (c := 0) (by assumption) (by omega) ?_) | (refine Ints.ix (c := 0) (Mat.row (by assumption) _ (by omega)) (by omega) ?_) | (refine Ints.ixI (by assumption) (by omega) ?_) | (refine Mat.ixI (by assumption) (by omega) ?_) | (refine Ints.ixI (Mat.row (by assumption) _ (by omega)) (by omega) ?_) | (refine Ints.ld (by assumption) (by omega) ?_) | (refine Mat.ld (by assumption) (by omega) ?_) | (refine Ints.ld (Mat.row (by assumption) _ (by omega)) (by omega) ?_) | (refine At.ld (by assumption) rfl ?_) | (refine At.ldN (by assumption) rfl ?_) | (refine Prs.ln (by assumption) ?_) | (refine Trs.ln (by assumption) ?_) | (refine Prs.ix (by assumption) (by omega) ?_) | (refine Trs.ix (by assumption) (by omega) ?_) | (refine Prs.ldN (by assumption) (by omega) ?_) | (refine Trs.ldN (by assumption) (by omega) ?_) | (refine At.ldN (Blk.at (by assumption)) rfl ?_) | (refine At.ld (Blk.at (by assumption)) rfl ?_) | (refine IxA.mk (by omega) ?_) | (refine Sl.ln (Own.sl (by assumption)) ?_) | (refine Ints.ix (Own.sl (by assumption)) (by omega) ?_) | (refine Ints.ixI (Own.sl (by assumption)) (by omega) ?_) | (refine Ints.ld (Own.sl (by assumption)) (by omega) ?_))
            have key : ∀ (wz : World) (cv bv dv : Value), Ext w3 wz → Go.Eng.Own w3.heap.size 3 1 wz dv (l.length + 1) (l.map i64v ++ [.int .i64 k]) → (?P : World → Value → Value → Value → Prop) wz cv bv dv := ?key
            · repeat' ((conv => whnf); first | (refine And.intro ?_ ?_) | (refine At.ldN (Blk.at (HK.ext F)) (by rw [bvs_len, gL_len]) ?_) | (refine Rng.mk (by omega) ?_) | (refine VCX.rc (clone_rc (Hl.ext F) (by omega)) ?_; rintro cv wc Fc ⟨_, HC⟩; replace HC := Own.base HC F.size; (try replace HB := Sl.ext HB Fc); replace F := F.trans Fc) | (refine VX.lit1 Try.underlying25 eInt rfl fun bv wb Fb HB => ?_; (try replace HC := Own.ext HC Fb); replace F := F.trans Fb) | (refine VE.app Try.underlying25 eInt rfl (by omega) HC F rfl HB (by simp [Value.oneCell']) (by omega) (by omega) fun dv wd Fd Gd HD => ?_; replace F := Fd) | (refine key _ cv bv _ F HD))
            intro wz cv bv dv Fz HD
            have HDL : OB w3.heap.size wz dv (l ++ [k]) := by
              show Go.Eng.Own _ _ _ _ _ (l ++ [k]).length ((l ++ [k]).map i64v)
              rw [List.length_append, List.map_append]; exact HD
            have hP2 := hP.snoc (k := k) (by rw [hfi]; omega) (by omega) (fun t ht e => hin (mem_getD.2 ⟨t, ht, e⟩)) (by rw [hla]; exact hE)
            have hl2 := snoc_len l k
            have em : (((mo + 1 : Nat) : Int) - 1) = (mo : Int) := by omega
            conv => whnf
            rw [em]
            refine VCX.rc (ih hP2 (by omega) (by omega) (Own.base HDL (Nat.zero_le _))) ?_
            rintro u w9 E9 HR
            rcases HR with ⟨rfl, hno⟩ | ⟨r, hf, Hr⟩
            · repeat' ((conv => whnf); first | (refine Dr.quiet tyOk (by kernel_rfl) ?_) | (refine VS.nenil true Try.underlying25 ⟨_, _, _, rfl, rfl⟩ ?_) | (refine Rng.mk (by omega) ?_) | (refine Split.pos (by omega) ?_) | (refine Split.neg (by omega) ?_) | (refine Split.mk (fun h => ?_) (fun h => ?_)) | (refine Need.mk (by omega) ?_) | (refine Ints.ln (by assumption) ?_) | (refine Mat.ln (by assumption) ?_) | (refine Ints.ln (Mat.row (by assumption) _ (by omega)) ?_) | (refine Ints.ix (by assumption) (by omega) ?_) | (refine Mat.ix (by assumption) (by omega) ?_) | (refine Ints.ix (Mat.row (by assumption) _ (by omega)) (by omega) ?_) | (refine Ints.ix (c := 0) (by assumption) (by omega) ?_) | (refine Mat.ix (c := 0) (by assumption) (by omega) ?_) | (refine Ints.ix (c := 0) (Mat.row (by assumption) _ (by omega)) (by omega) ?_) | (refine Ints.ixI (by assumption) (by omega) ?_) | (refine Mat.ixI (by assumption) (by omega) ?_) | (refine Ints.ixI (Mat.row (by assumption) _ (by omega)) (by omega) ?_) | (refine Ints.ld (by assumption) (by omega) ?_) | (refine Mat.ld (by assumption) (by omega) ?_) | (refine Ints.ld (Mat.row (by assumption) _ (by omega)) (by omega) ?_) | (refine At.ld (by assumption) rfl ?_) | (refine At.ldN (by assumption) rfl ?_) | (refine Prs.ln (by assumption) ?_) | (refine Trs.ln (by assumption) ?_) | (refine Prs.ix (by assumption) (by omega) ?_) | (refine Trs.ix (by assumption) (by omega) ?_) | (refine Prs.ldN (by assumption) (by omega) ?_) | (refine Trs.ldN (by assumption) (by omega) ?_) | (refine At.ldN (Blk.at (by assumption)) rfl ?_) | (refine At.ld (Blk.at (by assumption)) rfl ?_) | (refine IxA.mk (by omega) ?_) | (refine Sl.ln (Own.sl (by assumption)) ?_) | (refine Ints.ix (Own.sl (by assumption)) (by omega) ?_) | (refine Ints.ixI (Own.sl (by assumption)) (by omega) ?_) | (refine Ints.ld (Own.sl (by assumption)) (by omega) ?_))
              refine ⟨_, (by omega : (5 - fi.toNat) - (c + 1) < (5 - fi.toNat) - c), rfl, c + 1, by omega, rfl, (congrArg (Value.int .i64) (by omega)), hnext hno, (EL1.trans (Fz.trans E9))⟩
            · have hrl := hf.1.2.1
              obtain ⟨ux, um, uc, rfl, hux⟩ := Ints.some_of (Own.sl Hr) (by omega)
              repeat' ((conv => whnf); first | (refine Dr.quiet tyOk (by kernel_rfl) ?_) | (refine VS.nenil false Try.underlying25 ⟨_, _, _, rfl, hux⟩ ?_) | (refine Rng.mk (by omega) ?_) | (refine Split.pos (by omega) ?_) | (refine Split.neg (by omega) ?_) | (refine Split.mk (fun h => ?_) (fun h => ?_)) | (refine Need.mk (by omega) ?_) | (refine Ints.ln (by assumption) ?_) | (refine Mat.ln (by assumption) ?_) | (refine Ints.ln (Mat.row (by assumption) _ (by omega)) ?_) | (refine Ints.ix (by assumption) (by omega) ?_) | (refine Mat.ix (by assumption) (by omega) ?_) | (refine Ints.ix (Mat.row (by assumption) _ (by omega)) (by omega) ?_) | (refine Ints.ix (c := 0) (by assumption) (by omega) ?_) | (refine Mat.ix (c := 0) (by assumption) (by omega) ?_) | (refine Ints.ix (c := 0) (Mat.row (by assumption) _ (by omega)) (by omega) ?_) | (refine Ints.ixI (by assumption) (by omega) ?_) | (refine Mat.ixI (by assumption) (by omega) ?_) | (refine Ints.ixI (Mat.row (by assumption) _ (by omega)) (by omega) ?_) | (refine Ints.ld (by assumption) (by omega) ?_) | (refine Mat.ld (by assumption) (by omega) ?_) | (refine Ints.ld (Mat.row (by assumption) _ (by omega)) (by omega) ?_) | (refine At.ld (by assumption) rfl ?_) | (refine At.ldN (by assumption) rfl ?_) | (refine Prs.ln (by assumption) ?_) | (refine Trs.ln (by assumption) ?_) | (refine Prs.ix (by assumption) (by omega) ?_) | (refine Trs.ix (by assumption) (by omega) ?_) | (refine Prs.ldN (by assumption) (by omega) ?_) | (refine Trs.ldN (by assumption) (by omega) ?_) | (refine At.ldN (Blk.at (by assumption)) rfl ?_) | (refine At.ld (Blk.at (by assumption)) rfl ?_) | (refine IxA.mk (by omega) ?_) | (refine Sl.ln (Own.sl (by assumption)) ?_) | (refine Ints.ix (Own.sl (by assumption)) (by omega) ?_) | (refine Ints.ixI (Own.sl (by assumption)) (by omega) ?_) | (refine Ints.ld (Own.sl (by assumption)) (by omega) ?_))
              exact ⟨EE.trans (Fz.trans E9), .inr ⟨r, hf.up (by omega) (fun q h1 h2 => hq q (by omega) h2), Hr⟩⟩
        · rw [tf_f hE] at hg
          repeat' ((conv => whnf); first | (refine Dr.quiet tyOk (by kernel_rfl) ?_) | (refine IxA.mk (by omega) ?_) | (refine Blk.ldAA HK hg ?_) | (refine Rng.mk (by omega) ?_) | (refine Split.pos (by omega) ?_) | (refine Split.neg (by omega) ?_) | (refine Split.mk (fun h => ?_) (fun h => ?_)) | (refine Need.mk (by omega) ?_) | (refine Ints.ln (by assumption) ?_) | (refine Mat.ln (by assumption) ?_) | (refine Ints.ln (Mat.row (by assumption) _ (by omega)) ?_) | (refine Ints.ix (by assumption) (by omega) ?_) | (refine Mat.ix (by assumption) (by omega) ?_) | (refine Ints.ix (Mat.row (by assumption) _ (by omega)) (by omega) ?_) | (refine Ints.ix (c := 0) (by assumption) (by omega) ?_) | (refine Mat.ix (c := 0) (by assumption) (by omega) ?_) | (refine Ints.ix (c := 0) (Mat.row (by assumption) _ (by omega)) (by omega) ?_) | (refine Ints.ixI (by assumption) (by omega) ?_) | (refine Mat.ixI (by assumption) (by omega) ?_) | (refine Ints.ixI (Mat.row (by assumption) _ (by omega)) (by omega) ?_) | (refine Ints.ld (by assumption) (by omega) ?_) | (refine Mat.ld (by assumption) (by omega) ?_) | (refine Ints.ld (Mat.row (by assumption) _ (by omega)) (by omega) ?_) | (refine At.ld (by assumption) rfl ?_) | (refine At.ldN (by assumption) rfl ?_) | (refine Prs.ln (by assumption) ?_) | (refine Trs.ln (by assumption) ?_) | (refine Prs.ix (by assumption) (by omega) ?_) | (refine Trs.ix (by assumption) (by omega) ?_) | (refine Prs.ldN (by assumption) (by omega) ?_) | (refine Trs.ldN (by assumption) (by omega) ?_) | (refine At.ldN (Blk.at (by assumption)) rfl ?_) | (refine At.ld (Blk.at (by assumption)) rfl ?_) | (refine IxA.mk (by omega) ?_) | (refine Sl.ln (Own.sl (by assumption)) ?_) | (refine Ints.ix (Own.sl (by assumption)) (by omega) ?_) | (refine Ints.ixI (Own.sl (by assumption)) (by omega) ?_) | (refine Ints.ld (Own.sl (by assumption)) (by omega) ?_))
          refine ⟨_, (by omega : (5 - fi.toNat) - (c + 1) < (5 - fi.toNat) - c), rfl, c + 1, by omega, rfl, (congrArg (Value.int .i64) (by omega)), hnext (Non.bad (by omega) (.inl (by rw [hla]; exact hE))), EL1⟩
      · repeat' ((conv => whnf); first | (refine Dr.quiet tyOk (by kernel_rfl) ?_) | (refine Rng.mk (by omega) ?_) | (refine Split.pos (by omega) ?_) | (refine Split.neg (by omega) ?_) | (refine Split.mk (fun h => ?_) (fun h => ?_)) | (refine Need.mk (by omega) ?_) | (refine Ints.ln (by assumption) ?_) | (refine Mat.ln (by assumption) ?_) | (refine Ints.ln (Mat.row (by assumption) _ (by omega)) ?_) | (refine Ints.ix (by assumption) (by omega) ?_) | (refine Mat.ix (by assumption) (by omega) ?_) | (refine Ints.ix (Mat.row (by assumption) _ (by omega)) (by omega) ?_) | (refine Ints.ix (c := 0) (by assumption) (by omega) ?_) | (refine Mat.ix (c := 0) (by assumption) (by omega) ?_) | (refine Ints.ix (c := 0) (Mat.row (by assumption) _ (by omega)) (by omega) ?_) | (refine Ints.ixI (by assumption) (by omega) ?_) | (refine Mat.ixI (by assumption) (by omega) ?_) | (refine Ints.ixI (Mat.row (by assumption) _ (by omega)) (by omega) ?_) | (refine Ints.ld (by assumption) (by omega) ?_) | (refine Mat.ld (by assumption) (by omega) ?_) | (refine Ints.ld (Mat.row (by assumption) _ (by omega)) (by omega) ?_) | (refine At.ld (by assumption) rfl ?_) | (refine At.ldN (by assumption) rfl ?_) | (refine Prs.ln (by assumption) ?_) | (refine Trs.ln (by assumption) ?_) | (refine Prs.ix (by assumption) (by omega) ?_) | (refine Trs.ix (by assumption) (by omega) ?_) | (refine Prs.ldN (by assumption) (by omega) ?_) | (refine Trs.ldN (by assumption) (by omega) ?_) | (refine At.ldN (Blk.at (by assumption)) rfl ?_) | (refine At.ld (Blk.at (by assumption)) rfl ?_) | (refine IxA.mk (by omega) ?_) | (refine Sl.ln (Own.sl (by assumption)) ?_) | (refine Ints.ix (Own.sl (by assumption)) (by omega) ?_) | (refine Ints.ixI (Own.sl (by assumption)) (by omega) ?_) | (refine Ints.ld (Own.sl (by assumption)) (by omega) ?_))
        exact ⟨EE, .inl ⟨rfl, Non.up hn (by omega) (fun q h1 h2 => hq q (by omega) (by omega))⟩⟩
end Go.Proofs.Ytebklnmafjbhcaa
set_option linter.unusedVariables false
set_option linter.unusedSimpArgs false
namespace Go.Proofs.Ytebklnmafjbhcaa
open Go.Eng
set_option maxRecDepth 100000
set_option maxHeartbeats 4000000

/-- the circle as a slice: nil if there is none -/
def CiR (rr : List (List Int)) (a : List Int) (w : World) (u : Value) : Prop := (u = .slice none 0 0 ∧ circ rr a = []) ∨ (isC rr a (circ rr a) ∧ OI w u (circ rr a))
theorem CiR.ext {rr : List (List Int)} {a : List Int} {w w' : World} {u : Value} (h : CiR rr a w u) (hx : Ext w w') : CiR rr a w' u := h.imp id fun h => ⟨h.1, Own.ext h.2 hx⟩
theorem circle_rc {rr : List (List Int)} {a : List Int} {w : World} (hn : rr.length ≤ 6) : RC Try.prog 69 [.agg (bvs (gL rr a)).toArray] w NoB (fun u w' => CiR rr a w' u) := by
  refine RC.mk tyOk Try.func69 rfl (by kernel_rfl) fun w1 E1 => ?_
  have EE := Ext.refl w1
  refine Bx.blk (l := bvs (gL rr a)) fun b w2 E2 hb2 HK => ?_
  replace EE := EE.ext E2
  repeat' ((conv => whnf); first | (refine Dr.quiet tyOk (by kernel_rfl) ?_) | (refine Rng.mk (by omega) ?_) | (refine Split.pos (by omega) ?_) | (refine Split.neg (by omega) ?_) | (refine Split.mk (fun h => ?_) (fun h => ?_)) | (refine Need.mk (by omega) ?_) | (refine Ints.ln (by assumption) ?_) | (refine Mat.ln (by assumption) ?_) | (refine Ints.ln (Mat.row (by assumption) _ (by omega)) ?_) | (refine Ints.ix (by assumption) (by omega) ?_) | (refine Mat.ix (by assumption) (by omega) ?_) | (refine Ints.ix (Mat.row (by assumption) _ (by omega)) (by omega) ?_) | (refine Ints.ix (c := 0) (by assumption) (by omega) ?_) | (refine Mat.ix (c := 0) (by assumption) (by omega) ?_) | (refine Ints.ix (c := 0) (Mat.row (by assumption) _ (by omega)) (by omega) ?_) | (refine Ints.ixI (by assumption) (by omega) ?_) | (refine Mat.ixI (by assumption) (by omega) ?_) | (refine Ints.ixI (Mat.row (by assumption) _ (by omega)) (by omega) ?_) | (refine Ints.ld (by assumption) (by omega) ?_) | (refine Mat.ld (by assumption) (by omega) ?_) | (refine Ints.ld (Mat.row (by assumption) _ (by omega)) (by omega) ?_) | (refine At.ld (by assumption) rfl ?_) | (refine At.ldN (by assumption) rfl ?_) | (refine Prs.ln (by assumption) ?_) | (refine Trs.ln (by assumption) ?_) | (refine Prs.ix (by assumption) (by omega) ?_) | (refine Trs.ix (by assumption) (by omega) ?_) | (refine Prs.ldN (by assumption) (by omega) ?_) | (refine Trs.ldN (by assumption) (by omega) ?_) | (refine At.ldN (Blk.at (by assumption)) rfl ?_) | (refine At.ld (Blk.at (by assumption)) rfl ?_) | (refine IxA.mk (by omega) ?_) | (refine Sl.ln (Own.sl (by assumption)) ?_) | (refine Ints.ix (Own.sl (by assumption)) (by omega) ?_) | (refine Ints.ixI (Own.sl (by assumption)) (by omega) ?_) | (refine Ints.ld (Own.sl (by assumption)) (by omega) ?_))
  have EE__1 := EE
  have HK__1 := HK
  have hz1 := Nat.le_trans E1.size EE.size
  refine Lp.mk tyOk [false, false, true, true, true, true, true, true, true, true, true, true, true, true, true, true, true, true, true, true, true, true] (fun m fr wr => getK fr 3 fun mo => ∃ c : Nat, c ≤ 5 ∧ m = 5 - c ∧ mo = .int .i64 (1 + (c : Int)) ∧ (∀ q, 1 ≤ q → q < 1 + c → ∀ x : Int, 0 ≤ x → x < 6 → Non rr a [x] q) ∧ Ext w2 wr) (5) ?_ ?_
  · exact ⟨0, Nat.zero_le _, rfl, rfl, (fun q h1 h2 => by omega), Ext.refl _⟩
  · intro m w3 u2 u3 u4 u5 u6 u7 u8 u9 u10 u11 u12 u13 u14 u15 u16 u17 u18 u19 u20 u21 hR
    obtain ⟨c, hc, rfl, rfl, h1, EL1⟩ := hR
    replace EE := EE__1.ext EL1
    replace HK := HK__1.ext EL1
    by_cases hcl : c < 5
    · repeat' ((conv => whnf); first | (refine Dr.quiet tyOk (by kernel_rfl) ?_) | (refine Rng.mk (by omega) ?_) | (refine Split.pos (by omega) ?_) | (refine Split.neg (by omega) ?_) | (refine Split.mk (fun h => ?_) (fun h => ?_)) | (refine Need.mk (by omega) ?_) | (refine Ints.ln (by assumption) ?_) | (refine Mat.ln (by assumption) ?_) | (refine Ints.ln (Mat.row (by assumption) _ (by omega)) ?_) | (refine Ints.ix (by assumption) (by omega) ?_) | (refine Mat.ix (by assumption) (by omega) ?_) | (refine Ints.ix (Mat.row (by assumption) _ (by omega)) (by omega) ?_) | (refine Ints.ix (c := 0) (by assumption) (by omega) ?_) | (refine Mat.ix (c := 0) (by assumption) (by omega) ?_) | (refine Ints.ix (c := 0) (Mat.row (by assumption) _ (by omega)) (by omega) ?_) | (refine Ints.ixI (by assumption) (by omega) ?_) | (refine Mat.ixI (by assumption) (by omega) ?_) | (refine Ints.ixI (Mat.row (by assumption) _ (by omega)) (by omega) ?_) | (refine Ints.ld (by assumption) (by omega) ?_) | (refine Mat.ld (by assumption) (by omega) ?_) | (refine Ints.ld (Mat.row (by assumption) _ (by omega)) (by omega) ?_) | (refine At.ld (by assumption) rfl ?_) | (refine At.ldN (by assumption) rfl ?_) | (refine Prs.ln (by assumption) ?_) | (refine Trs.ln (by assumption) ?_) | (refine Prs.ix (by assumption) (by omega) ?_) | (refine Trs.ix (by assumption) (by omega) ?_) | (refine Prs.ldN (by assumption) (by omega) ?_) | (refine Trs.ldN (by assumption) (by omega) ?_) | (refine At.ldN (Blk.at (by assumption)) rfl ?_) | (refine At.ld (Blk.at (by assumption)) rfl ?_) | (refine IxA.mk (by omega) ?_) | (refine Sl.ln (Own.sl (by assumption)) ?_) | (refine Ints.ix (Own.sl (by assumption)) (by omega) ?_) | (refine Ints.ixI (Own.sl (by assumption)) (by omega) ?_) | (refine Ints.ld (Own.sl (by assumption)) (by omega) ?_))
      have EE__2 := EE
      have HK__2 := HK
      have EL1__2 := EL1
      have hz2 := Nat.le_trans E1.size EE.size
      refine Lp.mk tyOk [false, false, true, false, true, true, false, false, false, false, true, true, true, true, true, true, true, true, true, true, true, true] (fun m fr wr => getK fr 10 fun i => ∃ d : Nat, d ≤ 6 ∧ m = 6 - d ∧ i = .int .i64 (d : Int) ∧ (∀ x : Int, 0 ≤ x → x < d → Non rr a [x] (1 + c)) ∧ Ext w3 wr) (6) ?_ ?_
      · exact ⟨0, Nat.zero_le _, rfl, rfl, (fun x h1 h2 => by omega), Ext.refl _⟩
      · intro m w4 u2 u4 u5 u10 u11 u12 u13 u14 u15 u16 u17 u18 u19 u20 u21 hR
        obtain ⟨d, hd, rfl, rfl, h2, EL2⟩ := hR
        replace EE := EE__2.ext EL2
        replace HK := HK__2.ext EL2
        replace EL1 := EL1__2.ext EL2
        by_cases hdl : d < 6
        · repeat' ((conv => whnf); first | (refine Dr.quiet tyOk (by kernel_rfl) ?_) | (refine At.ldN (Blk.at HK) (by rw [bvs_len, gL_len]) ?_) | (refine Rng.mk (by omega) ?_) | (refine Split.pos (by omega) ?_) | (refine Split.neg (by omega) ?_) | (refine Split.mk (fun h => ?_) (fun h => ?_)) | (refine Need.mk (by omega) ?_) | (refine Ints.ln (by assumption) ?_) | (refine Mat.ln (by assumption) ?_) | (refine Ints.ln (Mat.row (by assumption) _ (by omega)) ?_) | (refine Ints.ix (by assumption) (by omega) ?_) | (refine Mat.ix (by assumption) (by omega) ?_) | (refine Ints.ix (Mat.row (by assumption) _ (by omega)) (by omega) ?_) | (refine Ints.ix (c := 0) (by assumption) (by omega) ?_) | (refine Mat.ix (c := 0) (by assumption) (by omega) ?_) | (refine Ints.ix (c := 0) (Mat.row (by assumption) _ (by omega)) (by omega) ?_) | (refine Ints.ixI (by assumption) (by omega) ?_) | (refine Mat.ixI (by assumption) (by omega) ?_) | (refine Ints.ixI (Mat.row (by assumption) _ (by omega)) (by omega) ?_) | (refine Ints.ld (by assumption) (by omega) ?_) | (refine Mat.ld (by assumption) (by omega) ?_) | (refine Ints.ld (Mat.row (by assumption) _ (by omega)) (by omega) ?_) | (refine At.ld (by assumption) rfl ?_) | (refine At.ldN (by assumption) rfl ?_) | (refine Prs.ln (by assumption) ?_) | (refine Trs.ln (by assumption) ?_) | (refine Prs.ix (by assumption) (by omega) ?_) | (refine Trs.ix (by assumption) (by omega) ?_) | (refine Prs.ldN (by assumption) (by omega) ?_) | (refine Trs.ldN (by assumption) (by omega) ?_) | (refine At.ldN (Blk.at (by assumption)) rfl ?_) | (refine At.ld (Blk.at (by assumption)) rfl ?_) | (refine IxA.mk (by omega) ?_) | (refine Sl.ln (Own.sl (by assumption)) ?_) | (refine Ints.ix (Own.sl (by assumption)) (by omega) ?_) | (refine Ints.ixI (Own.sl (by assumption)) (by omega) ?_) | (refine Ints.ld (Own.sl (by assumption)) (by omega) ?_))
          conv => whnf
          refine VE.litI [(d : Int)] Try.underlying25 eInt (by first | decide | simp) fun lv w5 E5 HL _ => ?_
          replace HL := HL 0 (Nat.zero_le _)
          replace EE := EE.ext E5
          replace HK := HK.ext E5
          replace EL1 := EL1.ext E5
          replace EL2 := EL2.ext E5
          have em : (1 + (c : Int)) = ((1 + c : Nat) : Int) := by omega
          rw [em]
          conv => whnf
          refine VC.rc (close_rc hn (1 + c) (Pth.one (k := (d : Int)) (by omega)) (by simp; omega) (by simp; omega) HL) ?_
          rintro _ w6 E6 HR
          replace EE := EE.ext E6
          replace HK := HK.ext E6
          replace EL1 := EL1.ext E6
          replace EL2 := EL2.ext E6
          replace HL := HL.ext E6
          rw [← em]
          rcases HR with ⟨rfl, hno⟩ | ⟨r, hf, Hr⟩
          · repeat' ((conv => whnf); first | (refine Dr.quiet tyOk (by kernel_rfl) ?_) | (refine VS.nenil true Try.underlying25 ⟨_, _, _, rfl, rfl⟩ ?_) | (refine Rng.mk (by omega) ?_) | (refine Split.pos (by omega) ?_) | (refine Split.neg (by omega) ?_) | (refine Split.mk (fun h => ?_) (fun h => ?_)) | (refine Need.mk (by omega) ?_) | (refine Ints.ln (by assumption) ?_) | (refine Mat.ln (by assumption) ?_) | (refine Ints.ln (Mat.row (by assumption) _ (by omega)) ?_) | (refine Ints.ix (by assumption) (by omega) ?_) | (refine Mat.ix (by assumption) (by omega) ?_) | (refine Ints.ix (Mat.row (by assumption) _ (by omega)) (by omega) ?_) | (refine Ints.ix (c := 0) (by assumption) (by omega) ?_) | (refine Mat.ix (c := 0) (by assumption) (by omega) ?_) | (refine Ints.ix (c := 0) (Mat.row (by assumption) _ (by omega)) (by omega) ?_) | (refine Ints.ixI (by assumption) (by omega) ?_) | (refine Mat.ixI (by assumption) (by omega) ?_) | (refine Ints.ixI (Mat.row (by assumption) _ (by omega)) (by omega) ?_) | (refine Ints.ld (by assumption) (by omega) ?_) | (refine Mat.ld (by assumption) (by omega) ?_) | (refine Ints.ld (Mat.row (by assumption) _ (by omega)) (by omega) ?_) | (refine At.ld (by assumption) rfl ?_) | (refine At.ldN (by assumption) rfl ?_) | (refine Prs.ln (by assumption) ?_) | (refine Trs.ln (by assumption) ?_) | (refine Prs.ix (by assumption) (by omega) ?_) | (refine Trs.ix (by assumption) (by omega) ?_) | (refine Prs.ldN (by assumption) (by omega) ?_) | (refine Trs.ldN (by assumption) (by omega) ?_) | (refine At.ldN (Blk.at (by assumption)) rfl ?_) | (refine At.ld (Blk.at (by assumption)) rfl ?_) | (refine IxA.mk (by omega) ?_) | (refine Sl.ln (Own.sl (by assumption)) ?_) | (refine Ints.ix (Own.sl (by assumption)) (by omega) ?_) | (refine Ints.ixI (Own.sl (by assumption)) (by omega) ?_) | (refine Ints.ld (Own.sl (by assumption)) (by omega) ?_))
            refine ⟨_, (by omega : 6 - (d + 1) < 6 - d), rfl, d + 1, by omega, rfl, rfl, fun x h3 h4 => ?_, EL2⟩
            by_cases e : x = d
            · subst e; exact hno
            · exact h2 x h3 (by omega)
          · have hc := circ_some hn hf h1 (fun x h3 h4 => h2 x h3 h4)
            have hrl := hf.1.2.1
            obtain ⟨ux, um, uc, rfl, hux⟩ := Ints.some_of (Own.sl Hr) (by simp at hrl; omega)
            repeat' ((conv => whnf); first | (refine Dr.quiet tyOk (by kernel_rfl) ?_) | (refine VS.nenil false Try.underlying25 ⟨_, _, _, rfl, hux⟩ ?_) | (refine Rng.mk (by omega) ?_) | (refine Split.pos (by omega) ?_) | (refine Split.neg (by omega) ?_) | (refine Split.mk (fun h => ?_) (fun h => ?_)) | (refine Need.mk (by omega) ?_) | (refine Ints.ln (by assumption) ?_) | (refine Mat.ln (by assumption) ?_) | (refine Ints.ln (Mat.row (by assumption) _ (by omega)) ?_) | (refine Ints.ix (by assumption) (by omega) ?_) | (refine Mat.ix (by assumption) (by omega) ?_) | (refine Ints.ix (Mat.row (by assumption) _ (by omega)) (by omega) ?_) | (refine Ints.ix (c := 0) (by assumption) (by omega) ?_) | (refine Mat.ix (c := 0) (by assumption) (by omega) ?_) | (refine Ints.ix (c := 0) (Mat.row (by assumption) _ (by omega)) (by omega) ?_) | (refine Ints.ixI (by assumption) (by omega) ?_) | (refine Mat.ixI (by assumption) (by omega) ?_) | (refine Ints.ixI (Mat.row (by assumption) _ (by omega)) (by omega) ?_) | (refine Ints.ld (by assumption) (by omega) ?_) | (refine Mat.ld (by assumption) (by omega) ?_) | (refine Ints.ld (Mat.row (by assumption) _ (by omega)) (by omega) ?_) | (refine At.ld (by assumption) rfl ?_) | (refine At.ldN (by assumption) rfl ?_) | (refine Prs.ln (by assumption) ?_) | (refine Trs.ln (by assumption) ?_) | (refine Prs.ix (by assumption) (by omega) ?_) | (refine Trs.ix (by assumption) (by omega) ?_) | (refine Prs.ldN (by assumption) (by omega) ?_) | (refine Trs.ldN (by assumption) (by omega) ?_) | (refine At.ldN (Blk.at (by assumption)) rfl ?_) | (refine At.ld (Blk.at (by assumption)) rfl ?_) | (refine IxA.mk (by omega) ?_) | (refine Sl.ln (Own.sl (by assumption)) ?_) | (refine Ints.ix (Own.sl (by assumption)) (by omega) ?_) | (refine Ints.ixI (Own.sl (by assumption)) (by omega) ?_) | (refine Ints.ld (Own.sl (by assumption)) (by omega) ?_))
            exact ⟨EE, .inr (by rw [hc]; exact ⟨hf.1.1, Hr⟩)⟩
        · repeat' ((conv => whnf); first | (refine Dr.quiet tyOk (by kernel_rfl) ?_) | (refine Rng.mk (by omega) ?_) | (refine Split.pos (by omega) ?_) | (refine Split.neg (by omega) ?_) | (refine Split.mk (fun h => ?_) (fun h => ?_)) | (refine Need.mk (by omega) ?_) | (refine Ints.ln (by assumption) ?_) | (refine Mat.ln (by assumption) ?_) | (refine Ints.ln (Mat.row (by assumption) _ (by omega)) ?_) | (refine Ints.ix (by assumption) (by omega) ?_) | (refine Mat.ix (by assumption) (by omega) ?_) | (refine Ints.ix (Mat.row (by assumption) _ (by omega)) (by omega) ?_) | (refine Ints.ix (c := 0) (by assumption) (by omega) ?_) | (refine Mat.ix (c := 0) (by assumption) (by omega) ?_) | (refine Ints.ix (c := 0) (Mat.row (by assumption) _ (by omega)) (by omega) ?_) | (refine Ints.ixI (by assumption) (by omega) ?_) | (refine Mat.ixI (by assumption) (by omega) ?_) | (refine Ints.ixI (Mat.row (by assumption) _ (by omega)) (by omega) ?_) | (refine Ints.ld (by assumption) (by omega) ?_) | (refine Mat.ld (by assumption) (by omega) ?_) | (refine Ints.ld (Mat.row (by assumption) _ (by omega)) (by omega) ?_) | (refine At.ld (by assumption) rfl ?_) | (refine At.ldN (by assumption) rfl ?_) | (refine Prs.ln (by assumption) ?_) | (refine Trs.ln (by assumption) ?_) | (refine Prs.ix (by assumption) (by omega) ?_) | (refine Trs.ix (by assumption) (by omega) ?_) | (refine Prs.ldN (by assumption) (by omega) ?_) | (refine Trs.ldN (by assumption) (by omega) ?_) | (refine At.ldN (Blk.at (by assumption)) rfl ?_) | (refine At.ld (Blk.at (by assumption)) rfl ?_) | (refine IxA.mk (by omega) ?_) | (refine Sl.ln (Own.sl (by assumption)) ?_) | (refine Ints.ix (Own.sl (by assumption)) (by omega) ?_) | (refine Ints.ixI (Own.sl (by assumption)) (by omega) ?_) | (refine Ints.ld (Own.sl (by assumption)) (by omega) ?_))
          refine ⟨_, (by omega : 5 - (c + 1) < 5 - c), rfl, c + 1, by omega, rfl, (congrArg (Value.int .i64) (by omega)), fun q h3 h4 x h5 h6 => ?_, EL1⟩
          by_cases e : q = 1 + c
          · subst e; exact h2 x h5 (by omega)
          · exact h1 q h3 (by omega) x h5 h6
    · repeat' ((conv => whnf); first | (refine Dr.quiet tyOk (by kernel_rfl) ?_) | (refine Rng.mk (by omega) ?_) | (refine Split.pos (by omega) ?_) | (refine Split.neg (by omega) ?_) | (refine Split.mk (fun h => ?_) (fun h => ?_)) | (refine Need.mk (by omega) ?_) | (refine Ints.ln (by assumption) ?_) | (refine Mat.ln (by assumption) ?_) | (refine Ints.ln (Mat.row (by assumption) _ (by omega)) ?_) | (refine Ints.ix (by assumption) (by omega) ?_) | (refine Mat.ix (by assumption) (by omega) ?_) | (refine Ints.ix (Mat.row (by assumption) _ (by omega)) (by omega) ?_) | (refine Ints.ix (c := 0) (by assumption) (by omega) ?_) | (refine Mat.ix (c := 0) (by assumption) (by omega) ?_) | (refine Ints.ix (c := 0) (Mat.row (by assumption) _ (by omega)) (by omega) ?_) | (refine Ints.ixI (by assumption) (by omega) ?_) | (refine Mat.ixI (by assumption) (by omega) ?_) | (refine Ints.ixI (Mat.row (by assumption) _ (by omega)) (by omega) ?_) | (refine Ints.ld (by assumption) (by omega) ?_) | (refine Mat.ld (by assumption) (by omega) ?_) | (refine Ints.ld (Mat.row (by assumption) _ (by omega)) (by omega) ?_) | (refine At.ld (by assumption) rfl ?_) | (refine At.ldN (by assumption) rfl ?_) | (refine Prs.ln (by assumption) ?_) | (refine Trs.ln (by assumption) ?_) | (refine Prs.ix (by assumption) (by omega) ?_) | (refine Trs.ix (by assumption) (by omega) ?_) | (refine Prs.ldN (by assumption) (by omega) ?_) | (refine Trs.ldN (by assumption) (by omega) ?_) | (refine At.ldN (Blk.at (by assumption)) rfl ?_) | (refine At.ld (Blk.at (by assumption)) rfl ?_) | (refine IxA.mk (by omega) ?_) | (refine Sl.ln (Own.sl (by assumption)) ?_) | (refine Ints.ix (Own.sl (by assumption)) (by omega) ?_) | (refine Ints.ixI (Own.sl (by assumption)) (by omega) ?_) | (refine Ints.ld (Own.sl (by assumption)) (by omega) ?_))
      exact ⟨EE, .inl ⟨rfl, circ_nil hn fun q h3 h4 x h5 h6 => h1 q h3 (by omega) x h5 h6⟩⟩

theorem free_pc {rr : List (List Int)} {a : List Int} {w : World} (hn : rr.length ≤ 6) : PC Try.prog 68 [.agg (bvs (gL rr a)).toArray, .int .i64 (rr.length : Int)] w (.int .i64 (fre rr a)) := by
  refine PC.mk tyOk Try.func68 rfl (by kernel_rfl) fun w1 E1 => ?_
  have EE := Ext.refl w1
  refine Bx.blk (l := bvs (gL rr a)) fun b w2 E2 hb2 HK => ?_
  replace EE := EE.ext E2
  repeat' ((conv => whnf); first | (refine Dr.quiet tyOk (by kernel_rfl) ?_) | (refine Rng.mk (by omega) ?_) | (refine Split.pos (by omega) ?_) | (refine Split.neg (by omega) ?_) | (refine Split.mk (fun h => ?_) (fun h => ?_)) | (refine Need.mk (by omega) ?_) | (refine Ints.ln (by assumption) ?_) | (refine Mat.ln (by assumption) ?_) | (refine Ints.ln (Mat.row (by assumption) _ (by omega)) ?_) | (refine Ints.ix (by assumption) (by omega) ?_) | (refine Mat.ix (by assumption) (by omega) ?_) | (refine Ints.ix (Mat.row (by assumption) _ (by omega)) (by omega) ?_) | (refine Ints.ix (c := 0) (by assumption) (by omega) ?_) | (refine Mat.ix (c := 0) (by assumption) (by omega) ?_) | (refine Ints.ix (c := 0) (Mat.row (by assumption) _ (by omega)) (by omega) ?_) | (refine Ints.ixI (by assumption) (by omega) ?_) | (refine Mat.ixI (by assumption) (by omega) ?_) | (refine Ints.ixI (Mat.row (by assumption) _ (by omega)) (by omega) ?_) | (refine Ints.ld (by assumption) (by omega) ?_) | (refine Mat.ld (by assumption) (by omega) ?_) | (refine Ints.ld (Mat.row (by assumption) _ (by omega)) (by omega) ?_) | (refine At.ld (by assumption) rfl ?_) | (refine At.ldN (by assumption) rfl ?_) | (refine Prs.ln (by assumption) ?_) | (refine Trs.ln (by assumption) ?_) | (refine Prs.ix (by assumption) (by omega) ?_) | (refine Trs.ix (by assumption) (by omega) ?_) | (refine Prs.ldN (by assumption) (by omega) ?_) | (refine Trs.ldN (by assumption) (by omega) ?_) | (refine At.ldN (Blk.at (by assumption)) rfl ?_) | (refine At.ld (Blk.at (by assumption)) rfl ?_) | (refine IxA.mk (by omega) ?_) | (refine Sl.ln (Own.sl (by assumption)) ?_) | (refine Ints.ix (Own.sl (by assumption)) (by omega) ?_) | (refine Ints.ixI (Own.sl (by assumption)) (by omega) ?_) | (refine Ints.ld (Own.sl (by assumption)) (by omega) ?_))
  refine Lp.mk tyOk [false, false, false, false, true, true, true, false, true, true, true, true, true, true, true, true, true, true, true, true, true, true, true] (fun m fr wr => getK fr 8 fun i => ∃ c : Nat, c ≤ rr.length ∧ m = rr.length - c ∧ i = .int .i64 (c : Int) ∧ (∀ i, i < c → ¬ frees rr a i) ∧ wr = w2) (rr.length) ?_ ?_
  · exact ⟨0, Nat.zero_le _, rfl, rfl, (by first | exact fun _ hi => absurd hi (Nat.not_lt_zero _) | exact fun _ _ hi => absurd hi (Nat.not_lt_zero _) | assumption | exact Own.nil | omega | simp), rfl⟩
  · intro m w3 u4 u5 u6 u8 u9 u10 u11 u12 u13 u14 u15 u16 u17 u18 u19 u20 u21 u22 hR
    obtain ⟨c, hc, rfl, rfl, h1, rfl⟩ := hR
    by_cases hcl : c < rr.length
    · repeat' ((conv => whnf); first | (refine Dr.quiet tyOk (by kernel_rfl) ?_) | (refine Rng.mk (by omega) ?_) | (refine Split.pos (by omega) ?_) | (refine Split.neg (by omega) ?_) | (refine Split.mk (fun h => ?_) (fun h => ?_)) | (refine Need.mk (by omega) ?_) | (refine Ints.ln (by assumption) ?_) | (refine Mat.ln (by assumption) ?_) | (refine Ints.ln (Mat.row (by assumption) _ (by omega)) ?_) | (refine Ints.ix (by assumption) (by omega) ?_) | (refine Mat.ix (by assumption) (by omega) ?_) | (refine Ints.ix (Mat.row (by assumption) _ (by omega)) (by omega) ?_) | (refine Ints.ix (c := 0) (by assumption) (by omega) ?_) | (refine Mat.ix (c := 0) (by assumption) (by omega) ?_) | (refine Ints.ix (c := 0) (Mat.row (by assumption) _ (by omega)) (by omega) ?_) | (refine Ints.ixI (by assumption) (by omega) ?_) | (refine Mat.ixI (by assumption) (by omega) ?_) | (refine Ints.ixI (Mat.row (by assumption) _ (by omega)) (by omega) ?_) | (refine Ints.ld (by assumption) (by omega) ?_) | (refine Mat.ld (by assumption) (by omega) ?_) | (refine Ints.ld (Mat.row (by assumption) _ (by omega)) (by omega) ?_) | (refine At.ld (by assumption) rfl ?_) | (refine At.ldN (by assumption) rfl ?_) | (refine Prs.ln (by assumption) ?_) | (refine Trs.ln (by assumption) ?_) | (refine Prs.ix (by assumption) (by omega) ?_) | (refine Trs.ix (by assumption) (by omega) ?_) | (refine Prs.ldN (by assumption) (by omega) ?_) | (refine Trs.ldN (by assumption) (by omega) ?_) | (refine At.ldN (Blk.at (by assumption)) rfl ?_) | (refine At.ld (Blk.at (by assumption)) rfl ?_) | (refine IxA.mk (by omega) ?_) | (refine Sl.ln (Own.sl (by assumption)) ?_) | (refine Ints.ix (Own.sl (by assumption)) (by omega) ?_) | (refine Ints.ixI (Own.sl (by assumption)) (by omega) ?_) | (refine Ints.ld (Own.sl (by assumption)) (by omega) ?_))
      refine Lp.mk tyOk [false, false, false, false, false, false, true, false, false, false, false, false, true, true, true, true, true, true, true, true, true] (fun m fr wr => getK fr 12 fun k => ∃ d : Nat, d ≤ rr.length ∧ m = rr.length - d ∧ k = .int .i64 (d : Int) ∧ (∀ k : Nat, k < d → ¬ En rr a k c) ∧ wr = w3) (rr.length) ?_ ?_
      · exact ⟨0, Nat.zero_le _, rfl, rfl, (by first | exact fun _ hi => absurd hi (Nat.not_lt_zero _) | exact fun _ _ hi => absurd hi (Nat.not_lt_zero _) | assumption | exact Own.nil | omega | simp), rfl⟩
      · intro m w4 u6 u12 u13 u14 u15 u16 u17 u18 u19 u20 hR
        obtain ⟨d, hd, rfl, rfl, h2, rfl⟩ := hR
        by_cases hdl : d < rr.length
        · have hg := gL_at (rr := rr) (a := a) (i := (d : Int)) (k := (c : Int)) (by omega) (by omega)
          by_cases hE : En rr a d c
          · rw [tf_t (p := EnG rr a d c) ⟨by omega, by omega, hE⟩] at hg
            repeat' ((conv => whnf); first | (refine Dr.quiet tyOk (by kernel_rfl) ?_) | (refine IxA.mk (by omega) ?_) | (refine Blk.ldAA HK hg ?_) | (refine Rng.mk (by omega) ?_) | (refine Split.pos (by omega) ?_) | (refine Split.neg (by omega) ?_) | (refine Split.mk (fun h => ?_) (fun h => ?_)) | (refine Need.mk (by omega) ?_) | (refine Ints.ln (by assumption) ?_) | (refine Mat.ln (by assumption) ?_) | (refine Ints.ln (Mat.row (by assumption) _ (by omega)) ?_) | (refine Ints.ix (by assumption) (by omega) ?_) | (refine Mat.ix (by assumption) (by omega) ?_) | (refine Ints.ix (Mat.row (by assumption) _ (by omega)) (by omega) ?_) | (refine Ints.ix (c := 0) (by assumption) (by omega) ?_) | (refine Mat.ix (c := 0) (by assumption) (by omega) ?_) | (refine Ints.ix (c := 0) (Mat.row (by assumption) _ (by omega)) (by omega) ?_) | (refine Ints.ixI (by assumption) (by omega) ?_) | (refine Mat.ixI (by assumption) (by omega) ?_) | (refine Ints.ixI (Mat.row (by assumption) _ (by omega)) (by omega) ?_) | (refine Ints.ld (by assumption) (by omega) ?_) | (refine Mat.ld (by assumption) (by omega) ?_) | (refine Ints.ld (Mat.row (by assumption) _ (by omega)) (by omega) ?_) | (refine At.ld (by assumption) rfl ?_) | (refine At.ldN (by assumption) rfl ?_) | (refine Prs.ln (by assumption) ?_) | (refine Trs.ln (by assumption) ?_) | (refine Prs.ix (by assumption) (by omega) ?_) | (refine Trs.ix (by assumption) (by omega) ?_) | (refine Prs.ldN (by assumption) (by omega) ?_) | (refine Trs.ldN (by assumption) (by omega) ?_) | (refine At.ldN (Blk.at (by assumption)) rfl ?_) | (refine At.ld (Blk.at (by assumption)) rfl ?_) | (refine IxA.mk (by omega) ?_) | (refine Sl.ln (Own.sl (by assumption)) ?_) | (refine Ints.ix (Own.sl (by assumption)) (by omega) ?_) | (refine Ints.ixI (Own.sl (by assumption)) (by omega) ?_) | (refine Ints.ld (Own.sl (by assumption)) (by omega) ?_))
            refine ⟨_, (by omega : rr.length - (c + 1) < rr.length - c), rfl, c + 1, by omega, rfl, rfl, fun i hi => ?_, rfl⟩
            by_cases e : i = c
            · subst e; exact fun hf => hf d hdl hE
            · exact h1 i (by omega)
          · rw [tf_f (p := EnG rr a d c) (fun h => hE h.2.2)] at hg
            repeat' ((conv => whnf); first | (refine Dr.quiet tyOk (by kernel_rfl) ?_) | (refine IxA.mk (by omega) ?_) | (refine Blk.ldAA HK hg ?_) | (refine Rng.mk (by omega) ?_) | (refine Split.pos (by omega) ?_) | (refine Split.neg (by omega) ?_) | (refine Split.mk (fun h => ?_) (fun h => ?_)) | (refine Need.mk (by omega) ?_) | (refine Ints.ln (by assumption) ?_) | (refine Mat.ln (by assumption) ?_) | (refine Ints.ln (Mat.row (by assumption) _ (by omega)) ?_) | (refine Ints.ix (by assumption) (by omega) ?_) | (refine Mat.ix (by assumption) (by omega) ?_) | (refine Ints.ix (Mat.row (by assumption) _ (by omega)) (by omega) ?_) | (refine Ints.ix (c := 0) (by assumption) (by omega) ?_) | (refine Mat.ix (c := 0) (by assumption) (by omega) ?_) | (refine Ints.ix (c := 0) (Mat.row (by assumption) _ (by omega)) (by omega) ?_) | (refine Ints.ixI (by assumption) (by omega) ?_) | (refine Mat.ixI (by assumption) (by omega) ?_) | (refine Ints.ixI (Mat.row (by assumption) _ (by omega)) (by omega) ?_) | (refine Ints.ld (by assumption) (by omega) ?_) | (refine Mat.ld (by assumption) (by omega) ?_) | (refine Ints.ld (Mat.row (by assumption) _ (by omega)) (by omega) ?_) | (refine At.ld (by assumption) rfl ?_) | (refine At.ldN (by assumption) rfl ?_) | (refine Prs.ln (by assumption) ?_) | (refine Trs.ln (by assumption) ?_) | (refine Prs.ix (by assumption) (by omega) ?_) | (refine Trs.ix (by assumption) (by omega) ?_) | (refine Prs.ldN (by assumption) (by omega) ?_) | (refine Trs.ldN (by assumption) (by omega) ?_) | (refine At.ldN (Blk.at (by assumption)) rfl ?_) | (refine At.ld (Blk.at (by assumption)) rfl ?_) | (refine IxA.mk (by omega) ?_) | (refine Sl.ln (Own.sl (by assumption)) ?_) | (refine Ints.ix (Own.sl (by assumption)) (by omega) ?_) | (refine Ints.ixI (Own.sl (by assumption)) (by omega) ?_) | (refine Ints.ld (Own.sl (by assumption)) (by omega) ?_))
            refine ⟨_, (by omega : rr.length - (d + 1) < rr.length - d), rfl, d + 1, by omega, rfl, rfl, fun k hk => ?_, rfl⟩
            by_cases e : k = d
            · subst e; exact hE
            · exact h2 k (by omega)
        · have hf : fre rr a = (c : Int) := by
            rcases fre_cases rr a with ⟨i, e1, e2, e3, e4⟩ | ⟨e1, e2⟩
            · rcases Nat.lt_trichotomy i c with h | h | h
              · exact absurd e3 (h1 i h)
              · rw [e2, h]
              · exact absurd (fun k hk => h2 k (by omega)) (e4 c h)
            · exact absurd (fun k hk => h2 k (by omega)) (e2 c hcl)
          rw [hf]
          repeat' ((conv => whnf); first | (refine Dr.quiet tyOk (by kernel_rfl) ?_) | (refine Rng.mk (by omega) ?_) | (refine Split.pos (by omega) ?_) | (refine Split.neg (by omega) ?_) | (refine Split.mk (fun h => ?_) (fun h => ?_)) | (refine Need.mk (by omega) ?_) | (refine Ints.ln (by assumption) ?_) | (refine Mat.ln (by assumption) ?_) | (refine Ints.ln (Mat.row (by assumption) _ (by omega)) ?_) | (refine Ints.ix (by assumption) (by omega) ?_) | (refine Mat.ix (by assumption) (by omega) ?_) | (refine Ints.ix (Mat.row (by assumption) _ (by omega)) (by omega) ?_) | (refine Ints.ix (c := 0) (by assumption) (by omega) ?_) | (refine Mat.ix (c := 0) (by assumption) (by omega) ?_) | (refine Ints.ix (c := 0) (Mat.row (by assumption) _ (by omega)) (by omega) ?_) | (refine Ints.ixI (by assumption) (by omega) ?_) | (refine Mat.ixI (by assumption) (by omega) ?_) | (refine Ints.ixI (Mat.row (by assumption) _ (by omega)) (by omega) ?_) | (refine Ints.ld (by assumption) (by omega) ?_) | (refine Mat.ld (by assumption) (by omega) ?_) | (refine Ints.ld (Mat.row (by assumption) _ (by omega)) (by omega) ?_) | (refine At.ld (by assumption) rfl ?_) | (refine At.ldN (by assumption) rfl ?_) | (refine Prs.ln (by assumption) ?_) | (refine Trs.ln (by assumption) ?_) | (refine Prs.ix (by assumption) (by omega) ?_) | (refine Trs.ix (by assumption) (by omega) ?_) | (refine Prs.ldN (by assumption) (by omega) ?_) | (refine Trs.ldN (by assumption) (by omega) ?_) | (refine At.ldN (Blk.at (by assumption)) rfl ?_) | (refine At.ld (Blk.at (by assumption)) rfl ?_) | (refine IxA.mk (by omega) ?_) | (refine Sl.ln (Own.sl (by assumption)) ?_) | (refine Ints.ix (Own.sl (by assumption)) (by omega) ?_) | (refine Ints.ixI (Own.sl (by assumption)) (by omega) ?_) | (refine Ints.ld (Own.sl (by assumption)) (by omega) ?_))
          exact ⟨rfl, EE⟩
    · have hf : fre rr a = -1 := by
        rcases fre_cases rr a with ⟨i, e1, e2, e3, e4⟩ | ⟨e1, e2⟩
        · exact absurd e3 (h1 i (by omega))
        · exact e1
      rw [hf]
      repeat' ((conv => whnf); first | (refine Dr.quiet tyOk (by kernel_rfl) ?_) | (refine Rng.mk (by omega) ?_) | (refine Split.pos (by omega) ?_) | (refine Split.neg (by omega) ?_) | (refine Split.mk (fun h => ?_) (fun h => ?_)) | (refine Need.mk (by omega) ?_) | (refine Ints.ln (by assumption) ?_) | (refine Mat.ln (by assumption) ?_) | (refine Ints.ln (Mat.row (by assumption) _ (by omega)) ?_) | (refine Ints.ix (by assumption) (by omega) ?_) | (refine Mat.ix (by assumption) (by omega) ?_) | (refine Ints.ix (Mat.row (by assumption) _ (by omega)) (by omega) ?_) | (refine Ints.ix (c := 0) (by assumption) (by omega) ?_) | (refine Mat.ix (c := 0) (by assumption) (by omega) ?_) | (refine Ints.ix (c := 0) (Mat.row (by assumption) _ (by omega)) (by omega) ?_) | (refine Ints.ixI (by assumption) (by omega) ?_) | (refine Mat.ixI (by assumption) (by omega) ?_) | (refine Ints.ixI (Mat.row (by assumption) _ (by omega)) (by omega) ?_) | (refine Ints.ld (by assumption) (by omega) ?_) | (refine Mat.ld (by assumption) (by omega) ?_) | (refine Ints.ld (Mat.row (by assumption) _ (by omega)) (by omega) ?_) | (refine At.ld (by assumption) rfl ?_) | (refine At.ldN (by assumption) rfl ?_) | (refine Prs.ln (by assumption) ?_) | (refine Trs.ln (by assumption) ?_) | (refine Prs.ix (by assumption) (by omega) ?_) | (refine Trs.ix (by assumption) (by omega) ?_) | (refine Prs.ldN (by assumption) (by omega) ?_) | (refine Trs.ldN (by assumption) (by omega) ?_) | (refine At.ldN (Blk.at (by assumption)) rfl ?_) | (refine At.ld (Blk.at (by assumption)) rfl ?_) | (refine IxA.mk (by omega) ?_) | (refine Sl.ln (Own.sl (by assumption)) ?_) | (refine Ints.ix (Own.sl (by assumption)) (by omega) ?_) | (refine Ints.ixI (Own.sl (by assumption)) (by omega) ?_) | (refine Ints.ld (Own.sl (by assumption)) (by omega) ?_))
      exact ⟨rfl, EE⟩

theorem idL_snoc (n : Nat) : idL n ++ [(n : Int)] = idL (n + 1) := by unfold idL; rw [List.range_succ, List.map_append]; rfl
theorem pass_rc {w : World} {gv av cv : Value} {vs : List Value} {rr : List (List Int)} {a cc : List Int} (Hg : Mat w gv vs rr) (Ha : Ints w av a) (Hc : Ints w cv cc) (hv : vld rr a = 0) (hags : Ags cc rr.length) :
    RC Try.prog 70 [.agg #[gv], av, cv] w NoB (fun u w' => OB w.heap.size w' u (pas rr.length a cc)) := by
  have hal := al_of_vld hv
  have hn6 := hal.n6
  refine RC.mk tyOk Try.func70 rfl (by kernel_rfl) fun w1 E1 => ?_
  replace Hg := Hg.ext E1
  replace Ha := Ha.ext E1
  replace Hc := Hc.ext E1
  have EE := Ext.refl w1
  refine Bx.agg fun b2 w2 E2 hb2 Hb _ => ?_
  replace Hg := Hg.ext E2
  replace Ha := Ha.ext E2
  replace Hc := Hc.ext E2
  replace EE := EE.ext E2
  have hcl0 := dis_le hags.rng hags.dis
  have hgl := Hg.top.le
  have hz2 : w.heap.size ≤ w2.heap.size := Nat.le_trans E1.size E2.size
  repeat' ((conv => whnf); first | (refine Dr.quiet tyOk (by kernel_rfl) ?_) | (refine Rng.mk (by omega) ?_) | (refine Split.pos (by omega) ?_) | (refine Split.neg (by omega) ?_) | (refine Split.mk (fun h => ?_) (fun h => ?_)) | (refine Need.mk (by omega) ?_) | (refine Ints.ln (by assumption) ?_) | (refine Mat.ln (by assumption) ?_) | (refine Ints.ln (Mat.row (by assumption) _ (by omega)) ?_) | (refine Ints.ix (by assumption) (by omega) ?_) | (refine Mat.ix (by assumption) (by omega) ?_) | (refine Ints.ix (Mat.row (by assumption) _ (by omega)) (by omega) ?_) | (refine Ints.ix (c := 0) (by assumption) (by omega) ?_) | (refine Mat.ix (c := 0) (by assumption) (by omega) ?_) | (refine Ints.ix (c := 0) (Mat.row (by assumption) _ (by omega)) (by omega) ?_) | (refine Ints.ixI (by assumption) (by omega) ?_) | (refine Mat.ixI (by assumption) (by omega) ?_) | (refine Ints.ixI (Mat.row (by assumption) _ (by omega)) (by omega) ?_) | (refine Ints.ld (by assumption) (by omega) ?_) | (refine Mat.ld (by assumption) (by omega) ?_) | (refine Ints.ld (Mat.row (by assumption) _ (by omega)) (by omega) ?_) | (refine At.ld (by assumption) rfl ?_) | (refine At.ldN (by assumption) rfl ?_) | (refine Prs.ln (by assumption) ?_) | (refine Trs.ln (by assumption) ?_) | (refine Prs.ix (by assumption) (by omega) ?_) | (refine Trs.ix (by assumption) (by omega) ?_) | (refine Prs.ldN (by assumption) (by omega) ?_) | (refine Trs.ldN (by assumption) (by omega) ?_) | (refine At.ldN (Blk.at (by assumption)) rfl ?_) | (refine At.ld (Blk.at (by assumption)) rfl ?_) | (refine IxA.mk (by omega) ?_) | (refine Sl.ln (Own.sl (by assumption)) ?_) | (refine Ints.ix (Own.sl (by assumption)) (by omega) ?_) | (refine Ints.ixI (Own.sl (by assumption)) (by omega) ?_) | (refine Ints.ld (Own.sl (by assumption)) (by omega) ?_))
  have Hg__1 := Hg
  have Ha__1 := Ha
  have Hc__1 := Hc
  have EE__1 := EE
  have Hb__1 := Hb
  have EL1 := Ext.refl w2
  have HO0 : OB w2.heap.size w2 (.slice none 0 0) (idL 0) := Own.nil
  refine Lp.mk tyOk [false, false, false, false, false, false, false, true, true, false, false, false, false, false, false, false, true, true, true, true, true, true, true, true] (fun m fr wr => getK fr 16 fun i => getK fr 7 fun ou => ∃ c : Nat, c ≤ rr.length ∧ m = rr.length - c ∧ i = .int .i64 (c : Int) ∧ (OB w2.heap.size wr ou (idL c)) ∧ Ext w2 wr) (rr.length) ?_ ?_
  · exact ⟨0, Nat.zero_le _, rfl, rfl, HO0, EL1⟩
  · intro m w3 u7 u8 u16 u17 u18 u19 u20 u21 u22 u23 hR
    obtain ⟨c, hc, rfl, rfl, HO, EL1⟩ := hR
    replace Hg := Hg__1.ext EL1
    replace Ha := Ha__1.ext EL1
    replace Hc := Hc__1.ext EL1
    replace EE := EE__1.ext EL1
    replace Hb := Hb__1.ext EL1
    have hil := idL_len c
    by_cases hcl : c < rr.length
    · repeat' ((conv => whnf); first | (refine Dr.quiet tyOk (by kernel_rfl) ?_) | (refine Rng.mk (by omega) ?_) | (refine Split.pos (by omega) ?_) | (refine Split.neg (by omega) ?_) | (refine Split.mk (fun h => ?_) (fun h => ?_)) | (refine Need.mk (by omega) ?_) | (refine Ints.ln (by assumption) ?_) | (refine Mat.ln (by assumption) ?_) | (refine Ints.ln (Mat.row (by assumption) _ (by omega)) ?_) | (refine Ints.ix (by assumption) (by omega) ?_) | (refine Mat.ix (by assumption) (by omega) ?_) | (refine Ints.ix (Mat.row (by assumption) _ (by omega)) (by omega) ?_) | (refine Ints.ix (c := 0) (by assumption) (by omega) ?_) | (refine Mat.ix (c := 0) (by assumption) (by omega) ?_) | (refine Ints.ix (c := 0) (Mat.row (by assumption) _ (by omega)) (by omega) ?_) | (refine Ints.ixI (by assumption) (by omega) ?_) | (refine Mat.ixI (by assumption) (by omega) ?_) | (refine Ints.ixI (Mat.row (by assumption) _ (by omega)) (by omega) ?_) | (refine Ints.ld (by assumption) (by omega) ?_) | (refine Mat.ld (by assumption) (by omega) ?_) | (refine Ints.ld (Mat.row (by assumption) _ (by omega)) (by omega) ?_) | (refine At.ld (by assumption) rfl ?_) | (refine At.ldN (by assumption) rfl ?_) | (refine Prs.ln (by assumption) ?_) | (refine Trs.ln (by assumption) ?_) | (refine Prs.ix (by assumption) (by omega) ?_) | (refine Trs.ix (by assumption) (by omega) ?_) | (refine Prs.ldN (by assumption) (by omega) ?_) | (refine Trs.ldN (by assumption) (by omega) ?_) | (refine At.ldN (Blk.at (by assumption)) rfl ?_) | (refine At.ld (Blk.at (by assumption)) rfl ?_) | (refine IxA.mk (by omega) ?_) | (refine Sl.ln (Own.sl (by assumption)) ?_) | (refine Ints.ix (Own.sl (by assumption)) (by omega) ?_) | (refine Ints.ixI (Own.sl (by assumption)) (by omega) ?_) | (refine Ints.ld (Own.sl (by assumption)) (by omega) ?_))
      refine VE.lit1 Try.underlying25 eInt (rfl) fun lv w4 E4 Hl => ?_
      replace Hg := Hg.ext E4
      replace Ha := Ha.ext E4
      replace Hc := Hc.ext E4
      replace EE := EE.ext E4
      replace Hb := Hb.ext E4
      replace EL1 := EL1.ext E4
      replace HO := HO.ext E4
      conv => whnf
      refine VE.app Try.underlying25 eInt rfl (by omega) HO EL1 rfl Hl (by simp [Value.oneCell']) (by first | omega | (simp only [List.length_map, List.length_range]; omega) | (simp; omega)) (by first | omega | (simp only [List.length_map, List.length_range]; omega) | (simp; omega)) fun v8 w5 E5 G5 H8 => ?_
      replace Hg := Hg__1.ext E5
      replace Ha := Ha__1.ext E5
      replace Hc := Hc__1.ext E5
      replace EE := EE__1.ext E5
      replace Hb := Hb__1.ext E5
      replace EL1 := E5
      repeat' ((conv => whnf); first | (refine Dr.quiet tyOk (by kernel_rfl) ?_) | (refine Rng.mk (by omega) ?_) | (refine Split.pos (by omega) ?_) | (refine Split.neg (by omega) ?_) | (refine Split.mk (fun h => ?_) (fun h => ?_)) | (refine Need.mk (by omega) ?_) | (refine Ints.ln (by assumption) ?_) | (refine Mat.ln (by assumption) ?_) | (refine Ints.ln (Mat.row (by assumption) _ (by omega)) ?_) | (refine Ints.ix (by assumption) (by omega) ?_) | (refine Mat.ix (by assumption) (by omega) ?_) | (refine Ints.ix (Mat.row (by assumption) _ (by omega)) (by omega) ?_) | (refine Ints.ix (c := 0) (by assumption) (by omega) ?_) | (refine Mat.ix (c := 0) (by assumption) (by omega) ?_) | (refine Ints.ix (c := 0) (Mat.row (by assumption) _ (by omega)) (by omega) ?_) | (refine Ints.ixI (by assumption) (by omega) ?_) | (refine Mat.ixI (by assumption) (by omega) ?_) | (refine Ints.ixI (Mat.row (by assumption) _ (by omega)) (by omega) ?_) | (refine Ints.ld (by assumption) (by omega) ?_) | (refine Mat.ld (by assumption) (by omega) ?_) | (refine Ints.ld (Mat.row (by assumption) _ (by omega)) (by omega) ?_) | (refine At.ld (by assumption) rfl ?_) | (refine At.ldN (by assumption) rfl ?_) | (refine Prs.ln (by assumption) ?_) | (refine Trs.ln (by assumption) ?_) | (refine Prs.ix (by assumption) (by omega) ?_) | (refine Trs.ix (by assumption) (by omega) ?_) | (refine Prs.ldN (by assumption) (by omega) ?_) | (refine Trs.ldN (by assumption) (by omega) ?_) | (refine At.ldN (Blk.at (by assumption)) rfl ?_) | (refine At.ld (Blk.at (by assumption)) rfl ?_) | (refine IxA.mk (by omega) ?_) | (refine Sl.ln (Own.sl (by assumption)) ?_) | (refine Ints.ix (Own.sl (by assumption)) (by omega) ?_) | (refine Ints.ixI (Own.sl (by assumption)) (by omega) ?_) | (refine Ints.ld (Own.sl (by assumption)) (by omega) ?_))
      refine ⟨_, (by omega : rr.length - (c + 1) < rr.length - c), rfl, c + 1, by omega, rfl, rfl, (by rw [← idL_snoc]; show Go.Eng.Own _ _ _ _ _ (idL c ++ [(c : Int)]).length ((idL c ++ [(c : Int)]).map i64v); rw [List.length_append, List.map_append]; exact H8), EL1⟩
    · obtain rfl : c = rr.length := by omega
      repeat' ((conv => whnf); first | (refine Dr.quiet tyOk (by kernel_rfl) ?_) | (refine Rng.mk (by omega) ?_) | (refine Split.pos (by omega) ?_) | (refine Split.neg (by omega) ?_) | (refine Split.mk (fun h => ?_) (fun h => ?_)) | (refine Need.mk (by omega) ?_) | (refine Ints.ln (by assumption) ?_) | (refine Mat.ln (by assumption) ?_) | (refine Ints.ln (Mat.row (by assumption) _ (by omega)) ?_) | (refine Ints.ix (by assumption) (by omega) ?_) | (refine Mat.ix (by assumption) (by omega) ?_) | (refine Ints.ix (Mat.row (by assumption) _ (by omega)) (by omega) ?_) | (refine Ints.ix (c := 0) (by assumption) (by omega) ?_) | (refine Mat.ix (c := 0) (by assumption) (by omega) ?_) | (refine Ints.ix (c := 0) (Mat.row (by assumption) _ (by omega)) (by omega) ?_) | (refine Ints.ixI (by assumption) (by omega) ?_) | (refine Mat.ixI (by assumption) (by omega) ?_) | (refine Ints.ixI (Mat.row (by assumption) _ (by omega)) (by omega) ?_) | (refine Ints.ld (by assumption) (by omega) ?_) | (refine Mat.ld (by assumption) (by omega) ?_) | (refine Ints.ld (Mat.row (by assumption) _ (by omega)) (by omega) ?_) | (refine At.ld (by assumption) rfl ?_) | (refine At.ldN (by assumption) rfl ?_) | (refine Prs.ln (by assumption) ?_) | (refine Trs.ln (by assumption) ?_) | (refine Prs.ix (by assumption) (by omega) ?_) | (refine Trs.ix (by assumption) (by omega) ?_) | (refine Prs.ldN (by assumption) (by omega) ?_) | (refine Trs.ldN (by assumption) (by omega) ?_) | (refine At.ldN (Blk.at (by assumption)) rfl ?_) | (refine At.ld (Blk.at (by assumption)) rfl ?_) | (refine IxA.mk (by omega) ?_) | (refine Sl.ln (Own.sl (by assumption)) ?_) | (refine Ints.ix (Own.sl (by assumption)) (by omega) ?_) | (refine Ints.ixI (Own.sl (by assumption)) (by omega) ?_) | (refine Ints.ld (Own.sl (by assumption)) (by omega) ?_))
      refine Lp.mk tyOk [false, false, false, false, false, false, false, false, false, true, true, false, false, false, false, false, false, false, false, false, false, false, false, false, false, false, true, true, true, true, true, true, true, true, true, true, true, true, true, true, true, true, true] (fun m fr wr => getK fr 26 fun i => ∃ d : Nat, d ≤ cc.length ∧ m = cc.length - d ∧ i = .int .i64 (d : Int) ∧ (OB w2.heap.size wr u7 (ordTo cc rr.length d)) ∧ Ext w2 wr) (cc.length) ?_ ?_
      · exact ⟨0, Nat.zero_le _, rfl, rfl, HO, EL1⟩
      · intro m w6 u9 u10 u26 u27 u28 u29 u30 u31 u32 u33 u34 u35 u36 u37 u38 u39 u40 u41 u42 hR
        obtain ⟨d, hd, rfl, rfl, HP, EL1⟩ := hR
        replace Hg := Hg__1.ext EL1
        replace Ha := Ha__1.ext EL1
        replace Hc := Hc__1.ext EL1
        replace EE := EE__1.ext EL1
        replace Hb := Hb__1.ext EL1
        have hol := ordTo_len cc rr.length d
        by_cases hdl : d < cc.length
        · have hr := hags.rng d hdl
          have hml : (d + 1) % cc.length < cc.length := Nat.mod_lt _ (by omega)
          have e0 : ((d : Int) + 1) % (cc.length : Int) = (((d + 1) % cc.length : Nat) : Int) := by rw [Int.natCast_emod]; rfl
          have em : (((d : Int) + 1) % (cc.length : Int)).toNat = (d + 1) % cc.length := by rw [e0, Int.toNat_natCast]
          obtain ⟨y, hy⟩ : ∃ y, cc.getD ((d + 1) % cc.length) 0 = y := ⟨_, rfl⟩
          have hlt : 0 ≤ ((d : Int) + 1) % (cc.length : Int) ∧ ((d : Int) + 1) % (cc.length : Int) < cc.length := by rw [e0]; exact ⟨Int.natCast_nonneg _, Int.ofNat_lt.2 hml⟩
          repeat' ((conv => whnf); first | (refine Dr.quiet tyOk (by kernel_rfl) ?_) | (refine Ints.ixI (Own.sl HP) (by omega) ?_) | (refine Ints.ixI Hc hlt ?_) | (refine Ints.ldq Hc (by rw [em]; exact hy) (by omega) ?_) | (refine Rng.mk (by omega) ?_) | (refine Split.pos (by omega) ?_) | (refine Split.neg (by omega) ?_) | (refine Split.mk (fun h => ?_) (fun h => ?_)) | (refine Need.mk (by omega) ?_) | (refine Ints.ln (by assumption) ?_) | (refine Mat.ln (by assumption) ?_) | (refine Ints.ln (Mat.row (by assumption) _ (by omega)) ?_) | (refine Ints.ix (by assumption) (by omega) ?_) | (refine Mat.ix (by assumption) (by omega) ?_) | (refine Ints.ix (Mat.row (by assumption) _ (by omega)) (by omega) ?_) | (refine Ints.ix (c := 0) (by assumption) (by omega) ?_) | (refine Mat.ix (c := 0) (by assumption) (by omega) ?_) | (refine Ints.ix (c := 0) (Mat.row (by assumption) _ (by omega)) (by omega) ?_) | (refine Ints.ixI (by assumption) (by omega) ?_) | (refine Mat.ixI (by assumption) (by omega) ?_) | (refine Ints.ixI (Mat.row (by assumption) _ (by omega)) (by omega) ?_) | (refine Ints.ld (by assumption) (by omega) ?_) | (refine Mat.ld (by assumption) (by omega) ?_) | (refine Ints.ld (Mat.row (by assumption) _ (by omega)) (by omega) ?_) | (refine At.ld (by assumption) rfl ?_) | (refine At.ldN (by assumption) rfl ?_) | (refine Prs.ln (by assumption) ?_) | (refine Trs.ln (by assumption) ?_) | (refine Prs.ix (by assumption) (by omega) ?_) | (refine Trs.ix (by assumption) (by omega) ?_) | (refine Prs.ldN (by assumption) (by omega) ?_) | (refine Trs.ldN (by assumption) (by omega) ?_) | (refine At.ldN (Blk.at (by assumption)) rfl ?_) | (refine At.ld (Blk.at (by assumption)) rfl ?_) | (refine IxA.mk (by omega) ?_) | (refine Sl.ln (Own.sl (by assumption)) ?_) | (refine Ints.ix (Own.sl (by assumption)) (by omega) ?_) | (refine Ints.ixI (Own.sl (by assumption)) (by omega) ?_) | (refine Ints.ld (Own.sl (by assumption)) (by omega) ?_))
          refine OB.set HP (by omega) fun w9 G9 HP9 => ?_
          have F9 := Own.keep HP EL1 (Nat.le_refl _) G9
          repeat' ((conv => whnf); first | (refine Dr.quiet tyOk (by kernel_rfl) ?_) | (refine Rng.mk (by omega) ?_) | (refine Split.pos (by omega) ?_) | (refine Split.neg (by omega) ?_) | (refine Split.mk (fun h => ?_) (fun h => ?_)) | (refine Need.mk (by omega) ?_) | (refine Ints.ln (by assumption) ?_) | (refine Mat.ln (by assumption) ?_) | (refine Ints.ln (Mat.row (by assumption) _ (by omega)) ?_) | (refine Ints.ix (by assumption) (by omega) ?_) | (refine Mat.ix (by assumption) (by omega) ?_) | (refine Ints.ix (Mat.row (by assumption) _ (by omega)) (by omega) ?_) | (refine Ints.ix (c := 0) (by assumption) (by omega) ?_) | (refine Mat.ix (c := 0) (by assumption) (by omega) ?_) | (refine Ints.ix (c := 0) (Mat.row (by assumption) _ (by omega)) (by omega) ?_) | (refine Ints.ixI (by assumption) (by omega) ?_) | (refine Mat.ixI (by assumption) (by omega) ?_) | (refine Ints.ixI (Mat.row (by assumption) _ (by omega)) (by omega) ?_) | (refine Ints.ld (by assumption) (by omega) ?_) | (refine Mat.ld (by assumption) (by omega) ?_) | (refine Ints.ld (Mat.row (by assumption) _ (by omega)) (by omega) ?_) | (refine At.ld (by assumption) rfl ?_) | (refine At.ldN (by assumption) rfl ?_) | (refine Prs.ln (by assumption) ?_) | (refine Trs.ln (by assumption) ?_) | (refine Prs.ix (by assumption) (by omega) ?_) | (refine Trs.ix (by assumption) (by omega) ?_) | (refine Prs.ldN (by assumption) (by omega) ?_) | (refine Trs.ldN (by assumption) (by omega) ?_) | (refine At.ldN (Blk.at (by assumption)) rfl ?_) | (refine At.ld (Blk.at (by assumption)) rfl ?_) | (refine IxA.mk (by omega) ?_) | (refine Sl.ln (Own.sl (by assumption)) ?_) | (refine Ints.ix (Own.sl (by assumption)) (by omega) ?_) | (refine Ints.ixI (Own.sl (by assumption)) (by omega) ?_) | (refine Ints.ld (Own.sl (by assumption)) (by omega) ?_))
          refine ⟨_, (by omega : cc.length - (d + 1) < cc.length - d), rfl, d + 1, by omega, rfl, rfl, (by rw [em] at HP9; exact HP9), F9⟩
        · obtain rfl : d = cc.length := by omega
          have HPI : Ints w6 u7 (ordL cc rr.length) := Own.sl HP
          repeat' ((conv => whnf); first | (refine Dr.quiet tyOk (by kernel_rfl) ?_) | (refine Rng.mk (by omega) ?_) | (refine Split.pos (by omega) ?_) | (refine Split.neg (by omega) ?_) | (refine Split.mk (fun h => ?_) (fun h => ?_)) | (refine Need.mk (by omega) ?_) | (refine Ints.ln (by assumption) ?_) | (refine Mat.ln (by assumption) ?_) | (refine Ints.ln (Mat.row (by assumption) _ (by omega)) ?_) | (refine Ints.ix (by assumption) (by omega) ?_) | (refine Mat.ix (by assumption) (by omega) ?_) | (refine Ints.ix (Mat.row (by assumption) _ (by omega)) (by omega) ?_) | (refine Ints.ix (c := 0) (by assumption) (by omega) ?_) | (refine Mat.ix (c := 0) (by assumption) (by omega) ?_) | (refine Ints.ix (c := 0) (Mat.row (by assumption) _ (by omega)) (by omega) ?_) | (refine Ints.ixI (by assumption) (by omega) ?_) | (refine Mat.ixI (by assumption) (by omega) ?_) | (refine Ints.ixI (Mat.row (by assumption) _ (by omega)) (by omega) ?_) | (refine Ints.ld (by assumption) (by omega) ?_) | (refine Mat.ld (by assumption) (by omega) ?_) | (refine Ints.ld (Mat.row (by assumption) _ (by omega)) (by omega) ?_) | (refine At.ld (by assumption) rfl ?_) | (refine At.ldN (by assumption) rfl ?_) | (refine Prs.ln (by assumption) ?_) | (refine Trs.ln (by assumption) ?_) | (refine Prs.ix (by assumption) (by omega) ?_) | (refine Trs.ix (by assumption) (by omega) ?_) | (refine Prs.ldN (by assumption) (by omega) ?_) | (refine Trs.ldN (by assumption) (by omega) ?_) | (refine At.ldN (Blk.at (by assumption)) rfl ?_) | (refine At.ld (Blk.at (by assumption)) rfl ?_) | (refine IxA.mk (by omega) ?_) | (refine Sl.ln (Own.sl (by assumption)) ?_) | (refine Ints.ix (Own.sl (by assumption)) (by omega) ?_) | (refine Ints.ixI (Own.sl (by assumption)) (by omega) ?_) | (refine Ints.ld (Own.sl (by assumption)) (by omega) ?_))
          have hs0 := EL1.size
          conv => whnf
          refine VC.rc (gpass_rc Hg Ha HPI) ?_
          rintro _ w7 E7 ⟨pv, rfl, HR⟩
          replace Hg := Hg.ext E7
          replace Ha := Ha.ext E7
          replace Hc := Hc.ext E7
          replace EE := EE.ext E7
          replace Hb := Hb.ext E7
          replace EL1 := EL1.ext E7
          replace HP := HP.ext E7
          rw [passR, if_pos ⟨hv, ordL_asg hags⟩] at HR
          repeat' ((conv => whnf); first | (refine Dr.quiet tyOk (by kernel_rfl) ?_) | (refine Rng.mk (by omega) ?_) | (refine Split.pos (by omega) ?_) | (refine Split.neg (by omega) ?_) | (refine Split.mk (fun h => ?_) (fun h => ?_)) | (refine Need.mk (by omega) ?_) | (refine Ints.ln (by assumption) ?_) | (refine Mat.ln (by assumption) ?_) | (refine Ints.ln (Mat.row (by assumption) _ (by omega)) ?_) | (refine Ints.ix (by assumption) (by omega) ?_) | (refine Mat.ix (by assumption) (by omega) ?_) | (refine Ints.ix (Mat.row (by assumption) _ (by omega)) (by omega) ?_) | (refine Ints.ix (c := 0) (by assumption) (by omega) ?_) | (refine Mat.ix (c := 0) (by assumption) (by omega) ?_) | (refine Ints.ix (c := 0) (Mat.row (by assumption) _ (by omega)) (by omega) ?_) | (refine Ints.ixI (by assumption) (by omega) ?_) | (refine Mat.ixI (by assumption) (by omega) ?_) | (refine Ints.ixI (Mat.row (by assumption) _ (by omega)) (by omega) ?_) | (refine Ints.ld (by assumption) (by omega) ?_) | (refine Mat.ld (by assumption) (by omega) ?_) | (refine Ints.ld (Mat.row (by assumption) _ (by omega)) (by omega) ?_) | (refine At.ld (by assumption) rfl ?_) | (refine At.ldN (by assumption) rfl ?_) | (refine Prs.ln (by assumption) ?_) | (refine Trs.ln (by assumption) ?_) | (refine Prs.ix (by assumption) (by omega) ?_) | (refine Trs.ix (by assumption) (by omega) ?_) | (refine Prs.ldN (by assumption) (by omega) ?_) | (refine Trs.ldN (by assumption) (by omega) ?_) | (refine At.ldN (Blk.at (by assumption)) rfl ?_) | (refine At.ld (Blk.at (by assumption)) rfl ?_) | (refine IxA.mk (by omega) ?_) | (refine Sl.ln (Own.sl (by assumption)) ?_) | (refine Ints.ix (Own.sl (by assumption)) (by omega) ?_) | (refine Ints.ixI (Own.sl (by assumption)) (by omega) ?_) | (refine Ints.ld (Own.sl (by assumption)) (by omega) ?_))
          exact ⟨EE, Own.base HR (Nat.le_trans hz2 hs0)⟩

theorem Circle_rc {w : World} {gv av : Value} {vs : List Value} {rr : List (List Int)} {a : List Int} (Hg : Mat w gv vs rr) (Ha : Ints w av a) :
    RC Try.prog 48 [.agg #[gv], av] w NoB (fun u w' => ∃ v, u = .tuple #[v, .int .i64 (vld rr a)] ∧ (vld rr a = 0 → CiR rr a w' v) ∧ (vld rr a ≠ 0 → v = .slice none 0 0)) := by
  refine RC.mk tyOk Try.func48 rfl (by kernel_rfl) fun w1 E1 => ?_
  replace Hg := Hg.ext E1
  replace Ha := Ha.ext E1
  have EE := Ext.refl w1
  refine Bx.agg fun b2 w2 E2 hb2 Hb _ => ?_
  replace Hg := Hg.ext E2
  replace Ha := Ha.ext E2
  replace EE := EE.ext E2
  have c1 := gvalid_pc Hg Ha
  by_cases hv : vld rr a = 0
  · have hal := al_of_vld hv
    have hn6 := hal.n6
    rw [hv] at c1 ⊢
    have c2 := envy_pc Hg Ha hv
    repeat' ((conv => whnf); first | (refine Dr.quiet tyOk (by kernel_rfl) ?_) | (refine VC.pure c1 ?_) | (refine VC.pure c2 ?_) | (refine Rng.mk (by omega) ?_) | (refine Split.pos (by omega) ?_) | (refine Split.neg (by omega) ?_) | (refine Split.mk (fun h => ?_) (fun h => ?_)) | (refine Need.mk (by omega) ?_) | (refine Ints.ln (by assumption) ?_) | (refine Mat.ln (by assumption) ?_) | (refine Ints.ln (Mat.row (by assumption) _ (by omega)) ?_) | (refine Ints.ix (by assumption) (by omega) ?_) | (refine Mat.ix (by assumption) (by omega) ?_) | (refine Ints.ix (Mat.row (by assumption) _ (by omega)) (by omega) ?_) | (refine Ints.ix (c := 0) (by assumption) (by omega) ?_) | (refine Mat.ix (c := 0) (by assumption) (by omega) ?_) | (refine Ints.ix (c := 0) (Mat.row (by assumption) _ (by omega)) (by omega) ?_) | (refine Ints.ixI (by assumption) (by omega) ?_) | (refine Mat.ixI (by assumption) (by omega) ?_) | (refine Ints.ixI (Mat.row (by assumption) _ (by omega)) (by omega) ?_) | (refine Ints.ld (by assumption) (by omega) ?_) | (refine Mat.ld (by assumption) (by omega) ?_) | (refine Ints.ld (Mat.row (by assumption) _ (by omega)) (by omega) ?_) | (refine At.ld (by assumption) rfl ?_) | (refine At.ldN (by assumption) rfl ?_) | (refine Prs.ln (by assumption) ?_) | (refine Trs.ln (by assumption) ?_) | (refine Prs.ix (by assumption) (by omega) ?_) | (refine Trs.ix (by assumption) (by omega) ?_) | (refine Prs.ldN (by assumption) (by omega) ?_) | (refine Trs.ldN (by assumption) (by omega) ?_) | (refine At.ldN (Blk.at (by assumption)) rfl ?_) | (refine At.ld (Blk.at (by assumption)) rfl ?_) | (refine IxA.mk (by omega) ?_) | (refine Sl.ln (Own.sl (by assumption)) ?_) | (refine Ints.ix (Own.sl (by assumption)) (by omega) ?_) | (refine Ints.ixI (Own.sl (by assumption)) (by omega) ?_) | (refine Ints.ld (Own.sl (by assumption)) (by omega) ?_))
    conv => whnf
    refine VC.rc (circle_rc hn6) ?_
    rintro _ w3 E3 HR
    replace Hg := Hg.ext E3
    replace Ha := Ha.ext E3
    replace EE := EE.ext E3
    replace Hb := Hb.ext E3
    repeat' ((conv => whnf); first | (refine Dr.quiet tyOk (by kernel_rfl) ?_) | (refine Rng.mk (by omega) ?_) | (refine Split.pos (by omega) ?_) | (refine Split.neg (by omega) ?_) | (refine Split.mk (fun h => ?_) (fun h => ?_)) | (refine Need.mk (by omega) ?_) | (refine Ints.ln (by assumption) ?_) | (refine Mat.ln (by assumption) ?_) | (refine Ints.ln (Mat.row (by assumption) _ (by omega)) ?_) | (refine Ints.ix (by assumption) (by omega) ?_) | (refine Mat.ix (by assumption) (by omega) ?_) | (refine Ints.ix (Mat.row (by assumption) _ (by omega)) (by omega) ?_) | (refine Ints.ix (c := 0) (by assumption) (by omega) ?_) | (refine Mat.ix (c := 0) (by assumption) (by omega) ?_) | (refine Ints.ix (c := 0) (Mat.row (by assumption) _ (by omega)) (by omega) ?_) | (refine Ints.ixI (by assumption) (by omega) ?_) | (refine Mat.ixI (by assumption) (by omega) ?_) | (refine Ints.ixI (Mat.row (by assumption) _ (by omega)) (by omega) ?_) | (refine Ints.ld (by assumption) (by omega) ?_) | (refine Mat.ld (by assumption) (by omega) ?_) | (refine Ints.ld (Mat.row (by assumption) _ (by omega)) (by omega) ?_) | (refine At.ld (by assumption) rfl ?_) | (refine At.ldN (by assumption) rfl ?_) | (refine Prs.ln (by assumption) ?_) | (refine Trs.ln (by assumption) ?_) | (refine Prs.ix (by assumption) (by omega) ?_) | (refine Trs.ix (by assumption) (by omega) ?_) | (refine Prs.ldN (by assumption) (by omega) ?_) | (refine Trs.ldN (by assumption) (by omega) ?_) | (refine At.ldN (Blk.at (by assumption)) rfl ?_) | (refine At.ld (Blk.at (by assumption)) rfl ?_) | (refine IxA.mk (by omega) ?_) | (refine Sl.ln (Own.sl (by assumption)) ?_) | (refine Ints.ix (Own.sl (by assumption)) (by omega) ?_) | (refine Ints.ixI (Own.sl (by assumption)) (by omega) ?_) | (refine Ints.ld (Own.sl (by assumption)) (by omega) ?_))
    exact ⟨EE, _, rfl, fun _ => HR, fun h => absurd rfl h⟩
  · repeat' ((conv => whnf); first | (refine Dr.quiet tyOk (by kernel_rfl) ?_) | (refine VC.pure c1 ?_) | (refine Rng.mk (by omega) ?_) | (refine Split.pos (by omega) ?_) | (refine Split.neg (by omega) ?_) | (refine Split.mk (fun h => ?_) (fun h => ?_)) | (refine Need.mk (by omega) ?_) | (refine Ints.ln (by assumption) ?_) | (refine Mat.ln (by assumption) ?_) | (refine Ints.ln (Mat.row (by assumption) _ (by omega)) ?_) | (refine Ints.ix (by assumption) (by omega) ?_) | (refine Mat.ix (by assumption) (by omega) ?_) | (refine Ints.ix (Mat.row (by assumption) _ (by omega)) (by omega) ?_) | (refine Ints.ix (c := 0) (by assumption) (by omega) ?_) | (refine Mat.ix (c := 0) (by assumption) (by omega) ?_) | (refine Ints.ix (c := 0) (Mat.row (by assumption) _ (by omega)) (by omega) ?_) | (refine Ints.ixI (by assumption) (by omega) ?_) | (refine Mat.ixI (by assumption) (by omega) ?_) | (refine Ints.ixI (Mat.row (by assumption) _ (by omega)) (by omega) ?_) | (refine Ints.ld (by assumption) (by omega) ?_) | (refine Mat.ld (by assumption) (by omega) ?_) | (refine Ints.ld (Mat.row (by assumption) _ (by omega)) (by omega) ?_) | (refine At.ld (by assumption) rfl ?_) | (refine At.ldN (by assumption) rfl ?_) | (refine Prs.ln (by assumption) ?_) | (refine Trs.ln (by assumption) ?_) | (refine Prs.ix (by assumption) (by omega) ?_) | (refine Trs.ix (by assumption) (by omega) ?_) | (refine Prs.ldN (by assumption) (by omega) ?_) | (refine Trs.ldN (by assumption) (by omega) ?_) | (refine At.ldN (Blk.at (by assumption)) rfl ?_) | (refine At.ld (Blk.at (by assumption)) rfl ?_) | (refine IxA.mk (by omega) ?_) | (refine Sl.ln (Own.sl (by assumption)) ?_) | (refine Ints.ix (Own.sl (by assumption)) (by omega) ?_) | (refine Ints.ixI (Own.sl (by assumption)) (by omega) ?_) | (refine Ints.ld (Own.sl (by assumption)) (by omega) ?_))
    exact ⟨EE, _, rfl, fun h => absurd h hv, fun _ => rfl⟩
theorem Undo_rc {w : World} {gv av : Value} {vs : List Value} {rr : List (List Int)} {a : List Int} (Hg : Mat w gv vs rr) (Ha : Ints w av a) :
    RC Try.prog 50 [.agg #[gv], av] w NoB (fun u w' => ∃ v, u = .tuple #[v, .int .i64 (vld rr a)] ∧ (vld rr a = 0 → ∃ b, Und rr a b ∧ OI w' v b) ∧ (vld rr a ≠ 0 → v = .slice none 0 0)) := by
  refine RC.mk tyOk Try.func50 rfl (by kernel_rfl) fun w1 E1 => ?_
  replace Hg := Hg.ext E1
  replace Ha := Ha.ext E1
  have EE := Ext.refl w1
  refine Bx.agg fun b2 w2 E2 hb2 Hb _ => ?_
  replace Hg := Hg.ext E2
  replace Ha := Ha.ext E2
  replace EE := EE.ext E2
  have c1 := gvalid_pc Hg Ha
  by_cases hv : vld rr a = 0
  · have hal := al_of_vld hv
    have hm10 := hal.m10
    have hn1 := hal.n1
    have hn6 := hal.n6
    have hlen := hal.len
    rw [hv] at c1 ⊢
    repeat' ((conv => whnf); first | (refine Dr.quiet tyOk (by kernel_rfl) ?_) | (refine VC.pure c1 ?_) | (refine Rng.mk (by omega) ?_) | (refine Split.pos (by omega) ?_) | (refine Split.neg (by omega) ?_) | (refine Split.mk (fun h => ?_) (fun h => ?_)) | (refine Need.mk (by omega) ?_) | (refine Ints.ln (by assumption) ?_) | (refine Mat.ln (by assumption) ?_) | (refine Ints.ln (Mat.row (by assumption) _ (by omega)) ?_) | (refine Ints.ix (by assumption) (by omega) ?_) | (refine Mat.ix (by assumption) (by omega) ?_) | (refine Ints.ix (Mat.row (by assumption) _ (by omega)) (by omega) ?_) | (refine Ints.ix (c := 0) (by assumption) (by omega) ?_) | (refine Mat.ix (c := 0) (by assumption) (by omega) ?_) | (refine Ints.ix (c := 0) (Mat.row (by assumption) _ (by omega)) (by omega) ?_) | (refine Ints.ixI (by assumption) (by omega) ?_) | (refine Mat.ixI (by assumption) (by omega) ?_) | (refine Ints.ixI (Mat.row (by assumption) _ (by omega)) (by omega) ?_) | (refine Ints.ld (by assumption) (by omega) ?_) | (refine Mat.ld (by assumption) (by omega) ?_) | (refine Ints.ld (Mat.row (by assumption) _ (by omega)) (by omega) ?_) | (refine At.ld (by assumption) rfl ?_) | (refine At.ldN (by assumption) rfl ?_) | (refine Prs.ln (by assumption) ?_) | (refine Trs.ln (by assumption) ?_) | (refine Prs.ix (by assumption) (by omega) ?_) | (refine Trs.ix (by assumption) (by omega) ?_) | (refine Prs.ldN (by assumption) (by omega) ?_) | (refine Trs.ldN (by assumption) (by omega) ?_) | (refine At.ldN (Blk.at (by assumption)) rfl ?_) | (refine At.ld (Blk.at (by assumption)) rfl ?_) | (refine IxA.mk (by omega) ?_) | (refine Sl.ln (Own.sl (by assumption)) ?_) | (refine Ints.ix (Own.sl (by assumption)) (by omega) ?_) | (refine Ints.ixI (Own.sl (by assumption)) (by omega) ?_) | (refine Ints.ld (Own.sl (by assumption)) (by omega) ?_))
    conv => whnf
    refine VC.rc (clone_rc Ha (by omega)) ?_
    rintro _ w3 E3 ⟨HC, _⟩
    replace Hg := Hg.ext E3
    replace Ha := Ha.ext E3
    replace EE := EE.ext E3
    replace Hb := Hb.ext E3
    repeat' ((conv => whnf); first | (refine Dr.quiet tyOk (by kernel_rfl) ?_) | (refine Rng.mk (by omega) ?_) | (refine Split.pos (by omega) ?_) | (refine Split.neg (by omega) ?_) | (refine Split.mk (fun h => ?_) (fun h => ?_)) | (refine Need.mk (by omega) ?_) | (refine Ints.ln (by assumption) ?_) | (refine Mat.ln (by assumption) ?_) | (refine Ints.ln (Mat.row (by assumption) _ (by omega)) ?_) | (refine Ints.ix (by assumption) (by omega) ?_) | (refine Mat.ix (by assumption) (by omega) ?_) | (refine Ints.ix (Mat.row (by assumption) _ (by omega)) (by omega) ?_) | (refine Ints.ix (c := 0) (by assumption) (by omega) ?_) | (refine Mat.ix (c := 0) (by assumption) (by omega) ?_) | (refine Ints.ix (c := 0) (Mat.row (by assumption) _ (by omega)) (by omega) ?_) | (refine Ints.ixI (by assumption) (by omega) ?_) | (refine Mat.ixI (by assumption) (by omega) ?_) | (refine Ints.ixI (Mat.row (by assumption) _ (by omega)) (by omega) ?_) | (refine Ints.ld (by assumption) (by omega) ?_) | (refine Mat.ld (by assumption) (by omega) ?_) | (refine Ints.ld (Mat.row (by assumption) _ (by omega)) (by omega) ?_) | (refine At.ld (by assumption) rfl ?_) | (refine At.ldN (by assumption) rfl ?_) | (refine Prs.ln (by assumption) ?_) | (refine Trs.ln (by assumption) ?_) | (refine Prs.ix (by assumption) (by omega) ?_) | (refine Trs.ix (by assumption) (by omega) ?_) | (refine Prs.ldN (by assumption) (by omega) ?_) | (refine Trs.ldN (by assumption) (by omega) ?_) | (refine At.ldN (Blk.at (by assumption)) rfl ?_) | (refine At.ld (Blk.at (by assumption)) rfl ?_) | (refine IxA.mk (by omega) ?_) | (refine Sl.ln (Own.sl (by assumption)) ?_) | (refine Ints.ix (Own.sl (by assumption)) (by omega) ?_) | (refine Ints.ixI (Own.sl (by assumption)) (by omega) ?_) | (refine Ints.ld (Own.sl (by assumption)) (by omega) ?_))
    have c2 := envy_pc Hg (Own.sl HC) hv
    have hp0 := (pot_bd hv).1
    repeat' ((conv => whnf); first | (refine Dr.quiet tyOk (by kernel_rfl) ?_) | (refine VC.pure c2 ?_) | (refine Rng.mk (by omega) ?_) | (refine Split.pos (by omega) ?_) | (refine Split.neg (by omega) ?_) | (refine Split.mk (fun h => ?_) (fun h => ?_)) | (refine Need.mk (by omega) ?_) | (refine Ints.ln (by assumption) ?_) | (refine Mat.ln (by assumption) ?_) | (refine Ints.ln (Mat.row (by assumption) _ (by omega)) ?_) | (refine Ints.ix (by assumption) (by omega) ?_) | (refine Mat.ix (by assumption) (by omega) ?_) | (refine Ints.ix (Mat.row (by assumption) _ (by omega)) (by omega) ?_) | (refine Ints.ix (c := 0) (by assumption) (by omega) ?_) | (refine Mat.ix (c := 0) (by assumption) (by omega) ?_) | (refine Ints.ix (c := 0) (Mat.row (by assumption) _ (by omega)) (by omega) ?_) | (refine Ints.ixI (by assumption) (by omega) ?_) | (refine Mat.ixI (by assumption) (by omega) ?_) | (refine Ints.ixI (Mat.row (by assumption) _ (by omega)) (by omega) ?_) | (refine Ints.ld (by assumption) (by omega) ?_) | (refine Mat.ld (by assumption) (by omega) ?_) | (refine Ints.ld (Mat.row (by assumption) _ (by omega)) (by omega) ?_) | (refine At.ld (by assumption) rfl ?_) | (refine At.ldN (by assumption) rfl ?_) | (refine Prs.ln (by assumption) ?_) | (refine Trs.ln (by assumption) ?_) | (refine Prs.ix (by assumption) (by omega) ?_) | (refine Trs.ix (by assumption) (by omega) ?_) | (refine Prs.ldN (by assumption) (by omega) ?_) | (refine Trs.ldN (by assumption) (by omega) ?_) | (refine At.ldN (Blk.at (by assumption)) rfl ?_) | (refine At.ld (Blk.at (by assumption)) rfl ?_) | (refine IxA.mk (by omega) ?_) | (refine Sl.ln (Own.sl (by assumption)) ?_) | (refine Ints.ix (Own.sl (by assumption)) (by omega) ?_) | (refine Ints.ixI (Own.sl (by assumption)) (by omega) ?_) | (refine Ints.ld (Own.sl (by assumption)) (by omega) ?_))
    conv => whnf
    refine VC.rc (circle_rc (rr := rr) (a := a) hn6) ?_
    rintro _ w4 E4 HR
    replace Hg := Hg.ext E4
    replace Ha := Ha.ext E4
    replace EE := EE.ext E4
    replace Hb := Hb.ext E4
    replace HC := HC.ext E4
    repeat' ((conv => whnf); first | (refine Dr.quiet tyOk (by kernel_rfl) ?_) | (refine Rng.mk (by omega) ?_) | (refine Split.pos (by omega) ?_) | (refine Split.neg (by omega) ?_) | (refine Split.mk (fun h => ?_) (fun h => ?_)) | (refine Need.mk (by omega) ?_) | (refine Ints.ln (by assumption) ?_) | (refine Mat.ln (by assumption) ?_) | (refine Ints.ln (Mat.row (by assumption) _ (by omega)) ?_) | (refine Ints.ix (by assumption) (by omega) ?_) | (refine Mat.ix (by assumption) (by omega) ?_) | (refine Ints.ix (Mat.row (by assumption) _ (by omega)) (by omega) ?_) | (refine Ints.ix (c := 0) (by assumption) (by omega) ?_) | (refine Mat.ix (c := 0) (by assumption) (by omega) ?_) | (refine Ints.ix (c := 0) (Mat.row (by assumption) _ (by omega)) (by omega) ?_) | (refine Ints.ixI (by assumption) (by omega) ?_) | (refine Mat.ixI (by assumption) (by omega) ?_) | (refine Ints.ixI (Mat.row (by assumption) _ (by omega)) (by omega) ?_) | (refine Ints.ld (by assumption) (by omega) ?_) | (refine Mat.ld (by assumption) (by omega) ?_) | (refine Ints.ld (Mat.row (by assumption) _ (by omega)) (by omega) ?_) | (refine At.ld (by assumption) rfl ?_) | (refine At.ldN (by assumption) rfl ?_) | (refine Prs.ln (by assumption) ?_) | (refine Trs.ln (by assumption) ?_) | (refine Prs.ix (by assumption) (by omega) ?_) | (refine Trs.ix (by assumption) (by omega) ?_) | (refine Prs.ldN (by assumption) (by omega) ?_) | (refine Trs.ldN (by assumption) (by omega) ?_) | (refine At.ldN (Blk.at (by assumption)) rfl ?_) | (refine At.ld (Blk.at (by assumption)) rfl ?_) | (refine IxA.mk (by omega) ?_) | (refine Sl.ln (Own.sl (by assumption)) ?_) | (refine Ints.ix (Own.sl (by assumption)) (by omega) ?_) | (refine Ints.ixI (Own.sl (by assumption)) (by omega) ?_) | (refine Ints.ld (Own.sl (by assumption)) (by omega) ?_))
    have Hg__1 := Hg
    have Ha__1 := Ha
    have EE__1 := EE
    have Hb__1 := Hb
    have HC__1 := HC
    have HR__1 := HR
    have hz1 := Nat.le_trans E1.size EE.size
    refine Lp.mk tyOk [false, true, false, false, false, false, false, true, false, false, false, false, false, false, false, false, false, false, false, false, true, true, true, true, true, true, true, true, true, true] (fun m fr wr => getK fr 1 fun qv => getK fr 7 fun kv => ∃ c : Nat, c ≤ 60001 ∧ m = 60001 - c ∧ ((∃ b, vld rr b = 0 ∧ OI wr qv b ∧ CiR rr b wr kv ∧ (c : Int) ≤ pot rr b ∧ ∀ z, Und rr b z → Und rr a z)) ∧ Ext w4 wr) (60001) ?_ ?_
    · exact ⟨0, Nat.zero_le _, rfl, ⟨a, hv, HC, HR, by omega, fun z h => h⟩, Ext.refl _⟩
    · intro m w5 u1 u7 u20 u21 u22 u23 u24 u25 u26 u27 u28 u29 hR
      obtain ⟨c, hc, rfl, HL, EL1⟩ := hR
      replace Hg := Hg__1.ext EL1
      replace Ha := Ha__1.ext EL1
      replace EE := EE__1.ext EL1
      replace Hb := Hb__1.ext EL1
      replace HC := HC__1.ext EL1
      replace HR := HR__1.ext EL1
      obtain ⟨b, hvb, HB, HR, hcb, hz⟩ := HL
      have hpb := pot_bd hvb
      rcases HR with ⟨rfl, hnil⟩ | ⟨hC, HI⟩
      · repeat' ((conv => whnf); first | (refine Dr.quiet tyOk (by kernel_rfl) ?_) | (refine VS.nenil true Try.underlying25 ⟨_, _, _, rfl, rfl⟩ ?_) | (refine Rng.mk (by omega) ?_) | (refine Split.pos (by omega) ?_) | (refine Split.neg (by omega) ?_) | (refine Split.mk (fun h => ?_) (fun h => ?_)) | (refine Need.mk (by omega) ?_) | (refine Ints.ln (by assumption) ?_) | (refine Mat.ln (by assumption) ?_) | (refine Ints.ln (Mat.row (by assumption) _ (by omega)) ?_) | (refine Ints.ix (by assumption) (by omega) ?_) | (refine Mat.ix (by assumption) (by omega) ?_) | (refine Ints.ix (Mat.row (by assumption) _ (by omega)) (by omega) ?_) | (refine Ints.ix (c := 0) (by assumption) (by omega) ?_) | (refine Mat.ix (c := 0) (by assumption) (by omega) ?_) | (refine Ints.ix (c := 0) (Mat.row (by assumption) _ (by omega)) (by omega) ?_) | (refine Ints.ixI (by assumption) (by omega) ?_) | (refine Mat.ixI (by assumption) (by omega) ?_) | (refine Ints.ixI (Mat.row (by assumption) _ (by omega)) (by omega) ?_) | (refine Ints.ld (by assumption) (by omega) ?_) | (refine Mat.ld (by assumption) (by omega) ?_) | (refine Ints.ld (Mat.row (by assumption) _ (by omega)) (by omega) ?_) | (refine At.ld (by assumption) rfl ?_) | (refine At.ldN (by assumption) rfl ?_) | (refine Prs.ln (by assumption) ?_) | (refine Trs.ln (by assumption) ?_) | (refine Prs.ix (by assumption) (by omega) ?_) | (refine Trs.ix (by assumption) (by omega) ?_) | (refine Prs.ldN (by assumption) (by omega) ?_) | (refine Trs.ldN (by assumption) (by omega) ?_) | (refine At.ldN (Blk.at (by assumption)) rfl ?_) | (refine At.ld (Blk.at (by assumption)) rfl ?_) | (refine IxA.mk (by omega) ?_) | (refine Sl.ln (Own.sl (by assumption)) ?_) | (refine Ints.ix (Own.sl (by assumption)) (by omega) ?_) | (refine Ints.ixI (Own.sl (by assumption)) (by omega) ?_) | (refine Ints.ld (Own.sl (by assumption)) (by omega) ?_))
        exact ⟨EE, _, rfl, fun _ => ⟨b, hz _ (.stop hnil), HB⟩, fun h => absurd rfl h⟩
      · have hCl := hC.len
        have hne : circ rr b ≠ [] := fun e => by rw [e] at hCl; simp at hCl
        obtain ⟨ux, um, uc, rfl, hux⟩ := Ints.some_of (Own.sl HI) (by omega)
        repeat' ((conv => whnf); first | (refine Dr.quiet tyOk (by kernel_rfl) ?_) | (refine VS.nenil false Try.underlying25 ⟨_, _, _, rfl, hux⟩ ?_) | (refine Rng.mk (by omega) ?_) | (refine Split.pos (by omega) ?_) | (refine Split.neg (by omega) ?_) | (refine Split.mk (fun h => ?_) (fun h => ?_)) | (refine Need.mk (by omega) ?_) | (refine Ints.ln (by assumption) ?_) | (refine Mat.ln (by assumption) ?_) | (refine Ints.ln (Mat.row (by assumption) _ (by omega)) ?_) | (refine Ints.ix (by assumption) (by omega) ?_) | (refine Mat.ix (by assumption) (by omega) ?_) | (refine Ints.ix (Mat.row (by assumption) _ (by omega)) (by omega) ?_) | (refine Ints.ix (c := 0) (by assumption) (by omega) ?_) | (refine Mat.ix (c := 0) (by assumption) (by omega) ?_) | (refine Ints.ix (c := 0) (Mat.row (by assumption) _ (by omega)) (by omega) ?_) | (refine Ints.ixI (by assumption) (by omega) ?_) | (refine Mat.ixI (by assumption) (by omega) ?_) | (refine Ints.ixI (Mat.row (by assumption) _ (by omega)) (by omega) ?_) | (refine Ints.ld (by assumption) (by omega) ?_) | (refine Mat.ld (by assumption) (by omega) ?_) | (refine Ints.ld (Mat.row (by assumption) _ (by omega)) (by omega) ?_) | (refine At.ld (by assumption) rfl ?_) | (refine At.ldN (by assumption) rfl ?_) | (refine Prs.ln (by assumption) ?_) | (refine Trs.ln (by assumption) ?_) | (refine Prs.ix (by assumption) (by omega) ?_) | (refine Trs.ix (by assumption) (by omega) ?_) | (refine Prs.ldN (by assumption) (by omega) ?_) | (refine Trs.ldN (by assumption) (by omega) ?_) | (refine At.ldN (Blk.at (by assumption)) rfl ?_) | (refine At.ld (Blk.at (by assumption)) rfl ?_) | (refine IxA.mk (by omega) ?_) | (refine Sl.ln (Own.sl (by assumption)) ?_) | (refine Ints.ix (Own.sl (by assumption)) (by omega) ?_) | (refine Ints.ixI (Own.sl (by assumption)) (by omega) ?_) | (refine Ints.ld (Own.sl (by assumption)) (by omega) ?_))
        conv => whnf
        refine VC.rc (pass_rc Hg (Own.sl HB) (Own.sl HI) hvb hC.ags) ?_
        rintro _ w6 E6 HB2
        replace Hg := Hg.ext E6
        replace Ha := Ha.ext E6
        replace EE := EE.ext E6
        replace Hb := Hb.ext E6
        replace HC := HC.ext E6
        replace HR := HR.ext E6
        replace EL1 := EL1.ext E6
        replace HB2 := Own.base HB2 (Nat.zero_le _)
        have hv2 := vld_pas hvb hC.ags
        have hpu := pot_up hvb hC
        have c3 := envy_pc Hg (Own.sl HB2) hv2
        repeat' ((conv => whnf); first | (refine Dr.quiet tyOk (by kernel_rfl) ?_) | (refine VC.pure c3 ?_) | (refine Rng.mk (by omega) ?_) | (refine Split.pos (by omega) ?_) | (refine Split.neg (by omega) ?_) | (refine Split.mk (fun h => ?_) (fun h => ?_)) | (refine Need.mk (by omega) ?_) | (refine Ints.ln (by assumption) ?_) | (refine Mat.ln (by assumption) ?_) | (refine Ints.ln (Mat.row (by assumption) _ (by omega)) ?_) | (refine Ints.ix (by assumption) (by omega) ?_) | (refine Mat.ix (by assumption) (by omega) ?_) | (refine Ints.ix (Mat.row (by assumption) _ (by omega)) (by omega) ?_) | (refine Ints.ix (c := 0) (by assumption) (by omega) ?_) | (refine Mat.ix (c := 0) (by assumption) (by omega) ?_) | (refine Ints.ix (c := 0) (Mat.row (by assumption) _ (by omega)) (by omega) ?_) | (refine Ints.ixI (by assumption) (by omega) ?_) | (refine Mat.ixI (by assumption) (by omega) ?_) | (refine Ints.ixI (Mat.row (by assumption) _ (by omega)) (by omega) ?_) | (refine Ints.ld (by assumption) (by omega) ?_) | (refine Mat.ld (by assumption) (by omega) ?_) | (refine Ints.ld (Mat.row (by assumption) _ (by omega)) (by omega) ?_) | (refine At.ld (by assumption) rfl ?_) | (refine At.ldN (by assumption) rfl ?_) | (refine Prs.ln (by assumption) ?_) | (refine Trs.ln (by assumption) ?_) | (refine Prs.ix (by assumption) (by omega) ?_) | (refine Trs.ix (by assumption) (by omega) ?_) | (refine Prs.ldN (by assumption) (by omega) ?_) | (refine Trs.ldN (by assumption) (by omega) ?_) | (refine At.ldN (Blk.at (by assumption)) rfl ?_) | (refine At.ld (Blk.at (by assumption)) rfl ?_) | (refine IxA.mk (by omega) ?_) | (refine Sl.ln (Own.sl (by assumption)) ?_) | (refine Ints.ix (Own.sl (by assumption)) (by omega) ?_) | (refine Ints.ixI (Own.sl (by assumption)) (by omega) ?_) | (refine Ints.ld (Own.sl (by assumption)) (by omega) ?_))
        conv => whnf
        refine VC.rc (circle_rc (rr := rr) (a := pas rr.length b (circ rr b)) hn6) ?_
        rintro _ w7 E7 HR
        replace Hg := Hg.ext E7
        replace Ha := Ha.ext E7
        replace EE := EE.ext E7
        replace Hb := Hb.ext E7
        replace HC := HC.ext E7
        replace EL1 := EL1.ext E7
        replace HB2 := HB2.ext E7
        repeat' ((conv => whnf); first | (refine Dr.quiet tyOk (by kernel_rfl) ?_) | (refine Rng.mk (by omega) ?_) | (refine Split.pos (by omega) ?_) | (refine Split.neg (by omega) ?_) | (refine Split.mk (fun h => ?_) (fun h => ?_)) | (refine Need.mk (by omega) ?_) | (refine Ints.ln (by assumption) ?_) | (refine Mat.ln (by assumption) ?_) | (refine Ints.ln (Mat.row (by assumption) _ (by omega)) ?_) | (refine Ints.ix (by assumption) (by omega) ?_) | (refine Mat.ix (by assumption) (by omega) ?_) | (refine Ints.ix (Mat.row (by assumption) _ (by omega)) (by omega) ?_) | (refine Ints.ix (c := 0) (by assumption) (by omega) ?_) | (refine Mat.ix (c := 0) (by assumption) (by omega) ?_) | (refine Ints.ix (c := 0) (Mat.row (by assumption) _ (by omega)) (by omega) ?_) | (refine Ints.ixI (by assumption) (by omega) ?_) | (refine Mat.ixI (by assumption) (by omega) ?_) | (refine Ints.ixI (Mat.row (by assumption) _ (by omega)) (by omega) ?_) | (refine Ints.ld (by assumption) (by omega) ?_) | (refine Mat.ld (by assumption) (by omega) ?_) | (refine Ints.ld (Mat.row (by assumption) _ (by omega)) (by omega) ?_) | (refine At.ld (by assumption) rfl ?_) | (refine At.ldN (by assumption) rfl ?_) | (refine Prs.ln (by assumption) ?_) | (refine Trs.ln (by assumption) ?_) | (refine Prs.ix (by assumption) (by omega) ?_) | (refine Trs.ix (by assumption) (by omega) ?_) | (refine Prs.ldN (by assumption) (by omega) ?_) | (refine Trs.ldN (by assumption) (by omega) ?_) | (refine At.ldN (Blk.at (by assumption)) rfl ?_) | (refine At.ld (Blk.at (by assumption)) rfl ?_) | (refine IxA.mk (by omega) ?_) | (refine Sl.ln (Own.sl (by assumption)) ?_) | (refine Ints.ix (Own.sl (by assumption)) (by omega) ?_) | (refine Ints.ixI (Own.sl (by assumption)) (by omega) ?_) | (refine Ints.ld (Own.sl (by assumption)) (by omega) ?_))
        refine ⟨_, (by omega : 60001 - (c + 1) < 60001 - c), rfl, c + 1, by omega, rfl, ⟨_, hv2, HB2, HR, by omega, fun z h => hz z (.go hne h)⟩, EL1⟩
  · repeat' ((conv => whnf); first | (refine Dr.quiet tyOk (by kernel_rfl) ?_) | (refine VC.pure c1 ?_) | (refine Rng.mk (by omega) ?_) | (refine Split.pos (by omega) ?_) | (refine Split.neg (by omega) ?_) | (refine Split.mk (fun h => ?_) (fun h => ?_)) | (refine Need.mk (by omega) ?_) | (refine Ints.ln (by assumption) ?_) | (refine Mat.ln (by assumption) ?_) | (refine Ints.ln (Mat.row (by assumption) _ (by omega)) ?_) | (refine Ints.ix (by assumption) (by omega) ?_) | (refine Mat.ix (by assumption) (by omega) ?_) | (refine Ints.ix (Mat.row (by assumption) _ (by omega)) (by omega) ?_) | (refine Ints.ix (c := 0) (by assumption) (by omega) ?_) | (refine Mat.ix (c := 0) (by assumption) (by omega) ?_) | (refine Ints.ix (c := 0) (Mat.row (by assumption) _ (by omega)) (by omega) ?_) | (refine Ints.ixI (by assumption) (by omega) ?_) | (refine Mat.ixI (by assumption) (by omega) ?_) | (refine Ints.ixI (Mat.row (by assumption) _ (by omega)) (by omega) ?_) | (refine Ints.ld (by assumption) (by omega) ?_) | (refine Mat.ld (by assumption) (by omega) ?_) | (refine Ints.ld (Mat.row (by assumption) _ (by omega)) (by omega) ?_) | (refine At.ld (by assumption) rfl ?_) | (refine At.ldN (by assumption) rfl ?_) | (refine Prs.ln (by assumption) ?_) | (refine Trs.ln (by assumption) ?_) | (refine Prs.ix (by assumption) (by omega) ?_) | (refine Trs.ix (by assumption) (by omega) ?_) | (refine Prs.ldN (by assumption) (by omega) ?_) | (refine Trs.ldN (by assumption) (by omega) ?_) | (refine At.ldN (Blk.at (by assumption)) rfl ?_) | (refine At.ld (Blk.at (by assumption)) rfl ?_) | (refine IxA.mk (by omega) ?_) | (refine Sl.ln (Own.sl (by assumption)) ?_) | (refine Ints.ix (Own.sl (by assumption)) (by omega) ?_) | (refine Ints.ixI (Own.sl (by assumption)) (by omega) ?_) | (refine Ints.ld (Own.sl (by assumption)) (by omega) ?_))
    exact ⟨EE, _, rfl, fun h => absurd h hv, fun _ => rfl⟩
end Go.Proofs.Ytebklnmafjbhcaa
set_option linter.unusedVariables false
set_option linter.unusedSimpArgs false
namespace Go.Proofs.Ytebklnmafjbhcaa
open Go.Eng

section
variable {rr : List (List Int)} {a b c : List Int}
theorem ordL_nat {n k : Nat} (h : Ags c n) (hk : k < n) : ∃ q : Nat, q < n ∧ (ordL c n).getD k 0 = (q : Int) := by
  have := ((asg_iff (ordL_len c n)).1 (ordL_asg h)).1 k hk
  exact ⟨((ordL c n).getD k 0).toNat, by omega, by omega⟩
theorem pas_neg (h : vld rr a = 0) (hc : Ags c rr.length) {j : Nat} (hj : j < a.length) : (pas rr.length a c).getD j 0 < 0 ↔ a.getD j 0 < 0 := by
  have ho := ordL_asg hc
  have hal := al_of_vld h
  have hr := hal.rng j (by rw [← hal.len]; exact hj)
  unfold pas
  rw [passV_get hj, ordL_len]
  by_cases h0 : a.getD j 0 < 0
  · rw [lastTo_minus ho h0]; omega
  · have h1 := last_in ho (k := (a.getD j 0).toNat) (by omega)
    rw [Int.toNat_of_nonneg (by omega)] at h1
    omega
/-! ### how much envy there is -/
def rowE (rr : List (List Int)) (a : List Int) (i : Nat) : Int := sumK (fun k : Nat => if wth rr a i i < wth rr a i k then 1 else 0) rr.length
def edges (rr : List (List Int)) (a : List Int) : Int := sumK (fun i : Nat => rowE rr a i) rr.length
theorem sumK_comm (f : Nat → Nat → Int) (m : Nat) : ∀ n, sumK (fun i => sumK (fun j => f i j) m) n = sumK (fun j => sumK (fun i => f i j) n) m
  | 0 => (sumK_zero m).symm
  | n + 1 => by
    have h1 := sumK_comm f m n
    have h2 := sumK_add (fun j => sumK (fun i => f i j) n) (fun j => f n j) m
    show sumK (fun i => sumK (fun j => f i j) m) n + sumK (fun j => f n j) m = sumK (fun j => sumK (fun i => f i j) n + f n j) m
    rw [h2, h1]
theorem cnt_sum {o : List Int} {j y : Int} : ∀ n, sumK (fun k : Nat => if o.getD k 0 = j then y else 0) n = cntTo o j n * y
  | 0 => by simp [sumK, cntTo]
  | n + 1 => by
    have ih := cnt_sum (o := o) (j := j) (y := y) n
    simp only [sumK, cntTo]
    rw [ih]
    split
    · rw [Int.add_mul, Int.one_mul]
    · rw [Int.add_zero, Int.add_zero]
theorem sumK_perm {o : List Int} {n : Nat} (ho : asg o n) (F : Nat → Int) : sumK (fun k : Nat => F (o.getD k 0).toNat) n = sumK F n := by
  have h1 : sumK (fun k : Nat => F (o.getD k 0).toNat) n = sumK (fun k : Nat => sumK (fun j : Nat => if o.getD k 0 = (j : Int) then F j else 0) n) n := sumK_congr fun k hk => by
    have hr := ((asg_iff ho.1).1 ho).1 k hk
    rw [sumK_congr (g := fun j : Nat => if o.getD k 0 = (j : Int) then F (o.getD k 0).toNat else 0) (fun j _ => by
      by_cases e : o.getD k 0 = (j : Int)
      · rw [if_pos e, if_pos e, e, Int.toNat_natCast]
      · rw [if_neg e, if_neg e]), sumK_ind, if_pos hr]
  rw [h1, sumK_comm]
  refine sumK_congr fun j hj => ?_
  rw [cnt_sum, ho.2 j hj, Int.one_mul]
theorem rowE_pas (h : vld rr a = 0) (hc : Ags c rr.length) {i : Nat} : rowE rr (pas rr.length a c) i = sumK (fun k : Nat => if wth rr (pas rr.length a c) i i < wth rr a i k then 1 else 0) rr.length := by
  have e := sumK_perm (ordL_asg hc) (fun k : Nat => if wth rr (pas rr.length a c) i i < wth rr a i k then 1 else 0)
  rw [← e]
  refine sumK_congr fun k hk => ?_
  obtain ⟨q, hq, e1⟩ := ordL_nat hc hk
  rw [wth_pas h hc hk, e1, Int.toNat_natCast]
/-- passing along a circle leaves less envy -/
theorem edges_pas (h : vld rr a = 0) (hc : isC rr a c) : edges rr (pas rr.length a c) < edges rr a := by
  have hl := hc.len
  have h0 := hc.rng 0 (by omega)
  refine sumK_lt (fun i hi => ?_) ⟨(c.getD 0 0).toNat, by omega, ?_⟩
  · rw [rowE_pas h hc.ags]
    have := own_le h hc hi
    refine sumK_le fun k hk => ?_
    split <;> split <;> omega
  · rw [rowE_pas h hc.ags]
    obtain ⟨q, hq, e1⟩ := ordL_nat hc.ags (k := (c.getD 0 0).toNat) (by omega)
    have h1 := own_in h hc (t := 0) (by omega)
    have h2 := wth_pas h hc.ags (i := (c.getD 0 0).toNat) (k := (c.getD 0 0).toNat) (by omega)
    rw [e1] at h2
    have e2 : (((c.getD 0 0).toNat : Nat) : Int) = c.getD 0 0 := by omega
    rw [← e2] at h1
    simp only [Int.toNat_natCast] at h1
    refine sumK_lt (fun k hk => ?_) ⟨q, hq, ?_⟩
    · split <;> split <;> omega
    · rw [if_neg (by omega), if_pos (by omega)]; omega
theorem edges_bd (hn : rr.length ≤ 6) : 0 ≤ edges rr a ∧ edges rr a ≤ 36 := by
  have h1 : ∀ i, 0 ≤ rowE rr a i ∧ rowE rr a i ≤ 6 := fun i => by
    have := sumK_bd (f := fun k : Nat => if wth rr a i i < wth rr a i k then 1 else 0) (X := 1) (fun k => by split <;> omega) rr.length
    unfold rowE; omega
  have := sumK_bd (f := fun i : Nat => rowE rr a i) (X := 6) h1 rr.length
  unfold edges; omega
/-- what agents have after a good is given -/
theorem wth_give {g : Nat} {x : Int} (hg : g < a.length) (hn : a.getD g 0 = -1) (i q : Nat) : wth rr (a.set g x) i q = wth rr a i q + (if x = q then val rr i g else 0) := by
  rw [wth_set hg, if_neg (by omega : ¬ a.getD g 0 = (q : Int))]; omega
theorem edges_give (h : vld rr a = 0) {g : Nat} {x : Int} (hg : g < a.length) (hn : a.getD g 0 = -1) : edges rr (a.set g x) ≤ edges rr a + rr.length := by
  have hal := al_of_vld h
  have h1 : ∀ i, i < rr.length → rowE rr (a.set g x) i ≤ rowE rr a i + 1 := fun i hi => by
    have h2 : rowE rr (a.set g x) i ≤ sumK (fun k : Nat => (if wth rr a i i < wth rr a i k then 1 else 0) + if x = (k : Int) then 1 else 0) rr.length := by
      refine sumK_le fun k hk => ?_
      have hv := (hal.val i g).1
      rw [wth_give hg hn, wth_give hg hn]
      by_cases e : x = (k : Int)
      · rw [if_pos e, if_pos e]; split <;> split <;> split <;> omega
      · rw [if_neg e, if_neg e]; split <;> split <;> split <;> omega
    rw [sumK_add, sumK_ind] at h2
    unfold rowE at *
    split at h2 <;> omega
  have h3 := sumK_le (f := fun i : Nat => rowE rr (a.set g x) i) (g := fun i : Nat => rowE rr a i + 1) (n := rr.length) h1
  have h4 : sumK (fun i : Nat => rowE rr a i + 1) rr.length = edges rr a + rr.length := by
    rw [sumK_add, sumK_const]
    show edges rr a + _ = _
    omega
  exact Int.le_trans h3 (Int.le_of_eq h4)

/-! ### a run -/
structure RunI (rr : List (List Int)) (o a : List Int) : Prop where
  vd : vld rr a = 0
  rng : ∀ t, t < o.length → 0 ≤ o.getD t 0 ∧ o.getD t 0 < a.length
  dis : ∀ s t, s < t → t < o.length → o.getD s 0 ≠ o.getD t 0
  fr : ∀ t, t < o.length → a.getD (o.getD t 0).toNat 0 = -1
theorem fre_lt (rr : List (List Int)) (a : List Int) : -1 ≤ fre rr a ∧ fre rr a < rr.length := by
  rcases fre_cases rr a with ⟨i, h1, h2, _⟩ | ⟨h1, _⟩ <;> omega
theorem RunI.turn {o : List Int} (hn : 1 ≤ rr.length) (h : RunI rr o a) (hf : fre rr a < 0) : RunI rr o (pas rr.length a (circ rr a)) := by
  have hc := fre_neg hn hf
  have hv2 := vld_pas h.vd hc.ags
  have hal := al_of_vld hv2
  refine ⟨hv2, fun t ht => by rw [pas_len]; exact h.rng t ht, h.dis, fun t ht => ?_⟩
  have h1 := h.rng t ht
  have h2 := h.fr t ht
  have h3 := (pas_neg h.vd hc.ags (j := (o.getD t 0).toNat) (by omega)).2 (by omega)
  have h4 := hal.rng (o.getD t 0).toNat (by rw [← hal.len, pas_len]; omega)
  omega
theorem RunI.gave {g : Int} {o : List Int} (h : RunI rr (g :: o) a) (hf : 0 ≤ fre rr a) : RunI rr o (a.set g.toNat (fre rr a)) ∧ (0 ≤ g ∧ g < a.length) ∧ a.getD g.toNat 0 = -1 := by
  have hg : 0 ≤ g ∧ g < a.length := h.rng 0 (by simp)
  have hgn : a.getD g.toNat 0 = -1 := h.fr 0 (by simp)
  have hb := fre_lt rr a
  have hv : vld rr (a.set g.toNat (fre rr a)) = 0 := vld_give h.vd (good := g) ⟨hg.1, hg.2, by omega, by omega⟩
  refine ⟨⟨hv, fun t ht => ?_, fun s t hst ht => h.dis (s + 1) (t + 1) (by omega) (by simpa using ht), fun t ht => ?_⟩, hg, hgn⟩
  · rw [List.length_set]; exact h.rng (t + 1) (by simpa using ht)
  · have h1 : g ≠ o.getD t 0 := h.dis 0 (t + 1) (by omega) (by simpa using ht)
    have h2 : 0 ≤ o.getD t 0 ∧ o.getD t 0 < a.length := h.rng (t + 1) (by simpa using ht)
    rw [set_get (by omega), if_neg (by omega)]
    exact h.fr (t + 1) (by simpa using ht)
/-- one step -/
def stp (rr : List (List Int)) (a : List Int) (s : Stp) : List Int := if s.1 = [] then a.set s.2.2.toNat s.2.1 else pas rr.length a s.1
def rep (rr : List (List Int)) (a : List Int) (S : List Stp) : List Int := S.foldl (stp rr) a
/-- how many goods are given by the first n steps -/
def gv : Nat → List Stp → Nat
  | 0, _ => 0
  | _ + 1, [] => 0
  | n + 1, s :: S => (if s.1 = [] then 1 else 0) + gv n S
end
end Go.Proofs.Ytebklnmafjbhcaa
set_option linter.unusedVariables false
set_option linter.unusedSimpArgs false
namespace Go.Proofs.Ytebklnmafjbhcaa
open Go.Eng
set_option maxRecDepth 100000
set_option maxHeartbeats 4000000

/-- the first places of a list are as those of a circle -/
structure IsU (rr : List (List Int)) (l : List Int) (c : Nat) : Prop where
  rng : ∀ t, t < c → 0 ≤ l.getD t 0 ∧ l.getD t 0 < rr.length
  low : ∀ t, 0 < t → t < c → l.getD 0 0 < l.getD t 0
  dis : ∀ s t, s < t → t < c → l.getD s 0 ≠ l.getD t 0
theorem IsU.next {rr : List (List Int)} {l : List Int} {c : Nat} (h : IsU rr l c) (h1 : 0 ≤ l.getD c 0 ∧ l.getD c 0 < rr.length) (h2 : 0 < c → l.getD 0 0 < l.getD c 0) (h3 : ∀ s, s < c → l.getD s 0 ≠ l.getD c 0) : IsU rr l (c + 1) := by
  refine ⟨fun t ht => ?_, fun t h0 ht => ?_, fun s t hst ht => ?_⟩
  · by_cases e : t = c
    · subst e; exact h1
    · exact h.rng t (by omega)
  · by_cases e : t = c
    · subst e; exact h2 h0
    · exact h.low t h0 (by omega)
  · by_cases e : t = c
    · subst e; exact h3 s hst
    · exact h.dis s t hst (by omega)
end Go.Proofs.Ytebklnmafjbhcaa
set_option linter.unusedVariables false
set_option linter.unusedSimpArgs false
namespace Go.Proofs.Ytebklnmafjbhcaa
open Go.Eng
set_option maxRecDepth 100000
set_option maxHeartbeats 4000000

section
variable {rr : List (List Int)} {a c : List Int}
end

theorem circ_first {rr : List (List Int)} {a : List Int} {N k : Nat} (hn : 1 ≤ rr.length) (h1 : ∀ l, isC rr a l → N ≤ l.length) (hk : k < rr.length ^ N) (h2 : ∀ j, j < k → ¬ isC rr a (digs rr.length N j)) (h3 : isC rr a (digs rr.length N k)) : circ rr a = digs rr.length N k := by
  refine circ_is (.inr ⟨h3, fun l hl => ⟨by rw [digs_len]; exact h1 l hl, fun e hx => ?_⟩⟩)
  obtain ⟨q, hq, eq⟩ := digs_all hn hl.rng
  rw [digs_len] at e
  rw [e] at hq eq
  rw [← eq] at hx hl
  rcases Nat.lt_trichotomy q k with h | h | h
  · exact h2 q h hl
  · subst h; exact lexlt_irrefl _ hx
  · exact lexlt_asymm hx (digs_lt hn hk hq h)
theorem circ_zero {rr : List (List Int)} {a : List Int} (h1 : ∀ l, isC rr a l → rr.length + 1 ≤ l.length) : circ rr a = [] :=
  circ_is (.inl ⟨rfl, fun l hl => by have := h1 l hl; have := hl.le; omega⟩)
end Go.Proofs.Ytebklnmafjbhcaa
set_option linter.unusedVariables false
set_option linter.unusedSimpArgs false
namespace Go.Eng
open Go.RowKit Go.ChangeShapes Go.WideShapes Go.ChangeAt Go.Deep

abbrev V3 := Value × Int × Int
abbrev S3 := List Int × Int × Int
def flatV : List V3 → List Value
  | [] => []
  | p :: r => p.1 :: i64v p.2.1 :: i64v p.2.2 :: flatV r
theorem flatV_len : ∀ l : List V3, (flatV l).length = l.length * 3
  | [] => rfl
  | _ :: r => by simp [flatV, flatV_len r]; omega
theorem flatV_app : ∀ a b : List V3, flatV (a ++ b) = flatV a ++ flatV b
  | [], _ => rfl
  | _ :: r, b => by simp [flatV, flatV_app r b]
abbrev v30 : V3 := (undef, 0, 0)
abbrev s30 : S3 := ([], 0, 0)
theorem flatV_get : ∀ (l : List V3) (c : Nat), c < l.length → (flatV l)[c * 3]? = some (l.getD c v30).1 ∧ (flatV l)[c * 3 + 1]? = some (i64v (l.getD c v30).2.1) ∧ (flatV l)[c * 3 + 2]? = some (i64v (l.getD c v30).2.2)
  | [], _, h => absurd h (Nat.not_lt_zero _)
  | p :: r, 0, _ => by simp [flatV]
  | p :: r, c + 1, h => by
    have := flatV_get r c (by simpa using h)
    rw [show (c + 1) * 3 = c * 3 + 1 + 1 + 1 by omega, show c * 3 + 1 + 1 + 1 + 1 = (c * 3 + 1) + 1 + 1 + 1 by omega, show c * 3 + 1 + 1 + 1 + 2 = (c * 3 + 2) + 1 + 1 + 1 by omega]
    simpa [flatV] using this

/-- the records behind the cells: the lists lie in the world -/
structure Rws (w : World) (L : List V3) (S : List S3) : Prop where
  len : L.length = S.length
  row : ∀ i, i < S.length → Ints w (L.getD i v30).1 (S.getD i s30).1
  num : ∀ i, i < S.length → (L.getD i v30).2 = (S.getD i s30).2
theorem Rws.ext {w w' : World} {L : List V3} {S : List S3} (h : Rws w L S) (hg : Ext w w') : Rws w' L S := ⟨h.len, fun i hi => (h.row i hi).ext hg, h.num⟩
theorem Rws.nil {w : World} : Rws w [] [] := ⟨rfl, fun i hi => absurd hi (Nat.not_lt_zero _), fun i hi => absurd hi (Nat.not_lt_zero _)⟩
theorem Rws.snoc {w : World} {L : List V3} {S : List S3} {u : Value} {l : List Int} {x y : Int} (h : Rws w L S) (hu : Ints w u l) : Rws w (L ++ [(u, x, y)]) (S ++ [(l, x, y)]) := by
  have hl := h.len
  have g1 : ∀ i, i < L.length → (L ++ [(u, x, y)]).getD i v30 = L.getD i v30 := fun i hi => by simp only [List.getD]; rw [List.getElem?_append_left hi]
  have g2 : ∀ i, i < S.length → (S ++ [(l, x, y)]).getD i s30 = S.getD i s30 := fun i hi => by simp only [List.getD]; rw [List.getElem?_append_left hi]
  have e1 : (L ++ [(u, x, y)]).getD L.length v30 = (u, x, y) := by simp [List.getD]
  have e2 : (S ++ [(l, x, y)]).getD S.length s30 = (l, x, y) := by simp [List.getD]
  refine ⟨by simp [hl], fun i hi => ?_, fun i hi => ?_⟩
  · rw [List.length_append, List.length_singleton] at hi
    by_cases e : i = S.length
    · subst e; rw [e2, ← hl, e1]; exact hu
    · rw [g1 i (by omega), g2 i (by omega)]; exact h.row i (by omega)
  · rw [List.length_append, List.length_singleton] at hi
    by_cases e : i = S.length
    · subst e; rw [e2, ← hl, e1]
    · rw [g1 i (by omega), g2 i (by omega)]; exact h.num i (by omega)
/-- A slice of such records. -/
structure Sps (w : World) (v : Value) (L : List V3) (S : List S3) : Prop where
  top : Sl 3 w v S.length (flatV L)
  rws : Rws w L S
section
variable {w w' : World} {v : Value} {L : List V3} {S : List S3} {K : Value → Prop}
theorem Sps.ext (h : Sps w v L S) (hg : Ext w w') : Sps w' v L S := ⟨Sl.ext h.top hg, h.rws.ext hg⟩
theorem Sps.le (h : Sps w v L S) : S.length ≤ 9223372036854775807 := Sl.le h.top
theorem Sps.ln (h : Sps w v L S) (hk : K (.int .i64 (S.length : Int))) : Ln v K := Sl.ln h.top hk
theorem Sps.ix {c : Nat} (h : Sps w v L S) (hc : c < S.length) (hk : K (.pointer (some (ea v (c * 3))))) : Ix 3 v (.int .i64 (c : Int)) K := Sl.ix h.top hc hk
theorem Sps.get (h : Sps w v L S) {c : Nat} (hc : c < S.length) : ∃ u, (L.getD c v30) = (u, (S.getD c s30).2.1, (S.getD c s30).2.2) ∧ Ints w u (S.getD c s30).1 ∧ u.cells = #[u] ∧ u.oneCell' = true := by
  have h1 := h.rws.row c hc
  have h2 := h.rws.num c hc
  exact ⟨(L.getD c v30).1, Prod.ext rfl h2, h1, (Sl.cells h1).1, (Sl.cells h1).2⟩
theorem Sps.ldN {c : Nat} {u : Value} {x y : Int} (h : Sps w v L S) (hc : c < S.length) (e : L.getD c v30 = (u, x, y)) (hk : K (.agg #[u, .int .i64 x, .int .i64 y])) : LdN 3 w (ea v (c * 3)) K := by
  have hl := h.rws.len
  obtain ⟨h1, h2, h3⟩ := flatV_get L c (by omega)
  rw [e] at h1 h2 h3
  simp only [LdN]
  refine ⟨[u, i64v x, i64v y], rfl, fun i z hz => ?_, hk⟩
  match i, hz with
  | 0, hz => simp at hz; subst hz; exact Sl.cell h.top h1
  | 1, hz =>
    simp at hz; subst hz
    rcases ea_block h.top (c * 3) 1 with e | e
    · rw [e]; exact Sl.cell h.top h2
    · omega
  | 2, hz =>
    simp at hz; subst hz
    rcases ea_block h.top (c * 3) 2 with e | e
    · rw [e]; exact Sl.cell h.top h3
    · omega
theorem Sps.ld0 {c : Nat} {u : Value} {x y : Int} (h : Sps w v L S) (hc : c < S.length) (e : L.getD c v30 = (u, x, y)) (hk : K u) : Ld w ((ea v (c * 3)).add 0) K := by
  have hl := h.rws.len
  have h1 := (flatV_get L c (by omega)).1
  rw [e] at h1
  rcases ea_block h.top (c * 3) 0 with e | e
  · rw [e]; simp only [Ld]; exact ⟨_, Sl.cell h.top h1, hk⟩
  · omega
theorem Sps.ld1 {c : Nat} {u : Value} {x y : Int} (h : Sps w v L S) (hc : c < S.length) (e : L.getD c v30 = (u, x, y)) (hk : K (.int .i64 x)) : Ld w ((ea v (c * 3)).add 1) K := by
  have hl := h.rws.len
  have h1 := (flatV_get L c (by omega)).2.1
  rw [e] at h1
  rcases ea_block h.top (c * 3) 1 with e | e
  · rw [e]; simp only [Ld]; exact ⟨_, Sl.cell h.top h1, hk⟩
  · omega
theorem Sps.ld2 {c : Nat} {u : Value} {x y : Int} (h : Sps w v L S) (hc : c < S.length) (e : L.getD c v30 = (u, x, y)) (hk : K (.int .i64 y)) : Ld w ((ea v (c * 3)).add 2) K := by
  have hl := h.rws.len
  have h1 := (flatV_get L c (by omega)).2.2
  rw [e] at h1
  rcases ea_block h.top (c * 3) 2 with e | e
  · rw [e]; simp only [Ld]; exact ⟨_, Sl.cell h.top h1, hk⟩
  · omega
end

section
variable {H : Type} {enc : TypeId × Value → H} {P : Program} {w : World} {base b0 : Nat} {spare : Nat → Bool} {held : Bool} {r : Reach} {v : Value} {d : DataW H} {ps : List MemPlace}
end
end Go.Eng
set_option linter.unusedVariables false
set_option linter.unusedSimpArgs false
namespace Go.Proofs.Ytebklnmafjbhcaa
open Go.Eng
set_option maxRecDepth 100000
set_option maxHeartbeats 4000000

theorem eStep : Elem Try.prog 42 (.agg #[.slice none 0 0, .int .i64 0, .int .i64 0]) 3 40 := by unfold Elem; kernel_rfl
/-- a run in the world: the allocation b at av, the steps S at sv; who was passed along lies below B -/
structure RnS (w0 w : World) (av sv : Value) (b : List Int) (L : List V3) (S : List S3) (B : Nat) : Prop where
  ex : Ext w0 w
  hB : w0.heap.size ≤ B
  ha : OB B w av b
  old : ∀ i k, i < S.length → (L.getD i v30).1.ownBlock = some k → k < B
  st : Go.Eng.Own w0.heap.size 42 3 w sv S.length (flatV L)
  len : L.length = S.length
  row : ∀ i, i < S.length → OI w (L.getD i v30).1 (S.getD i s30).1
  num : ∀ i, i < S.length → (L.getD i v30).2 = (S.getD i s30).2
section
variable {w0 w w' : World} {av sv : Value} {b : List Int} {L : List V3} {S : List S3} {B : Nat}
theorem RnS.ext (h : RnS w0 w av sv b L S B) (hx : Ext w w') : RnS w0 w' av sv b L S B :=
  ⟨h.ex.trans hx, h.hB, Own.ext h.ha hx, h.old, Own.ext h.st hx, h.len, fun i hi => Own.ext (h.row i hi) hx, h.num⟩
theorem RnS.give {g : Nat} {x : Int} {K : World → Prop} (h : RnS w0 w av sv b L S B) (hg : g < b.length) (hK : ∀ w', Gr (fun k => av.ownBlock = some k) w w' → RnS w0 w' av sv (b.set g x) L S B → K w') : St w (ea av g) (.int .i64 x) K :=
  OB.set h.ha hg fun w' hg h' => hK w' hg ⟨Own.keep h.ha h.ex h.hB hg, h.hB, h', h.old, Own.row h.st h.ha (by decide) hg, h.len, fun i hi => Own.gr (h.row i hi) hg fun k hk hS => by have := h.old i k hi hk; have := (Own.lt h.ha k hS).1; omega, h.num⟩
theorem RnS.new (h : RnS w0 w av sv b L S B) {av' : Value} {b' : List Int} (hx : Ext w w') (ha : OB w.heap.size w' av' b') : RnS w0 w' av' sv b' L S w.heap.size :=
  ⟨h.ex.trans hx, h.ex.size, ha, fun i k hi hk => (Own.lt (h.row i hi) k hk).2, Own.ext h.st hx, h.len, fun i hi => Own.ext (h.row i hi) hx, h.num⟩
theorem RnS.app {x u : Value} {l : List Int} {p q : Int} {K : Value → World → Prop} (h : RnS w0 w av sv b L S B) (Hx : Sl 3 w x 1 [u, .int .i64 p, .int .i64 q]) (hu : OI w u l) (hb : ∀ k, u.ownBlock = some k → k < B) (hl : S.length ≤ 1000)
    (hK : ∀ v' w', Gr (fun k => sv.ownBlock = some k) w w' → RnS w0 w' av v' b (L ++ [(u, p, q)]) (S ++ [(l, p, q)]) B → K v' w') : VE Try.prog (Builtin.append_ #[34, 34] 34 #[sv, x]) w K := by
  have hcell := (Sl.cells (Own.sl hu)).2
  have hll := h.len
  refine VE.app Try.underlying34 eStep rfl (by omega) h.st h.ex rfl Hx (by intro v hv; simp only [List.mem_cons, List.not_mem_nil, or_false] at hv; rcases hv with rfl | rfl | rfl; exact hcell; rfl; rfl) (by omega) (by omega) fun v' w' hx hg ho => hK v' w' hg ?_
  have g1 : ∀ i, i < L.length → (L ++ [(u, p, q)]).getD i v30 = L.getD i v30 := fun i hi => by simp only [List.getD]; rw [List.getElem?_append_left hi]
  have g2 : ∀ i, i < S.length → (S ++ [(l, p, q)]).getD i s30 = S.getD i s30 := fun i hi => by simp only [List.getD]; rw [List.getElem?_append_left hi]
  have e1 : (L ++ [(u, p, q)]).getD S.length v30 = (u, p, q) := by rw [← hll]; simp [List.getD]
  have e2 : (S ++ [(l, p, q)]).getD S.length s30 = (l, p, q) := by simp [List.getD]
  have hsl : (S ++ [(l, p, q)]).length = S.length + 1 := by simp
  refine ⟨hx, h.hB, Own.row h.ha h.st (by decide) hg, fun i k hi hk => ?_, ?_, by simp [hll], fun i hi => ?_, fun i hi => ?_⟩
  · rw [hsl] at hi
    by_cases e : i = S.length
    · subst e; rw [e1] at hk; exact hb k hk
    · rw [g1 i (by omega)] at hk; exact h.old i k (by omega) hk
  · rw [hsl, flatV_app]; exact ho
  · rw [hsl] at hi
    by_cases e : i = S.length
    · subst e; rw [e1, e2]; exact Own.row hu h.st (by decide) hg
    · rw [g1 i (by omega), g2 i (by omega)]; exact Own.row (h.row i (by omega)) h.st (by decide) hg
  · rw [hsl] at hi
    by_cases e : i = S.length
    · subst e; rw [e1, e2]
    · rw [g1 i (by omega), g2 i (by omega)]; exact h.num i (by omega)
theorem RnS.blk {x : Nat} {T : TypeId} {ys : List Value} (h : RnS w0 w av sv b L S B) (hk : Blk w x T ys) (h1 : 3 ≠ T) (h2 : 42 ≠ T) (hx : w0.heap.size ≤ x) (hg : Gr (fun j => j = x) w w') : RnS w0 w' av sv b L S B :=
  ⟨h.ex.new hg (fun i hi e => by omega), h.hB, Own.blk h.ha hk h1 hg, h.old, Own.blk h.st hk h2 hg, h.len, fun i hi => Own.blk (h.row i hi) hk h1 hg, h.num⟩
theorem RnS.sps (h : RnS w0 w av sv b L S B) : Sps w sv L S := ⟨Own.sl h.st, h.len, fun i hi => Own.sl (h.row i hi), h.num⟩
end

/-- an order of goods, each at most once -/
structure OrdOk (o : List Int) (m : Nat) : Prop where
  rng : ∀ t, t < o.length → 0 ≤ o.getD t 0 ∧ o.getD t 0 < m
  dis : ∀ s t, s < t → t < o.length → o.getD s 0 ≠ o.getD t 0
theorem ord_len {o : List Int} {m : Nat} (h : OrdOk o m) : o.length ≤ m := dis_le h.rng h.dis
def noneL (m : Nat) : List Int := List.replicate m (-1)
theorem noneL_len (m : Nat) : (noneL m).length = m := List.length_replicate
theorem noneL_get {m k : Nat} (h : k < m) : (noneL m).getD k 0 = -1 := by simp [noneL, List.getD, h]
theorem noneL_vld {rr : List (List Int)} (h : chk rr = 0) : vld rr (noneL (rr.getD 0 []).length) = 0 := by
  refine vld_ok h ?_
  rintro (h1 | ⟨k, hk, h2⟩)
  · exact h1 (noneL_len _)
  · rw [noneL_len] at hk
    rw [noneL_get hk] at h2
    have := (gd_of_chk h).n1
    omega
theorem noneL_run {rr : List (List Int)} {o : List Int} (h : chk rr = 0) (ho : OrdOk o (rr.getD 0 []).length) : RunI rr o (noneL (rr.getD 0 []).length) :=
  ⟨noneL_vld h, fun t ht => by rw [noneL_len]; exact ho.rng t ht, ho.dis, fun t ht => noneL_get (by have := ho.rng t ht; omega)⟩
open Classical in noncomputable def runE (rr : List (List Int)) (o : List Int) : Int := if chk rr = 0 then (if OrdOk o (rr.getD 0 []).length then 0 else 8) else chk rr
theorem runE_ok {rr : List (List Int)} {o : List Int} (h : chk rr = 0) (ho : OrdOk o (rr.getD 0 []).length) : runE rr o = 0 := by unfold runE; rw [if_pos h, if_pos ho]
theorem runE_bad {rr : List (List Int)} {o : List Int} (h : chk rr = 0) (ho : ¬ OrdOk o (rr.getD 0 []).length) : runE rr o = 8 := by unfold runE; rw [if_pos h, if_neg ho]
theorem runE_chk {rr : List (List Int)} {o : List Int} (h : ¬ chk rr = 0) : runE rr o = chk rr := by unfold runE; rw [if_neg h]
/-- the steps so far, and what is left to be done -/
structure RunP (rr : List (List Int)) (o a0 b : List Int) (S : List Stp) (c : Nat) : Prop where
  inv : RunI rr (o.drop c) b
  len : b.length = a0.length
  few : (S.length : Int) + edges rr b + 7 * (o.length - c : Nat) ≤ 36 + 7 * o.length
  go : ∀ S' z, RunS rr (o.drop c) b S' z → RunS rr o a0 (S ++ S') z
section
variable {rr : List (List Int)} {o a0 b : List Int} {S : List Stp} {c : Nat}
theorem RunP.start (hn6 : rr.length ≤ 6) (h : RunI rr o a0) : RunP rr o a0 a0 [] 0 :=
  ⟨h, rfl, by have := (edges_bd (a := a0) hn6).2; simp; omega, fun S' z h => h⟩
theorem drop_cons (h : c < o.length) : o.drop c = o.getD c 0 :: o.drop (c + 1) := by
  rw [show o.getD c 0 = o[c] by simp [List.getD, h], List.getElem_cons_drop]
theorem RunP.turn (hn : 1 ≤ rr.length) (h : RunP rr o a0 b S c) (hc : c < o.length) (hf : fre rr b < 0) : RunP rr o a0 (pas rr.length b (circ rr b)) (S ++ [(circ rr b, -1, -1)]) c := by
  have hC := fre_neg hn hf
  have he := edges_pas h.inv.vd hC
  have hw := h.few
  refine ⟨h.inv.turn hn hf, by rw [pas_len]; exact h.len, by rw [List.length_append]; simp only [List.length_singleton]; omega, fun S' z hr => ?_⟩
  rw [List.append_assoc]
  refine h.go _ z ?_
  rw [drop_cons hc] at hr ⊢
  exact .circ hf hr
theorem RunP.gave (h : RunP rr o a0 b S c) (hc : c < o.length) (hf : 0 ≤ fre rr b) : RunP rr o a0 (b.set (o.getD c 0).toNat (fre rr b)) (S ++ [([], fre rr b, o.getD c 0)]) (c + 1) ∧ (0 ≤ o.getD c 0 ∧ o.getD c 0 < b.length) := by
  have hi := h.inv
  have hw := h.few
  rw [drop_cons hc] at hi
  obtain ⟨h1, h2, h3⟩ := hi.gave hf
  have he := edges_give (x := fre rr b) h.inv.vd (g := (o.getD c 0).toNat) (by omega) h3
  have hn6 := (al_of_vld h.inv.vd).n6
  refine ⟨⟨h1, by rw [List.length_set]; exact h.len, by rw [List.length_append]; simp only [List.length_singleton]; omega, fun S' z hr => ?_⟩, h2⟩
  rw [List.append_assoc]
  refine h.go _ z ?_
  rw [drop_cons hc]
  exact .give hf hr
theorem RunP.done (h : RunP rr o a0 b S o.length) : RunS rr o a0 S b := by
  have := h.go [] b (by rw [List.drop_length]; exact .nil)
  rwa [List.append_nil] at this
theorem RunP.sml (hn6 : rr.length ≤ 6) (h : RunP rr o a0 b S c) (ho : o.length ≤ 10) : S.length ≤ 106 := by
  have h1 := h.few
  have h2 := (edges_bd (a := b) hn6).1
  omega
end
end Go.Proofs.Ytebklnmafjbhcaa
