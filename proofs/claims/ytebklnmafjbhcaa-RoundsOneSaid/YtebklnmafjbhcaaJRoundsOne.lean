/- The statement RoundsOne. -/
import Derived.Test.YtebklnmafjbhcaaJ6
import Derived.Test.YtebklnmafjbhcaaRows
set_option linter.unusedVariables false
set_option linter.unusedSimpArgs false
namespace Go.Eng
open Go.RowKit Go.ChangeShapes Go.WideShapes Go.ChangeAt Go.Deep

def bv (b : Bool) : Value := .bool b
/-- a slice of truth values -/
def Bls (w : World) (v : Value) (l : List Bool) : Prop := Sl 1 w v l.length (l.map bv)
section
variable {w w' : World} {v : Value} {l : List Bool} {K : Value → Prop}
theorem Bls.ext (h : Bls w v l) (hg : Ext w w') : Bls w' v l := Sl.ext h hg
theorem Bls.le (h : Bls w v l) : l.length ≤ 9223372036854775807 := Sl.le h
theorem Bls.ln (h : Bls w v l) (hk : K (.int .i64 (l.length : Int))) : Ln v K := Sl.ln h hk
theorem Bls.ix {c : Nat} (h : Bls w v l) (hc : c < l.length) (hk : K (.pointer (some (ea v c)))) : Ix 1 v (.int .i64 (c : Int)) K :=
  Sl.ix h hc (by rw [Nat.mul_one]; exact hk)
theorem Bls.ixI {j : Int} (h : Bls w v l) (hc : 0 ≤ j ∧ j < l.length) (hk : K (.pointer (some (ea v j.toNat)))) : Ix 1 v (.int .i64 j) K :=
  Sl.ixI h hc (by rw [Nat.mul_one]; exact hk)
theorem Bls.ld {c : Nat} (h : Bls w v l) (hc : c < l.length) (hk : K (.bool (l.getD c false))) : Ld w (ea v c) K :=
  Sl.ld h (x := .bool (l.getD c false)) (by simp [hc, bv]) hk
theorem Bls.ldv {c : Nat} {b : Bool} (h : Bls w v l) (hv : l.getD c false = b) (hc : c < l.length) (hk : K (.bool b)) : Ld w (ea v c) K :=
  Bls.ld h hc (by rw [hv]; exact hk)
end
theorem one_bools (l : List Bool) : ∀ u ∈ l.map bv, u.oneCell' = true := by
  intro u hu
  obtain ⟨x, _, rfl⟩ := List.mem_map.1 hu
  rfl
theorem T3.ixI {w : World} {v : Value} {l : List T3} {K : Value → Prop} {j : Int} (h : Trs w v l) (hc : 0 ≤ j ∧ j < l.length) (hk : K (.pointer (some (ea v (j.toNat * 3))))) : Ix 3 v (.int .i64 j) K := Sl.ixI h hc hk

section
variable {H : Type} {enc : TypeId × Value → H} {P : Program} {w : World} {base b0 : Nat} {spare : Nat → Bool} {held : Bool} {r : Reach} {v : Value} {d : DataW H} {ps : List MemPlace}

theorem read_bools {t e fuel : Nat} {cs : List Value} {x : DataW H × List MemPlace} (ht : P.underlying t = some (.slice e)) (he : P.underlying e = some .bool) (hs : P.cellsOf e = 1) (h : DataW.trod enc P w base spare held fuel t cs = some x) :
    ∃ v l, cs = [v] ∧ Bls w v l := by
  obtain ⟨v, n, xs, rfl, hsl, hel⟩ := read_sl ht hs h
  have each : ∀ i, i < n → ∃ z : Bool, xs[i]? = some (bv z) := fun i hi => by
    obtain ⟨fuel', y, hy⟩ := hel i hi
    obtain ⟨z, hz⟩ := read_bool he hy
    exact ⟨z, take_one hz⟩
  obtain ⟨l, hl, hp⟩ := choose_list each
  have hxl : xs.length = n := by obtain ⟨_, _, _, _, _, h3, _⟩ := id hsl; omega
  have exs : xs = l.map bv := by
    apply List.ext_getElem?
    intro i
    by_cases hi : i < n
    · have h1 := hp i hi
      rw [h1]
      simp [List.getElem?_eq_getElem (show i < l.length by omega), List.getD]
    · rw [List.getElem?_eq_none (by omega), List.getElem?_eq_none (by simp; omega)]
  refine ⟨v, l, rfl, ?_⟩
  unfold Bls; rw [hl, ← exs]; exact hsl
theorem open_Z {t e : TypeId} (ht : P.underlying t = some (.slice e)) (he : P.underlying e = some .bool) (hs : P.cellsOf e = 1) (hv : Value.okWide P w r b0 t v) (hd : DataW.Trod enc P w base spare held t v d ps) : ∃ l, Bls w v l := by
  obtain ⟨a, n, c, rfl⟩ := okWide_slice ht hv
  obtain ⟨fuel, h⟩ := hd
  obtain ⟨m, l, hm, h1⟩ := read_bools ht he hs h
  simp [Value.cells] at hm; subst hm
  exact ⟨l, h1⟩

theorem read_trs {t e fuel : Nat} {f0 f1 f2 : Field} {cs : List Value} {x : DataW H × List MemPlace} (ht : P.underlying t = some (.slice e)) (he : P.underlying e = some (.struct #[f0, f1, f2])) (ho : f0.offset = 0 ∧ f1.offset = 1 ∧ f2.offset = 2) (hc : P.cellsOf e = 3)
    (hs : P.cellsOf f0.type = 1 ∧ P.cellsOf f1.type = 1 ∧ P.cellsOf f2.type = 1) (h0 : P.underlying f0.type = some (.int .i64)) (h1 : P.underlying f1.type = some (.int .i64)) (h2 : P.underlying f2.type = some (.int .i64))
    (h : DataW.trod enc P w base spare held fuel t cs = some x) : ∃ v l, cs = [v] ∧ Trs w v l ∧ ∀ i, I64 (l.getD i (0, 0, 0)).1 ∧ I64 (l.getD i (0, 0, 0)).2.1 ∧ I64 (l.getD i (0, 0, 0)).2.2 := by
  obtain ⟨v, n, xs, rfl, hsl, hel⟩ := read_sl ht hc h
  have each : ∀ i, i < n → ∃ z : T3, ((xs.drop (i * 3)).take 3 = [.int .i64 z.1, .int .i64 z.2.1, .int .i64 z.2.2]) ∧ I64 z.1 ∧ I64 z.2.1 ∧ I64 z.2.2 := fun i hi => by
    obtain ⟨fuel', y, hy⟩ := hel i hi
    obtain ⟨a, b, c, e, ra, rb, rc⟩ := read_three he ho hc hs h0 h1 h2 hy
    exact ⟨(a, b, c), e, ra, rb, rc⟩
  obtain ⟨l, hl, hp⟩ := choose_list each
  have hxl : xs.length = n * 3 := by obtain ⟨_, _, _, _, _, h3, _⟩ := id hsl; omega
  have hd : (default : T3) = (0, 0, 0) := rfl
  have exs : xs = flat3 l := by
    apply List.ext_getElem?
    intro k
    by_cases hk : k < n * 3
    · have hi : k / 3 < n := by omega
      have e := (hp (k / 3) hi).1
      rw [hd] at e
      have e5 : k / 3 * 3 + k % 3 = k := by omega
      have e2 := congrArg (fun l => l[k % 3]?) e
      have h3 : k % 3 < 3 := by omega
      simp only [List.getElem?_take, if_pos h3, List.getElem?_drop, e5] at e2
      rw [e2]
      obtain ⟨g0, g1, g2⟩ := flat3_get l (k / 3) (by omega)
      rcases (by omega : k % 3 = 0 ∨ k % 3 = 1 ∨ k % 3 = 2) with h | h | h
      · rw [h] at e5 ⊢; rw [show (flat3 l)[k]? = (flat3 l)[k / 3 * 3]? by rw [show k / 3 * 3 = k by omega], g0]; rfl
      · rw [h] at e5 ⊢; rw [show (flat3 l)[k]? = (flat3 l)[k / 3 * 3 + 1]? by rw [e5], g1]; rfl
      · rw [h] at e5 ⊢; rw [show (flat3 l)[k]? = (flat3 l)[k / 3 * 3 + 2]? by rw [e5], g2]; rfl
    · rw [List.getElem?_eq_none (by omega), List.getElem?_eq_none (by rw [flat3_len]; omega)]
  refine ⟨v, l, rfl, ?_, fun i => ?_⟩
  · unfold Trs; rw [hl, ← exs]; exact hsl
  · by_cases hi : i < n
    · exact (hp i hi).2
    · simp [List.getD, List.getElem?_eq_none (show l.length ≤ i by omega), I64]

/-- A struct of an int and a slice of structs of three ints. -/
theorem open_N {t s e : TypeId} {f0 f1 g0 g1 g2 : Field} (ht : P.underlying t = some (.struct #[f0, f1])) (ho : f0.offset = 0 ∧ f1.offset = 1) (hc : P.cellsOf t = 2) (hcf : P.cellsOf f0.type = 1 ∧ P.cellsOf f1.type = 1)
    (h0 : P.underlying f0.type = some (.int .i64)) (h1 : P.underlying f1.type = some (.slice e)) (he : P.underlying e = some (.struct #[g0, g1, g2])) (hg : g0.offset = 0 ∧ g1.offset = 1 ∧ g2.offset = 2) (hce : P.cellsOf e = 3)
    (hs : P.cellsOf g0.type = 1 ∧ P.cellsOf g1.type = 1 ∧ P.cellsOf g2.type = 1) (k0 : P.underlying g0.type = some (.int .i64)) (k1 : P.underlying g1.type = some (.int .i64)) (k2 : P.underlying g2.type = some (.int .i64))
    (hv : Value.okWide P w r b0 t v) (hd : DataW.Trod enc P w base spare held t v d ps) : ∃ n sv l, v = .agg #[.int .i64 n, sv] ∧ I64 n ∧ Trs w sv l ∧ ∀ i, I64 (l.getD i (0, 0, 0)).1 ∧ I64 (l.getD i (0, 0, 0)).2.1 ∧ I64 (l.getD i (0, 0, 0)).2.2 := by
  obtain ⟨cs, rfl, hcs⟩ := okWide_struct ht hv
  obtain ⟨fuel, h⟩ := hd
  obtain ⟨y0, y1, n, _, hl, e0, e1⟩ := trod_struct2 ht h
  rw [ho.1, hcf.1] at e0
  rw [ho.2, hcf.2] at e1
  obtain ⟨n, hn, rn⟩ := read_i64 h0 e0
  obtain ⟨sv, l, hsv, hT, rT⟩ := read_trs h1 he hg hce hs k0 k1 k2 e1
  have hsz : cs.size = 2 := by omega
  have : cs = #[.int .i64 n, sv] := by
    apply Array.toList_inj.1
    simp only [Value.cells] at hn hsv
    have hl2 : cs.toList.length = 2 := by simpa using hsz
    match hcl : cs.toList, hl2 with
    | [a, b], _ =>
      rw [hcl] at hn hsv
      simp at hn hsv
      simp [hn, hsv]
  subst this
  exact ⟨n, sv, l, rfl, rn, hT, rT⟩
end
end Go.Eng
set_option linter.unusedVariables false
set_option linter.unusedSimpArgs false
namespace Go.Proofs.Ytebklnmafjbhcaa
open Go.Eng
set_option maxRecDepth 100000
set_option maxHeartbeats 4000000

theorem eBool : Elem Try.prog 4 (.bool false) 1 1 := by unfold Elem; kernel_rfl
abbrev OZ (B : Nat) (w : World) (v : Value) (l : List Bool) : Prop := Go.Eng.Own B 4 1 w v l.length (l.map bv)
theorem OZ.set {B k : Nat} {x : Bool} {w : World} {v : Value} {l : List Bool} {K : World → Prop} (h : OZ B w v l) (hk : k < l.length) (hK : ∀ w', Gr (fun j => v.ownBlock = some j) w w' → OZ B w' v (l.set k x) → K w') : St w (ea v k) (.bool x) K :=
  Own.set h (by rw [List.length_map]; exact hk) rfl fun w' hg h' => hK w' hg (by
    show Go.Eng.Own B _ 1 w' v (l.set k x).length ((l.set k x).map bv)
    rw [List.length_set, List.map_set]; exact h')
theorem OZ.made {B n : Nat} {w : World} {v : Value} (h : Go.Eng.Own B 4 1 w v n (List.replicate n (.bool false))) : OZ B w v (List.replicate n false) := by
  show Go.Eng.Own B _ 1 w v (List.replicate n false).length ((List.replicate n false).map bv)
  rw [List.length_replicate, List.map_replicate]; exact h
/-- which goods are among the first c of the order -/
noncomputable def hasL (o : List Int) (m c : Nat) : List Bool := mk m fun k => tf (∃ t, t < c ∧ o.getD t 0 = (k : Int))
theorem hasL_len (o : List Int) (m c : Nat) : (hasL o m c).length = m := mk_len _ _
theorem hasL_zero (o : List Int) (m : Nat) : List.replicate m false = hasL o m 0 := by
  refine ext_getD false (by rw [hasL_len, List.length_replicate]) fun k hk => ?_
  rw [List.length_replicate] at hk
  unfold hasL
  rw [mk_get false hk, tf_f (by rintro ⟨t, ht, _⟩; omega)]
  simp only [List.getD, List.getElem?_replicate, if_pos hk]; rfl
theorem hasL_set {o : List Int} {m c : Nat} (h : 0 ≤ o.getD c 0 ∧ o.getD c 0 < m) : (hasL o m c).set (o.getD c 0).toNat true = hasL o m (c + 1) := by
  refine ext_getD false (by rw [List.length_set, hasL_len, hasL_len]) fun k hk => ?_
  rw [List.length_set, hasL_len] at hk
  rw [setB_get (by rw [hasL_len]; omega)]
  unfold hasL
  rw [mk_get false hk, mk_get false hk]
  by_cases e : (o.getD c 0).toNat = k
  · rw [if_pos e, tf_t ⟨c, by omega, by omega⟩]
  · rw [if_neg e]
    congr 1
    refine propext ⟨fun ⟨t, ht, h2⟩ => ⟨t, by omega, h2⟩, fun ⟨t, ht, h2⟩ => ⟨t, ?_, h2⟩⟩
    refine Classical.byContradiction fun hn => e ?_
    obtain rfl : t = c := by omega
    omega
theorem roundsone_pc {w : World} {gv ov : Value} {vs : List Value} {rr : List (List Int)} {o : List Int} (Hg : Mat w gv vs rr) (Ho : Ints w ov o) : PC Try.prog 5 [.agg #[gv], ov] w (.bool true) := by
  refine PC.mk tyOk Try.func5 rfl (by kernel_rfl) fun w1 E1 => ?_
  replace Hg := Hg.ext E1
  replace Ho := Ho.ext E1
  have EE := Ext.refl w1
  refine Bx.agg fun b2 w2 E2 hb2 Hb _ => ?_
  replace Hg := Hg.ext E2
  replace Ho := Ho.ext E2
  replace EE := EE.ext E2
  have cf := fit19_pc Hg Ho
  have hol := Ho.le
  by_cases hf : ¬ great rr o ∧ chk rr = 0
  · rw [tf_t hf] at cf
    have hck := hf.2
    have hgd := gd_of_chk hck
    have hn1 := hgd.n1
    have hn6 := hgd.n6
    have hm10 := hgd.m10
    have hgl := Hg.top.le
    have h0l := (Hg.row 0 (by omega)).le
    obtain ⟨mm, hmm⟩ : ∃ mm, (rr.getD 0 []).length = mm := ⟨_, rfl⟩
    repeat' ((conv => whnf); first | (refine Dr.quiet tyOk (by kernel_rfl) ?_) | (refine VC.pure alive19_pc ?_) | (refine VC.pure cf ?_) | (refine Rng.mk (by omega) ?_) | (refine Split.pos (by omega) ?_) | (refine Split.neg (by omega) ?_) | (refine Split.mk (fun h => ?_) (fun h => ?_)) | (refine Need.mk (by omega) ?_) | (refine Ints.ln (by assumption) ?_) | (refine Mat.ln (by assumption) ?_) | (refine Ints.ln (Mat.row (by assumption) _ (by omega)) ?_) | (refine Ints.ix (by assumption) (by omega) ?_) | (refine Mat.ix (by assumption) (by omega) ?_) | (refine Ints.ix (Mat.row (by assumption) _ (by omega)) (by omega) ?_) | (refine Ints.ix (c := 0) (by assumption) (by omega) ?_) | (refine Mat.ix (c := 0) (by assumption) (by omega) ?_) | (refine Ints.ix (c := 0) (Mat.row (by assumption) _ (by omega)) (by omega) ?_) | (refine Ints.ixI (by assumption) (by omega) ?_) | (refine Mat.ixI (by assumption) (by omega) ?_) | (refine Ints.ixI (Mat.row (by assumption) _ (by omega)) (by omega) ?_) | (refine Ints.ld (by assumption) (by omega) ?_) | (refine Mat.ld (by assumption) (by omega) ?_) | (refine Ints.ld (Mat.row (by assumption) _ (by omega)) (by omega) ?_) | (refine At.ld (by assumption) rfl ?_) | (refine At.ldN (by assumption) rfl ?_) | (refine Prs.ln (by assumption) ?_) | (refine Trs.ln (by assumption) ?_) | (refine Prs.ix (by assumption) (by omega) ?_) | (refine Trs.ix (by assumption) (by omega) ?_) | (refine Prs.ldN (by assumption) (by omega) ?_) | (refine Trs.ldN (by assumption) (by omega) ?_) | (refine At.ldN (Blk.at (by assumption)) rfl ?_) | (refine At.ld (Blk.at (by assumption)) rfl ?_) | (refine IxA.mk (by omega) ?_) | (refine Sl.ln (Own.sl (by assumption)) ?_) | (refine Ints.ix (Own.sl (by assumption)) (by omega) ?_) | (refine Ints.ixI (Own.sl (by assumption)) (by omega) ?_) | (refine Ints.ld (Own.sl (by assumption)) (by omega) ?_))
    conv => whnf
    refine VC.rc (run_rc Hg Ho) ?_
    rintro _ w3 E3 hr
    replace Hg := Hg.ext E3
    replace Ho := Ho.ext E3
    replace EE := EE.ext E3
    replace Hb := Hb.ext E3
    obtain ⟨av, sv, b, L, S, rfl, HA, HS, hr1, hr2⟩ := runA_read hr
    by_cases hE : runE rr o = 0
    · obtain ⟨_, hord⟩ := runE_ord hE
      have hI := noneL_run hck hord
      obtain ⟨hvb, ho1, _, hbl, hbk, _⟩ := run_all hn1 (hr1 hE) hI
      rw [noneL_len, hmm] at hbl
      have hone := ho1 (none_one hck)
      have cv := rvalid_pc Hg HA
      have co := ordered_pc (mm := b.length) Ho
      rw [hvb] at cv
      rw [hbl, tf_t (by rw [← hmm]; exact hord)] at co
      rw [hE]
      repeat' ((conv => whnf); first | (refine Dr.quiet tyOk (by kernel_rfl) ?_) | (refine VC.pure cv ?_) | (refine VCQ.pure cv ?_) | (refine VC.pure (by rw [hbl]; exact co) ?_) | (refine VCQ.pure (by rw [hbl]; exact co) ?_) | (refine Rng.mk (by omega) ?_) | (refine Split.pos (by omega) ?_) | (refine Split.neg (by omega) ?_) | (refine Split.mk (fun h => ?_) (fun h => ?_)) | (refine Need.mk (by omega) ?_) | (refine Ints.ln (by assumption) ?_) | (refine Mat.ln (by assumption) ?_) | (refine Ints.ln (Mat.row (by assumption) _ (by omega)) ?_) | (refine Ints.ix (by assumption) (by omega) ?_) | (refine Mat.ix (by assumption) (by omega) ?_) | (refine Ints.ix (Mat.row (by assumption) _ (by omega)) (by omega) ?_) | (refine Ints.ix (c := 0) (by assumption) (by omega) ?_) | (refine Mat.ix (c := 0) (by assumption) (by omega) ?_) | (refine Ints.ix (c := 0) (Mat.row (by assumption) _ (by omega)) (by omega) ?_) | (refine Ints.ixI (by assumption) (by omega) ?_) | (refine Mat.ixI (by assumption) (by omega) ?_) | (refine Ints.ixI (Mat.row (by assumption) _ (by omega)) (by omega) ?_) | (refine Ints.ld (by assumption) (by omega) ?_) | (refine Mat.ld (by assumption) (by omega) ?_) | (refine Ints.ld (Mat.row (by assumption) _ (by omega)) (by omega) ?_) | (refine At.ld (by assumption) rfl ?_) | (refine At.ldN (by assumption) rfl ?_) | (refine Prs.ln (by assumption) ?_) | (refine Trs.ln (by assumption) ?_) | (refine Prs.ix (by assumption) (by omega) ?_) | (refine Trs.ix (by assumption) (by omega) ?_) | (refine Prs.ldN (by assumption) (by omega) ?_) | (refine Trs.ldN (by assumption) (by omega) ?_) | (refine At.ldN (Blk.at (by assumption)) rfl ?_) | (refine At.ld (Blk.at (by assumption)) rfl ?_) | (refine IxA.mk (by omega) ?_) | (refine Sl.ln (Own.sl (by assumption)) ?_) | (refine Ints.ix (Own.sl (by assumption)) (by omega) ?_) | (refine Ints.ixI (Own.sl (by assumption)) (by omega) ?_) | (refine Ints.ld (Own.sl (by assumption)) (by omega) ?_))
      conv => whnf
      refine VC.rc (none_rc Hg HA) ?_
      rintro _ w4 E4 ⟨mv, xv, rfl, HM, HX⟩
      replace Hg := Hg.ext E4
      replace Ho := Ho.ext E4
      replace EE := EE.ext E4
      replace Hb := Hb.ext E4
      replace HA := HA.ext E4
      have hx0 : (oneX rr b).length = 0 := by rw [hone]; rfl
      have HXP : Prs w4 xv (oneX rr b) := Own.sl HX
      rw [hvb]
      repeat' ((conv => whnf); first | (refine Dr.quiet tyOk (by kernel_rfl) ?_) | (refine Rng.mk (by omega) ?_) | (refine Split.pos (by omega) ?_) | (refine Split.neg (by omega) ?_) | (refine Split.mk (fun h => ?_) (fun h => ?_)) | (refine Need.mk (by omega) ?_) | (refine Ints.ln (by assumption) ?_) | (refine Mat.ln (by assumption) ?_) | (refine Ints.ln (Mat.row (by assumption) _ (by omega)) ?_) | (refine Ints.ix (by assumption) (by omega) ?_) | (refine Mat.ix (by assumption) (by omega) ?_) | (refine Ints.ix (Mat.row (by assumption) _ (by omega)) (by omega) ?_) | (refine Ints.ix (c := 0) (by assumption) (by omega) ?_) | (refine Mat.ix (c := 0) (by assumption) (by omega) ?_) | (refine Ints.ix (c := 0) (Mat.row (by assumption) _ (by omega)) (by omega) ?_) | (refine Ints.ixI (by assumption) (by omega) ?_) | (refine Mat.ixI (by assumption) (by omega) ?_) | (refine Ints.ixI (Mat.row (by assumption) _ (by omega)) (by omega) ?_) | (refine Ints.ld (by assumption) (by omega) ?_) | (refine Mat.ld (by assumption) (by omega) ?_) | (refine Ints.ld (Mat.row (by assumption) _ (by omega)) (by omega) ?_) | (refine At.ld (by assumption) rfl ?_) | (refine At.ldN (by assumption) rfl ?_) | (refine Prs.ln (by assumption) ?_) | (refine Trs.ln (by assumption) ?_) | (refine Prs.ix (by assumption) (by omega) ?_) | (refine Trs.ix (by assumption) (by omega) ?_) | (refine Prs.ldN (by assumption) (by omega) ?_) | (refine Trs.ldN (by assumption) (by omega) ?_) | (refine At.ldN (Blk.at (by assumption)) rfl ?_) | (refine At.ld (Blk.at (by assumption)) rfl ?_) | (refine IxA.mk (by omega) ?_) | (refine Sl.ln (Own.sl (by assumption)) ?_) | (refine Ints.ix (Own.sl (by assumption)) (by omega) ?_) | (refine Ints.ixI (Own.sl (by assumption)) (by omega) ?_) | (refine Ints.ld (Own.sl (by assumption)) (by omega) ?_))
      rw [hbl]
      have Hg__1 := Hg
      have Ho__1 := Ho
      have EE__1 := EE
      have Hb__1 := Hb
      have HA__1 := HA
      have HXP__1 := HXP
      conv => whnf
      refine VE.made (n := mm) Try.underlying51 eBool rfl (by omega) (by omega) fun zv w5 E5 HZ hb_zv => ?_
      replace Hg := Hg.ext E5
      replace Ho := Ho.ext E5
      replace EE := EE.ext E5
      replace Hb := Hb.ext E5
      replace HA := HA.ext E5
      replace HXP := HXP.ext E5
      replace HZ := OZ.made (HZ _ (Nat.le_refl _))
      have EL1 := E5
      rw [hasL_zero o] at HZ
      repeat' ((conv => whnf); first | (refine Dr.quiet tyOk (by kernel_rfl) ?_) | (refine Rng.mk (by omega) ?_) | (refine Split.pos (by omega) ?_) | (refine Split.neg (by omega) ?_) | (refine Split.mk (fun h => ?_) (fun h => ?_)) | (refine Need.mk (by omega) ?_) | (refine Ints.ln (by assumption) ?_) | (refine Mat.ln (by assumption) ?_) | (refine Ints.ln (Mat.row (by assumption) _ (by omega)) ?_) | (refine Ints.ix (by assumption) (by omega) ?_) | (refine Mat.ix (by assumption) (by omega) ?_) | (refine Ints.ix (Mat.row (by assumption) _ (by omega)) (by omega) ?_) | (refine Ints.ix (c := 0) (by assumption) (by omega) ?_) | (refine Mat.ix (c := 0) (by assumption) (by omega) ?_) | (refine Ints.ix (c := 0) (Mat.row (by assumption) _ (by omega)) (by omega) ?_) | (refine Ints.ixI (by assumption) (by omega) ?_) | (refine Mat.ixI (by assumption) (by omega) ?_) | (refine Ints.ixI (Mat.row (by assumption) _ (by omega)) (by omega) ?_) | (refine Ints.ld (by assumption) (by omega) ?_) | (refine Mat.ld (by assumption) (by omega) ?_) | (refine Ints.ld (Mat.row (by assumption) _ (by omega)) (by omega) ?_) | (refine At.ld (by assumption) rfl ?_) | (refine At.ldN (by assumption) rfl ?_) | (refine Prs.ln (by assumption) ?_) | (refine Trs.ln (by assumption) ?_) | (refine Prs.ix (by assumption) (by omega) ?_) | (refine Trs.ix (by assumption) (by omega) ?_) | (refine Prs.ldN (by assumption) (by omega) ?_) | (refine Trs.ldN (by assumption) (by omega) ?_) | (refine At.ldN (Blk.at (by assumption)) rfl ?_) | (refine At.ld (Blk.at (by assumption)) rfl ?_) | (refine IxA.mk (by omega) ?_) | (refine Sl.ln (Own.sl (by assumption)) ?_) | (refine Ints.ix (Own.sl (by assumption)) (by omega) ?_) | (refine Ints.ixI (Own.sl (by assumption)) (by omega) ?_) | (refine Ints.ld (Own.sl (by assumption)) (by omega) ?_))
      refine Lp.mk tyOk [false, false, false, false, false, false, false, false, false, false, false, false, false, true, false, false, false, false, false, false, false, false, false, false, false, false, false, false, false, false, false, false, false, false, false, false, false, false, false, false, false, false, false, false, false, false, false, false, false, false, false, false, false, false, false, false, false, false, false, false, false, false, false, false, false, false, false, false, false, false, true, true, true, true, true, true, true, true, true, true, true, true] (fun m fr wr => getK fr 13 fun i => ∃ c : Nat, c ≤ o.length ∧ m = o.length - c ∧ i = .int .i64 (c : Int) ∧ (OZ w4.heap.size wr zv (hasL o mm c)) ∧ Ext w4 wr) (o.length) ?_ ?_
      · exact ⟨0, Nat.zero_le _, rfl, rfl, HZ, EL1⟩
      · intro m w6 u13 u70 u71 u72 u73 u74 u75 u76 u77 u78 u79 u80 u81 hR
        obtain ⟨c, hc, rfl, rfl, HZ, EL1⟩ := hR
        replace Hg := Hg__1.ext EL1
        replace Ho := Ho__1.ext EL1
        replace EE := EE__1.ext EL1
        replace Hb := Hb__1.ext EL1
        replace HA := HA__1.ext EL1
        replace HXP := HXP__1.ext EL1
        have hzl := hasL_len o mm c
        by_cases hcl : c < o.length
        · obtain ⟨x, hx⟩ : ∃ x, o.getD c 0 = x := ⟨_, rfl⟩
          have hrg := hord.rng c hcl
          have hst := hasL_set (o := o) (m := mm) (c := c) (by rw [← hmm]; exact hrg)
          rw [hx] at hrg hst
          rw [hmm] at hrg
          repeat' ((conv => whnf); first | (refine Dr.quiet tyOk (by kernel_rfl) ?_) | (refine Ints.ldq Ho hx hcl ?_) | (refine Bls.ixI (Own.sl HZ) (by omega) ?_) | (refine Rng.mk (by omega) ?_) | (refine Split.pos (by omega) ?_) | (refine Split.neg (by omega) ?_) | (refine Split.mk (fun h => ?_) (fun h => ?_)) | (refine Need.mk (by omega) ?_) | (refine Ints.ln (by assumption) ?_) | (refine Mat.ln (by assumption) ?_) | (refine Ints.ln (Mat.row (by assumption) _ (by omega)) ?_) | (refine Ints.ix (by assumption) (by omega) ?_) | (refine Mat.ix (by assumption) (by omega) ?_) | (refine Ints.ix (Mat.row (by assumption) _ (by omega)) (by omega) ?_) | (refine Ints.ix (c := 0) (by assumption) (by omega) ?_) | (refine Mat.ix (c := 0) (by assumption) (by omega) ?_) | (refine Ints.ix (c := 0) (Mat.row (by assumption) _ (by omega)) (by omega) ?_) | (refine Ints.ixI (by assumption) (by omega) ?_) | (refine Mat.ixI (by assumption) (by omega) ?_) | (refine Ints.ixI (Mat.row (by assumption) _ (by omega)) (by omega) ?_) | (refine Ints.ld (by assumption) (by omega) ?_) | (refine Mat.ld (by assumption) (by omega) ?_) | (refine Ints.ld (Mat.row (by assumption) _ (by omega)) (by omega) ?_) | (refine At.ld (by assumption) rfl ?_) | (refine At.ldN (by assumption) rfl ?_) | (refine Prs.ln (by assumption) ?_) | (refine Trs.ln (by assumption) ?_) | (refine Prs.ix (by assumption) (by omega) ?_) | (refine Trs.ix (by assumption) (by omega) ?_) | (refine Prs.ldN (by assumption) (by omega) ?_) | (refine Trs.ldN (by assumption) (by omega) ?_) | (refine At.ldN (Blk.at (by assumption)) rfl ?_) | (refine At.ld (Blk.at (by assumption)) rfl ?_) | (refine IxA.mk (by omega) ?_) | (refine Sl.ln (Own.sl (by assumption)) ?_) | (refine Ints.ix (Own.sl (by assumption)) (by omega) ?_) | (refine Ints.ixI (Own.sl (by assumption)) (by omega) ?_) | (refine Ints.ld (Own.sl (by assumption)) (by omega) ?_))
          refine OZ.set HZ (by omega) fun w7 G7 HZ' => ?_
          have E7 : Ext w4 w7 := Own.keep HZ EL1 (Nat.le_refl _) G7
          replace HZ := HZ'
          replace Hg := Hg__1.ext E7
          replace Ho := Ho__1.ext E7
          replace EE := EE__1.ext E7
          replace Hb := Hb__1.ext E7
          replace HA := HA__1.ext E7
          replace HXP := HXP__1.ext E7
          replace EL1 := E7
          rw [hst] at HZ
          repeat' ((conv => whnf); first | (refine Dr.quiet tyOk (by kernel_rfl) ?_) | (refine Rng.mk (by omega) ?_) | (refine Split.pos (by omega) ?_) | (refine Split.neg (by omega) ?_) | (refine Split.mk (fun h => ?_) (fun h => ?_)) | (refine Need.mk (by omega) ?_) | (refine Ints.ln (by assumption) ?_) | (refine Mat.ln (by assumption) ?_) | (refine Ints.ln (Mat.row (by assumption) _ (by omega)) ?_) | (refine Ints.ix (by assumption) (by omega) ?_) | (refine Mat.ix (by assumption) (by omega) ?_) | (refine Ints.ix (Mat.row (by assumption) _ (by omega)) (by omega) ?_) | (refine Ints.ix (c := 0) (by assumption) (by omega) ?_) | (refine Mat.ix (c := 0) (by assumption) (by omega) ?_) | (refine Ints.ix (c := 0) (Mat.row (by assumption) _ (by omega)) (by omega) ?_) | (refine Ints.ixI (by assumption) (by omega) ?_) | (refine Mat.ixI (by assumption) (by omega) ?_) | (refine Ints.ixI (Mat.row (by assumption) _ (by omega)) (by omega) ?_) | (refine Ints.ld (by assumption) (by omega) ?_) | (refine Mat.ld (by assumption) (by omega) ?_) | (refine Ints.ld (Mat.row (by assumption) _ (by omega)) (by omega) ?_) | (refine At.ld (by assumption) rfl ?_) | (refine At.ldN (by assumption) rfl ?_) | (refine Prs.ln (by assumption) ?_) | (refine Trs.ln (by assumption) ?_) | (refine Prs.ix (by assumption) (by omega) ?_) | (refine Trs.ix (by assumption) (by omega) ?_) | (refine Prs.ldN (by assumption) (by omega) ?_) | (refine Trs.ldN (by assumption) (by omega) ?_) | (refine At.ldN (Blk.at (by assumption)) rfl ?_) | (refine At.ld (Blk.at (by assumption)) rfl ?_) | (refine IxA.mk (by omega) ?_) | (refine Sl.ln (Own.sl (by assumption)) ?_) | (refine Ints.ix (Own.sl (by assumption)) (by omega) ?_) | (refine Ints.ixI (Own.sl (by assumption)) (by omega) ?_) | (refine Ints.ld (Own.sl (by assumption)) (by omega) ?_))
          refine ⟨_, (by omega : o.length - (c + 1) < o.length - c), rfl, c + 1, by omega, rfl, rfl, HZ, EL1⟩
        · obtain rfl : c = o.length := by omega
          repeat' ((conv => whnf); first | (refine Dr.quiet tyOk (by kernel_rfl) ?_) | (refine Rng.mk (by omega) ?_) | (refine Split.pos (by omega) ?_) | (refine Split.neg (by omega) ?_) | (refine Split.mk (fun h => ?_) (fun h => ?_)) | (refine Need.mk (by omega) ?_) | (refine Ints.ln (by assumption) ?_) | (refine Mat.ln (by assumption) ?_) | (refine Ints.ln (Mat.row (by assumption) _ (by omega)) ?_) | (refine Ints.ix (by assumption) (by omega) ?_) | (refine Mat.ix (by assumption) (by omega) ?_) | (refine Ints.ix (Mat.row (by assumption) _ (by omega)) (by omega) ?_) | (refine Ints.ix (c := 0) (by assumption) (by omega) ?_) | (refine Mat.ix (c := 0) (by assumption) (by omega) ?_) | (refine Ints.ix (c := 0) (Mat.row (by assumption) _ (by omega)) (by omega) ?_) | (refine Ints.ixI (by assumption) (by omega) ?_) | (refine Mat.ixI (by assumption) (by omega) ?_) | (refine Ints.ixI (Mat.row (by assumption) _ (by omega)) (by omega) ?_) | (refine Ints.ld (by assumption) (by omega) ?_) | (refine Mat.ld (by assumption) (by omega) ?_) | (refine Ints.ld (Mat.row (by assumption) _ (by omega)) (by omega) ?_) | (refine At.ld (by assumption) rfl ?_) | (refine At.ldN (by assumption) rfl ?_) | (refine Prs.ln (by assumption) ?_) | (refine Trs.ln (by assumption) ?_) | (refine Prs.ix (by assumption) (by omega) ?_) | (refine Trs.ix (by assumption) (by omega) ?_) | (refine Prs.ldN (by assumption) (by omega) ?_) | (refine Trs.ldN (by assumption) (by omega) ?_) | (refine At.ldN (Blk.at (by assumption)) rfl ?_) | (refine At.ld (Blk.at (by assumption)) rfl ?_) | (refine IxA.mk (by omega) ?_) | (refine Sl.ln (Own.sl (by assumption)) ?_) | (refine Ints.ix (Own.sl (by assumption)) (by omega) ?_) | (refine Ints.ixI (Own.sl (by assumption)) (by omega) ?_) | (refine Ints.ld (Own.sl (by assumption)) (by omega) ?_))
          refine Lp.mk tyOk [false, false, false, false, true, false, false, false, false, false, false, false, false, false, true, false, false, false, false, false, false, false, false, false, false, false, false, false, false, false, false, false, false, false, false, false, false, false, false, false, false, false, false, false, false, false, false, false, false, false, false, false, false, false, false, false, false, false, false, false, false, false, false, false, false, false, false, false, false, false, false, false, false, false, false, false, false, false, false, false, false, false, true, true, true, true, true, true, true, true, true, true, true, true, true, true, true, true] (fun m fr wr => getK fr 14 fun k => ∃ d : Nat, d ≤ mm ∧ m = mm - d ∧ k = .int .i64 (d : Int) ∧ wr = w6) (mm) ?_ ?_
          · exact ⟨0, Nat.zero_le _, rfl, rfl, rfl⟩
          · intro m w8 u4 u14 u82 u83 u84 u85 u86 u87 u88 u89 u90 u91 u92 u93 u94 u95 u96 u97 hR
            obtain ⟨d, hd, rfl, rfl, rfl⟩ := hR
            by_cases hdl : d < mm
            · have hk := hbk d (by rw [noneL_len, hmm]; exact hdl)
              rw [noneL_get (by rw [hmm]; exact hdl)] at hk
              have hgt : (hasL o mm o.length).getD d false = tf (∃ t, t < o.length ∧ o.getD t 0 = (d : Int)) := mk_get false hdl
              have hzi : Bls w8 zv (hasL o mm o.length) := Own.sl HZ
              by_cases hp : ∃ t, t < o.length ∧ o.getD t 0 = (d : Int)
              · rw [tf_t hp] at hgt
                have h0 : 0 ≤ b.getD d 0 := hk.2 (.inr (mem_getD.2 hp))
                repeat' ((conv => whnf); first | (refine Dr.quiet tyOk (by kernel_rfl) ?_) | (refine Bls.ix hzi (by omega) ?_) | (refine Bls.ldv hzi hgt (by omega) ?_) | (refine Rng.mk (by omega) ?_) | (refine Split.pos (by omega) ?_) | (refine Split.neg (by omega) ?_) | (refine Split.mk (fun h => ?_) (fun h => ?_)) | (refine Need.mk (by omega) ?_) | (refine Ints.ln (by assumption) ?_) | (refine Mat.ln (by assumption) ?_) | (refine Ints.ln (Mat.row (by assumption) _ (by omega)) ?_) | (refine Ints.ix (by assumption) (by omega) ?_) | (refine Mat.ix (by assumption) (by omega) ?_) | (refine Ints.ix (Mat.row (by assumption) _ (by omega)) (by omega) ?_) | (refine Ints.ix (c := 0) (by assumption) (by omega) ?_) | (refine Mat.ix (c := 0) (by assumption) (by omega) ?_) | (refine Ints.ix (c := 0) (Mat.row (by assumption) _ (by omega)) (by omega) ?_) | (refine Ints.ixI (by assumption) (by omega) ?_) | (refine Mat.ixI (by assumption) (by omega) ?_) | (refine Ints.ixI (Mat.row (by assumption) _ (by omega)) (by omega) ?_) | (refine Ints.ld (by assumption) (by omega) ?_) | (refine Mat.ld (by assumption) (by omega) ?_) | (refine Ints.ld (Mat.row (by assumption) _ (by omega)) (by omega) ?_) | (refine At.ld (by assumption) rfl ?_) | (refine At.ldN (by assumption) rfl ?_) | (refine Prs.ln (by assumption) ?_) | (refine Trs.ln (by assumption) ?_) | (refine Prs.ix (by assumption) (by omega) ?_) | (refine Trs.ix (by assumption) (by omega) ?_) | (refine Prs.ldN (by assumption) (by omega) ?_) | (refine Trs.ldN (by assumption) (by omega) ?_) | (refine At.ldN (Blk.at (by assumption)) rfl ?_) | (refine At.ld (Blk.at (by assumption)) rfl ?_) | (refine IxA.mk (by omega) ?_) | (refine Sl.ln (Own.sl (by assumption)) ?_) | (refine Ints.ix (Own.sl (by assumption)) (by omega) ?_) | (refine Ints.ixI (Own.sl (by assumption)) (by omega) ?_) | (refine Ints.ld (Own.sl (by assumption)) (by omega) ?_))
                refine ⟨_, (by omega : mm - (d + 1) < mm - d), rfl, d + 1, by omega, rfl, rfl, rfl⟩
              · rw [tf_f hp] at hgt
                have h0 : ¬ 0 ≤ b.getD d 0 := fun h => by
                  rcases hk.1 h with h2 | h2
                  · omega
                  · exact hp (mem_getD.1 h2)
                repeat' ((conv => whnf); first | (refine Dr.quiet tyOk (by kernel_rfl) ?_) | (refine Bls.ix hzi (by omega) ?_) | (refine Bls.ldv hzi hgt (by omega) ?_) | (refine Rng.mk (by omega) ?_) | (refine Split.pos (by omega) ?_) | (refine Split.neg (by omega) ?_) | (refine Split.mk (fun h => ?_) (fun h => ?_)) | (refine Need.mk (by omega) ?_) | (refine Ints.ln (by assumption) ?_) | (refine Mat.ln (by assumption) ?_) | (refine Ints.ln (Mat.row (by assumption) _ (by omega)) ?_) | (refine Ints.ix (by assumption) (by omega) ?_) | (refine Mat.ix (by assumption) (by omega) ?_) | (refine Ints.ix (Mat.row (by assumption) _ (by omega)) (by omega) ?_) | (refine Ints.ix (c := 0) (by assumption) (by omega) ?_) | (refine Mat.ix (c := 0) (by assumption) (by omega) ?_) | (refine Ints.ix (c := 0) (Mat.row (by assumption) _ (by omega)) (by omega) ?_) | (refine Ints.ixI (by assumption) (by omega) ?_) | (refine Mat.ixI (by assumption) (by omega) ?_) | (refine Ints.ixI (Mat.row (by assumption) _ (by omega)) (by omega) ?_) | (refine Ints.ld (by assumption) (by omega) ?_) | (refine Mat.ld (by assumption) (by omega) ?_) | (refine Ints.ld (Mat.row (by assumption) _ (by omega)) (by omega) ?_) | (refine At.ld (by assumption) rfl ?_) | (refine At.ldN (by assumption) rfl ?_) | (refine Prs.ln (by assumption) ?_) | (refine Trs.ln (by assumption) ?_) | (refine Prs.ix (by assumption) (by omega) ?_) | (refine Trs.ix (by assumption) (by omega) ?_) | (refine Prs.ldN (by assumption) (by omega) ?_) | (refine Trs.ldN (by assumption) (by omega) ?_) | (refine At.ldN (Blk.at (by assumption)) rfl ?_) | (refine At.ld (Blk.at (by assumption)) rfl ?_) | (refine IxA.mk (by omega) ?_) | (refine Sl.ln (Own.sl (by assumption)) ?_) | (refine Ints.ix (Own.sl (by assumption)) (by omega) ?_) | (refine Ints.ixI (Own.sl (by assumption)) (by omega) ?_) | (refine Ints.ld (Own.sl (by assumption)) (by omega) ?_))
                refine ⟨_, (by omega : mm - (d + 1) < mm - d), rfl, d + 1, by omega, rfl, rfl, rfl⟩
            · obtain rfl : d = mm := by omega
              repeat' ((conv => whnf); first | (refine Dr.quiet tyOk (by kernel_rfl) ?_) | (refine Rng.mk (by omega) ?_) | (refine Split.pos (by omega) ?_) | (refine Split.neg (by omega) ?_) | (refine Split.mk (fun h => ?_) (fun h => ?_)) | (refine Need.mk (by omega) ?_) | (refine Ints.ln (by assumption) ?_) | (refine Mat.ln (by assumption) ?_) | (refine Ints.ln (Mat.row (by assumption) _ (by omega)) ?_) | (refine Ints.ix (by assumption) (by omega) ?_) | (refine Mat.ix (by assumption) (by omega) ?_) | (refine Ints.ix (Mat.row (by assumption) _ (by omega)) (by omega) ?_) | (refine Ints.ix (c := 0) (by assumption) (by omega) ?_) | (refine Mat.ix (c := 0) (by assumption) (by omega) ?_) | (refine Ints.ix (c := 0) (Mat.row (by assumption) _ (by omega)) (by omega) ?_) | (refine Ints.ixI (by assumption) (by omega) ?_) | (refine Mat.ixI (by assumption) (by omega) ?_) | (refine Ints.ixI (Mat.row (by assumption) _ (by omega)) (by omega) ?_) | (refine Ints.ld (by assumption) (by omega) ?_) | (refine Mat.ld (by assumption) (by omega) ?_) | (refine Ints.ld (Mat.row (by assumption) _ (by omega)) (by omega) ?_) | (refine At.ld (by assumption) rfl ?_) | (refine At.ldN (by assumption) rfl ?_) | (refine Prs.ln (by assumption) ?_) | (refine Trs.ln (by assumption) ?_) | (refine Prs.ix (by assumption) (by omega) ?_) | (refine Trs.ix (by assumption) (by omega) ?_) | (refine Prs.ldN (by assumption) (by omega) ?_) | (refine Trs.ldN (by assumption) (by omega) ?_) | (refine At.ldN (Blk.at (by assumption)) rfl ?_) | (refine At.ld (Blk.at (by assumption)) rfl ?_) | (refine IxA.mk (by omega) ?_) | (refine Sl.ln (Own.sl (by assumption)) ?_) | (refine Ints.ix (Own.sl (by assumption)) (by omega) ?_) | (refine Ints.ixI (Own.sl (by assumption)) (by omega) ?_) | (refine Ints.ld (Own.sl (by assumption)) (by omega) ?_))
              exact ⟨rfl, EE⟩
    · have hno : ¬ OrdOk o (rr.getD 0 []).length := fun h => hE (runE_ok hck h)
      have co := ordered_pc (mm := (rr.getD 0 []).length) Ho
      rw [tf_f hno] at co
      rw [runE_bad hck hno]
      repeat' ((conv => whnf); first | (refine Dr.quiet tyOk (by kernel_rfl) ?_) | (refine VC.pure co ?_) | (refine VCQ.pure co ?_) | (refine Rng.mk (by omega) ?_) | (refine Split.pos (by omega) ?_) | (refine Split.neg (by omega) ?_) | (refine Split.mk (fun h => ?_) (fun h => ?_)) | (refine Need.mk (by omega) ?_) | (refine Ints.ln (by assumption) ?_) | (refine Mat.ln (by assumption) ?_) | (refine Ints.ln (Mat.row (by assumption) _ (by omega)) ?_) | (refine Ints.ix (by assumption) (by omega) ?_) | (refine Mat.ix (by assumption) (by omega) ?_) | (refine Ints.ix (Mat.row (by assumption) _ (by omega)) (by omega) ?_) | (refine Ints.ix (c := 0) (by assumption) (by omega) ?_) | (refine Mat.ix (c := 0) (by assumption) (by omega) ?_) | (refine Ints.ix (c := 0) (Mat.row (by assumption) _ (by omega)) (by omega) ?_) | (refine Ints.ixI (by assumption) (by omega) ?_) | (refine Mat.ixI (by assumption) (by omega) ?_) | (refine Ints.ixI (Mat.row (by assumption) _ (by omega)) (by omega) ?_) | (refine Ints.ld (by assumption) (by omega) ?_) | (refine Mat.ld (by assumption) (by omega) ?_) | (refine Ints.ld (Mat.row (by assumption) _ (by omega)) (by omega) ?_) | (refine At.ld (by assumption) rfl ?_) | (refine At.ldN (by assumption) rfl ?_) | (refine Prs.ln (by assumption) ?_) | (refine Trs.ln (by assumption) ?_) | (refine Prs.ix (by assumption) (by omega) ?_) | (refine Trs.ix (by assumption) (by omega) ?_) | (refine Prs.ldN (by assumption) (by omega) ?_) | (refine Trs.ldN (by assumption) (by omega) ?_) | (refine At.ldN (Blk.at (by assumption)) rfl ?_) | (refine At.ld (Blk.at (by assumption)) rfl ?_) | (refine IxA.mk (by omega) ?_) | (refine Sl.ln (Own.sl (by assumption)) ?_) | (refine Ints.ix (Own.sl (by assumption)) (by omega) ?_) | (refine Ints.ixI (Own.sl (by assumption)) (by omega) ?_) | (refine Ints.ld (Own.sl (by assumption)) (by omega) ?_))
      exact ⟨rfl, EE⟩
  · rw [tf_f hf] at cf
    repeat' ((conv => whnf); first | (refine Dr.quiet tyOk (by kernel_rfl) ?_) | (refine VC.pure alive19_pc ?_) | (refine VC.pure cf ?_) | (refine Rng.mk (by omega) ?_) | (refine Split.pos (by omega) ?_) | (refine Split.neg (by omega) ?_) | (refine Split.mk (fun h => ?_) (fun h => ?_)) | (refine Need.mk (by omega) ?_) | (refine Ints.ln (by assumption) ?_) | (refine Mat.ln (by assumption) ?_) | (refine Ints.ln (Mat.row (by assumption) _ (by omega)) ?_) | (refine Ints.ix (by assumption) (by omega) ?_) | (refine Mat.ix (by assumption) (by omega) ?_) | (refine Ints.ix (Mat.row (by assumption) _ (by omega)) (by omega) ?_) | (refine Ints.ix (c := 0) (by assumption) (by omega) ?_) | (refine Mat.ix (c := 0) (by assumption) (by omega) ?_) | (refine Ints.ix (c := 0) (Mat.row (by assumption) _ (by omega)) (by omega) ?_) | (refine Ints.ixI (by assumption) (by omega) ?_) | (refine Mat.ixI (by assumption) (by omega) ?_) | (refine Ints.ixI (Mat.row (by assumption) _ (by omega)) (by omega) ?_) | (refine Ints.ld (by assumption) (by omega) ?_) | (refine Mat.ld (by assumption) (by omega) ?_) | (refine Ints.ld (Mat.row (by assumption) _ (by omega)) (by omega) ?_) | (refine At.ld (by assumption) rfl ?_) | (refine At.ldN (by assumption) rfl ?_) | (refine Prs.ln (by assumption) ?_) | (refine Trs.ln (by assumption) ?_) | (refine Prs.ix (by assumption) (by omega) ?_) | (refine Trs.ix (by assumption) (by omega) ?_) | (refine Prs.ldN (by assumption) (by omega) ?_) | (refine Trs.ldN (by assumption) (by omega) ?_) | (refine At.ldN (Blk.at (by assumption)) rfl ?_) | (refine At.ld (Blk.at (by assumption)) rfl ?_) | (refine IxA.mk (by omega) ?_) | (refine Sl.ln (Own.sl (by assumption)) ?_) | (refine Ints.ix (Own.sl (by assumption)) (by omega) ?_) | (refine Ints.ixI (Own.sl (by assumption)) (by omega) ?_) | (refine Ints.ld (Own.sl (by assumption)) (by omega) ?_))
    exact ⟨rfl, EE⟩

open Go.ChangeShapes Go.WideShapes Go.ChangeAt Go.RowKit Go.Eng in
theorem roundsOne_lifted (os : Os) (started : os.Started) (H : Type) (enc : TypeId × Value → H) :
    ReturnsInHanded {} Try.checked os 5 .any (Rows.roundsOneSpec.pre6 enc Try.prog Try.f5 Rows.roundsOneRow.domain false) (Rows.roundsOneSpec.post enc Try.prog Try.f5 false true false false) := by
  refine returnsInHanded_of_change (C := Try.checked) own started (by kernel_rfl) Try.func5
    (ChangeSpec.witness6 (enc := enc) (C := Try.checked) false ⟨#[], #[.agg #[.slice none 0 0], .slice none 0 0], []⟩ 8 (by kernel_rfl) (by kernel_rfl) (by kernel_rfl) (by kernel_rfl)) ?_
  intro W base args ds gs before hval0 hW hcnd _
  have hval : ∀ (j : Nat) t v, Try.f5.params[j]? = some t → args[j]? = some v → Value.okWide Try.prog W .any base t v := hval0
  have hW' := hW
  obtain ⟨p, q, hA0, hV, e0, hfz, hnd⟩ := hW
  have hA : DataW.TrodAll enc Try.prog W 0 (fun _ => true) true Try.f5.params.toList args.toList ds p := hA0
  rw [Try.params5] at hA hval
  clear hfz hnd hV e0 hval0
  obtain ⟨v0, vs0, d0, ds0, p0, q0, e0, rfl, f0, h0, t0⟩ := trodAll_cons hA
  obtain ⟨v1, vs1, d1, ds1, p1, q1, e1, rfl, f1, h1, t1⟩ := trodAll_cons t0
  subst e1
  obtain ⟨ee, rfl, _⟩ := trodAll_nil t1
  subst ee
  obtain rfl : args = #[v0, v1] := Array.toList_inj.1 (by simpa using e0)
  obtain ⟨g0, s0, r0, rfl, H0, R0⟩ := open_G Try.underlying24 rfl (by kernel_rfl) (by kernel_rfl) Try.underlying22 Try.underlying25 Try.underlying3 (by kernel_rfl) (by kernel_rfl) (hval 0 24 _ rfl rfl) h0
  obtain ⟨l1, H1, R1⟩ := open_L Try.underlying25 Try.underlying3 (by kernel_rfl) (hval 1 25 _ rfl rfl) h1
  exact law_calls laidOut (by rw [Try.params5]; intro t ht; revert t; decide +kernel) rfl Try.underlying4 rfl ⟨rfl, rfl, rfl⟩ hW' (roundsone_pc H0 H1)

theorem roundsOne_holds : Rows.RoundsOneSaid :=
  OpenClaim.holds_of_wide 5 Try.f5 rfl rfl rfl rfl rfl rfl rfl ⟨rfl, rfl, rfl, rfl, rfl⟩ rfl rfl rfl rfl rfl (by kernel_rfl) Try.func5 (by kernel_rfl)
    (of_decide_eq_true (by kernel_rfl)) (by unfold Func.isWrapper; first | (rw [if_pos (by decide +kernel)]; kernel_rfl) | (rw [if_neg (by decide +kernel)]; exact ⟨rfl, rfl⟩))
    (fun os started H enc _ => roundsOne_lifted os started H enc)
end Go.Proofs.Ytebklnmafjbhcaa
