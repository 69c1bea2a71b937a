/- The statement NashScales. -/
import Derived.Test.YtkgogljfngplnaaJ5
import Derived.Test.YtkgogljfngplnaaRows
set_option linter.unusedVariables false
set_option linter.unusedSimpArgs false
namespace Go.Proofs.Ytkgogljfngplnaa
open Go.Eng
set_option maxRecDepth 100000
set_option maxHeartbeats 4000000

def Apart (x y : Value) : Prop := ∀ k, x.ownBlock = some k → y.ownBlock ≠ some k
structure OMD (B : Nat) (w : World) (v : Value) (vs : List Value) (rr : List (List Int)) : Prop where
  top : Own B 27 1 w v rr.length vs
  row : ∀ i, i < rr.length → OB B w (vs.getD i undef) (rr.getD i [])
  dis : ∀ i j, i < rr.length → j < rr.length → i ≠ j → Apart (vs.getD i undef) (vs.getD j undef)
section
variable {B : Nat} {w w' : World} {v : Value} {vs : List Value} {rr : List (List Int)}
theorem OMD.mat (h : OMD B w v vs rr) : Mat w v vs rr := ⟨h.top.sl, fun i hi => (h.row i hi).sl⟩
theorem OMD.om (h : OMD B w v vs rr) : OM B w v vs rr := ⟨h.top, fun i hi => Own.base (h.row i hi) (Nat.zero_le _)⟩
theorem OMD.ext (h : OMD B w v vs rr) (hg : Ext w w') : OMD B w' v vs rr := ⟨Own.ext h.top hg, fun i hi => Own.ext (h.row i hi) hg, h.dis⟩
theorem OMD.base {B' : Nat} (h : OMD B w v vs rr) (hB : B' ≤ B) : OMD B' w v vs rr := ⟨Own.base h.top hB, fun i hi => Own.base (h.row i hi) hB, h.dis⟩
theorem OMD.nil : OMD B w (.slice none 0 0) [] [] := ⟨Own.nil, fun _ hi => absurd hi (Nat.not_lt_zero _), fun _ _ hi => absurd hi (Nat.not_lt_zero _)⟩
theorem OMD.blk {T : TypeId} {b : Nat} {ys : List Value} (h : OMD B w v vs rr) (hk : Blk w b T ys) (h1 : 27 ≠ T) (h2 : 3 ≠ T) (hg : Gr (fun j => j = b) w w') : OMD B w' v vs rr :=
  ⟨Own.blk h.top hk h1 hg, fun i hi => Own.blk (h.row i hi) hk h2 hg, h.dis⟩
/-- One number of one row is written. -/
theorem OMD.st {i k : Nat} {x : Int} {K : World → Prop} (h : OMD B w v vs rr) (hi : i < rr.length) (hk : k < (rr.getD i []).length)
    (hK : ∀ w', Gr (fun j => (vs.getD i undef).ownBlock = some j) w w' → OMD B w' v vs (rr.set i ((rr.getD i []).set k x)) → K w') : St w (ea (vs.getD i undef) k) (.int .i64 x) K :=
  OB.set (h.row i hi) hk fun w' hg h' => hK w' hg (by
    refine ⟨?_, fun j hj => ?_, fun a b ha hb hab => h.dis a b (by simpa using ha) (by simpa using hb) hab⟩
    · rw [List.length_set]
      exact Own.gr h.top hg fun q hq hS => Own.ne h.top (h.row i hi) (by decide) q hq hS
    · rw [List.length_set] at hj
      rw [List.getD_eq_getElem?_getD (l := rr.set _ _), List.getElem?_set]
      by_cases e : i = j
      · subst e; rw [if_pos rfl, if_pos hj]; exact h'
      · rw [if_neg e, ← List.getD_eq_getElem?_getD]
        exact Own.gr (h.row j hj) hg fun q hq hS => h.dis i j hi hj e q hS hq)
theorem OMD.push {v' x : Value} {l : List Int} (h : OMD B w v vs rr) (hr : OB B w x l) (hd : ∀ i, i < rr.length → Apart (vs.getD i undef) x) (hg : Gr (fun k => v.ownBlock = some k) w w') (ho : Own B 27 1 w' v' (rr.length + 1) (vs ++ [x])) : OMD B w' v' (vs ++ [x]) (rr ++ [l]) := by
  have hvl : vs.length = rr.length := by have := Own.len h.top; omega
  have keep : ∀ {y : Value} {m : List Int}, OB B w y m → OB B w' y m := fun hy => Own.gr hy hg fun q hq hS => Own.ne h.top hy (by decide) q hS hq
  have gl : ∀ i, i < rr.length → (vs ++ [x]).getD i undef = vs.getD i undef := fun i hi => by rw [List.getD_eq_getElem?_getD, List.getElem?_append_left (by omega), ← List.getD_eq_getElem?_getD]
  have gx : (vs ++ [x]).getD rr.length undef = x := by rw [List.getD_eq_getElem?_getD, ← hvl, List.getElem?_concat_length]; rfl
  refine ⟨by rw [List.length_append]; exact ho, fun i hi => ?_, fun i j hi hj hij => ?_⟩
  · rw [List.length_append, List.length_singleton] at hi
    by_cases e : i = rr.length
    · subst e
      rw [gx, show (rr ++ [l]).getD rr.length [] = l by simp [List.getD]]; exact keep hr
    · rw [gl i (by omega), show (rr ++ [l]).getD i [] = rr.getD i [] by simp [List.getD, List.getElem?_append_left (show i < rr.length by omega)]]
      exact keep (h.row i (by omega))
  · rw [List.length_append, List.length_singleton] at hi hj
    by_cases e : i = rr.length
    · subst e
      rw [gx, gl j (by omega)]
      exact fun k h1 h2 => hd j (by omega) k h2 h1
    · by_cases e2 : j = rr.length
      · subst e2
        rw [gx, gl i (by omega)]; exact hd i (by omega)
      · rw [gl i (by omega), gl j (by omega)]; exact h.dis i j (by omega) (by omega) hij
end

theorem twin2_rc {w : World} {gv : Value} {vs : List Value} {rr : List (List Int)} (Hg : Mat w gv vs rr) (hle : rr.length ≤ 100) (hrow : ∀ i, i < rr.length → (rr.getD i []).length ≤ 100) :
    RC Try.prog 17 [gv] w NoB (fun u w' => ∃ us, OMD w.heap.size w' u us rr) := by
  refine RC.mk tyOk Try.func17 rfl (by kernel_rfl) fun w1 E1 => ?_
  replace Hg := Hg.ext E1
  refine Lp.mk tyOk [false, false, false, true, true, true, true, true, true, true, true, true, true, true, true, true, true, true, true, true] (fun m fr wr => getK fr 3 fun v => getK fr 4 fun j => ∃ (c : Nat) (us : List Value), c ≤ rr.length ∧ m = rr.length - c ∧ j = .int .i64 (c : Int) ∧ Ext w1 wr ∧ OMD w1.heap.size wr v us (rr.take c)) rr.length ?_ ?_
  · exact ⟨0, [], Nat.zero_le _, rfl, rfl, Ext.refl _, OMD.nil⟩
  · intro m w3 u3 u4 u5 u6 u7 u8 u9 u10 u11 u12 u13 u14 u15 u16 u17 u18 u19 hR
    obtain ⟨c, us, hc, rfl, rfl, EE, Ho⟩ := hR
    replace Hg := Hg.ext EE
    repeat' (conv => whnf
             first
             | (refine Dr.quiet tyOk (by kernel_rfl) ?_)
             | (refine Rng.mk (by omega) ?_)
             | (refine Split.pos (by omega) ?_)
             | (refine Split.neg (by omega) ?_)
             | (refine Split.mk (fun h => ?_) (fun h => ?_))
             | (refine Need.mk (by omega) ?_)
             | (refine Ints.ln (by assumption) ?_)
             | (refine Mat.ln (by assumption) ?_)
             | (refine Ints.ln (Mat.row (by assumption) _ (by omega)) ?_)
             | (refine Ints.ix (by assumption) (by omega) ?_)
             | (refine Mat.ix (by assumption) (by omega) ?_)
             | (refine Ints.ix (Mat.row (by assumption) _ (by omega)) (by omega) ?_)
             | (refine Ints.ix (c := 0) (by assumption) (by omega) ?_)
             | (refine Mat.ix (c := 0) (by assumption) (by omega) ?_)
             | (refine Ints.ix (c := 0) (Mat.row (by assumption) _ (by omega)) (by omega) ?_)
             | (refine Ints.ixI (by assumption) (by omega) ?_)
             | (refine Mat.ixI (by assumption) (by omega) ?_)
             | (refine Ints.ixI (Mat.row (by assumption) _ (by omega)) (by omega) ?_)
             | (refine Ints.ld (by assumption) (by omega) ?_)
             | (refine Mat.ld (by assumption) (by omega) ?_)
             | (refine Ints.ld (Mat.row (by assumption) _ (by omega)) (by omega) ?_)
             | (refine At.ld (by assumption) rfl ?_)
             | (refine At.ldN (by assumption) rfl ?_))
    · have hrc := hrow c (by omega)
      have htk : (rr.take c).length = c := by simp; omega
      refine VE.lit0 Try.underlying27 eInt fun ev w4 E4 He => ?_
      replace Hg := Hg.ext E4
      repeat' (conv => whnf
               first
               | (refine Dr.quiet tyOk (by kernel_rfl) ?_)
               | (refine Rng.mk (by omega) ?_)
               | (refine Split.pos (by omega) ?_)
               | (refine Split.neg (by omega) ?_)
               | (refine Split.mk (fun h => ?_) (fun h => ?_))
               | (refine Need.mk (by omega) ?_)
               | (refine Ints.ln (by assumption) ?_)
               | (refine Mat.ln (by assumption) ?_)
               | (refine Ints.ln (Mat.row (by assumption) _ (by omega)) ?_)
               | (refine Ints.ix (by assumption) (by omega) ?_)
               | (refine Mat.ix (by assumption) (by omega) ?_)
               | (refine Ints.ix (Mat.row (by assumption) _ (by omega)) (by omega) ?_)
               | (refine Ints.ix (c := 0) (by assumption) (by omega) ?_)
               | (refine Mat.ix (c := 0) (by assumption) (by omega) ?_)
               | (refine Ints.ix (c := 0) (Mat.row (by assumption) _ (by omega)) (by omega) ?_)
               | (refine Ints.ixI (by assumption) (by omega) ?_)
               | (refine Mat.ixI (by assumption) (by omega) ?_)
               | (refine Ints.ixI (Mat.row (by assumption) _ (by omega)) (by omega) ?_)
               | (refine Ints.ld (by assumption) (by omega) ?_)
               | (refine Mat.ld (by assumption) (by omega) ?_)
               | (refine Ints.ld (Mat.row (by assumption) _ (by omega)) (by omega) ?_)
               | (refine At.ld (by assumption) rfl ?_)
               | (refine At.ldN (by assumption) rfl ?_))
      refine VE.app Try.underlying27 eInt rfl (by omega) (He _ (Nat.le_refl _)) E4 rfl (Hg.row c (by omega)) (by intro u hu; simp only [List.mem_map] at hu; obtain ⟨x, _, rfl⟩ := hu; rfl) (by first | omega | (simp only [List.length_map, List.length_range]; omega)) (by first | omega | (simp only [List.length_map, List.length_range]; omega)) fun rv w5 E5 G5 Hr => ?_
      have Hr1 : OB w3.heap.size w5 rv (rr.getD c []) := by
        show Own w3.heap.size 3 1 w5 rv (rr.getD c []).length _
        simpa using Hr
      have Hr0 : OB w1.heap.size w5 rv (rr.getD c []) := Own.base Hr1 EE.size
      have hap : ∀ i, i < (rr.take c).length → Apart (us.getD i undef) rv := fun i hi k h1 h2 => by
        have a1 := (Own.lt (Ho.row i hi) k h1).2
        have a2 := (Own.lt Hr1 k h2).1
        omega
      replace Ho := Ho.ext E5
      repeat' (conv => whnf
               first
               | (refine Dr.quiet tyOk (by kernel_rfl) ?_)
               | (refine Rng.mk (by omega) ?_)
               | (refine Split.pos (by omega) ?_)
               | (refine Split.neg (by omega) ?_)
               | (refine Split.mk (fun h => ?_) (fun h => ?_))
               | (refine Need.mk (by omega) ?_)
               | (refine Ints.ln (by assumption) ?_)
               | (refine Mat.ln (by assumption) ?_)
               | (refine Ints.ln (Mat.row (by assumption) _ (by omega)) ?_)
               | (refine Ints.ix (by assumption) (by omega) ?_)
               | (refine Mat.ix (by assumption) (by omega) ?_)
               | (refine Ints.ix (Mat.row (by assumption) _ (by omega)) (by omega) ?_)
               | (refine Ints.ix (c := 0) (by assumption) (by omega) ?_)
               | (refine Mat.ix (c := 0) (by assumption) (by omega) ?_)
               | (refine Ints.ix (c := 0) (Mat.row (by assumption) _ (by omega)) (by omega) ?_)
               | (refine Ints.ixI (by assumption) (by omega) ?_)
               | (refine Mat.ixI (by assumption) (by omega) ?_)
               | (refine Ints.ixI (Mat.row (by assumption) _ (by omega)) (by omega) ?_)
               | (refine Ints.ld (by assumption) (by omega) ?_)
               | (refine Mat.ld (by assumption) (by omega) ?_)
               | (refine Ints.ld (Mat.row (by assumption) _ (by omega)) (by omega) ?_)
               | (refine At.ld (by assumption) rfl ?_)
               | (refine At.ldN (by assumption) rfl ?_))
      refine VE.lit1 Try.underlying22 eRow ((Sl.cells (Own.sl Hr0)).1) fun lv w6 E6 Hl => ?_
      replace Ho := Ho.ext E6
      replace Hr0 := Hr0.ext E6
      conv => whnf
      refine VE.app Try.underlying22 eRow rfl (by omega) Ho.top (EE.trans (E5.trans E6)) rfl Hl (by intro u hu; simp only [List.mem_singleton] at hu; subst hu; exact (Sl.cells (Own.sl Hr0)).2) (by first | omega | (simp only [List.length_map, List.length_range]; omega)) (by first | omega | (simp only [List.length_map, List.length_range]; omega)) fun v7 w7 E7 G7 H7 => ?_
      repeat' (conv => whnf
               first
               | (refine Dr.quiet tyOk (by kernel_rfl) ?_)
               | (refine Rng.mk (by omega) ?_)
               | (refine Split.pos (by omega) ?_)
               | (refine Split.neg (by omega) ?_)
               | (refine Split.mk (fun h => ?_) (fun h => ?_))
               | (refine Need.mk (by omega) ?_)
               | (refine Ints.ln (by assumption) ?_)
               | (refine Mat.ln (by assumption) ?_)
               | (refine Ints.ln (Mat.row (by assumption) _ (by omega)) ?_)
               | (refine Ints.ix (by assumption) (by omega) ?_)
               | (refine Mat.ix (by assumption) (by omega) ?_)
               | (refine Ints.ix (Mat.row (by assumption) _ (by omega)) (by omega) ?_)
               | (refine Ints.ix (c := 0) (by assumption) (by omega) ?_)
               | (refine Mat.ix (c := 0) (by assumption) (by omega) ?_)
               | (refine Ints.ix (c := 0) (Mat.row (by assumption) _ (by omega)) (by omega) ?_)
               | (refine Ints.ixI (by assumption) (by omega) ?_)
               | (refine Mat.ixI (by assumption) (by omega) ?_)
               | (refine Ints.ixI (Mat.row (by assumption) _ (by omega)) (by omega) ?_)
               | (refine Ints.ld (by assumption) (by omega) ?_)
               | (refine Mat.ld (by assumption) (by omega) ?_)
               | (refine Ints.ld (Mat.row (by assumption) _ (by omega)) (by omega) ?_)
               | (refine At.ld (by assumption) rfl ?_)
               | (refine At.ldN (by assumption) rfl ?_))
      refine ⟨_, (by omega : rr.length - (c + 1) < rr.length - c), rfl, c + 1, us ++ [rv], by omega, rfl, rfl, E7, ?_⟩
      rw [take_snoc [] rr c (by omega)]
      exact Ho.push Hr0 hap G7 H7
    · obtain rfl : c = rr.length := by omega
      rw [List.take_length] at Ho
      exact ⟨EE, us, Ho.base E1.size⟩
end Go.Proofs.Ytkgogljfngplnaa
set_option linter.unusedVariables false
set_option linter.unusedSimpArgs false
namespace Go.Proofs.Ytkgogljfngplnaa
open Go.Eng
set_option maxRecDepth 100000
set_option maxHeartbeats 4000000

/-- the first c numbers of row i, times m -/
def rrT (rr : List (List Int)) (i c : Nat) (m : Int) : List (List Int) := rr.set i (mk (rr.getD i []).length fun j => if j < c then (rr.getD i []).getD j 0 * m else (rr.getD i []).getD j 0)
theorem rrT_len (rr : List (List Int)) (i c : Nat) (m : Int) : (rrT rr i c m).length = rr.length := by simp [rrT]
theorem rrT_row {rr : List (List Int)} {i c : Nat} {m : Int} (hi : i < rr.length) : (rrT rr i c m).getD i [] = mk (rr.getD i []).length fun j => if j < c then (rr.getD i []).getD j 0 * m else (rr.getD i []).getD j 0 := by
  unfold rrT
  rw [List.getD_eq_getElem?_getD, List.getElem?_set, if_pos rfl, if_pos hi]; rfl
theorem rrT_rlen {rr : List (List Int)} {i c : Nat} {m : Int} (hi : i < rr.length) : ((rrT rr i c m).getD i []).length = (rr.getD i []).length := by rw [rrT_row hi, mk_len]
theorem rrT_at {rr : List (List Int)} {i c : Nat} {m : Int} (hi : i < rr.length) (hc : c < (rr.getD i []).length) : ((rrT rr i c m).getD i []).getD c 0 = (rr.getD i []).getD c 0 := by
  rw [rrT_row hi, mk_get 0 hc, if_neg (Nat.lt_irrefl _)]
theorem set_set {α : Type _} (l : List α) (i : Nat) (x y : α) : (l.set i x).set i y = l.set i y := by simp
theorem rrT_set {rr : List (List Int)} {i c : Nat} {m : Int} (hi : i < rr.length) (hc : c < (rr.getD i []).length) : (rrT rr i c m).set i (((rrT rr i c m).getD i []).set c ((rr.getD i []).getD c 0 * m)) = rrT rr i (c + 1) m := by
  rw [rrT_row hi]
  unfold rrT
  rw [set_set]
  congr 1
  refine ext_getD 0 (by rw [List.length_set, mk_len, mk_len]) fun k hk => ?_
  rw [List.length_set, mk_len] at hk
  rw [mk_get 0 hk]
  by_cases e : c = k
  · subst e
    rw [List.getD_eq_getElem?_getD, List.getElem?_set, if_pos rfl, if_pos (by rw [mk_len]; exact hk), if_pos (Nat.lt_succ_self _)]; rfl
  · rw [List.getD_eq_getElem?_getD, List.getElem?_set, if_neg e, ← List.getD_eq_getElem?_getD, mk_get 0 hk]
    by_cases h : k < c
    · rw [if_pos h, if_pos (by omega)]
    · rw [if_neg h, if_neg (by omega)]
theorem rrT_zero {rr : List (List Int)} {i : Nat} {m : Int} (hi : i < rr.length) : rrT rr i 0 m = rr := by
  refine ext_getD [] (rrT_len _ _ _ _) fun k hk => ?_
  by_cases e : i = k
  · subst e
    rw [rrT_row hi]
    refine ext_getD 0 (mk_len _ _) fun j hj => ?_
    rw [mk_len] at hj
    rw [mk_get 0 hj, if_neg (Nat.not_lt_zero _)]
  · unfold rrT; rw [List.getD_eq_getElem?_getD, List.getElem?_set, if_neg e, ← List.getD_eq_getElem?_getD]
theorem rrT_full {rr : List (List Int)} {i : Nat} {m : Int} (hi : i < rr.length) : rrT rr i (rr.getD i []).length m = rrS rr i m := by
  unfold rrT rrS
  congr 1
  refine ext_getD 0 (by rw [mk_len, List.length_map]) fun j hj => ?_
  rw [mk_len] at hj
  rw [mk_get 0 hj, if_pos hj, map_get]

/-- the greatest of the first c numbers, or 0 -/
def mxT (f : Nat → Int) : Nat → Int
  | 0 => 0
  | c + 1 => max (mxT f c) (f c)
theorem mxT_bd {f : Nat → Int} (h : ∀ i, 0 ≤ f i ∧ f i ≤ 1000) : ∀ c, 0 ≤ mxT f c ∧ mxT f c ≤ 1000
  | 0 => ⟨Int.le_refl 0, by show (0:Int) ≤ _; decide⟩
  | c + 1 => by
    have h1 := mxT_bd h c
    have h2 := h c
    show 0 ≤ max (mxT f c) (f c) ∧ max (mxT f c) (f c) ≤ _
    omega
theorem mxT_le {f : Nat → Int} : ∀ c i, i < c → f i ≤ mxT f c
  | 0, i, hi => absurd hi (Nat.not_lt_zero _)
  | c + 1, i, hi => by
    show f i ≤ max (mxT f c) (f c)
    by_cases e : i = c
    · subst e; omega
    · have := mxT_le (f := f) c i (by omega); omega

theorem Blk.nerow {w : World} {b : Nat} {T : TypeId} {ys : List Value} {B : Nat} {e : TypeId} {s n : Nat} {v : Value} {xs : List Value} (hk : Blk w b T ys) (h : Own B e s w v n xs) (he : e ≠ T) : ¬ v.ownBlock = some b := fun hb => by
  rcases h.2 with ⟨rfl, _⟩ | ⟨g, cap, cur, rfl, _, hc, _⟩
  · simp [Value.ownBlock] at hb
  · simp [Value.ownBlock] at hb
    subst hb
    unfold Blk at hk
    rw [hk] at hc
    simp at hc
    exact he hc.2.symm

theorem nashscales_pc {w : World} {gv : Value} {vs : List Value} {rr : List (List Int)} {n1 mu : Int} (Hg : Mat w gv vs rr) : PC Try.prog 10 [.agg #[gv], .int .i64 n1, .int .i64 mu] w (.bool true) := by
  refine PC.mk tyOk Try.func10 rfl (by kernel_rfl) fun w1 E1 => ?_
  replace Hg := Hg.ext E1
  have EE := Ext.refl w1
  refine Bx.agg fun b2 w2 E2 hb2 Hb _ => ?_
  replace Hg := Hg.ext E2
  replace EE := EE.ext E2
  have i0 : Ints w2 (.slice none 0 0) [] := Own.sl (B := 0) (e := 3) Own.nil
  have cf := fit21_pc Hg i0
  by_cases hf : ¬ great rr [] ∧ chk rr = 0
  · rw [tf_t hf] at cf
    have hck := hf.2
    have hgd := gd_of_chk hck
    have hn1 := hgd.n1
    have hn6 := hgd.n6
    have hm10 := hgd.m10
    by_cases hq : 0 ≤ n1 ∧ n1 < rr.length ∧ 1 ≤ mu ∧ mu ≤ 1000
    · obtain ⟨q1, q2, q3, q4⟩ := hq
      obtain ⟨i, rfl⟩ := Int.eq_ofNat_of_zero_le q1
      have hi : i < rr.length := by omega
      have hri := hgd.row i hi
      repeat' (conv => whnf
               first
               | (refine Dr.quiet tyOk (by kernel_rfl) ?_)
               | (refine VC.pure alive21_pc ?_)
               | (refine VC.pure cf ?_)
               | (refine Rng.mk (by omega) ?_)
               | (refine Split.pos (by omega) ?_)
               | (refine Split.neg (by omega) ?_)
               | (refine Split.mk (fun h => ?_) (fun h => ?_))
               | (refine Need.mk (by omega) ?_)
               | (refine Ints.ln (by assumption) ?_)
               | (refine Mat.ln (by assumption) ?_)
               | (refine Ints.ln (Mat.row (by assumption) _ (by omega)) ?_)
               | (refine Ints.ix (by assumption) (by omega) ?_)
               | (refine Mat.ix (by assumption) (by omega) ?_)
               | (refine Ints.ix (Mat.row (by assumption) _ (by omega)) (by omega) ?_)
               | (refine Ints.ix (c := 0) (by assumption) (by omega) ?_)
               | (refine Mat.ix (c := 0) (by assumption) (by omega) ?_)
               | (refine Ints.ix (c := 0) (Mat.row (by assumption) _ (by omega)) (by omega) ?_)
               | (refine Ints.ixI (by assumption) (by omega) ?_)
               | (refine Mat.ixI (by assumption) (by omega) ?_)
               | (refine Ints.ixI (Mat.row (by assumption) _ (by omega)) (by omega) ?_)
               | (refine Ints.ld (by assumption) (by omega) ?_)
               | (refine Mat.ld (by assumption) (by omega) ?_)
               | (refine Ints.ld (Mat.row (by assumption) _ (by omega)) (by omega) ?_)
               | (refine At.ld (by assumption) rfl ?_)
               | (refine At.ldN (by assumption) rfl ?_)
               | (refine Prs.ln (by assumption) ?_)
               | (refine Trs.ln (by assumption) ?_)
               | (refine Prs.ix (by assumption) (by omega) ?_)
               | (refine Trs.ix (by assumption) (by omega) ?_)
               | (refine Prs.ldN (by assumption) (by omega) ?_)
               | (refine Trs.ldN (by assumption) (by omega) ?_)
               | (refine At.ldN (Blk.at (by assumption)) rfl ?_)
               | (refine At.ld (Blk.at (by assumption)) rfl ?_)
               | (refine IxA.mk (by omega) ?_)
               | (refine Sl.ln (Own.sl (by assumption)) ?_)
               | (refine Ints.ix (Own.sl (by assumption)) (by omega) ?_)
               | (refine Ints.ixI (Own.sl (by assumption)) (by omega) ?_)
               | (refine Ints.ld (Own.sl (by assumption)) (by omega) ?_))
      have Hg__1 := Hg
      have EE__1 := EE
      have Hb__1 := Hb
      refine VC.rc (twin2_rc Hg (by omega) (fun j hj => by have := hgd.row j hj; omega)) ?_
      rintro tv w3 E3 ⟨us, HO⟩
      replace Hg := Hg.ext E3
      replace EE := EE.ext E3
      replace Hb := Hb.ext E3
      have EL1 : Ext w2 w3 := E3
      replace HO := HO.base (B' := w2.heap.size) (by omega)
      rw [← rrT_zero (rr := rr) (i := i) (m := mu) hi] at HO
      have HP := HO.om
      conv => whnf
      refine VS.field1 Try.underlying24 eGoods (by kernel_rfl) rfl (Sl.cells (Own.sl HP.top)).1 ?_
      have Hg__2 := Hg
      have EE__2 := EE
      have Hb__2 := Hb
      have EL1__2 := EL1
      have HO__2 := HO
      have HP__2 := HP
      conv => whnf
      refine VE.alloc eGoods fun bk w4 E4 hb_bk Hk => ?_
      replace Hg := Hg.ext E4
      replace EE := EE.ext E4
      replace Hb := Hb.ext E4
      replace EL1 := EL1.ext E4
      replace HO := HO.ext E4
      replace HP := HP.ext E4
      have EL2 := E4
      conv => whnf
      refine Blk.all Hk (by kernel_rfl) (by decide) rfl rfl (by intro v hv; simp at hv; subst hv; exact (Sl.cells (Own.sl HP.top)).2) fun w5 G5 Hk' => ?_
      have E5 : Ext w3 w5 := EL2.new G5 fun i hi hk => by omega
      replace Hk := Hk'.at
      replace Hg := Hg__2.ext E5
      replace EE := EE__2.ext E5
      replace Hb := Hb__2.ext E5
      replace EL1 := EL1__2.ext E5
      replace HO := HO__2.ext E5
      replace HP := HP__2.ext E5
      replace EL2 := E5
      have HKB := Hk'
      repeat' (conv => whnf
               first
               | (refine Dr.quiet tyOk (by kernel_rfl) ?_)
               | (refine Rng.mk (by omega) ?_)
               | (refine Split.pos (by omega) ?_)
               | (refine Split.neg (by omega) ?_)
               | (refine Split.mk (fun h => ?_) (fun h => ?_))
               | (refine Need.mk (by omega) ?_)
               | (refine Ints.ln (by assumption) ?_)
               | (refine Mat.ln (by assumption) ?_)
               | (refine Ints.ln (Mat.row (by assumption) _ (by omega)) ?_)
               | (refine Ints.ix (by assumption) (by omega) ?_)
               | (refine Mat.ix (by assumption) (by omega) ?_)
               | (refine Ints.ix (Mat.row (by assumption) _ (by omega)) (by omega) ?_)
               | (refine Ints.ix (c := 0) (by assumption) (by omega) ?_)
               | (refine Mat.ix (c := 0) (by assumption) (by omega) ?_)
               | (refine Ints.ix (c := 0) (Mat.row (by assumption) _ (by omega)) (by omega) ?_)
               | (refine Ints.ixI (by assumption) (by omega) ?_)
               | (refine Mat.ixI (by assumption) (by omega) ?_)
               | (refine Ints.ixI (Mat.row (by assumption) _ (by omega)) (by omega) ?_)
               | (refine Ints.ld (by assumption) (by omega) ?_)
               | (refine Mat.ld (by assumption) (by omega) ?_)
               | (refine Ints.ld (Mat.row (by assumption) _ (by omega)) (by omega) ?_)
               | (refine At.ld (by assumption) rfl ?_)
               | (refine At.ldN (by assumption) rfl ?_)
               | (refine Prs.ln (by assumption) ?_)
               | (refine Trs.ln (by assumption) ?_)
               | (refine Prs.ix (by assumption) (by omega) ?_)
               | (refine Trs.ix (by assumption) (by omega) ?_)
               | (refine Prs.ldN (by assumption) (by omega) ?_)
               | (refine Trs.ldN (by assumption) (by omega) ?_)
               | (refine At.ldN (Blk.at (by assumption)) rfl ?_)
               | (refine At.ld (Blk.at (by assumption)) rfl ?_)
               | (refine IxA.mk (by omega) ?_)
               | (refine Sl.ln (Own.sl (by assumption)) ?_)
               | (refine Ints.ix (Own.sl (by assumption)) (by omega) ?_)
               | (refine Ints.ixI (Own.sl (by assumption)) (by omega) ?_)
               | (refine Ints.ld (Own.sl (by assumption)) (by omega) ?_))
      refine Lp.mk tyOk [false, false, false, false, false, false, false, false, false, true, false, false, false, false, false, false, false, false, false, false, false, false, false, false, false, false, false, false, false, false, false, false, false, false, false, false, false, false, false, false, false, false, false, false, false, false, false, false, false, false, false, false, false, true, true, true, true, true, true, true, true, true, true, true, true, true, true, true, true, true, true, true, true, true] (fun m fr wr => getK fr 9 fun j => ∃ c : Nat, c ≤ (rr.getD i []).length ∧ m = (rr.getD i []).length - c ∧ j = .int .i64 (c : Int) ∧ (Blk wr bk 24 [tv]) ∧ (OMD w2.heap.size wr tv us (rrT rr i c mu)) ∧ Ext w2 wr) ((rr.getD i []).length) ?_ ?_
      · exact ⟨0, Nat.zero_le _, rfl, rfl, HKB, HO, EL1⟩
      · intro m w6 u9 u53 u54 u55 u56 u57 u58 u59 u60 u61 u62 u63 u64 u65 u66 u67 u68 u69 u70 u71 u72 u73 hR
        obtain ⟨c, hc, rfl, rfl, HKB, HO, EL1⟩ := hR
        replace Hg := Hg__1.ext EL1
        replace EE := EE__1.ext EL1
        replace Hb := Hb__1.ext EL1
        have HM := HO.mat
        have hl1 := rrT_len rr i c mu
        have hl2 := rrT_rlen (c := c) (m := mu) hi
        by_cases hcl : c < (rr.getD i []).length
        · have hat := rrT_at (m := mu) hi hcl
          have hv : 0 ≤ (rr.getD i []).getD c 0 ∧ (rr.getD i []).getD c 0 ≤ 1000 := hgd.val i c
          have hpb : 0 ≤ ((rrT rr i c mu).getD i []).getD c 0 * mu ∧ ((rrT rr i c mu).getD i []).getD c 0 * mu ≤ 1000 * mu := by
            rw [hat]
            exact ⟨Int.mul_nonneg hv.1 (by omega), Int.mul_le_mul_of_nonneg_right hv.2 (by omega)⟩
          repeat' (conv => whnf
                   first
                   | (refine Dr.quiet tyOk (by kernel_rfl) ?_)
                   | (refine Rng.mk (by omega) ?_)
                   | (refine Split.pos (by omega) ?_)
                   | (refine Split.neg (by omega) ?_)
                   | (refine Split.mk (fun h => ?_) (fun h => ?_))
                   | (refine Need.mk (by omega) ?_)
                   | (refine Ints.ln (by assumption) ?_)
                   | (refine Mat.ln (by assumption) ?_)
                   | (refine Ints.ln (Mat.row (by assumption) _ (by omega)) ?_)
                   | (refine Ints.ix (by assumption) (by omega) ?_)
                   | (refine Mat.ix (by assumption) (by omega) ?_)
                   | (refine Ints.ix (Mat.row (by assumption) _ (by omega)) (by omega) ?_)
                   | (refine Ints.ix (c := 0) (by assumption) (by omega) ?_)
                   | (refine Mat.ix (c := 0) (by assumption) (by omega) ?_)
                   | (refine Ints.ix (c := 0) (Mat.row (by assumption) _ (by omega)) (by omega) ?_)
                   | (refine Ints.ixI (by assumption) (by omega) ?_)
                   | (refine Mat.ixI (by assumption) (by omega) ?_)
                   | (refine Ints.ixI (Mat.row (by assumption) _ (by omega)) (by omega) ?_)
                   | (refine Ints.ld (by assumption) (by omega) ?_)
                   | (refine Mat.ld (by assumption) (by omega) ?_)
                   | (refine Ints.ld (Mat.row (by assumption) _ (by omega)) (by omega) ?_)
                   | (refine At.ld (by assumption) rfl ?_)
                   | (refine At.ldN (by assumption) rfl ?_)
                   | (refine Prs.ln (by assumption) ?_)
                   | (refine Trs.ln (by assumption) ?_)
                   | (refine Prs.ix (by assumption) (by omega) ?_)
                   | (refine Trs.ix (by assumption) (by omega) ?_)
                   | (refine Prs.ldN (by assumption) (by omega) ?_)
                   | (refine Trs.ldN (by assumption) (by omega) ?_)
                   | (refine At.ldN (Blk.at (by assumption)) rfl ?_)
                   | (refine At.ld (Blk.at (by assumption)) rfl ?_)
                   | (refine IxA.mk (by omega) ?_)
                   | (refine Sl.ln (Own.sl (by assumption)) ?_)
                   | (refine Ints.ix (Own.sl (by assumption)) (by omega) ?_)
                   | (refine Ints.ixI (Own.sl (by assumption)) (by omega) ?_)
                   | (refine Ints.ld (Own.sl (by assumption)) (by omega) ?_))
          refine OMD.st HO (by omega) (by omega) fun w9 G9 HO9 => ?_
          have E9 : Ext w2 w9 := Own.keep (HO.row i (by omega)) EL1 (Nat.le_refl _) G9
          replace HKB := Blk.gr HKB G9 (Blk.nerow HKB (HO.row i (by omega)) (by decide))
          rw [hat, rrT_set hi hcl] at HO9
          replace EL1 := E9
          repeat' (conv => whnf
                   first
                   | (refine Dr.quiet tyOk (by kernel_rfl) ?_)
                   | (refine Rng.mk (by omega) ?_)
                   | (refine Split.pos (by omega) ?_)
                   | (refine Split.neg (by omega) ?_)
                   | (refine Split.mk (fun h => ?_) (fun h => ?_))
                   | (refine Need.mk (by omega) ?_)
                   | (refine Ints.ln (by assumption) ?_)
                   | (refine Mat.ln (by assumption) ?_)
                   | (refine Ints.ln (Mat.row (by assumption) _ (by omega)) ?_)
                   | (refine Ints.ix (by assumption) (by omega) ?_)
                   | (refine Mat.ix (by assumption) (by omega) ?_)
                   | (refine Ints.ix (Mat.row (by assumption) _ (by omega)) (by omega) ?_)
                   | (refine Ints.ix (c := 0) (by assumption) (by omega) ?_)
                   | (refine Mat.ix (c := 0) (by assumption) (by omega) ?_)
                   | (refine Ints.ix (c := 0) (Mat.row (by assumption) _ (by omega)) (by omega) ?_)
                   | (refine Ints.ixI (by assumption) (by omega) ?_)
                   | (refine Mat.ixI (by assumption) (by omega) ?_)
                   | (refine Ints.ixI (Mat.row (by assumption) _ (by omega)) (by omega) ?_)
                   | (refine Ints.ld (by assumption) (by omega) ?_)
                   | (refine Mat.ld (by assumption) (by omega) ?_)
                   | (refine Ints.ld (Mat.row (by assumption) _ (by omega)) (by omega) ?_)
                   | (refine At.ld (by assumption) rfl ?_)
                   | (refine At.ldN (by assumption) rfl ?_)
                   | (refine Prs.ln (by assumption) ?_)
                   | (refine Trs.ln (by assumption) ?_)
                   | (refine Prs.ix (by assumption) (by omega) ?_)
                   | (refine Trs.ix (by assumption) (by omega) ?_)
                   | (refine Prs.ldN (by assumption) (by omega) ?_)
                   | (refine Trs.ldN (by assumption) (by omega) ?_)
                   | (refine At.ldN (Blk.at (by assumption)) rfl ?_)
                   | (refine At.ld (Blk.at (by assumption)) rfl ?_)
                   | (refine IxA.mk (by omega) ?_)
                   | (refine Sl.ln (Own.sl (by assumption)) ?_)
                   | (refine Ints.ix (Own.sl (by assumption)) (by omega) ?_)
                   | (refine Ints.ixI (Own.sl (by assumption)) (by omega) ?_)
                   | (refine Ints.ld (Own.sl (by assumption)) (by omega) ?_))
          refine ⟨_, (by omega : (rr.getD i []).length - (c + 1) < (rr.getD i []).length - c), rfl, c + 1, by omega, rfl, rfl, HKB, HO9, EL1⟩
        · obtain rfl : c = (rr.getD i []).length := by omega
          have Hk := Blk.at HKB
          rw [rrT_full hi] at HO HM hl1 hl2
          repeat' (conv => whnf
                   first
                   | (refine Dr.quiet tyOk (by kernel_rfl) ?_)
                   | (refine Rng.mk (by omega) ?_)
                   | (refine Split.pos (by omega) ?_)
                   | (refine Split.neg (by omega) ?_)
                   | (refine Split.mk (fun h => ?_) (fun h => ?_))
                   | (refine Need.mk (by omega) ?_)
                   | (refine Ints.ln (by assumption) ?_)
                   | (refine Mat.ln (by assumption) ?_)
                   | (refine Ints.ln (Mat.row (by assumption) _ (by omega)) ?_)
                   | (refine Ints.ix (by assumption) (by omega) ?_)
                   | (refine Mat.ix (by assumption) (by omega) ?_)
                   | (refine Ints.ix (Mat.row (by assumption) _ (by omega)) (by omega) ?_)
                   | (refine Ints.ix (c := 0) (by assumption) (by omega) ?_)
                   | (refine Mat.ix (c := 0) (by assumption) (by omega) ?_)
                   | (refine Ints.ix (c := 0) (Mat.row (by assumption) _ (by omega)) (by omega) ?_)
                   | (refine Ints.ixI (by assumption) (by omega) ?_)
                   | (refine Mat.ixI (by assumption) (by omega) ?_)
                   | (refine Ints.ixI (Mat.row (by assumption) _ (by omega)) (by omega) ?_)
                   | (refine Ints.ld (by assumption) (by omega) ?_)
                   | (refine Mat.ld (by assumption) (by omega) ?_)
                   | (refine Ints.ld (Mat.row (by assumption) _ (by omega)) (by omega) ?_)
                   | (refine At.ld (by assumption) rfl ?_)
                   | (refine At.ldN (by assumption) rfl ?_)
                   | (refine Prs.ln (by assumption) ?_)
                   | (refine Trs.ln (by assumption) ?_)
                   | (refine Prs.ix (by assumption) (by omega) ?_)
                   | (refine Trs.ix (by assumption) (by omega) ?_)
                   | (refine Prs.ldN (by assumption) (by omega) ?_)
                   | (refine Trs.ldN (by assumption) (by omega) ?_)
                   | (refine At.ldN (Blk.at (by assumption)) rfl ?_)
                   | (refine At.ld (Blk.at (by assumption)) rfl ?_)
                   | (refine IxA.mk (by omega) ?_)
                   | (refine Sl.ln (Own.sl (by assumption)) ?_)
                   | (refine Ints.ix (Own.sl (by assumption)) (by omega) ?_)
                   | (refine Ints.ixI (Own.sl (by assumption)) (by omega) ?_)
                   | (refine Ints.ld (Own.sl (by assumption)) (by omega) ?_))
          conv => whnf
          refine VC.rc (nbest_rc Hg) ?_
          rintro _ w7 E7 ⟨av, rfl, HA⟩
          replace Hg := Hg.ext E7
          replace EE := EE.ext E7
          replace Hb := Hb.ext E7
          replace EL1 := EL1.ext E7
          replace HKB := HKB.ext E7
          replace HO := HO.ext E7
          replace HM := HM.ext E7
          replace Hk := Hk.ext E7
          repeat' (conv => whnf
                   first
                   | (refine Dr.quiet tyOk (by kernel_rfl) ?_)
                   | (refine Rng.mk (by omega) ?_)
                   | (refine Split.pos (by omega) ?_)
                   | (refine Split.neg (by omega) ?_)
                   | (refine Split.mk (fun h => ?_) (fun h => ?_))
                   | (refine Need.mk (by omega) ?_)
                   | (refine Ints.ln (by assumption) ?_)
                   | (refine Mat.ln (by assumption) ?_)
                   | (refine Ints.ln (Mat.row (by assumption) _ (by omega)) ?_)
                   | (refine Ints.ix (by assumption) (by omega) ?_)
                   | (refine Mat.ix (by assumption) (by omega) ?_)
                   | (refine Ints.ix (Mat.row (by assumption) _ (by omega)) (by omega) ?_)
                   | (refine Ints.ix (c := 0) (by assumption) (by omega) ?_)
                   | (refine Mat.ix (c := 0) (by assumption) (by omega) ?_)
                   | (refine Ints.ix (c := 0) (Mat.row (by assumption) _ (by omega)) (by omega) ?_)
                   | (refine Ints.ixI (by assumption) (by omega) ?_)
                   | (refine Mat.ixI (by assumption) (by omega) ?_)
                   | (refine Ints.ixI (Mat.row (by assumption) _ (by omega)) (by omega) ?_)
                   | (refine Ints.ld (by assumption) (by omega) ?_)
                   | (refine Mat.ld (by assumption) (by omega) ?_)
                   | (refine Ints.ld (Mat.row (by assumption) _ (by omega)) (by omega) ?_)
                   | (refine At.ld (by assumption) rfl ?_)
                   | (refine At.ldN (by assumption) rfl ?_)
                   | (refine Prs.ln (by assumption) ?_)
                   | (refine Trs.ln (by assumption) ?_)
                   | (refine Prs.ix (by assumption) (by omega) ?_)
                   | (refine Trs.ix (by assumption) (by omega) ?_)
                   | (refine Prs.ldN (by assumption) (by omega) ?_)
                   | (refine Trs.ldN (by assumption) (by omega) ?_)
                   | (refine At.ldN (Blk.at (by assumption)) rfl ?_)
                   | (refine At.ld (Blk.at (by assumption)) rfl ?_)
                   | (refine IxA.mk (by omega) ?_)
                   | (refine Sl.ln (Own.sl (by assumption)) ?_)
                   | (refine Ints.ix (Own.sl (by assumption)) (by omega) ?_)
                   | (refine Ints.ixI (Own.sl (by assumption)) (by omega) ?_)
                   | (refine Ints.ld (Own.sl (by assumption)) (by omega) ?_))
          have Hg__3 := Hg
          have EE__3 := EE
          have Hb__3 := Hb
          have EL1__3 := EL1
          have HKB__3 := HKB
          have HO__3 := HO
          have HM__3 := HM
          have Hk__3 := Hk
          have HA__3 := HA
          conv => whnf
          refine VE.alloc eProd fun pb w8 E8 hb_pb Hp => ?_
          replace Hg := Hg.ext E8
          replace EE := EE.ext E8
          replace Hb := Hb.ext E8
          replace EL1 := EL1.ext E8
          replace HKB := HKB.ext E8
          replace HO := HO.ext E8
          replace HM := HM.ext E8
          replace Hk := Hk.ext E8
          replace HA := HA.ext E8
          have EL3 := E8
          repeat' (conv => whnf
                   first
                   | (refine Dr.quiet tyOk (by kernel_rfl) ?_)
                   | (refine Rng.mk (by omega) ?_)
                   | (refine Split.pos (by omega) ?_)
                   | (refine Split.neg (by omega) ?_)
                   | (refine Split.mk (fun h => ?_) (fun h => ?_))
                   | (refine Need.mk (by omega) ?_)
                   | (refine Ints.ln (by assumption) ?_)
                   | (refine Mat.ln (by assumption) ?_)
                   | (refine Ints.ln (Mat.row (by assumption) _ (by omega)) ?_)
                   | (refine Ints.ix (by assumption) (by omega) ?_)
                   | (refine Mat.ix (by assumption) (by omega) ?_)
                   | (refine Ints.ix (Mat.row (by assumption) _ (by omega)) (by omega) ?_)
                   | (refine Ints.ix (c := 0) (by assumption) (by omega) ?_)
                   | (refine Mat.ix (c := 0) (by assumption) (by omega) ?_)
                   | (refine Ints.ix (c := 0) (Mat.row (by assumption) _ (by omega)) (by omega) ?_)
                   | (refine Ints.ixI (by assumption) (by omega) ?_)
                   | (refine Mat.ixI (by assumption) (by omega) ?_)
                   | (refine Ints.ixI (Mat.row (by assumption) _ (by omega)) (by omega) ?_)
                   | (refine Ints.ld (by assumption) (by omega) ?_)
                   | (refine Mat.ld (by assumption) (by omega) ?_)
                   | (refine Ints.ld (Mat.row (by assumption) _ (by omega)) (by omega) ?_)
                   | (refine At.ld (by assumption) rfl ?_)
                   | (refine At.ldN (by assumption) rfl ?_)
                   | (refine Prs.ln (by assumption) ?_)
                   | (refine Trs.ln (by assumption) ?_)
                   | (refine Prs.ix (by assumption) (by omega) ?_)
                   | (refine Trs.ix (by assumption) (by omega) ?_)
                   | (refine Prs.ldN (by assumption) (by omega) ?_)
                   | (refine Trs.ldN (by assumption) (by omega) ?_)
                   | (refine At.ldN (Blk.at (by assumption)) rfl ?_)
                   | (refine At.ld (Blk.at (by assumption)) rfl ?_)
                   | (refine IxA.mk (by omega) ?_)
                   | (refine Sl.ln (Own.sl (by assumption)) ?_)
                   | (refine Ints.ix (Own.sl (by assumption)) (by omega) ?_)
                   | (refine Ints.ixI (Own.sl (by assumption)) (by omega) ?_)
                   | (refine Ints.ld (Own.sl (by assumption)) (by omega) ?_))
          refine Blk.all Hp (by kernel_rfl) (by first | decide | simp) rfl rfl (by intro v hv; simp at hv; rcases hv with rfl | rfl | rfl | rfl | rfl <;> rfl) fun w9 G9 Hp' => ?_
          have E9 : Ext w7 w9 := EL3.new G9 fun i hi hk => by omega
          replace Hp := Hp'
          replace Hg := Hg__3.ext E9
          replace EE := EE__3.ext E9
          replace Hb := Hb__3.ext E9
          replace EL1 := EL1__3.ext E9
          replace HKB := HKB__3.ext E9
          replace HO := HO__3.ext E9
          replace HM := HM__3.ext E9
          replace Hk := Hk__3.ext E9
          replace HA := HA__3.ext E9
          replace EL3 := E9
          by_cases hE : nbE rr = 0
          · obtain ⟨hck0, ht⟩ := nbE_zero hE
            obtain ⟨hva, hca⟩ := nbest_ok hck
            have hal := al_of_vld hva
            have hm := hal.m10
            have hlen := hal.len
            rw [nbA, if_pos hE] at HA
            rw [nbP, if_pos hE] at Hp
            rw [hE]
            have c2 := rcheck_pc HM
            by_cases hcount : (prd rr (nbest rr)).1 = rr.length ∧ chk (rrS rr i mu) = 0
            · obtain ⟨hc1, hc2⟩ := hcount
              rw [hc2] at c2
              have hcn : cntP (gain rr (nbest rr)) rr.length = rr.length := hc1
              repeat' (conv => whnf
                       first
                       | (refine Dr.quiet tyOk (by kernel_rfl) ?_)
                       | (refine VC.pure c2 ?_)
                       | (refine Rng.mk (by omega) ?_)
                       | (refine Split.pos (by omega) ?_)
                       | (refine Split.neg (by omega) ?_)
                       | (refine Split.mk (fun h => ?_) (fun h => ?_))
                       | (refine Need.mk (by omega) ?_)
                       | (refine Ints.ln (by assumption) ?_)
                       | (refine Mat.ln (by assumption) ?_)
                       | (refine Ints.ln (Mat.row (by assumption) _ (by omega)) ?_)
                       | (refine Ints.ix (by assumption) (by omega) ?_)
                       | (refine Mat.ix (by assumption) (by omega) ?_)
                       | (refine Ints.ix (Mat.row (by assumption) _ (by omega)) (by omega) ?_)
                       | (refine Ints.ix (c := 0) (by assumption) (by omega) ?_)
                       | (refine Mat.ix (c := 0) (by assumption) (by omega) ?_)
                       | (refine Ints.ix (c := 0) (Mat.row (by assumption) _ (by omega)) (by omega) ?_)
                       | (refine Ints.ixI (by assumption) (by omega) ?_)
                       | (refine Mat.ixI (by assumption) (by omega) ?_)
                       | (refine Ints.ixI (Mat.row (by assumption) _ (by omega)) (by omega) ?_)
                       | (refine Ints.ld (by assumption) (by omega) ?_)
                       | (refine Mat.ld (by assumption) (by omega) ?_)
                       | (refine Ints.ld (Mat.row (by assumption) _ (by omega)) (by omega) ?_)
                       | (refine At.ld (by assumption) rfl ?_)
                       | (refine At.ldN (by assumption) rfl ?_)
                       | (refine Prs.ln (by assumption) ?_)
                       | (refine Trs.ln (by assumption) ?_)
                       | (refine Prs.ix (by assumption) (by omega) ?_)
                       | (refine Trs.ix (by assumption) (by omega) ?_)
                       | (refine Prs.ldN (by assumption) (by omega) ?_)
                       | (refine Trs.ldN (by assumption) (by omega) ?_)
                       | (refine At.ldN (Blk.at (by assumption)) rfl ?_)
                       | (refine At.ld (Blk.at (by assumption)) rfl ?_)
                       | (refine IxA.mk (by omega) ?_)
                       | (refine Sl.ln (Own.sl (by assumption)) ?_)
                       | (refine Ints.ix (Own.sl (by assumption)) (by omega) ?_)
                       | (refine Ints.ixI (Own.sl (by assumption)) (by omega) ?_)
                       | (refine Ints.ld (Own.sl (by assumption)) (by omega) ?_))
              conv => whnf
              refine VC.rc (nbest_rc HM) ?_
              rintro _ w10 E10 ⟨bv, rfl, HB⟩
              replace Hg := Hg.ext E10
              replace EE := EE.ext E10
              replace Hb := Hb.ext E10
              replace EL1 := EL1.ext E10
              replace HKB := HKB.ext E10
              replace HO := HO.ext E10
              replace HM := HM.ext E10
              replace Hk := Hk.ext E10
              replace HA := HA.ext E10
              replace EL3 := EL3.ext E10
              replace Hp := Hp.ext E10
              have htt : tot (rrS rr i mu) = tot rr := by unfold tot; rw [rrS_len, rrS_mOf hi]
              have hE2 : nbE (rrS rr i mu) = 0 := nbE_ok hc2 (by omega)
              rw [nbA, if_pos hE2, nash_scale hn1 hi q3 hcn] at HB
              rw [hE2]
              repeat' (conv => whnf
                       first
                       | (refine Dr.quiet tyOk (by kernel_rfl) ?_)
                       | (refine Rng.mk (by omega) ?_)
                       | (refine Split.pos (by omega) ?_)
                       | (refine Split.neg (by omega) ?_)
                       | (refine Split.mk (fun h => ?_) (fun h => ?_))
                       | (refine Need.mk (by omega) ?_)
                       | (refine Ints.ln (by assumption) ?_)
                       | (refine Mat.ln (by assumption) ?_)
                       | (refine Ints.ln (Mat.row (by assumption) _ (by omega)) ?_)
                       | (refine Ints.ix (by assumption) (by omega) ?_)
                       | (refine Mat.ix (by assumption) (by omega) ?_)
                       | (refine Ints.ix (Mat.row (by assumption) _ (by omega)) (by omega) ?_)
                       | (refine Ints.ix (c := 0) (by assumption) (by omega) ?_)
                       | (refine Mat.ix (c := 0) (by assumption) (by omega) ?_)
                       | (refine Ints.ix (c := 0) (Mat.row (by assumption) _ (by omega)) (by omega) ?_)
                       | (refine Ints.ixI (by assumption) (by omega) ?_)
                       | (refine Mat.ixI (by assumption) (by omega) ?_)
                       | (refine Ints.ixI (Mat.row (by assumption) _ (by omega)) (by omega) ?_)
                       | (refine Ints.ld (by assumption) (by omega) ?_)
                       | (refine Mat.ld (by assumption) (by omega) ?_)
                       | (refine Ints.ld (Mat.row (by assumption) _ (by omega)) (by omega) ?_)
                       | (refine At.ld (by assumption) rfl ?_)
                       | (refine At.ldN (by assumption) rfl ?_)
                       | (refine Prs.ln (by assumption) ?_)
                       | (refine Trs.ln (by assumption) ?_)
                       | (refine Prs.ix (by assumption) (by omega) ?_)
                       | (refine Trs.ix (by assumption) (by omega) ?_)
                       | (refine Prs.ldN (by assumption) (by omega) ?_)
                       | (refine Trs.ldN (by assumption) (by omega) ?_)
                       | (refine At.ldN (Blk.at (by assumption)) rfl ?_)
                       | (refine At.ld (Blk.at (by assumption)) rfl ?_)
                       | (refine IxA.mk (by omega) ?_)
                       | (refine Sl.ln (Own.sl (by assumption)) ?_)
                       | (refine Ints.ix (Own.sl (by assumption)) (by omega) ?_)
                       | (refine Ints.ixI (Own.sl (by assumption)) (by omega) ?_)
                       | (refine Ints.ld (Own.sl (by assumption)) (by omega) ?_))
              have Hg__4 := Hg
              have EE__4 := EE
              have Hb__4 := Hb
              have EL1__4 := EL1
              have HKB__4 := HKB
              have HO__4 := HO
              have HM__4 := HM
              have Hk__4 := Hk
              have HA__4 := HA
              have EL3__4 := EL3
              have Hp__4 := Hp
              have HB__4 := HB
              conv => whnf
              refine VE.alloc eProd fun qb w11 E11 hb_qb Hq => ?_
              replace Hg := Hg.ext E11
              replace EE := EE.ext E11
              replace Hb := Hb.ext E11
              replace EL1 := EL1.ext E11
              replace HKB := HKB.ext E11
              replace HO := HO.ext E11
              replace HM := HM.ext E11
              replace Hk := Hk.ext E11
              replace HA := HA.ext E11
              replace EL3 := EL3.ext E11
              replace Hp := Hp.ext E11
              replace HB := HB.ext E11
              have EL4 := E11
              repeat' (conv => whnf
                       first
                       | (refine Dr.quiet tyOk (by kernel_rfl) ?_)
                       | (refine Rng.mk (by omega) ?_)
                       | (refine Split.pos (by omega) ?_)
                       | (refine Split.neg (by omega) ?_)
                       | (refine Split.mk (fun h => ?_) (fun h => ?_))
                       | (refine Need.mk (by omega) ?_)
                       | (refine Ints.ln (by assumption) ?_)
                       | (refine Mat.ln (by assumption) ?_)
                       | (refine Ints.ln (Mat.row (by assumption) _ (by omega)) ?_)
                       | (refine Ints.ix (by assumption) (by omega) ?_)
                       | (refine Mat.ix (by assumption) (by omega) ?_)
                       | (refine Ints.ix (Mat.row (by assumption) _ (by omega)) (by omega) ?_)
                       | (refine Ints.ix (c := 0) (by assumption) (by omega) ?_)
                       | (refine Mat.ix (c := 0) (by assumption) (by omega) ?_)
                       | (refine Ints.ix (c := 0) (Mat.row (by assumption) _ (by omega)) (by omega) ?_)
                       | (refine Ints.ixI (by assumption) (by omega) ?_)
                       | (refine Mat.ixI (by assumption) (by omega) ?_)
                       | (refine Ints.ixI (Mat.row (by assumption) _ (by omega)) (by omega) ?_)
                       | (refine Ints.ld (by assumption) (by omega) ?_)
                       | (refine Mat.ld (by assumption) (by omega) ?_)
                       | (refine Ints.ld (Mat.row (by assumption) _ (by omega)) (by omega) ?_)
                       | (refine At.ld (by assumption) rfl ?_)
                       | (refine At.ldN (by assumption) rfl ?_)
                       | (refine Prs.ln (by assumption) ?_)
                       | (refine Trs.ln (by assumption) ?_)
                       | (refine Prs.ix (by assumption) (by omega) ?_)
                       | (refine Trs.ix (by assumption) (by omega) ?_)
                       | (refine Prs.ldN (by assumption) (by omega) ?_)
                       | (refine Trs.ldN (by assumption) (by omega) ?_)
                       | (refine At.ldN (Blk.at (by assumption)) rfl ?_)
                       | (refine At.ld (Blk.at (by assumption)) rfl ?_)
                       | (refine IxA.mk (by omega) ?_)
                       | (refine Sl.ln (Own.sl (by assumption)) ?_)
                       | (refine Ints.ix (Own.sl (by assumption)) (by omega) ?_)
                       | (refine Ints.ixI (Own.sl (by assumption)) (by omega) ?_)
                       | (refine Ints.ld (Own.sl (by assumption)) (by omega) ?_))
              refine Blk.all Hq (by kernel_rfl) (by first | decide | simp) rfl rfl (by intro v hv; simp at hv; rcases hv with rfl | rfl | rfl | rfl | rfl <;> rfl) fun w12 G12 Hq' => ?_
              have E12 : Ext w10 w12 := EL4.new G12 fun i hi hk => by omega
              replace Hq := Hq'
              replace Hg := Hg__4.ext E12
              replace EE := EE__4.ext E12
              replace Hb := Hb__4.ext E12
              replace EL1 := EL1__4.ext E12
              replace HKB := HKB__4.ext E12
              replace HO := HO__4.ext E12
              replace HM := HM__4.ext E12
              replace Hk := Hk__4.ext E12
              replace HA := HA__4.ext E12
              replace EL3 := EL3__4.ext E12
              replace Hp := Hp__4.ext E12
              replace HB := HB__4.ext E12
              replace EL4 := E12
              have cs := same_pc (Own.sl HA) (Own.sl HB)
              rw [tf_t rfl] at cs
              repeat' (conv => whnf
                       first
                       | (refine Dr.quiet tyOk (by kernel_rfl) ?_)
                       | (refine VC.pure cs ?_)
                       | (refine Rng.mk (by omega) ?_)
                       | (refine Split.pos (by omega) ?_)
                       | (refine Split.neg (by omega) ?_)
                       | (refine Split.mk (fun h => ?_) (fun h => ?_))
                       | (refine Need.mk (by omega) ?_)
                       | (refine Ints.ln (by assumption) ?_)
                       | (refine Mat.ln (by assumption) ?_)
                       | (refine Ints.ln (Mat.row (by assumption) _ (by omega)) ?_)
                       | (refine Ints.ix (by assumption) (by omega) ?_)
                       | (refine Mat.ix (by assumption) (by omega) ?_)
                       | (refine Ints.ix (Mat.row (by assumption) _ (by omega)) (by omega) ?_)
                       | (refine Ints.ix (c := 0) (by assumption) (by omega) ?_)
                       | (refine Mat.ix (c := 0) (by assumption) (by omega) ?_)
                       | (refine Ints.ix (c := 0) (Mat.row (by assumption) _ (by omega)) (by omega) ?_)
                       | (refine Ints.ixI (by assumption) (by omega) ?_)
                       | (refine Mat.ixI (by assumption) (by omega) ?_)
                       | (refine Ints.ixI (Mat.row (by assumption) _ (by omega)) (by omega) ?_)
                       | (refine Ints.ld (by assumption) (by omega) ?_)
                       | (refine Mat.ld (by assumption) (by omega) ?_)
                       | (refine Ints.ld (Mat.row (by assumption) _ (by omega)) (by omega) ?_)
                       | (refine At.ld (by assumption) rfl ?_)
                       | (refine At.ldN (by assumption) rfl ?_)
                       | (refine Prs.ln (by assumption) ?_)
                       | (refine Trs.ln (by assumption) ?_)
                       | (refine Prs.ix (by assumption) (by omega) ?_)
                       | (refine Trs.ix (by assumption) (by omega) ?_)
                       | (refine Prs.ldN (by assumption) (by omega) ?_)
                       | (refine Trs.ldN (by assumption) (by omega) ?_)
                       | (refine At.ldN (Blk.at (by assumption)) rfl ?_)
                       | (refine At.ld (Blk.at (by assumption)) rfl ?_)
                       | (refine IxA.mk (by omega) ?_)
                       | (refine Sl.ln (Own.sl (by assumption)) ?_)
                       | (refine Ints.ix (Own.sl (by assumption)) (by omega) ?_)
                       | (refine Ints.ixI (Own.sl (by assumption)) (by omega) ?_)
                       | (refine Ints.ld (Own.sl (by assumption)) (by omega) ?_))
              conv => whnf
              refine VC.rc (ngain_rc Hg) ?_
              rintro _ w13 E13 ⟨ga, rfl, HG⟩
              replace Hg := Hg.ext E13
              replace EE := EE.ext E13
              replace Hb := Hb.ext E13
              replace EL1 := EL1.ext E13
              replace HKB := HKB.ext E13
              replace HO := HO.ext E13
              replace HM := HM.ext E13
              replace Hk := Hk.ext E13
              replace HA := HA.ext E13
              replace EL3 := EL3.ext E13
              replace Hp := Hp.ext E13
              replace HB := HB.ext E13
              replace EL4 := EL4.ext E13
              replace Hq := Hq.ext E13
              rw [ngA, if_pos hE] at HG
              rw [hE]
              have hgl : ((List.range rr.length).map (gain rr (nbest rr))).length = rr.length := by simp
              repeat' (conv => whnf
                       first
                       | (refine Dr.quiet tyOk (by kernel_rfl) ?_)
                       | (refine Rng.mk (by omega) ?_)
                       | (refine Split.pos (by omega) ?_)
                       | (refine Split.neg (by omega) ?_)
                       | (refine Split.mk (fun h => ?_) (fun h => ?_))
                       | (refine Need.mk (by omega) ?_)
                       | (refine Ints.ln (by assumption) ?_)
                       | (refine Mat.ln (by assumption) ?_)
                       | (refine Ints.ln (Mat.row (by assumption) _ (by omega)) ?_)
                       | (refine Ints.ix (by assumption) (by omega) ?_)
                       | (refine Mat.ix (by assumption) (by omega) ?_)
                       | (refine Ints.ix (Mat.row (by assumption) _ (by omega)) (by omega) ?_)
                       | (refine Ints.ix (c := 0) (by assumption) (by omega) ?_)
                       | (refine Mat.ix (c := 0) (by assumption) (by omega) ?_)
                       | (refine Ints.ix (c := 0) (Mat.row (by assumption) _ (by omega)) (by omega) ?_)
                       | (refine Ints.ixI (by assumption) (by omega) ?_)
                       | (refine Mat.ixI (by assumption) (by omega) ?_)
                       | (refine Ints.ixI (Mat.row (by assumption) _ (by omega)) (by omega) ?_)
                       | (refine Ints.ld (by assumption) (by omega) ?_)
                       | (refine Mat.ld (by assumption) (by omega) ?_)
                       | (refine Ints.ld (Mat.row (by assumption) _ (by omega)) (by omega) ?_)
                       | (refine At.ld (by assumption) rfl ?_)
                       | (refine At.ldN (by assumption) rfl ?_)
                       | (refine Prs.ln (by assumption) ?_)
                       | (refine Trs.ln (by assumption) ?_)
                       | (refine Prs.ix (by assumption) (by omega) ?_)
                       | (refine Trs.ix (by assumption) (by omega) ?_)
                       | (refine Prs.ldN (by assumption) (by omega) ?_)
                       | (refine Trs.ldN (by assumption) (by omega) ?_)
                       | (refine At.ldN (Blk.at (by assumption)) rfl ?_)
                       | (refine At.ld (Blk.at (by assumption)) rfl ?_)
                       | (refine IxA.mk (by omega) ?_)
                       | (refine Sl.ln (Own.sl (by assumption)) ?_)
                       | (refine Ints.ix (Own.sl (by assumption)) (by omega) ?_)
                       | (refine Ints.ixI (Own.sl (by assumption)) (by omega) ?_)
                       | (refine Ints.ld (Own.sl (by assumption)) (by omega) ?_))
              refine Lp.mk tyOk [false, false, false, false, false, false, true, false, false, false, false, false, false, false, false, false, false, false, true, true, true, false, false, false, false, false, false, false, false, false, false, false, false, false, false, false, false, false, false, false, false, false, false, false, false, false, false, false, false, false, false, false, false, false, false, false, false, false, false, false, false, false, false, false, false, false, false, false, false, false, false, false, false, false, false, false, false, false, false, false, false, false, false, false, false, false, false, false, false, false, false, false, false, false, false, false, false, false, false, false, false, false, false, false, false, false, false, false, false, false, false, false, false, false, false, false, false, false, false, false, false, false, false, false, false, false, false, true, true, true, true, true, true, true, true, true, true, true, true, true, true, true, true, true, true, true, true, true, true, true, true, true, true, true, true, true, true, true, true, true, true, true, true, true, true, true, true, true, true, true, true, true, true, true, true, true, true] (fun m fr wr => getK fr 18 fun kk => ∃ k : Nat, k ≤ rr.length ∧ m = rr.length - k ∧ kk = .int .i64 (k : Int) ∧ wr = w13) (rr.length) ?_ ?_
              · exact ⟨0, Nat.zero_le _, rfl, rfl, rfl⟩
              · intro m w14 u6 u18 u19 u20 u127 u128 u129 u130 u131 u132 u133 u134 u135 u136 u137 u138 u139 u140 u141 u142 u143 u144 u145 u146 u147 u148 u149 u150 u151 u152 u153 u154 u155 u156 u157 u158 u159 u160 u161 u162 u163 u164 u165 u166 u167 u168 u169 u170 u171 u172 u173 u174 u175 u176 hR
                obtain ⟨k, hk, rfl, rfl, rfl⟩ := hR
                by_cases hkl : k < rr.length
                · have hrk := hgd.row k hkl
                  repeat' (conv => whnf
                           first
                           | (refine Dr.quiet tyOk (by kernel_rfl) ?_)
                           | (refine Rng.mk (by omega) ?_)
                           | (refine Split.pos (by omega) ?_)
                           | (refine Split.neg (by omega) ?_)
                           | (refine Split.mk (fun h => ?_) (fun h => ?_))
                           | (refine Need.mk (by omega) ?_)
                           | (refine Ints.ln (by assumption) ?_)
                           | (refine Mat.ln (by assumption) ?_)
                           | (refine Ints.ln (Mat.row (by assumption) _ (by omega)) ?_)
                           | (refine Ints.ix (by assumption) (by omega) ?_)
                           | (refine Mat.ix (by assumption) (by omega) ?_)
                           | (refine Ints.ix (Mat.row (by assumption) _ (by omega)) (by omega) ?_)
                           | (refine Ints.ix (c := 0) (by assumption) (by omega) ?_)
                           | (refine Mat.ix (c := 0) (by assumption) (by omega) ?_)
                           | (refine Ints.ix (c := 0) (Mat.row (by assumption) _ (by omega)) (by omega) ?_)
                           | (refine Ints.ixI (by assumption) (by omega) ?_)
                           | (refine Mat.ixI (by assumption) (by omega) ?_)
                           | (refine Ints.ixI (Mat.row (by assumption) _ (by omega)) (by omega) ?_)
                           | (refine Ints.ld (by assumption) (by omega) ?_)
                           | (refine Mat.ld (by assumption) (by omega) ?_)
                           | (refine Ints.ld (Mat.row (by assumption) _ (by omega)) (by omega) ?_)
                           | (refine At.ld (by assumption) rfl ?_)
                           | (refine At.ldN (by assumption) rfl ?_)
                           | (refine Prs.ln (by assumption) ?_)
                           | (refine Trs.ln (by assumption) ?_)
                           | (refine Prs.ix (by assumption) (by omega) ?_)
                           | (refine Trs.ix (by assumption) (by omega) ?_)
                           | (refine Prs.ldN (by assumption) (by omega) ?_)
                           | (refine Trs.ldN (by assumption) (by omega) ?_)
                           | (refine At.ldN (Blk.at (by assumption)) rfl ?_)
                           | (refine At.ld (Blk.at (by assumption)) rfl ?_)
                           | (refine IxA.mk (by omega) ?_)
                           | (refine Sl.ln (Own.sl (by assumption)) ?_)
                           | (refine Ints.ix (Own.sl (by assumption)) (by omega) ?_)
                           | (refine Ints.ixI (Own.sl (by assumption)) (by omega) ?_)
                           | (refine Ints.ld (Own.sl (by assumption)) (by omega) ?_))
                  refine Lp.mk tyOk [false, false, false, false, false, false, false, false, false, false, false, false, false, false, false, false, false, false, false, true, true, false, false, false, false, false, false, false, false, false, false, false, false, false, false, false, false, false, false, false, false, false, false, false, false, false, false, false, false, false, false, false, false, false, false, false, false, false, false, false, false, false, false, false, false, false, false, false, false, false, false, false, false, false, false, false, false, false, false, false, false, false, false, false, false, false, false, false, false, false, false, false, false, false, false, false, false, false, false, false, false, false, false, false, false, false, false, false, false, false, false, false, false, false, false, false, false, false, false, false, false, false, false, false, false, false, false, false, false, false, false, false, false, true, true, true, true, true, true, true, true, true, true, true, true, true, true, true, true, true, true, true, true] (fun m fr wr => getK fr 20 fun dd => getK fr 19 fun mo => ∃ d : Nat, d ≤ (rr.getD k []).length ∧ m = (rr.getD k []).length - d ∧ dd = .int .i64 (d : Int) ∧ mo = .int .i64 (mxT (fun j => (rr.getD k []).getD j 0) d) ∧ wr = w14) ((rr.getD k []).length) ?_ ?_
                  · exact ⟨0, Nat.zero_le _, rfl, rfl, rfl, rfl⟩
                  · intro m w15 u19 u20 u133 u134 u135 u136 u137 u138 u139 u140 u141 u142 u143 u144 u145 u146 u147 u148 u149 u150 u151 u152 hR
                    obtain ⟨d, hd, rfl, rfl, rfl, rfl⟩ := hR
                    by_cases hdl : d < (rr.getD k []).length
                    · repeat' (conv => whnf
                               first
                               | (refine Dr.quiet tyOk (by kernel_rfl) ?_)
                               | (refine Rng.mk (by omega) ?_)
                               | (refine Split.pos (by omega) ?_)
                               | (refine Split.neg (by omega) ?_)
                               | (refine Split.mk (fun h => ?_) (fun h => ?_))
                               | (refine Need.mk (by omega) ?_)
                               | (refine Ints.ln (by assumption) ?_)
                               | (refine Mat.ln (by assumption) ?_)
                               | (refine Ints.ln (Mat.row (by assumption) _ (by omega)) ?_)
                               | (refine Ints.ix (by assumption) (by omega) ?_)
                               | (refine Mat.ix (by assumption) (by omega) ?_)
                               | (refine Ints.ix (Mat.row (by assumption) _ (by omega)) (by omega) ?_)
                               | (refine Ints.ix (c := 0) (by assumption) (by omega) ?_)
                               | (refine Mat.ix (c := 0) (by assumption) (by omega) ?_)
                               | (refine Ints.ix (c := 0) (Mat.row (by assumption) _ (by omega)) (by omega) ?_)
                               | (refine Ints.ixI (by assumption) (by omega) ?_)
                               | (refine Mat.ixI (by assumption) (by omega) ?_)
                               | (refine Ints.ixI (Mat.row (by assumption) _ (by omega)) (by omega) ?_)
                               | (refine Ints.ld (by assumption) (by omega) ?_)
                               | (refine Mat.ld (by assumption) (by omega) ?_)
                               | (refine Ints.ld (Mat.row (by assumption) _ (by omega)) (by omega) ?_)
                               | (refine At.ld (by assumption) rfl ?_)
                               | (refine At.ldN (by assumption) rfl ?_)
                               | (refine Prs.ln (by assumption) ?_)
                               | (refine Trs.ln (by assumption) ?_)
                               | (refine Prs.ix (by assumption) (by omega) ?_)
                               | (refine Trs.ix (by assumption) (by omega) ?_)
                               | (refine Prs.ldN (by assumption) (by omega) ?_)
                               | (refine Trs.ldN (by assumption) (by omega) ?_)
                               | (refine At.ldN (Blk.at (by assumption)) rfl ?_)
                               | (refine At.ld (Blk.at (by assumption)) rfl ?_)
                               | (refine IxA.mk (by omega) ?_)
                               | (refine Sl.ln (Own.sl (by assumption)) ?_)
                               | (refine Ints.ix (Own.sl (by assumption)) (by omega) ?_)
                               | (refine Ints.ixI (Own.sl (by assumption)) (by omega) ?_)
                               | (refine Ints.ld (Own.sl (by assumption)) (by omega) ?_))
                      all_goals (refine ⟨_, (by omega : (rr.getD k []).length - (d + 1) < (rr.getD k []).length - d), rfl, d + 1, by omega, rfl, rfl, (congrArg (Value.int .i64) (show _ = max _ ((rr.getD k []).getD d 0) by omega)), rfl⟩)
                    · obtain rfl : d = (rr.getD k []).length := by omega
                      have cs := same_pc (Hg.row k hkl) (Hg.row i hi)
                      by_cases he : rr.getD k [] = rr.getD i []
                      · rw [tf_t he] at cs
                        have ev1 : ((List.range rr.length).map (gain rr (nbest rr))).getD k 0 = gain rr (nbest rr) k := by simp [List.getD, hkl]
                        have ev2 : ((List.range rr.length).map (gain rr (nbest rr))).getD i 0 = gain rr (nbest rr) i := by simp [List.getD, hi]
                        have hb1 := worth_bd (a := nbest rr) (k := (k : Int)) (fun j => hgd.val k j) (nbest rr).length
                        have hb2 := worth_bd (a := nbest rr) (k := (i : Int)) (fun j => hgd.val i j) (nbest rr).length
                        have hg1 : gain rr (nbest rr) k = worth (nbest rr) (rr.getD k []) k (nbest rr).length := rfl
                        have hg2 : gain rr (nbest rr) i = worth (nbest rr) (rr.getD i []) i (nbest rr).length := rfl
                        have heq := nash_equal (most := mxT (fun j => (rr.getD k []).getD j 0) (rr.getD k []).length) hck hi hkl he (mxT_bd (fun j => hgd.val k j) _).1 (fun j hj => mxT_le (f := fun j => (rr.getD k []).getD j 0) _ j (by omega))
                        repeat' (conv => whnf
                                 first
                                 | (refine Dr.quiet tyOk (by kernel_rfl) ?_)
                                 | (refine VCQ.pure cs ?_)
                                 | (refine Rng.mk (by omega) ?_)
                                 | (refine Split.pos (by omega) ?_)
                                 | (refine Split.neg (by omega) ?_)
                                 | (refine Split.mk (fun h => ?_) (fun h => ?_))
                                 | (refine Need.mk (by omega) ?_)
                                 | (refine Ints.ln (by assumption) ?_)
                                 | (refine Mat.ln (by assumption) ?_)
                                 | (refine Ints.ln (Mat.row (by assumption) _ (by omega)) ?_)
                                 | (refine Ints.ix (by assumption) (by omega) ?_)
                                 | (refine Mat.ix (by assumption) (by omega) ?_)
                                 | (refine Ints.ix (Mat.row (by assumption) _ (by omega)) (by omega) ?_)
                                 | (refine Ints.ix (c := 0) (by assumption) (by omega) ?_)
                                 | (refine Mat.ix (c := 0) (by assumption) (by omega) ?_)
                                 | (refine Ints.ix (c := 0) (Mat.row (by assumption) _ (by omega)) (by omega) ?_)
                                 | (refine Ints.ixI (by assumption) (by omega) ?_)
                                 | (refine Mat.ixI (by assumption) (by omega) ?_)
                                 | (refine Ints.ixI (Mat.row (by assumption) _ (by omega)) (by omega) ?_)
                                 | (refine Ints.ld (by assumption) (by omega) ?_)
                                 | (refine Mat.ld (by assumption) (by omega) ?_)
                                 | (refine Ints.ld (Mat.row (by assumption) _ (by omega)) (by omega) ?_)
                                 | (refine At.ld (by assumption) rfl ?_)
                                 | (refine At.ldN (by assumption) rfl ?_)
                                 | (refine Prs.ln (by assumption) ?_)
                                 | (refine Trs.ln (by assumption) ?_)
                                 | (refine Prs.ix (by assumption) (by omega) ?_)
                                 | (refine Trs.ix (by assumption) (by omega) ?_)
                                 | (refine Prs.ldN (by assumption) (by omega) ?_)
                                 | (refine Trs.ldN (by assumption) (by omega) ?_)
                                 | (refine At.ldN (Blk.at (by assumption)) rfl ?_)
                                 | (refine At.ld (Blk.at (by assumption)) rfl ?_)
                                 | (refine IxA.mk (by omega) ?_)
                                 | (refine Sl.ln (Own.sl (by assumption)) ?_)
                                 | (refine Ints.ix (Own.sl (by assumption)) (by omega) ?_)
                                 | (refine Ints.ixI (Own.sl (by assumption)) (by omega) ?_)
                                 | (refine Ints.ld (Own.sl (by assumption)) (by omega) ?_))
                        refine ⟨_, (by omega : rr.length - (k + 1) < rr.length - k), rfl, k + 1, by omega, rfl, rfl, rfl⟩
                      · rw [tf_f he] at cs
                        repeat' (conv => whnf
                                 first
                                 | (refine Dr.quiet tyOk (by kernel_rfl) ?_)
                                 | (refine VCQ.pure cs ?_)
                                 | (refine Rng.mk (by omega) ?_)
                                 | (refine Split.pos (by omega) ?_)
                                 | (refine Split.neg (by omega) ?_)
                                 | (refine Split.mk (fun h => ?_) (fun h => ?_))
                                 | (refine Need.mk (by omega) ?_)
                                 | (refine Ints.ln (by assumption) ?_)
                                 | (refine Mat.ln (by assumption) ?_)
                                 | (refine Ints.ln (Mat.row (by assumption) _ (by omega)) ?_)
                                 | (refine Ints.ix (by assumption) (by omega) ?_)
                                 | (refine Mat.ix (by assumption) (by omega) ?_)
                                 | (refine Ints.ix (Mat.row (by assumption) _ (by omega)) (by omega) ?_)
                                 | (refine Ints.ix (c := 0) (by assumption) (by omega) ?_)
                                 | (refine Mat.ix (c := 0) (by assumption) (by omega) ?_)
                                 | (refine Ints.ix (c := 0) (Mat.row (by assumption) _ (by omega)) (by omega) ?_)
                                 | (refine Ints.ixI (by assumption) (by omega) ?_)
                                 | (refine Mat.ixI (by assumption) (by omega) ?_)
                                 | (refine Ints.ixI (Mat.row (by assumption) _ (by omega)) (by omega) ?_)
                                 | (refine Ints.ld (by assumption) (by omega) ?_)
                                 | (refine Mat.ld (by assumption) (by omega) ?_)
                                 | (refine Ints.ld (Mat.row (by assumption) _ (by omega)) (by omega) ?_)
                                 | (refine At.ld (by assumption) rfl ?_)
                                 | (refine At.ldN (by assumption) rfl ?_)
                                 | (refine Prs.ln (by assumption) ?_)
                                 | (refine Trs.ln (by assumption) ?_)
                                 | (refine Prs.ix (by assumption) (by omega) ?_)
                                 | (refine Trs.ix (by assumption) (by omega) ?_)
                                 | (refine Prs.ldN (by assumption) (by omega) ?_)
                                 | (refine Trs.ldN (by assumption) (by omega) ?_)
                                 | (refine At.ldN (Blk.at (by assumption)) rfl ?_)
                                 | (refine At.ld (Blk.at (by assumption)) rfl ?_)
                                 | (refine IxA.mk (by omega) ?_)
                                 | (refine Sl.ln (Own.sl (by assumption)) ?_)
                                 | (refine Ints.ix (Own.sl (by assumption)) (by omega) ?_)
                                 | (refine Ints.ixI (Own.sl (by assumption)) (by omega) ?_)
                                 | (refine Ints.ld (Own.sl (by assumption)) (by omega) ?_))
                        refine ⟨_, (by omega : rr.length - (k + 1) < rr.length - k), rfl, k + 1, by omega, rfl, rfl, rfl⟩
                · obtain rfl : k = rr.length := by omega
                  repeat' (conv => whnf
                           first
                           | (refine Dr.quiet tyOk (by kernel_rfl) ?_)
                           | (refine Rng.mk (by omega) ?_)
                           | (refine Split.pos (by omega) ?_)
                           | (refine Split.neg (by omega) ?_)
                           | (refine Split.mk (fun h => ?_) (fun h => ?_))
                           | (refine Need.mk (by omega) ?_)
                           | (refine Ints.ln (by assumption) ?_)
                           | (refine Mat.ln (by assumption) ?_)
                           | (refine Ints.ln (Mat.row (by assumption) _ (by omega)) ?_)
                           | (refine Ints.ix (by assumption) (by omega) ?_)
                           | (refine Mat.ix (by assumption) (by omega) ?_)
                           | (refine Ints.ix (Mat.row (by assumption) _ (by omega)) (by omega) ?_)
                           | (refine Ints.ix (c := 0) (by assumption) (by omega) ?_)
                           | (refine Mat.ix (c := 0) (by assumption) (by omega) ?_)
                           | (refine Ints.ix (c := 0) (Mat.row (by assumption) _ (by omega)) (by omega) ?_)
                           | (refine Ints.ixI (by assumption) (by omega) ?_)
                           | (refine Mat.ixI (by assumption) (by omega) ?_)
                           | (refine Ints.ixI (Mat.row (by assumption) _ (by omega)) (by omega) ?_)
                           | (refine Ints.ld (by assumption) (by omega) ?_)
                           | (refine Mat.ld (by assumption) (by omega) ?_)
                           | (refine Ints.ld (Mat.row (by assumption) _ (by omega)) (by omega) ?_)
                           | (refine At.ld (by assumption) rfl ?_)
                           | (refine At.ldN (by assumption) rfl ?_)
                           | (refine Prs.ln (by assumption) ?_)
                           | (refine Trs.ln (by assumption) ?_)
                           | (refine Prs.ix (by assumption) (by omega) ?_)
                           | (refine Trs.ix (by assumption) (by omega) ?_)
                           | (refine Prs.ldN (by assumption) (by omega) ?_)
                           | (refine Trs.ldN (by assumption) (by omega) ?_)
                           | (refine At.ldN (Blk.at (by assumption)) rfl ?_)
                           | (refine At.ld (Blk.at (by assumption)) rfl ?_)
                           | (refine IxA.mk (by omega) ?_)
                           | (refine Sl.ln (Own.sl (by assumption)) ?_)
                           | (refine Ints.ix (Own.sl (by assumption)) (by omega) ?_)
                           | (refine Ints.ixI (Own.sl (by assumption)) (by omega) ?_)
                           | (refine Ints.ld (Own.sl (by assumption)) (by omega) ?_))
                  exact ⟨rfl, EE⟩
            · by_cases hc1 : (prd rr (nbest rr)).1 = rr.length
              · have hc2 : ¬ chk (rrS rr i mu) = 0 := fun h => hcount ⟨hc1, h⟩
                repeat' (conv => whnf
                         first
                         | (refine Dr.quiet tyOk (by kernel_rfl) ?_)
                         | (refine VC.pure c2 ?_)
                         | (refine Rng.mk (by omega) ?_)
                         | (refine Split.pos (by omega) ?_)
                         | (refine Split.neg (by omega) ?_)
                         | (refine Split.mk (fun h => ?_) (fun h => ?_))
                         | (refine Need.mk (by omega) ?_)
                         | (refine Ints.ln (by assumption) ?_)
                         | (refine Mat.ln (by assumption) ?_)
                         | (refine Ints.ln (Mat.row (by assumption) _ (by omega)) ?_)
                         | (refine Ints.ix (by assumption) (by omega) ?_)
                         | (refine Mat.ix (by assumption) (by omega) ?_)
                         | (refine Ints.ix (Mat.row (by assumption) _ (by omega)) (by omega) ?_)
                         | (refine Ints.ix (c := 0) (by assumption) (by omega) ?_)
                         | (refine Mat.ix (c := 0) (by assumption) (by omega) ?_)
                         | (refine Ints.ix (c := 0) (Mat.row (by assumption) _ (by omega)) (by omega) ?_)
                         | (refine Ints.ixI (by assumption) (by omega) ?_)
                         | (refine Mat.ixI (by assumption) (by omega) ?_)
                         | (refine Ints.ixI (Mat.row (by assumption) _ (by omega)) (by omega) ?_)
                         | (refine Ints.ld (by assumption) (by omega) ?_)
                         | (refine Mat.ld (by assumption) (by omega) ?_)
                         | (refine Ints.ld (Mat.row (by assumption) _ (by omega)) (by omega) ?_)
                         | (refine At.ld (by assumption) rfl ?_)
                         | (refine At.ldN (by assumption) rfl ?_)
                         | (refine Prs.ln (by assumption) ?_)
                         | (refine Trs.ln (by assumption) ?_)
                         | (refine Prs.ix (by assumption) (by omega) ?_)
                         | (refine Trs.ix (by assumption) (by omega) ?_)
                         | (refine Prs.ldN (by assumption) (by omega) ?_)
                         | (refine Trs.ldN (by assumption) (by omega) ?_)
                         | (refine At.ldN (Blk.at (by assumption)) rfl ?_)
                         | (refine At.ld (Blk.at (by assumption)) rfl ?_)
                         | (refine IxA.mk (by omega) ?_)
                         | (refine Sl.ln (Own.sl (by assumption)) ?_)
                         | (refine Ints.ix (Own.sl (by assumption)) (by omega) ?_)
                         | (refine Ints.ixI (Own.sl (by assumption)) (by omega) ?_)
                         | (refine Ints.ld (Own.sl (by assumption)) (by omega) ?_))
                conv => whnf
                refine VC.rc (ngain_rc Hg) ?_
                rintro _ w16 E16 ⟨ga, rfl, HG⟩
                replace Hg := Hg.ext E16
                replace EE := EE.ext E16
                replace Hb := Hb.ext E16
                replace EL1 := EL1.ext E16
                replace HKB := HKB.ext E16
                replace HO := HO.ext E16
                replace HM := HM.ext E16
                replace Hk := Hk.ext E16
                replace HA := HA.ext E16
                replace EL3 := EL3.ext E16
                replace Hp := Hp.ext E16
                rw [ngA, if_pos hE] at HG
                rw [hE]
                have hgl : ((List.range rr.length).map (gain rr (nbest rr))).length = rr.length := by simp
                repeat' (conv => whnf
                         first
                         | (refine Dr.quiet tyOk (by kernel_rfl) ?_)
                         | (refine Rng.mk (by omega) ?_)
                         | (refine Split.pos (by omega) ?_)
                         | (refine Split.neg (by omega) ?_)
                         | (refine Split.mk (fun h => ?_) (fun h => ?_))
                         | (refine Need.mk (by omega) ?_)
                         | (refine Ints.ln (by assumption) ?_)
                         | (refine Mat.ln (by assumption) ?_)
                         | (refine Ints.ln (Mat.row (by assumption) _ (by omega)) ?_)
                         | (refine Ints.ix (by assumption) (by omega) ?_)
                         | (refine Mat.ix (by assumption) (by omega) ?_)
                         | (refine Ints.ix (Mat.row (by assumption) _ (by omega)) (by omega) ?_)
                         | (refine Ints.ix (c := 0) (by assumption) (by omega) ?_)
                         | (refine Mat.ix (c := 0) (by assumption) (by omega) ?_)
                         | (refine Ints.ix (c := 0) (Mat.row (by assumption) _ (by omega)) (by omega) ?_)
                         | (refine Ints.ixI (by assumption) (by omega) ?_)
                         | (refine Mat.ixI (by assumption) (by omega) ?_)
                         | (refine Ints.ixI (Mat.row (by assumption) _ (by omega)) (by omega) ?_)
                         | (refine Ints.ld (by assumption) (by omega) ?_)
                         | (refine Mat.ld (by assumption) (by omega) ?_)
                         | (refine Ints.ld (Mat.row (by assumption) _ (by omega)) (by omega) ?_)
                         | (refine At.ld (by assumption) rfl ?_)
                         | (refine At.ldN (by assumption) rfl ?_)
                         | (refine Prs.ln (by assumption) ?_)
                         | (refine Trs.ln (by assumption) ?_)
                         | (refine Prs.ix (by assumption) (by omega) ?_)
                         | (refine Trs.ix (by assumption) (by omega) ?_)
                         | (refine Prs.ldN (by assumption) (by omega) ?_)
                         | (refine Trs.ldN (by assumption) (by omega) ?_)
                         | (refine At.ldN (Blk.at (by assumption)) rfl ?_)
                         | (refine At.ld (Blk.at (by assumption)) rfl ?_)
                         | (refine IxA.mk (by omega) ?_)
                         | (refine Sl.ln (Own.sl (by assumption)) ?_)
                         | (refine Ints.ix (Own.sl (by assumption)) (by omega) ?_)
                         | (refine Ints.ixI (Own.sl (by assumption)) (by omega) ?_)
                         | (refine Ints.ld (Own.sl (by assumption)) (by omega) ?_))
                refine Lp.mk tyOk [false, false, false, false, false, false, true, false, false, false, false, false, false, false, false, false, false, false, true, true, true, false, false, false, false, false, false, false, false, false, false, false, false, false, false, false, false, false, false, false, false, false, false, false, false, false, false, false, false, false, false, false, false, false, false, false, false, false, false, false, false, false, false, false, false, false, false, false, false, false, false, false, false, false, false, false, false, false, false, false, false, false, false, false, false, false, false, false, false, false, false, false, false, false, false, false, false, false, false, false, false, false, false, false, false, false, false, false, false, false, false, false, false, false, false, false, false, false, false, false, false, false, false, false, false, false, false, true, true, true, true, true, true, true, true, true, true, true, true, true, true, true, true, true, true, true, true, true, true, true, true, true, true, true, true, true, true, true, true, true, true, true, true, true, true, true, true, true, true, true, true, true, true, true, true, true, true] (fun m fr wr => getK fr 18 fun kk => ∃ k : Nat, k ≤ rr.length ∧ m = rr.length - k ∧ kk = .int .i64 (k : Int) ∧ wr = w16) (rr.length) ?_ ?_
                · exact ⟨0, Nat.zero_le _, rfl, rfl, rfl⟩
                · intro m w17 u6 u18 u19 u20 u127 u128 u129 u130 u131 u132 u133 u134 u135 u136 u137 u138 u139 u140 u141 u142 u143 u144 u145 u146 u147 u148 u149 u150 u151 u152 u153 u154 u155 u156 u157 u158 u159 u160 u161 u162 u163 u164 u165 u166 u167 u168 u169 u170 u171 u172 u173 u174 u175 u176 hR
                  obtain ⟨k, hk, rfl, rfl, rfl⟩ := hR
                  by_cases hkl : k < rr.length
                  · have hrk := hgd.row k hkl
                    repeat' (conv => whnf
                             first
                             | (refine Dr.quiet tyOk (by kernel_rfl) ?_)
                             | (refine Rng.mk (by omega) ?_)
                             | (refine Split.pos (by omega) ?_)
                             | (refine Split.neg (by omega) ?_)
                             | (refine Split.mk (fun h => ?_) (fun h => ?_))
                             | (refine Need.mk (by omega) ?_)
                             | (refine Ints.ln (by assumption) ?_)
                             | (refine Mat.ln (by assumption) ?_)
                             | (refine Ints.ln (Mat.row (by assumption) _ (by omega)) ?_)
                             | (refine Ints.ix (by assumption) (by omega) ?_)
                             | (refine Mat.ix (by assumption) (by omega) ?_)
                             | (refine Ints.ix (Mat.row (by assumption) _ (by omega)) (by omega) ?_)
                             | (refine Ints.ix (c := 0) (by assumption) (by omega) ?_)
                             | (refine Mat.ix (c := 0) (by assumption) (by omega) ?_)
                             | (refine Ints.ix (c := 0) (Mat.row (by assumption) _ (by omega)) (by omega) ?_)
                             | (refine Ints.ixI (by assumption) (by omega) ?_)
                             | (refine Mat.ixI (by assumption) (by omega) ?_)
                             | (refine Ints.ixI (Mat.row (by assumption) _ (by omega)) (by omega) ?_)
                             | (refine Ints.ld (by assumption) (by omega) ?_)
                             | (refine Mat.ld (by assumption) (by omega) ?_)
                             | (refine Ints.ld (Mat.row (by assumption) _ (by omega)) (by omega) ?_)
                             | (refine At.ld (by assumption) rfl ?_)
                             | (refine At.ldN (by assumption) rfl ?_)
                             | (refine Prs.ln (by assumption) ?_)
                             | (refine Trs.ln (by assumption) ?_)
                             | (refine Prs.ix (by assumption) (by omega) ?_)
                             | (refine Trs.ix (by assumption) (by omega) ?_)
                             | (refine Prs.ldN (by assumption) (by omega) ?_)
                             | (refine Trs.ldN (by assumption) (by omega) ?_)
                             | (refine At.ldN (Blk.at (by assumption)) rfl ?_)
                             | (refine At.ld (Blk.at (by assumption)) rfl ?_)
                             | (refine IxA.mk (by omega) ?_)
                             | (refine Sl.ln (Own.sl (by assumption)) ?_)
                             | (refine Ints.ix (Own.sl (by assumption)) (by omega) ?_)
                             | (refine Ints.ixI (Own.sl (by assumption)) (by omega) ?_)
                             | (refine Ints.ld (Own.sl (by assumption)) (by omega) ?_))
                    refine Lp.mk tyOk [false, false, false, false, false, false, false, false, false, false, false, false, false, false, false, false, false, false, false, true, true, false, false, false, false, false, false, false, false, false, false, false, false, false, false, false, false, false, false, false, false, false, false, false, false, false, false, false, false, false, false, false, false, false, false, false, false, false, false, false, false, false, false, false, false, false, false, false, false, false, false, false, false, false, false, false, false, false, false, false, false, false, false, false, false, false, false, false, false, false, false, false, false, false, false, false, false, false, false, false, false, false, false, false, false, false, false, false, false, false, false, false, false, false, false, false, false, false, false, false, false, false, false, false, false, false, false, false, false, false, false, false, false, true, true, true, true, true, true, true, true, true, true, true, true, true, true, true, true, true, true, true, true] (fun m fr wr => getK fr 20 fun dd => getK fr 19 fun mo => ∃ d : Nat, d ≤ (rr.getD k []).length ∧ m = (rr.getD k []).length - d ∧ dd = .int .i64 (d : Int) ∧ mo = .int .i64 (mxT (fun j => (rr.getD k []).getD j 0) d) ∧ wr = w17) ((rr.getD k []).length) ?_ ?_
                    · exact ⟨0, Nat.zero_le _, rfl, rfl, rfl, rfl⟩
                    · intro m w18 u19 u20 u133 u134 u135 u136 u137 u138 u139 u140 u141 u142 u143 u144 u145 u146 u147 u148 u149 u150 u151 u152 hR
                      obtain ⟨d, hd, rfl, rfl, rfl, rfl⟩ := hR
                      by_cases hdl : d < (rr.getD k []).length
                      · repeat' (conv => whnf
                                 first
                                 | (refine Dr.quiet tyOk (by kernel_rfl) ?_)
                                 | (refine Rng.mk (by omega) ?_)
                                 | (refine Split.pos (by omega) ?_)
                                 | (refine Split.neg (by omega) ?_)
                                 | (refine Split.mk (fun h => ?_) (fun h => ?_))
                                 | (refine Need.mk (by omega) ?_)
                                 | (refine Ints.ln (by assumption) ?_)
                                 | (refine Mat.ln (by assumption) ?_)
                                 | (refine Ints.ln (Mat.row (by assumption) _ (by omega)) ?_)
                                 | (refine Ints.ix (by assumption) (by omega) ?_)
                                 | (refine Mat.ix (by assumption) (by omega) ?_)
                                 | (refine Ints.ix (Mat.row (by assumption) _ (by omega)) (by omega) ?_)
                                 | (refine Ints.ix (c := 0) (by assumption) (by omega) ?_)
                                 | (refine Mat.ix (c := 0) (by assumption) (by omega) ?_)
                                 | (refine Ints.ix (c := 0) (Mat.row (by assumption) _ (by omega)) (by omega) ?_)
                                 | (refine Ints.ixI (by assumption) (by omega) ?_)
                                 | (refine Mat.ixI (by assumption) (by omega) ?_)
                                 | (refine Ints.ixI (Mat.row (by assumption) _ (by omega)) (by omega) ?_)
                                 | (refine Ints.ld (by assumption) (by omega) ?_)
                                 | (refine Mat.ld (by assumption) (by omega) ?_)
                                 | (refine Ints.ld (Mat.row (by assumption) _ (by omega)) (by omega) ?_)
                                 | (refine At.ld (by assumption) rfl ?_)
                                 | (refine At.ldN (by assumption) rfl ?_)
                                 | (refine Prs.ln (by assumption) ?_)
                                 | (refine Trs.ln (by assumption) ?_)
                                 | (refine Prs.ix (by assumption) (by omega) ?_)
                                 | (refine Trs.ix (by assumption) (by omega) ?_)
                                 | (refine Prs.ldN (by assumption) (by omega) ?_)
                                 | (refine Trs.ldN (by assumption) (by omega) ?_)
                                 | (refine At.ldN (Blk.at (by assumption)) rfl ?_)
                                 | (refine At.ld (Blk.at (by assumption)) rfl ?_)
                                 | (refine IxA.mk (by omega) ?_)
                                 | (refine Sl.ln (Own.sl (by assumption)) ?_)
                                 | (refine Ints.ix (Own.sl (by assumption)) (by omega) ?_)
                                 | (refine Ints.ixI (Own.sl (by assumption)) (by omega) ?_)
                                 | (refine Ints.ld (Own.sl (by assumption)) (by omega) ?_))
                        all_goals (refine ⟨_, (by omega : (rr.getD k []).length - (d + 1) < (rr.getD k []).length - d), rfl, d + 1, by omega, rfl, rfl, (congrArg (Value.int .i64) (show _ = max _ ((rr.getD k []).getD d 0) by omega)), rfl⟩)
                      · obtain rfl : d = (rr.getD k []).length := by omega
                        have cs := same_pc (Hg.row k hkl) (Hg.row i hi)
                        by_cases he : rr.getD k [] = rr.getD i []
                        · rw [tf_t he] at cs
                          have ev1 : ((List.range rr.length).map (gain rr (nbest rr))).getD k 0 = gain rr (nbest rr) k := by simp [List.getD, hkl]
                          have ev2 : ((List.range rr.length).map (gain rr (nbest rr))).getD i 0 = gain rr (nbest rr) i := by simp [List.getD, hi]
                          have hb1 := worth_bd (a := nbest rr) (k := (k : Int)) (fun j => hgd.val k j) (nbest rr).length
                          have hb2 := worth_bd (a := nbest rr) (k := (i : Int)) (fun j => hgd.val i j) (nbest rr).length
                          have hg1 : gain rr (nbest rr) k = worth (nbest rr) (rr.getD k []) k (nbest rr).length := rfl
                          have hg2 : gain rr (nbest rr) i = worth (nbest rr) (rr.getD i []) i (nbest rr).length := rfl
                          have heq := nash_equal (most := mxT (fun j => (rr.getD k []).getD j 0) (rr.getD k []).length) hck hi hkl he (mxT_bd (fun j => hgd.val k j) _).1 (fun j hj => mxT_le (f := fun j => (rr.getD k []).getD j 0) _ j (by omega))
                          repeat' (conv => whnf
                                   first
                                   | (refine Dr.quiet tyOk (by kernel_rfl) ?_)
                                   | (refine VCQ.pure cs ?_)
                                   | (refine Rng.mk (by omega) ?_)
                                   | (refine Split.pos (by omega) ?_)
                                   | (refine Split.neg (by omega) ?_)
                                   | (refine Split.mk (fun h => ?_) (fun h => ?_))
                                   | (refine Need.mk (by omega) ?_)
                                   | (refine Ints.ln (by assumption) ?_)
                                   | (refine Mat.ln (by assumption) ?_)
                                   | (refine Ints.ln (Mat.row (by assumption) _ (by omega)) ?_)
                                   | (refine Ints.ix (by assumption) (by omega) ?_)
                                   | (refine Mat.ix (by assumption) (by omega) ?_)
                                   | (refine Ints.ix (Mat.row (by assumption) _ (by omega)) (by omega) ?_)
                                   | (refine Ints.ix (c := 0) (by assumption) (by omega) ?_)
                                   | (refine Mat.ix (c := 0) (by assumption) (by omega) ?_)
                                   | (refine Ints.ix (c := 0) (Mat.row (by assumption) _ (by omega)) (by omega) ?_)
                                   | (refine Ints.ixI (by assumption) (by omega) ?_)
                                   | (refine Mat.ixI (by assumption) (by omega) ?_)
                                   | (refine Ints.ixI (Mat.row (by assumption) _ (by omega)) (by omega) ?_)
                                   | (refine Ints.ld (by assumption) (by omega) ?_)
                                   | (refine Mat.ld (by assumption) (by omega) ?_)
                                   | (refine Ints.ld (Mat.row (by assumption) _ (by omega)) (by omega) ?_)
                                   | (refine At.ld (by assumption) rfl ?_)
                                   | (refine At.ldN (by assumption) rfl ?_)
                                   | (refine Prs.ln (by assumption) ?_)
                                   | (refine Trs.ln (by assumption) ?_)
                                   | (refine Prs.ix (by assumption) (by omega) ?_)
                                   | (refine Trs.ix (by assumption) (by omega) ?_)
                                   | (refine Prs.ldN (by assumption) (by omega) ?_)
                                   | (refine Trs.ldN (by assumption) (by omega) ?_)
                                   | (refine At.ldN (Blk.at (by assumption)) rfl ?_)
                                   | (refine At.ld (Blk.at (by assumption)) rfl ?_)
                                   | (refine IxA.mk (by omega) ?_)
                                   | (refine Sl.ln (Own.sl (by assumption)) ?_)
                                   | (refine Ints.ix (Own.sl (by assumption)) (by omega) ?_)
                                   | (refine Ints.ixI (Own.sl (by assumption)) (by omega) ?_)
                                   | (refine Ints.ld (Own.sl (by assumption)) (by omega) ?_))
                          refine ⟨_, (by omega : rr.length - (k + 1) < rr.length - k), rfl, k + 1, by omega, rfl, rfl, rfl⟩
                        · rw [tf_f he] at cs
                          repeat' (conv => whnf
                                   first
                                   | (refine Dr.quiet tyOk (by kernel_rfl) ?_)
                                   | (refine VCQ.pure cs ?_)
                                   | (refine Rng.mk (by omega) ?_)
                                   | (refine Split.pos (by omega) ?_)
                                   | (refine Split.neg (by omega) ?_)
                                   | (refine Split.mk (fun h => ?_) (fun h => ?_))
                                   | (refine Need.mk (by omega) ?_)
                                   | (refine Ints.ln (by assumption) ?_)
                                   | (refine Mat.ln (by assumption) ?_)
                                   | (refine Ints.ln (Mat.row (by assumption) _ (by omega)) ?_)
                                   | (refine Ints.ix (by assumption) (by omega) ?_)
                                   | (refine Mat.ix (by assumption) (by omega) ?_)
                                   | (refine Ints.ix (Mat.row (by assumption) _ (by omega)) (by omega) ?_)
                                   | (refine Ints.ix (c := 0) (by assumption) (by omega) ?_)
                                   | (refine Mat.ix (c := 0) (by assumption) (by omega) ?_)
                                   | (refine Ints.ix (c := 0) (Mat.row (by assumption) _ (by omega)) (by omega) ?_)
                                   | (refine Ints.ixI (by assumption) (by omega) ?_)
                                   | (refine Mat.ixI (by assumption) (by omega) ?_)
                                   | (refine Ints.ixI (Mat.row (by assumption) _ (by omega)) (by omega) ?_)
                                   | (refine Ints.ld (by assumption) (by omega) ?_)
                                   | (refine Mat.ld (by assumption) (by omega) ?_)
                                   | (refine Ints.ld (Mat.row (by assumption) _ (by omega)) (by omega) ?_)
                                   | (refine At.ld (by assumption) rfl ?_)
                                   | (refine At.ldN (by assumption) rfl ?_)
                                   | (refine Prs.ln (by assumption) ?_)
                                   | (refine Trs.ln (by assumption) ?_)
                                   | (refine Prs.ix (by assumption) (by omega) ?_)
                                   | (refine Trs.ix (by assumption) (by omega) ?_)
                                   | (refine Prs.ldN (by assumption) (by omega) ?_)
                                   | (refine Trs.ldN (by assumption) (by omega) ?_)
                                   | (refine At.ldN (Blk.at (by assumption)) rfl ?_)
                                   | (refine At.ld (Blk.at (by assumption)) rfl ?_)
                                   | (refine IxA.mk (by omega) ?_)
                                   | (refine Sl.ln (Own.sl (by assumption)) ?_)
                                   | (refine Ints.ix (Own.sl (by assumption)) (by omega) ?_)
                                   | (refine Ints.ixI (Own.sl (by assumption)) (by omega) ?_)
                                   | (refine Ints.ld (Own.sl (by assumption)) (by omega) ?_))
                          refine ⟨_, (by omega : rr.length - (k + 1) < rr.length - k), rfl, k + 1, by omega, rfl, rfl, rfl⟩
                  · obtain rfl : k = rr.length := by omega
                    repeat' (conv => whnf
                             first
                             | (refine Dr.quiet tyOk (by kernel_rfl) ?_)
                             | (refine Rng.mk (by omega) ?_)
                             | (refine Split.pos (by omega) ?_)
                             | (refine Split.neg (by omega) ?_)
                             | (refine Split.mk (fun h => ?_) (fun h => ?_))
                             | (refine Need.mk (by omega) ?_)
                             | (refine Ints.ln (by assumption) ?_)
                             | (refine Mat.ln (by assumption) ?_)
                             | (refine Ints.ln (Mat.row (by assumption) _ (by omega)) ?_)
                             | (refine Ints.ix (by assumption) (by omega) ?_)
                             | (refine Mat.ix (by assumption) (by omega) ?_)
                             | (refine Ints.ix (Mat.row (by assumption) _ (by omega)) (by omega) ?_)
                             | (refine Ints.ix (c := 0) (by assumption) (by omega) ?_)
                             | (refine Mat.ix (c := 0) (by assumption) (by omega) ?_)
                             | (refine Ints.ix (c := 0) (Mat.row (by assumption) _ (by omega)) (by omega) ?_)
                             | (refine Ints.ixI (by assumption) (by omega) ?_)
                             | (refine Mat.ixI (by assumption) (by omega) ?_)
                             | (refine Ints.ixI (Mat.row (by assumption) _ (by omega)) (by omega) ?_)
                             | (refine Ints.ld (by assumption) (by omega) ?_)
                             | (refine Mat.ld (by assumption) (by omega) ?_)
                             | (refine Ints.ld (Mat.row (by assumption) _ (by omega)) (by omega) ?_)
                             | (refine At.ld (by assumption) rfl ?_)
                             | (refine At.ldN (by assumption) rfl ?_)
                             | (refine Prs.ln (by assumption) ?_)
                             | (refine Trs.ln (by assumption) ?_)
                             | (refine Prs.ix (by assumption) (by omega) ?_)
                             | (refine Trs.ix (by assumption) (by omega) ?_)
                             | (refine Prs.ldN (by assumption) (by omega) ?_)
                             | (refine Trs.ldN (by assumption) (by omega) ?_)
                             | (refine At.ldN (Blk.at (by assumption)) rfl ?_)
                             | (refine At.ld (Blk.at (by assumption)) rfl ?_)
                             | (refine IxA.mk (by omega) ?_)
                             | (refine Sl.ln (Own.sl (by assumption)) ?_)
                             | (refine Ints.ix (Own.sl (by assumption)) (by omega) ?_)
                             | (refine Ints.ixI (Own.sl (by assumption)) (by omega) ?_)
                             | (refine Ints.ld (Own.sl (by assumption)) (by omega) ?_))
                    exact ⟨rfl, EE⟩
              · repeat' (conv => whnf
                         first
                         | (refine Dr.quiet tyOk (by kernel_rfl) ?_)
                         | (refine VC.pure c2 ?_)
                         | (refine Rng.mk (by omega) ?_)
                         | (refine Split.pos (by omega) ?_)
                         | (refine Split.neg (by omega) ?_)
                         | (refine Split.mk (fun h => ?_) (fun h => ?_))
                         | (refine Need.mk (by omega) ?_)
                         | (refine Ints.ln (by assumption) ?_)
                         | (refine Mat.ln (by assumption) ?_)
                         | (refine Ints.ln (Mat.row (by assumption) _ (by omega)) ?_)
                         | (refine Ints.ix (by assumption) (by omega) ?_)
                         | (refine Mat.ix (by assumption) (by omega) ?_)
                         | (refine Ints.ix (Mat.row (by assumption) _ (by omega)) (by omega) ?_)
                         | (refine Ints.ix (c := 0) (by assumption) (by omega) ?_)
                         | (refine Mat.ix (c := 0) (by assumption) (by omega) ?_)
                         | (refine Ints.ix (c := 0) (Mat.row (by assumption) _ (by omega)) (by omega) ?_)
                         | (refine Ints.ixI (by assumption) (by omega) ?_)
                         | (refine Mat.ixI (by assumption) (by omega) ?_)
                         | (refine Ints.ixI (Mat.row (by assumption) _ (by omega)) (by omega) ?_)
                         | (refine Ints.ld (by assumption) (by omega) ?_)
                         | (refine Mat.ld (by assumption) (by omega) ?_)
                         | (refine Ints.ld (Mat.row (by assumption) _ (by omega)) (by omega) ?_)
                         | (refine At.ld (by assumption) rfl ?_)
                         | (refine At.ldN (by assumption) rfl ?_)
                         | (refine Prs.ln (by assumption) ?_)
                         | (refine Trs.ln (by assumption) ?_)
                         | (refine Prs.ix (by assumption) (by omega) ?_)
                         | (refine Trs.ix (by assumption) (by omega) ?_)
                         | (refine Prs.ldN (by assumption) (by omega) ?_)
                         | (refine Trs.ldN (by assumption) (by omega) ?_)
                         | (refine At.ldN (Blk.at (by assumption)) rfl ?_)
                         | (refine At.ld (Blk.at (by assumption)) rfl ?_)
                         | (refine IxA.mk (by omega) ?_)
                         | (refine Sl.ln (Own.sl (by assumption)) ?_)
                         | (refine Ints.ix (Own.sl (by assumption)) (by omega) ?_)
                         | (refine Ints.ixI (Own.sl (by assumption)) (by omega) ?_)
                         | (refine Ints.ld (Own.sl (by assumption)) (by omega) ?_))
                conv => whnf
                refine VC.rc (ngain_rc Hg) ?_
                rintro _ w19 E19 ⟨ga, rfl, HG⟩
                replace Hg := Hg.ext E19
                replace EE := EE.ext E19
                replace Hb := Hb.ext E19
                replace EL1 := EL1.ext E19
                replace HKB := HKB.ext E19
                replace HO := HO.ext E19
                replace HM := HM.ext E19
                replace Hk := Hk.ext E19
                replace HA := HA.ext E19
                replace EL3 := EL3.ext E19
                replace Hp := Hp.ext E19
                rw [ngA, if_pos hE] at HG
                rw [hE]
                have hgl : ((List.range rr.length).map (gain rr (nbest rr))).length = rr.length := by simp
                repeat' (conv => whnf
                         first
                         | (refine Dr.quiet tyOk (by kernel_rfl) ?_)
                         | (refine Rng.mk (by omega) ?_)
                         | (refine Split.pos (by omega) ?_)
                         | (refine Split.neg (by omega) ?_)
                         | (refine Split.mk (fun h => ?_) (fun h => ?_))
                         | (refine Need.mk (by omega) ?_)
                         | (refine Ints.ln (by assumption) ?_)
                         | (refine Mat.ln (by assumption) ?_)
                         | (refine Ints.ln (Mat.row (by assumption) _ (by omega)) ?_)
                         | (refine Ints.ix (by assumption) (by omega) ?_)
                         | (refine Mat.ix (by assumption) (by omega) ?_)
                         | (refine Ints.ix (Mat.row (by assumption) _ (by omega)) (by omega) ?_)
                         | (refine Ints.ix (c := 0) (by assumption) (by omega) ?_)
                         | (refine Mat.ix (c := 0) (by assumption) (by omega) ?_)
                         | (refine Ints.ix (c := 0) (Mat.row (by assumption) _ (by omega)) (by omega) ?_)
                         | (refine Ints.ixI (by assumption) (by omega) ?_)
                         | (refine Mat.ixI (by assumption) (by omega) ?_)
                         | (refine Ints.ixI (Mat.row (by assumption) _ (by omega)) (by omega) ?_)
                         | (refine Ints.ld (by assumption) (by omega) ?_)
                         | (refine Mat.ld (by assumption) (by omega) ?_)
                         | (refine Ints.ld (Mat.row (by assumption) _ (by omega)) (by omega) ?_)
                         | (refine At.ld (by assumption) rfl ?_)
                         | (refine At.ldN (by assumption) rfl ?_)
                         | (refine Prs.ln (by assumption) ?_)
                         | (refine Trs.ln (by assumption) ?_)
                         | (refine Prs.ix (by assumption) (by omega) ?_)
                         | (refine Trs.ix (by assumption) (by omega) ?_)
                         | (refine Prs.ldN (by assumption) (by omega) ?_)
                         | (refine Trs.ldN (by assumption) (by omega) ?_)
                         | (refine At.ldN (Blk.at (by assumption)) rfl ?_)
                         | (refine At.ld (Blk.at (by assumption)) rfl ?_)
                         | (refine IxA.mk (by omega) ?_)
                         | (refine Sl.ln (Own.sl (by assumption)) ?_)
                         | (refine Ints.ix (Own.sl (by assumption)) (by omega) ?_)
                         | (refine Ints.ixI (Own.sl (by assumption)) (by omega) ?_)
                         | (refine Ints.ld (Own.sl (by assumption)) (by omega) ?_))
                refine Lp.mk tyOk [false, false, false, false, false, false, true, false, false, false, false, false, false, false, false, false, false, false, true, true, true, false, false, false, false, false, false, false, false, false, false, false, false, false, false, false, false, false, false, false, false, false, false, false, false, false, false, false, false, false, false, false, false, false, false, false, false, false, false, false, false, false, false, false, false, false, false, false, false, false, false, false, false, false, false, false, false, false, false, false, false, false, false, false, false, false, false, false, false, false, false, false, false, false, false, false, false, false, false, false, false, false, false, false, false, false, false, false, false, false, false, false, false, false, false, false, false, false, false, false, false, false, false, false, false, false, false, true, true, true, true, true, true, true, true, true, true, true, true, true, true, true, true, true, true, true, true, true, true, true, true, true, true, true, true, true, true, true, true, true, true, true, true, true, true, true, true, true, true, true, true, true, true, true, true, true, true] (fun m fr wr => getK fr 18 fun kk => ∃ k : Nat, k ≤ rr.length ∧ m = rr.length - k ∧ kk = .int .i64 (k : Int) ∧ wr = w19) (rr.length) ?_ ?_
                · exact ⟨0, Nat.zero_le _, rfl, rfl, rfl⟩
                · intro m w20 u6 u18 u19 u20 u127 u128 u129 u130 u131 u132 u133 u134 u135 u136 u137 u138 u139 u140 u141 u142 u143 u144 u145 u146 u147 u148 u149 u150 u151 u152 u153 u154 u155 u156 u157 u158 u159 u160 u161 u162 u163 u164 u165 u166 u167 u168 u169 u170 u171 u172 u173 u174 u175 u176 hR
                  obtain ⟨k, hk, rfl, rfl, rfl⟩ := hR
                  by_cases hkl : k < rr.length
                  · have hrk := hgd.row k hkl
                    repeat' (conv => whnf
                             first
                             | (refine Dr.quiet tyOk (by kernel_rfl) ?_)
                             | (refine Rng.mk (by omega) ?_)
                             | (refine Split.pos (by omega) ?_)
                             | (refine Split.neg (by omega) ?_)
                             | (refine Split.mk (fun h => ?_) (fun h => ?_))
                             | (refine Need.mk (by omega) ?_)
                             | (refine Ints.ln (by assumption) ?_)
                             | (refine Mat.ln (by assumption) ?_)
                             | (refine Ints.ln (Mat.row (by assumption) _ (by omega)) ?_)
                             | (refine Ints.ix (by assumption) (by omega) ?_)
                             | (refine Mat.ix (by assumption) (by omega) ?_)
                             | (refine Ints.ix (Mat.row (by assumption) _ (by omega)) (by omega) ?_)
                             | (refine Ints.ix (c := 0) (by assumption) (by omega) ?_)
                             | (refine Mat.ix (c := 0) (by assumption) (by omega) ?_)
                             | (refine Ints.ix (c := 0) (Mat.row (by assumption) _ (by omega)) (by omega) ?_)
                             | (refine Ints.ixI (by assumption) (by omega) ?_)
                             | (refine Mat.ixI (by assumption) (by omega) ?_)
                             | (refine Ints.ixI (Mat.row (by assumption) _ (by omega)) (by omega) ?_)
                             | (refine Ints.ld (by assumption) (by omega) ?_)
                             | (refine Mat.ld (by assumption) (by omega) ?_)
                             | (refine Ints.ld (Mat.row (by assumption) _ (by omega)) (by omega) ?_)
                             | (refine At.ld (by assumption) rfl ?_)
                             | (refine At.ldN (by assumption) rfl ?_)
                             | (refine Prs.ln (by assumption) ?_)
                             | (refine Trs.ln (by assumption) ?_)
                             | (refine Prs.ix (by assumption) (by omega) ?_)
                             | (refine Trs.ix (by assumption) (by omega) ?_)
                             | (refine Prs.ldN (by assumption) (by omega) ?_)
                             | (refine Trs.ldN (by assumption) (by omega) ?_)
                             | (refine At.ldN (Blk.at (by assumption)) rfl ?_)
                             | (refine At.ld (Blk.at (by assumption)) rfl ?_)
                             | (refine IxA.mk (by omega) ?_)
                             | (refine Sl.ln (Own.sl (by assumption)) ?_)
                             | (refine Ints.ix (Own.sl (by assumption)) (by omega) ?_)
                             | (refine Ints.ixI (Own.sl (by assumption)) (by omega) ?_)
                             | (refine Ints.ld (Own.sl (by assumption)) (by omega) ?_))
                    refine Lp.mk tyOk [false, false, false, false, false, false, false, false, false, false, false, false, false, false, false, false, false, false, false, true, true, false, false, false, false, false, false, false, false, false, false, false, false, false, false, false, false, false, false, false, false, false, false, false, false, false, false, false, false, false, false, false, false, false, false, false, false, false, false, false, false, false, false, false, false, false, false, false, false, false, false, false, false, false, false, false, false, false, false, false, false, false, false, false, false, false, false, false, false, false, false, false, false, false, false, false, false, false, false, false, false, false, false, false, false, false, false, false, false, false, false, false, false, false, false, false, false, false, false, false, false, false, false, false, false, false, false, false, false, false, false, false, false, true, true, true, true, true, true, true, true, true, true, true, true, true, true, true, true, true, true, true, true] (fun m fr wr => getK fr 20 fun dd => getK fr 19 fun mo => ∃ d : Nat, d ≤ (rr.getD k []).length ∧ m = (rr.getD k []).length - d ∧ dd = .int .i64 (d : Int) ∧ mo = .int .i64 (mxT (fun j => (rr.getD k []).getD j 0) d) ∧ wr = w20) ((rr.getD k []).length) ?_ ?_
                    · exact ⟨0, Nat.zero_le _, rfl, rfl, rfl, rfl⟩
                    · intro m w21 u19 u20 u133 u134 u135 u136 u137 u138 u139 u140 u141 u142 u143 u144 u145 u146 u147 u148 u149 u150 u151 u152 hR
                      obtain ⟨d, hd, rfl, rfl, rfl, rfl⟩ := hR
                      by_cases hdl : d < (rr.getD k []).length
                      · repeat' (conv => whnf
                                 first
                                 | (refine Dr.quiet tyOk (by kernel_rfl) ?_)
                                 | (refine Rng.mk (by omega) ?_)
                                 | (refine Split.pos (by omega) ?_)
                                 | (refine Split.neg (by omega) ?_)
                                 | (refine Split.mk (fun h => ?_) (fun h => ?_))
                                 | (refine Need.mk (by omega) ?_)
                                 | (refine Ints.ln (by assumption) ?_)
                                 | (refine Mat.ln (by assumption) ?_)
                                 | (refine Ints.ln (Mat.row (by assumption) _ (by omega)) ?_)
                                 | (refine Ints.ix (by assumption) (by omega) ?_)
                                 | (refine Mat.ix (by assumption) (by omega) ?_)
                                 | (refine Ints.ix (Mat.row (by assumption) _ (by omega)) (by omega) ?_)
                                 | (refine Ints.ix (c := 0) (by assumption) (by omega) ?_)
                                 | (refine Mat.ix (c := 0) (by assumption) (by omega) ?_)
                                 | (refine Ints.ix (c := 0) (Mat.row (by assumption) _ (by omega)) (by omega) ?_)
                                 | (refine Ints.ixI (by assumption) (by omega) ?_)
                                 | (refine Mat.ixI (by assumption) (by omega) ?_)
                                 | (refine Ints.ixI (Mat.row (by assumption) _ (by omega)) (by omega) ?_)
                                 | (refine Ints.ld (by assumption) (by omega) ?_)
                                 | (refine Mat.ld (by assumption) (by omega) ?_)
                                 | (refine Ints.ld (Mat.row (by assumption) _ (by omega)) (by omega) ?_)
                                 | (refine At.ld (by assumption) rfl ?_)
                                 | (refine At.ldN (by assumption) rfl ?_)
                                 | (refine Prs.ln (by assumption) ?_)
                                 | (refine Trs.ln (by assumption) ?_)
                                 | (refine Prs.ix (by assumption) (by omega) ?_)
                                 | (refine Trs.ix (by assumption) (by omega) ?_)
                                 | (refine Prs.ldN (by assumption) (by omega) ?_)
                                 | (refine Trs.ldN (by assumption) (by omega) ?_)
                                 | (refine At.ldN (Blk.at (by assumption)) rfl ?_)
                                 | (refine At.ld (Blk.at (by assumption)) rfl ?_)
                                 | (refine IxA.mk (by omega) ?_)
                                 | (refine Sl.ln (Own.sl (by assumption)) ?_)
                                 | (refine Ints.ix (Own.sl (by assumption)) (by omega) ?_)
                                 | (refine Ints.ixI (Own.sl (by assumption)) (by omega) ?_)
                                 | (refine Ints.ld (Own.sl (by assumption)) (by omega) ?_))
                        all_goals (refine ⟨_, (by omega : (rr.getD k []).length - (d + 1) < (rr.getD k []).length - d), rfl, d + 1, by omega, rfl, rfl, (congrArg (Value.int .i64) (show _ = max _ ((rr.getD k []).getD d 0) by omega)), rfl⟩)
                      · obtain rfl : d = (rr.getD k []).length := by omega
                        have cs := same_pc (Hg.row k hkl) (Hg.row i hi)
                        by_cases he : rr.getD k [] = rr.getD i []
                        · rw [tf_t he] at cs
                          have ev1 : ((List.range rr.length).map (gain rr (nbest rr))).getD k 0 = gain rr (nbest rr) k := by simp [List.getD, hkl]
                          have ev2 : ((List.range rr.length).map (gain rr (nbest rr))).getD i 0 = gain rr (nbest rr) i := by simp [List.getD, hi]
                          have hb1 := worth_bd (a := nbest rr) (k := (k : Int)) (fun j => hgd.val k j) (nbest rr).length
                          have hb2 := worth_bd (a := nbest rr) (k := (i : Int)) (fun j => hgd.val i j) (nbest rr).length
                          have hg1 : gain rr (nbest rr) k = worth (nbest rr) (rr.getD k []) k (nbest rr).length := rfl
                          have hg2 : gain rr (nbest rr) i = worth (nbest rr) (rr.getD i []) i (nbest rr).length := rfl
                          have heq := nash_equal (most := mxT (fun j => (rr.getD k []).getD j 0) (rr.getD k []).length) hck hi hkl he (mxT_bd (fun j => hgd.val k j) _).1 (fun j hj => mxT_le (f := fun j => (rr.getD k []).getD j 0) _ j (by omega))
                          repeat' (conv => whnf
                                   first
                                   | (refine Dr.quiet tyOk (by kernel_rfl) ?_)
                                   | (refine VCQ.pure cs ?_)
                                   | (refine Rng.mk (by omega) ?_)
                                   | (refine Split.pos (by omega) ?_)
                                   | (refine Split.neg (by omega) ?_)
                                   | (refine Split.mk (fun h => ?_) (fun h => ?_))
                                   | (refine Need.mk (by omega) ?_)
                                   | (refine Ints.ln (by assumption) ?_)
                                   | (refine Mat.ln (by assumption) ?_)
                                   | (refine Ints.ln (Mat.row (by assumption) _ (by omega)) ?_)
                                   | (refine Ints.ix (by assumption) (by omega) ?_)
                                   | (refine Mat.ix (by assumption) (by omega) ?_)
                                   | (refine Ints.ix (Mat.row (by assumption) _ (by omega)) (by omega) ?_)
                                   | (refine Ints.ix (c := 0) (by assumption) (by omega) ?_)
                                   | (refine Mat.ix (c := 0) (by assumption) (by omega) ?_)
                                   | (refine Ints.ix (c := 0) (Mat.row (by assumption) _ (by omega)) (by omega) ?_)
                                   | (refine Ints.ixI (by assumption) (by omega) ?_)
                                   | (refine Mat.ixI (by assumption) (by omega) ?_)
                                   | (refine Ints.ixI (Mat.row (by assumption) _ (by omega)) (by omega) ?_)
                                   | (refine Ints.ld (by assumption) (by omega) ?_)
                                   | (refine Mat.ld (by assumption) (by omega) ?_)
                                   | (refine Ints.ld (Mat.row (by assumption) _ (by omega)) (by omega) ?_)
                                   | (refine At.ld (by assumption) rfl ?_)
                                   | (refine At.ldN (by assumption) rfl ?_)
                                   | (refine Prs.ln (by assumption) ?_)
                                   | (refine Trs.ln (by assumption) ?_)
                                   | (refine Prs.ix (by assumption) (by omega) ?_)
                                   | (refine Trs.ix (by assumption) (by omega) ?_)
                                   | (refine Prs.ldN (by assumption) (by omega) ?_)
                                   | (refine Trs.ldN (by assumption) (by omega) ?_)
                                   | (refine At.ldN (Blk.at (by assumption)) rfl ?_)
                                   | (refine At.ld (Blk.at (by assumption)) rfl ?_)
                                   | (refine IxA.mk (by omega) ?_)
                                   | (refine Sl.ln (Own.sl (by assumption)) ?_)
                                   | (refine Ints.ix (Own.sl (by assumption)) (by omega) ?_)
                                   | (refine Ints.ixI (Own.sl (by assumption)) (by omega) ?_)
                                   | (refine Ints.ld (Own.sl (by assumption)) (by omega) ?_))
                          refine ⟨_, (by omega : rr.length - (k + 1) < rr.length - k), rfl, k + 1, by omega, rfl, rfl, rfl⟩
                        · rw [tf_f he] at cs
                          repeat' (conv => whnf
                                   first
                                   | (refine Dr.quiet tyOk (by kernel_rfl) ?_)
                                   | (refine VCQ.pure cs ?_)
                                   | (refine Rng.mk (by omega) ?_)
                                   | (refine Split.pos (by omega) ?_)
                                   | (refine Split.neg (by omega) ?_)
                                   | (refine Split.mk (fun h => ?_) (fun h => ?_))
                                   | (refine Need.mk (by omega) ?_)
                                   | (refine Ints.ln (by assumption) ?_)
                                   | (refine Mat.ln (by assumption) ?_)
                                   | (refine Ints.ln (Mat.row (by assumption) _ (by omega)) ?_)
                                   | (refine Ints.ix (by assumption) (by omega) ?_)
                                   | (refine Mat.ix (by assumption) (by omega) ?_)
                                   | (refine Ints.ix (Mat.row (by assumption) _ (by omega)) (by omega) ?_)
                                   | (refine Ints.ix (c := 0) (by assumption) (by omega) ?_)
                                   | (refine Mat.ix (c := 0) (by assumption) (by omega) ?_)
                                   | (refine Ints.ix (c := 0) (Mat.row (by assumption) _ (by omega)) (by omega) ?_)
                                   | (refine Ints.ixI (by assumption) (by omega) ?_)
                                   | (refine Mat.ixI (by assumption) (by omega) ?_)
                                   | (refine Ints.ixI (Mat.row (by assumption) _ (by omega)) (by omega) ?_)
                                   | (refine Ints.ld (by assumption) (by omega) ?_)
                                   | (refine Mat.ld (by assumption) (by omega) ?_)
                                   | (refine Ints.ld (Mat.row (by assumption) _ (by omega)) (by omega) ?_)
                                   | (refine At.ld (by assumption) rfl ?_)
                                   | (refine At.ldN (by assumption) rfl ?_)
                                   | (refine Prs.ln (by assumption) ?_)
                                   | (refine Trs.ln (by assumption) ?_)
                                   | (refine Prs.ix (by assumption) (by omega) ?_)
                                   | (refine Trs.ix (by assumption) (by omega) ?_)
                                   | (refine Prs.ldN (by assumption) (by omega) ?_)
                                   | (refine Trs.ldN (by assumption) (by omega) ?_)
                                   | (refine At.ldN (Blk.at (by assumption)) rfl ?_)
                                   | (refine At.ld (Blk.at (by assumption)) rfl ?_)
                                   | (refine IxA.mk (by omega) ?_)
                                   | (refine Sl.ln (Own.sl (by assumption)) ?_)
                                   | (refine Ints.ix (Own.sl (by assumption)) (by omega) ?_)
                                   | (refine Ints.ixI (Own.sl (by assumption)) (by omega) ?_)
                                   | (refine Ints.ld (Own.sl (by assumption)) (by omega) ?_))
                          refine ⟨_, (by omega : rr.length - (k + 1) < rr.length - k), rfl, k + 1, by omega, rfl, rfl, rfl⟩
                  · obtain rfl : k = rr.length := by omega
                    repeat' (conv => whnf
                             first
                             | (refine Dr.quiet tyOk (by kernel_rfl) ?_)
                             | (refine Rng.mk (by omega) ?_)
                             | (refine Split.pos (by omega) ?_)
                             | (refine Split.neg (by omega) ?_)
                             | (refine Split.mk (fun h => ?_) (fun h => ?_))
                             | (refine Need.mk (by omega) ?_)
                             | (refine Ints.ln (by assumption) ?_)
                             | (refine Mat.ln (by assumption) ?_)
                             | (refine Ints.ln (Mat.row (by assumption) _ (by omega)) ?_)
                             | (refine Ints.ix (by assumption) (by omega) ?_)
                             | (refine Mat.ix (by assumption) (by omega) ?_)
                             | (refine Ints.ix (Mat.row (by assumption) _ (by omega)) (by omega) ?_)
                             | (refine Ints.ix (c := 0) (by assumption) (by omega) ?_)
                             | (refine Mat.ix (c := 0) (by assumption) (by omega) ?_)
                             | (refine Ints.ix (c := 0) (Mat.row (by assumption) _ (by omega)) (by omega) ?_)
                             | (refine Ints.ixI (by assumption) (by omega) ?_)
                             | (refine Mat.ixI (by assumption) (by omega) ?_)
                             | (refine Ints.ixI (Mat.row (by assumption) _ (by omega)) (by omega) ?_)
                             | (refine Ints.ld (by assumption) (by omega) ?_)
                             | (refine Mat.ld (by assumption) (by omega) ?_)
                             | (refine Ints.ld (Mat.row (by assumption) _ (by omega)) (by omega) ?_)
                             | (refine At.ld (by assumption) rfl ?_)
                             | (refine At.ldN (by assumption) rfl ?_)
                             | (refine Prs.ln (by assumption) ?_)
                             | (refine Trs.ln (by assumption) ?_)
                             | (refine Prs.ix (by assumption) (by omega) ?_)
                             | (refine Trs.ix (by assumption) (by omega) ?_)
                             | (refine Prs.ldN (by assumption) (by omega) ?_)
                             | (refine Trs.ldN (by assumption) (by omega) ?_)
                             | (refine At.ldN (Blk.at (by assumption)) rfl ?_)
                             | (refine At.ld (Blk.at (by assumption)) rfl ?_)
                             | (refine IxA.mk (by omega) ?_)
                             | (refine Sl.ln (Own.sl (by assumption)) ?_)
                             | (refine Ints.ix (Own.sl (by assumption)) (by omega) ?_)
                             | (refine Ints.ixI (Own.sl (by assumption)) (by omega) ?_)
                             | (refine Ints.ld (Own.sl (by assumption)) (by omega) ?_))
                    exact ⟨rfl, EE⟩
          · have hE4 : nbE rr = 4 := by
              by_cases ht : 20000 < tot rr
              · exact nbE_many hck ht
              · exact absurd (nbE_ok hck ht) hE
            rw [hE4]
            repeat' (conv => whnf
                     first
                     | (refine Dr.quiet tyOk (by kernel_rfl) ?_)
                     | (refine Rng.mk (by omega) ?_)
                     | (refine Split.pos (by omega) ?_)
                     | (refine Split.neg (by omega) ?_)
                     | (refine Split.mk (fun h => ?_) (fun h => ?_))
                     | (refine Need.mk (by omega) ?_)
                     | (refine Ints.ln (by assumption) ?_)
                     | (refine Mat.ln (by assumption) ?_)
                     | (refine Ints.ln (Mat.row (by assumption) _ (by omega)) ?_)
                     | (refine Ints.ix (by assumption) (by omega) ?_)
                     | (refine Mat.ix (by assumption) (by omega) ?_)
                     | (refine Ints.ix (Mat.row (by assumption) _ (by omega)) (by omega) ?_)
                     | (refine Ints.ix (c := 0) (by assumption) (by omega) ?_)
                     | (refine Mat.ix (c := 0) (by assumption) (by omega) ?_)
                     | (refine Ints.ix (c := 0) (Mat.row (by assumption) _ (by omega)) (by omega) ?_)
                     | (refine Ints.ixI (by assumption) (by omega) ?_)
                     | (refine Mat.ixI (by assumption) (by omega) ?_)
                     | (refine Ints.ixI (Mat.row (by assumption) _ (by omega)) (by omega) ?_)
                     | (refine Ints.ld (by assumption) (by omega) ?_)
                     | (refine Mat.ld (by assumption) (by omega) ?_)
                     | (refine Ints.ld (Mat.row (by assumption) _ (by omega)) (by omega) ?_)
                     | (refine At.ld (by assumption) rfl ?_)
                     | (refine At.ldN (by assumption) rfl ?_)
                     | (refine Prs.ln (by assumption) ?_)
                     | (refine Trs.ln (by assumption) ?_)
                     | (refine Prs.ix (by assumption) (by omega) ?_)
                     | (refine Trs.ix (by assumption) (by omega) ?_)
                     | (refine Prs.ldN (by assumption) (by omega) ?_)
                     | (refine Trs.ldN (by assumption) (by omega) ?_)
                     | (refine At.ldN (Blk.at (by assumption)) rfl ?_)
                     | (refine At.ld (Blk.at (by assumption)) rfl ?_)
                     | (refine IxA.mk (by omega) ?_)
                     | (refine Sl.ln (Own.sl (by assumption)) ?_)
                     | (refine Ints.ix (Own.sl (by assumption)) (by omega) ?_)
                     | (refine Ints.ixI (Own.sl (by assumption)) (by omega) ?_)
                     | (refine Ints.ld (Own.sl (by assumption)) (by omega) ?_))
            exact ⟨rfl, EE⟩
    · repeat' (conv => whnf
               first
               | (refine Dr.quiet tyOk (by kernel_rfl) ?_)
               | (refine VC.pure alive21_pc ?_)
               | (refine VC.pure cf ?_)
               | (refine Rng.mk (by omega) ?_)
               | (refine Split.pos (by omega) ?_)
               | (refine Split.neg (by omega) ?_)
               | (refine Split.mk (fun h => ?_) (fun h => ?_))
               | (refine Need.mk (by omega) ?_)
               | (refine Ints.ln (by assumption) ?_)
               | (refine Mat.ln (by assumption) ?_)
               | (refine Ints.ln (Mat.row (by assumption) _ (by omega)) ?_)
               | (refine Ints.ix (by assumption) (by omega) ?_)
               | (refine Mat.ix (by assumption) (by omega) ?_)
               | (refine Ints.ix (Mat.row (by assumption) _ (by omega)) (by omega) ?_)
               | (refine Ints.ix (c := 0) (by assumption) (by omega) ?_)
               | (refine Mat.ix (c := 0) (by assumption) (by omega) ?_)
               | (refine Ints.ix (c := 0) (Mat.row (by assumption) _ (by omega)) (by omega) ?_)
               | (refine Ints.ixI (by assumption) (by omega) ?_)
               | (refine Mat.ixI (by assumption) (by omega) ?_)
               | (refine Ints.ixI (Mat.row (by assumption) _ (by omega)) (by omega) ?_)
               | (refine Ints.ld (by assumption) (by omega) ?_)
               | (refine Mat.ld (by assumption) (by omega) ?_)
               | (refine Ints.ld (Mat.row (by assumption) _ (by omega)) (by omega) ?_)
               | (refine At.ld (by assumption) rfl ?_)
               | (refine At.ldN (by assumption) rfl ?_)
               | (refine Prs.ln (by assumption) ?_)
               | (refine Trs.ln (by assumption) ?_)
               | (refine Prs.ix (by assumption) (by omega) ?_)
               | (refine Trs.ix (by assumption) (by omega) ?_)
               | (refine Prs.ldN (by assumption) (by omega) ?_)
               | (refine Trs.ldN (by assumption) (by omega) ?_)
               | (refine At.ldN (Blk.at (by assumption)) rfl ?_)
               | (refine At.ld (Blk.at (by assumption)) rfl ?_)
               | (refine IxA.mk (by omega) ?_)
               | (refine Sl.ln (Own.sl (by assumption)) ?_)
               | (refine Ints.ix (Own.sl (by assumption)) (by omega) ?_)
               | (refine Ints.ixI (Own.sl (by assumption)) (by omega) ?_)
               | (refine Ints.ld (Own.sl (by assumption)) (by omega) ?_))
      all_goals exact ⟨rfl, EE⟩
  · rw [tf_f hf] at cf
    repeat' (conv => whnf
             first
             | (refine Dr.quiet tyOk (by kernel_rfl) ?_)
             | (refine VC.pure alive21_pc ?_)
             | (refine VC.pure cf ?_)
             | (refine Rng.mk (by omega) ?_)
             | (refine Split.pos (by omega) ?_)
             | (refine Split.neg (by omega) ?_)
             | (refine Split.mk (fun h => ?_) (fun h => ?_))
             | (refine Need.mk (by omega) ?_)
             | (refine Ints.ln (by assumption) ?_)
             | (refine Mat.ln (by assumption) ?_)
             | (refine Ints.ln (Mat.row (by assumption) _ (by omega)) ?_)
             | (refine Ints.ix (by assumption) (by omega) ?_)
             | (refine Mat.ix (by assumption) (by omega) ?_)
             | (refine Ints.ix (Mat.row (by assumption) _ (by omega)) (by omega) ?_)
             | (refine Ints.ix (c := 0) (by assumption) (by omega) ?_)
             | (refine Mat.ix (c := 0) (by assumption) (by omega) ?_)
             | (refine Ints.ix (c := 0) (Mat.row (by assumption) _ (by omega)) (by omega) ?_)
             | (refine Ints.ixI (by assumption) (by omega) ?_)
             | (refine Mat.ixI (by assumption) (by omega) ?_)
             | (refine Ints.ixI (Mat.row (by assumption) _ (by omega)) (by omega) ?_)
             | (refine Ints.ld (by assumption) (by omega) ?_)
             | (refine Mat.ld (by assumption) (by omega) ?_)
             | (refine Ints.ld (Mat.row (by assumption) _ (by omega)) (by omega) ?_)
             | (refine At.ld (by assumption) rfl ?_)
             | (refine At.ldN (by assumption) rfl ?_)
             | (refine Prs.ln (by assumption) ?_)
             | (refine Trs.ln (by assumption) ?_)
             | (refine Prs.ix (by assumption) (by omega) ?_)
             | (refine Trs.ix (by assumption) (by omega) ?_)
             | (refine Prs.ldN (by assumption) (by omega) ?_)
             | (refine Trs.ldN (by assumption) (by omega) ?_)
             | (refine At.ldN (Blk.at (by assumption)) rfl ?_)
             | (refine At.ld (Blk.at (by assumption)) rfl ?_)
             | (refine IxA.mk (by omega) ?_)
             | (refine Sl.ln (Own.sl (by assumption)) ?_)
             | (refine Ints.ix (Own.sl (by assumption)) (by omega) ?_)
             | (refine Ints.ixI (Own.sl (by assumption)) (by omega) ?_)
             | (refine Ints.ld (Own.sl (by assumption)) (by omega) ?_))
    exact ⟨rfl, EE⟩
open Go.ChangeShapes Go.WideShapes Go.ChangeAt Go.RowKit Go.Eng in
theorem nashScales_lifted (os : Os) (started : os.Started) (H : Type) (enc : TypeId × Value → H) :
    ReturnsInHanded {} Try.checked os 10 .any (Rows.nashScalesSpec.pre6 enc Try.prog Try.f10 Rows.nashScalesRow.domain false) (Rows.nashScalesSpec.post enc Try.prog Try.f10 false true false false) := by
  refine returnsInHanded_of_change (C := Try.checked) own started (by kernel_rfl) Try.func10
    (ChangeSpec.witness6 (enc := enc) (C := Try.checked) false ⟨#[], #[.agg #[.slice none 0 0], .int .i64 0, .int .i64 0], []⟩ 8 (by kernel_rfl) (by kernel_rfl) (by kernel_rfl) (by kernel_rfl)) ?_
  intro W base args ds gs before hval0 hW hcnd _
  have hval : ∀ (j : Nat) t v, Try.f10.params[j]? = some t → args[j]? = some v → Value.okWide Try.prog W .any base t v := hval0
  have hW' := hW
  obtain ⟨p, q, hA0, hV, e0, hfz, hnd⟩ := hW
  have hA : DataW.TrodAll enc Try.prog W 0 (fun _ => true) true Try.f10.params.toList args.toList ds p := hA0
  rw [Try.params10] at hA hval
  clear hfz hnd hV e0 hval0
  obtain ⟨v0, vs0, d0, ds0, p0, q0, e0, rfl, f0, h0, t0⟩ := trodAll_cons hA
  obtain ⟨v1, vs1, d1, ds1, p1, q1, e1, rfl, f1, h1, t1⟩ := trodAll_cons t0
  subst e1
  obtain ⟨v2, vs2, d2, ds2, p2, q2, e2, rfl, f2, h2, t2⟩ := trodAll_cons t1
  subst e2
  obtain ⟨ee, rfl, _⟩ := trodAll_nil t2
  subst ee
  obtain rfl : args = #[v0, v1, v2] := Array.toList_inj.1 (by simpa using e0)
  obtain ⟨g0, s0, r0, rfl, H0, R0⟩ := open_G Try.underlying24 rfl (by kernel_rfl) (by kernel_rfl) Try.underlying22 Try.underlying27 Try.underlying3 (by kernel_rfl) (by kernel_rfl) (hval 0 24 _ rfl rfl) h0
  obtain ⟨n1, rfl, R1⟩ := open_I Try.underlying3 (hval 1 3 _ rfl rfl) h1
  obtain ⟨n2, rfl, R2⟩ := open_I Try.underlying3 (hval 2 3 _ rfl rfl) h2
  exact law_calls laidOut (by rw [Try.params10]; intro t ht; revert t; decide +kernel) rfl Try.underlying4 rfl ⟨rfl, rfl, rfl⟩ hW' (nashscales_pc H0)

theorem nashScales_holds : Rows.NashScalesSaid :=
  OpenClaim.holds_of_wide 10 Try.f10 rfl rfl rfl rfl rfl rfl rfl ⟨rfl, rfl, rfl, rfl, rfl⟩ rfl rfl rfl rfl rfl (by kernel_rfl) Try.func10 (by kernel_rfl)
    (of_decide_eq_true (by kernel_rfl)) (by unfold Func.isWrapper; first | (rw [if_pos (by decide +kernel)]; kernel_rfl) | (rw [if_neg (by decide +kernel)]; exact ⟨rfl, rfl⟩))
    (fun os started H enc _ => nashScales_lifted os started H enc)
end Go.Proofs.Ytkgogljfngplnaa
