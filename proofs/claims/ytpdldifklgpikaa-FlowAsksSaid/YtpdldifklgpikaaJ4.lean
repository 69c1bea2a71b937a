/- Contracts: the reference's found; Reached of both. -/
import Derived.Test.YtpdldifklgpikaaJ3
set_option linter.unusedVariables false
set_option linter.unusedSimpArgs false
namespace Go.Proofs.Ytpdldifklgpikaa
open Go.Eng
set_option maxRecDepth 100000
set_option maxHeartbeats 4000000

abbrev OZ (B : Nat) (w : World) (v : Value) (l : List Bool) : Prop := Go.Eng.Own B 4 1 w v l.length (l.map bv)
theorem OZ.set {B k : Nat} {x : Bool} {w : World} {v : Value} {l : List Bool} {K : World → Prop} (h : OZ B w v l) (hk : k < l.length) (hK : ∀ w', Gr (fun j => v.ownBlock = some j) w w' → OZ B w' v (l.set k x) → K w') : St w (ea v k) (.bool x) K :=
  Own.set h (by rw [List.length_map]; exact hk) rfl fun w' hg h' => hK w' hg (by
    rw [show (l.map bv).set k (.bool x) = (l.set k x).map bv by rw [List.map_set]; rfl] at h'
    show Go.Eng.Own B 4 1 w' v (l.set k x).length _
    rw [List.length_set]; exact h')
theorem OZ.made {B n : Nat} {w : World} {v : Value} (h : Go.Eng.Own B 4 1 w v n (List.replicate n (.bool false))) : OZ B w v (List.replicate n false) := by
  show Go.Eng.Own B 4 1 w v (List.replicate n false).length ((List.replicate n false).map bv)
  rw [List.length_replicate, List.map_replicate]; exact h
theorem Ints.ldv {w : World} {v : Value} {l : List Int} {K : Value → Prop} {c : Nat} {x : Int} (h : Ints w v l) (hv : l.getD c 0 = x) (hc : c < l.length) (hk : K (.int .i64 x)) : Ld w (ea v c) K :=
  Ints.ld h hc (by rw [hv]; exact hk)
abbrev OS (B : Nat) (w : World) (v : Value) (l : List Int) : Prop := Go.Eng.Own B 3 1 w v l.length (l.map i64v)
theorem snoc_of {l : List Int} (h : l ≠ []) : ∃ l0 x, l = l0 ++ [x] := ⟨l.dropLast, l.getLast h, (List.dropLast_concat_getLast h).symm⟩

theorem greach_rc {w : World} {N : Nat} {sv fv : Value} {A : List T3} {f : List Int} (HA : Trs w sv A) (Hf : Ints w fv f) (hk : NetOk N A) (hF : isF A f) :
    RC Try.prog 34 [.agg #[.int .i64 (N : Int), sv], fv] w NoB (fun u w' => OZ w.heap.size w' u (rchL N A f)) := by
  refine RC.mk tyOk Try.func34 rfl (by kernel_rfl) fun w1 E1 => ?_
  replace HA := HA.ext E1
  replace Hf := Hf.ext E1
  have EE := Ext.refl w1
  refine Bx.agg fun b2 w2 E2 hb2 Hb _ => ?_
  replace HA := HA.ext E2
  replace Hf := Hf.ext E2
  replace EE := EE.ext E2
  have hz1 := EE.size
  have hz0 : w.heap.size ≤ w1.heap.size := by first | omega | exact E1.size
  have hle := HA.le
  have hlf := Hf.le
  have h40 := hk.n40
  have h200 := hk.a200
  have hn2 := hk.n2
  have hfl := hF.1
  obtain ⟨hst, hcn⟩ := RI.start (f := f) hk
  repeat' (conv => whnf
           first
           | (refine Dr.quiet tyOk (by kernel_rfl) ?_)
           | (refine Rng.mk (by omega) ?_)
           | (refine Split.pos (by omega) ?_)
           | (refine Split.neg (by omega) ?_)
           | (refine Split.mk (fun h => ?_) (fun h => ?_))
           | (refine Need.mk (by omega) ?_)
           | (refine Ints.ln (by assumption) ?_)
           | (refine Mat.ln (by assumption) ?_)
           | (refine Ints.ln (Mat.row (by assumption) _ (by omega)) ?_)
           | (refine Ints.ix (by assumption) (by omega) ?_)
           | (refine Mat.ix (by assumption) (by omega) ?_)
           | (refine Ints.ix (Mat.row (by assumption) _ (by omega)) (by omega) ?_)
           | (refine Ints.ix (c := 0) (by assumption) (by omega) ?_)
           | (refine Mat.ix (c := 0) (by assumption) (by omega) ?_)
           | (refine Ints.ix (c := 0) (Mat.row (by assumption) _ (by omega)) (by omega) ?_)
           | (refine Ints.ixI (by assumption) (by omega) ?_)
           | (refine Mat.ixI (by assumption) (by omega) ?_)
           | (refine Ints.ixI (Mat.row (by assumption) _ (by omega)) (by omega) ?_)
           | (refine Ints.ld (by assumption) (by omega) ?_)
           | (refine Mat.ld (by assumption) (by omega) ?_)
           | (refine Ints.ld (Mat.row (by assumption) _ (by omega)) (by omega) ?_)
           | (refine At.ld (by assumption) rfl ?_)
           | (refine At.ldN (by assumption) rfl ?_)
           | (refine Prs.ln (by assumption) ?_)
           | (refine Trs.ln (by assumption) ?_)
           | (refine Prs.ix (by assumption) (by omega) ?_)
           | (refine Trs.ix (by assumption) (by omega) ?_)
           | (refine Prs.ldN (by assumption) (by omega) ?_)
           | (refine Trs.ldN (by assumption) (by omega) ?_)
           | (refine At.ldN (Blk.at (by assumption)) rfl ?_)
           | (refine At.ld (Blk.at (by assumption)) rfl ?_)
           | (refine IxA.mk (by omega) ?_)
           | (refine Sl.ln (Own.sl (by assumption)) ?_)
           | (refine Ints.ix (Own.sl (by assumption)) (by omega) ?_)
           | (refine Ints.ixI (Own.sl (by assumption)) (by omega) ?_)
           | (refine Ints.ld (Own.sl (by assumption)) (by omega) ?_))
  have HA__1 := HA
  have Hf__1 := Hf
  have EE__1 := EE
  have Hb__1 := Hb
  conv => whnf
  refine VE.made (n := N) Try.underlying32 eBool rfl (by omega) (by omega) fun rv w3 E3 HO hb_rv => ?_
  replace HA := HA.ext E3
  replace Hf := Hf.ext E3
  replace EE := EE.ext E3
  replace Hb := Hb.ext E3
  replace HO := OZ.made (HO _ (Nat.le_refl _))
  have EL1 := E3
  have hrl : (List.replicate N false).length = N := List.length_replicate
  repeat' (conv => whnf
           first
           | (refine Dr.quiet tyOk (by kernel_rfl) ?_)
           | (refine Bls.ix (c := 0) (Own.sl HO) (by omega) ?_)
           | (refine Rng.mk (by omega) ?_)
           | (refine Split.pos (by omega) ?_)
           | (refine Split.neg (by omega) ?_)
           | (refine Split.mk (fun h => ?_) (fun h => ?_))
           | (refine Need.mk (by omega) ?_)
           | (refine Ints.ln (by assumption) ?_)
           | (refine Mat.ln (by assumption) ?_)
           | (refine Ints.ln (Mat.row (by assumption) _ (by omega)) ?_)
           | (refine Ints.ix (by assumption) (by omega) ?_)
           | (refine Mat.ix (by assumption) (by omega) ?_)
           | (refine Ints.ix (Mat.row (by assumption) _ (by omega)) (by omega) ?_)
           | (refine Ints.ix (c := 0) (by assumption) (by omega) ?_)
           | (refine Mat.ix (c := 0) (by assumption) (by omega) ?_)
           | (refine Ints.ix (c := 0) (Mat.row (by assumption) _ (by omega)) (by omega) ?_)
           | (refine Ints.ixI (by assumption) (by omega) ?_)
           | (refine Mat.ixI (by assumption) (by omega) ?_)
           | (refine Ints.ixI (Mat.row (by assumption) _ (by omega)) (by omega) ?_)
           | (refine Ints.ld (by assumption) (by omega) ?_)
           | (refine Mat.ld (by assumption) (by omega) ?_)
           | (refine Ints.ld (Mat.row (by assumption) _ (by omega)) (by omega) ?_)
           | (refine At.ld (by assumption) rfl ?_)
           | (refine At.ldN (by assumption) rfl ?_)
           | (refine Prs.ln (by assumption) ?_)
           | (refine Trs.ln (by assumption) ?_)
           | (refine Prs.ix (by assumption) (by omega) ?_)
           | (refine Trs.ix (by assumption) (by omega) ?_)
           | (refine Prs.ldN (by assumption) (by omega) ?_)
           | (refine Trs.ldN (by assumption) (by omega) ?_)
           | (refine At.ldN (Blk.at (by assumption)) rfl ?_)
           | (refine At.ld (Blk.at (by assumption)) rfl ?_)
           | (refine IxA.mk (by omega) ?_)
           | (refine Sl.ln (Own.sl (by assumption)) ?_)
           | (refine Ints.ix (Own.sl (by assumption)) (by omega) ?_)
           | (refine Ints.ixI (Own.sl (by assumption)) (by omega) ?_)
           | (refine Ints.ld (Own.sl (by assumption)) (by omega) ?_))
  refine OZ.set HO (by omega) fun w4 G4 HO' => ?_
  have E4 : Ext w2 w4 := Own.keep HO EL1 (Nat.le_refl _) G4
  replace HO := HO'
  replace HA := HA__1.ext E4
  replace Hf := Hf__1.ext E4
  replace EE := EE__1.ext E4
  replace Hb := Hb__1.ext E4
  replace EL1 := E4
  repeat' (conv => whnf
           first
           | (refine Dr.quiet tyOk (by kernel_rfl) ?_)
           | (refine Rng.mk (by omega) ?_)
           | (refine Split.pos (by omega) ?_)
           | (refine Split.neg (by omega) ?_)
           | (refine Split.mk (fun h => ?_) (fun h => ?_))
           | (refine Need.mk (by omega) ?_)
           | (refine Ints.ln (by assumption) ?_)
           | (refine Mat.ln (by assumption) ?_)
           | (refine Ints.ln (Mat.row (by assumption) _ (by omega)) ?_)
           | (refine Ints.ix (by assumption) (by omega) ?_)
           | (refine Mat.ix (by assumption) (by omega) ?_)
           | (refine Ints.ix (Mat.row (by assumption) _ (by omega)) (by omega) ?_)
           | (refine Ints.ix (c := 0) (by assumption) (by omega) ?_)
           | (refine Mat.ix (c := 0) (by assumption) (by omega) ?_)
           | (refine Ints.ix (c := 0) (Mat.row (by assumption) _ (by omega)) (by omega) ?_)
           | (refine Ints.ixI (by assumption) (by omega) ?_)
           | (refine Mat.ixI (by assumption) (by omega) ?_)
           | (refine Ints.ixI (Mat.row (by assumption) _ (by omega)) (by omega) ?_)
           | (refine Ints.ld (by assumption) (by omega) ?_)
           | (refine Mat.ld (by assumption) (by omega) ?_)
           | (refine Ints.ld (Mat.row (by assumption) _ (by omega)) (by omega) ?_)
           | (refine At.ld (by assumption) rfl ?_)
           | (refine At.ldN (by assumption) rfl ?_)
           | (refine Prs.ln (by assumption) ?_)
           | (refine Trs.ln (by assumption) ?_)
           | (refine Prs.ix (by assumption) (by omega) ?_)
           | (refine Trs.ix (by assumption) (by omega) ?_)
           | (refine Prs.ldN (by assumption) (by omega) ?_)
           | (refine Trs.ldN (by assumption) (by omega) ?_)
           | (refine At.ldN (Blk.at (by assumption)) rfl ?_)
           | (refine At.ld (Blk.at (by assumption)) rfl ?_)
           | (refine IxA.mk (by omega) ?_)
           | (refine Sl.ln (Own.sl (by assumption)) ?_)
           | (refine Ints.ix (Own.sl (by assumption)) (by omega) ?_)
           | (refine Ints.ixI (Own.sl (by assumption)) (by omega) ?_)
           | (refine Ints.ld (Own.sl (by assumption)) (by omega) ?_))
  have hsz := EL1.size
  refine VE.litI [0] Try.underlying26 eInt (by decide) fun sk w20 E20 HS0 _ => ?_
  have HS1 : OS _ w20 sk [0] := HS0 _ hsz
  replace HA := HA.ext E20
  replace Hf := Hf.ext E20
  replace EE := EE.ext E20
  replace Hb := Hb.ext E20
  replace EL1 := EL1.ext E20
  replace HO := HO.ext E20
  repeat' (conv => whnf
           first
           | (refine Dr.quiet tyOk (by kernel_rfl) ?_)
           | (refine Rng.mk (by omega) ?_)
           | (refine Split.pos (by omega) ?_)
           | (refine Split.neg (by omega) ?_)
           | (refine Split.mk (fun h => ?_) (fun h => ?_))
           | (refine Need.mk (by omega) ?_)
           | (refine Ints.ln (by assumption) ?_)
           | (refine Mat.ln (by assumption) ?_)
           | (refine Ints.ln (Mat.row (by assumption) _ (by omega)) ?_)
           | (refine Ints.ix (by assumption) (by omega) ?_)
           | (refine Mat.ix (by assumption) (by omega) ?_)
           | (refine Ints.ix (Mat.row (by assumption) _ (by omega)) (by omega) ?_)
           | (refine Ints.ix (c := 0) (by assumption) (by omega) ?_)
           | (refine Mat.ix (c := 0) (by assumption) (by omega) ?_)
           | (refine Ints.ix (c := 0) (Mat.row (by assumption) _ (by omega)) (by omega) ?_)
           | (refine Ints.ixI (by assumption) (by omega) ?_)
           | (refine Mat.ixI (by assumption) (by omega) ?_)
           | (refine Ints.ixI (Mat.row (by assumption) _ (by omega)) (by omega) ?_)
           | (refine Ints.ld (by assumption) (by omega) ?_)
           | (refine Mat.ld (by assumption) (by omega) ?_)
           | (refine Ints.ld (Mat.row (by assumption) _ (by omega)) (by omega) ?_)
           | (refine At.ld (by assumption) rfl ?_)
           | (refine At.ldN (by assumption) rfl ?_)
           | (refine Prs.ln (by assumption) ?_)
           | (refine Trs.ln (by assumption) ?_)
           | (refine Prs.ix (by assumption) (by omega) ?_)
           | (refine Trs.ix (by assumption) (by omega) ?_)
           | (refine Prs.ldN (by assumption) (by omega) ?_)
           | (refine Trs.ldN (by assumption) (by omega) ?_)
           | (refine At.ldN (Blk.at (by assumption)) rfl ?_)
           | (refine At.ld (Blk.at (by assumption)) rfl ?_)
           | (refine IxA.mk (by omega) ?_)
           | (refine Sl.ln (Own.sl (by assumption)) ?_)
           | (refine Ints.ix (Own.sl (by assumption)) (by omega) ?_)
           | (refine Ints.ixI (Own.sl (by assumption)) (by omega) ?_)
           | (refine Ints.ld (Own.sl (by assumption)) (by omega) ?_))
  refine Lp.mk tyOk [false, false, false, false, false, false, true, true, true, true, true, false, false, false, false, false, false, true, true, true, true, true, true, true, true, true, true, true, true, true, true, true, true, true, true, true, true, true, true, true, true, true, true, true, true, true, true, true, true, true, true, true, true, true, true, true, true, true, true, true, true, true, true, true, true, true, true, true, true, true, true, true, true, true, true, true, true, true, true, true, true, true, true, true] (fun m fr wr => getK fr 6 fun st => ∃ c : Nat, c ≤ (N + 1) ∧ m = (N + 1) - c ∧ ((∃ M S, OZ w2.heap.size wr rv M ∧ OS w2.heap.size wr st S ∧ RI N A f M S (fun _ => False) ∧ c + cntF M + S.length = N)) ∧ Ext w2 wr) ((N + 1)) ?_ ?_
  · exact ⟨0, Nat.zero_le _, rfl, ⟨_, _, HO, HS1, hst, by simp; omega⟩, EL1⟩
  · intro m w22 u6 u7 u8 u9 u10 u17 u18 u19 u20 u21 u22 u23 u24 u25 u26 u27 u28 u29 u30 u31 u32 u33 u34 u35 u36 u37 u38 u39 u40 u41 u42 u43 u44 u45 u46 u47 u48 u49 u50 u51 u52 u53 u54 u55 u56 u57 u58 u59 u60 u61 u62 u63 u64 u65 u66 u67 u68 u69 u70 u71 u72 u73 u74 u75 u76 u77 u78 u79 u80 u81 u82 u83 hR
    obtain ⟨c, hc, rfl, HX, EL1⟩ := hR
    replace HA := HA__1.ext EL1
    replace Hf := Hf__1.ext EL1
    replace EE := EE__1.ext EL1
    replace Hb := Hb__1.ext EL1
    obtain ⟨M, S, HO, HS, hR, hcnt⟩ := HX
    have hMl := hR.rm.len
    have HSI := Own.sl HS
    by_cases hS : S = []
    · subst hS
      have hl0 : ([] : List Int).length = 0 := rfl
      repeat' (conv => whnf
               first
               | (refine Dr.quiet tyOk (by kernel_rfl) ?_)
               | (refine Rng.mk (by omega) ?_)
               | (refine Split.pos (by omega) ?_)
               | (refine Split.neg (by omega) ?_)
               | (refine Split.mk (fun h => ?_) (fun h => ?_))
               | (refine Need.mk (by omega) ?_)
               | (refine Ints.ln (by assumption) ?_)
               | (refine Mat.ln (by assumption) ?_)
               | (refine Ints.ln (Mat.row (by assumption) _ (by omega)) ?_)
               | (refine Ints.ix (by assumption) (by omega) ?_)
               | (refine Mat.ix (by assumption) (by omega) ?_)
               | (refine Ints.ix (Mat.row (by assumption) _ (by omega)) (by omega) ?_)
               | (refine Ints.ix (c := 0) (by assumption) (by omega) ?_)
               | (refine Mat.ix (c := 0) (by assumption) (by omega) ?_)
               | (refine Ints.ix (c := 0) (Mat.row (by assumption) _ (by omega)) (by omega) ?_)
               | (refine Ints.ixI (by assumption) (by omega) ?_)
               | (refine Mat.ixI (by assumption) (by omega) ?_)
               | (refine Ints.ixI (Mat.row (by assumption) _ (by omega)) (by omega) ?_)
               | (refine Ints.ld (by assumption) (by omega) ?_)
               | (refine Mat.ld (by assumption) (by omega) ?_)
               | (refine Ints.ld (Mat.row (by assumption) _ (by omega)) (by omega) ?_)
               | (refine At.ld (by assumption) rfl ?_)
               | (refine At.ldN (by assumption) rfl ?_)
               | (refine Prs.ln (by assumption) ?_)
               | (refine Trs.ln (by assumption) ?_)
               | (refine Prs.ix (by assumption) (by omega) ?_)
               | (refine Trs.ix (by assumption) (by omega) ?_)
               | (refine Prs.ldN (by assumption) (by omega) ?_)
               | (refine Trs.ldN (by assumption) (by omega) ?_)
               | (refine At.ldN (Blk.at (by assumption)) rfl ?_)
               | (refine At.ld (Blk.at (by assumption)) rfl ?_)
               | (refine IxA.mk (by omega) ?_)
               | (refine Sl.ln (Own.sl (by assumption)) ?_)
               | (refine Ints.ix (Own.sl (by assumption)) (by omega) ?_)
               | (refine Ints.ixI (Own.sl (by assumption)) (by omega) ?_)
               | (refine Ints.ld (Own.sl (by assumption)) (by omega) ?_))
      rw [← hR.done hk]
      exact ⟨EE, Own.base HO (by omega)⟩
    · obtain ⟨S0, v, rfl⟩ := snoc_of hS
      have hv := hR.stk v (by simp)
      have hsl : (S0 ++ [v]).length = S0.length + 1 := by simp
      have hidx : (((S0 ++ [v]).length : Int) - 1).toNat = S0.length := by omega
      have hgv : (S0 ++ [v]).getD S0.length 0 = v := by simp [List.getD]
      have hgv' : (S0 ++ [v]).getD (((S0 ++ [v]).length : Int) - 1).toNat 0 = v := by rw [hidx]; exact hgv
      have hrch : Rch A f v := by have := hR.rm.rch _ hv.2.2; rwa [show ((v.toNat : Nat) : Int) = v by omega] at this
      repeat' (conv => whnf
               first
               | (refine Dr.quiet tyOk (by kernel_rfl) ?_)
               | (refine Ints.ixI HSI (by omega) ?_)
               | (refine Ints.ldv HSI hgv' (by omega) ?_)
               | (refine VS.cutHI (h := S0.length) (by omega) Try.underlying26 (by kernel_rfl) (by decide) HSI (by omega) ?_)
               | (refine Rng.mk (by omega) ?_)
               | (refine Split.pos (by omega) ?_)
               | (refine Split.neg (by omega) ?_)
               | (refine Split.mk (fun h => ?_) (fun h => ?_))
               | (refine Need.mk (by omega) ?_)
               | (refine Ints.ln (by assumption) ?_)
               | (refine Mat.ln (by assumption) ?_)
               | (refine Ints.ln (Mat.row (by assumption) _ (by omega)) ?_)
               | (refine Ints.ix (by assumption) (by omega) ?_)
               | (refine Mat.ix (by assumption) (by omega) ?_)
               | (refine Ints.ix (Mat.row (by assumption) _ (by omega)) (by omega) ?_)
               | (refine Ints.ix (c := 0) (by assumption) (by omega) ?_)
               | (refine Mat.ix (c := 0) (by assumption) (by omega) ?_)
               | (refine Ints.ix (c := 0) (Mat.row (by assumption) _ (by omega)) (by omega) ?_)
               | (refine Ints.ixI (by assumption) (by omega) ?_)
               | (refine Mat.ixI (by assumption) (by omega) ?_)
               | (refine Ints.ixI (Mat.row (by assumption) _ (by omega)) (by omega) ?_)
               | (refine Ints.ld (by assumption) (by omega) ?_)
               | (refine Mat.ld (by assumption) (by omega) ?_)
               | (refine Ints.ld (Mat.row (by assumption) _ (by omega)) (by omega) ?_)
               | (refine At.ld (by assumption) rfl ?_)
               | (refine At.ldN (by assumption) rfl ?_)
               | (refine Prs.ln (by assumption) ?_)
               | (refine Trs.ln (by assumption) ?_)
               | (refine Prs.ix (by assumption) (by omega) ?_)
               | (refine Trs.ix (by assumption) (by omega) ?_)
               | (refine Prs.ldN (by assumption) (by omega) ?_)
               | (refine Trs.ldN (by assumption) (by omega) ?_)
               | (refine At.ldN (Blk.at (by assumption)) rfl ?_)
               | (refine At.ld (Blk.at (by assumption)) rfl ?_)
               | (refine IxA.mk (by omega) ?_)
               | (refine Sl.ln (Own.sl (by assumption)) ?_)
               | (refine Ints.ix (Own.sl (by assumption)) (by omega) ?_)
               | (refine Ints.ixI (Own.sl (by assumption)) (by omega) ?_)
               | (refine Ints.ld (Own.sl (by assumption)) (by omega) ?_))
      have HC := Own.cut HS (h := S0.length) (by omega)
      rw [Nat.mul_one, ← List.map_take, List.take_left' rfl] at HC
      have hR0 := hR.pop
      refine Lp.mk tyOk [false, false, false, false, false, false, true, false, true, true, true, false, false, false, false, false, false, false, false, false, false, false, false, false, false, false, false, false, false, false, false, false, false, false, true, true, true, true, true, true, true, true, true, true, true, true, true, true, true, true, true, true, true, true, true, true, true, true, true, true, true, true, true, true, true, true, true, true, true, true, true, true, true, true, true, true, true, true, true, true, true, true, true, true] (fun m fr wr => getK fr 34 fun i => getK fr 6 fun st => ∃ d : Nat, d ≤ A.length ∧ m = A.length - d ∧ i = .int .i64 (d : Int) ∧ ((∃ M S, OZ w2.heap.size wr rv M ∧ OS w2.heap.size wr st S ∧ RI N A f M S (fun u => u = v) ∧ c + 1 + cntF M + S.length = N ∧ ∀ i, i < d → ∀ t, Edg A f v t i → M.getD t.toNat false = true)) ∧ Ext w2 wr) (A.length) ?_ ?_
      · exact ⟨0, Nat.zero_le _, rfl, rfl, ⟨M, S0, HO, HC, hR0, by omega, fun i hi => absurd hi (Nat.not_lt_zero _)⟩, EL1⟩
      · intro m w23 u6 u8 u9 u10 u34 u35 u36 u37 u38 u39 u40 u41 u42 u43 u44 u45 u46 u47 u48 u49 u50 u51 u52 u53 u54 u55 u56 u57 u58 u59 u60 u61 u62 u63 u64 u65 u66 u67 u68 u69 u70 u71 u72 u73 u74 u75 u76 u77 u78 u79 u80 u81 u82 u83 hR
        obtain ⟨d, hd, rfl, rfl, HY, EL1⟩ := hR
        replace HA := HA__1.ext EL1
        replace Hf := Hf__1.ext EL1
        replace EE := EE__1.ext EL1
        replace Hb := Hb__1.ext EL1
        obtain ⟨M, S, HO, HS, hR, hcnt, hdone⟩ := HY
        have hMl := hR.rm.len
        by_cases hdl : d < A.length
        · obtain ⟨hf, ht, hne, hc0, hc1⟩ := hk.arc d hdl
          have e1 : (A.getD d (0, 0, 0)).1 = frm A d := rfl
          have e2 : (A.getD d (0, 0, 0)).2.1 = too A d := rfl
          have e3 : (A.getD d (0, 0, 0)).2.2 = cpy A d := rfl
          repeat' (conv => whnf
                   first
                   | (refine Dr.quiet tyOk (by kernel_rfl) ?_)
                   | (refine Rng.mk (by omega) ?_)
                   | (refine Split.pos (by omega) ?_)
                   | (refine Split.neg (by omega) ?_)
                   | (refine Split.mk (fun h => ?_) (fun h => ?_))
                   | (refine Need.mk (by omega) ?_)
                   | (refine Ints.ln (by assumption) ?_)
                   | (refine Mat.ln (by assumption) ?_)
                   | (refine Ints.ln (Mat.row (by assumption) _ (by omega)) ?_)
                   | (refine Ints.ix (by assumption) (by omega) ?_)
                   | (refine Mat.ix (by assumption) (by omega) ?_)
                   | (refine Ints.ix (Mat.row (by assumption) _ (by omega)) (by omega) ?_)
                   | (refine Ints.ix (c := 0) (by assumption) (by omega) ?_)
                   | (refine Mat.ix (c := 0) (by assumption) (by omega) ?_)
                   | (refine Ints.ix (c := 0) (Mat.row (by assumption) _ (by omega)) (by omega) ?_)
                   | (refine Ints.ixI (by assumption) (by omega) ?_)
                   | (refine Mat.ixI (by assumption) (by omega) ?_)
                   | (refine Ints.ixI (Mat.row (by assumption) _ (by omega)) (by omega) ?_)
                   | (refine Ints.ld (by assumption) (by omega) ?_)
                   | (refine Mat.ld (by assumption) (by omega) ?_)
                   | (refine Ints.ld (Mat.row (by assumption) _ (by omega)) (by omega) ?_)
                   | (refine At.ld (by assumption) rfl ?_)
                   | (refine At.ldN (by assumption) rfl ?_)
                   | (refine Prs.ln (by assumption) ?_)
                   | (refine Trs.ln (by assumption) ?_)
                   | (refine Prs.ix (by assumption) (by omega) ?_)
                   | (refine Trs.ix (by assumption) (by omega) ?_)
                   | (refine Prs.ldN (by assumption) (by omega) ?_)
                   | (refine Trs.ldN (by assumption) (by omega) ?_)
                   | (refine At.ldN (Blk.at (by assumption)) rfl ?_)
                   | (refine At.ld (Blk.at (by assumption)) rfl ?_)
                   | (refine IxA.mk (by omega) ?_)
                   | (refine Sl.ln (Own.sl (by assumption)) ?_)
                   | (refine Ints.ix (Own.sl (by assumption)) (by omega) ?_)
                   | (refine Ints.ixI (Own.sl (by assumption)) (by omega) ?_)
                   | (refine Ints.ld (Own.sl (by assumption)) (by omega) ?_))
          have HA__2 := HA
          have Hf__2 := Hf
          have EE__2 := EE
          have Hb__2 := Hb
          have EL1__2 := EL1
          have HO__2 := HO
          have HS__2 := HS
          conv => whnf
          refine VE.alloc eArc fun xb w24 E24 hb_xb Hk => ?_
          replace HA := HA.ext E24
          replace Hf := Hf.ext E24
          replace EE := EE.ext E24
          replace Hb := Hb.ext E24
          replace EL1 := EL1.ext E24
          replace HO := HO.ext E24
          replace HS := HS.ext E24
          have EL2 := E24
          conv => whnf
          refine Blk.all Hk (by kernel_rfl) (by first | decide | simp) rfl rfl (by intro v hv; simp at hv; rcases hv with rfl | rfl | rfl | rfl | rfl <;> rfl) fun w25 G25 Hk' => ?_
          have E25 : Ext w23 w25 := EL2.new G25 fun i hi hk => by omega
          replace Hk := Hk'
          replace HA := HA__2.ext E25
          replace Hf := Hf__2.ext E25
          replace EE := EE__2.ext E25
          replace Hb := Hb__2.ext E25
          replace EL1 := EL1__2.ext E25
          replace HO := HO__2.ext E25
          replace HS := HS__2.ext E25
          replace EL2 := E25
          by_cases hF1 : frm A d = v ∧ f.getD d 0 < cpy A d
          · have hedge : Edg A f v (too A d) d := .inl ⟨hF1.1, rfl, hF1.2⟩
            have huniq : ∀ t, Edg A f v t d → t = too A d := fun t h => by unfold Edg at h; omega
            have hrt : Rch A f (too A d) := Rch.s hrch hdl hedge
            cases hm : M.getD (too A d).toNat false with
            | true =>
              have hmk : ∀ i, i < d + 1 → ∀ t, Edg A f v t i → M.getD t.toNat false = true := by
                intro i hi t hte
                by_cases e : i = d
                · subst e; rw [huniq t hte]; exact hm
                · exact hdone i (by omega) t hte
              repeat' (conv => whnf
                       first
                       | (refine Dr.quiet tyOk (by kernel_rfl) ?_)
                       | (refine Bls.ixI (Own.sl HO) (by omega) ?_)
                       | (refine Bls.ldv (Own.sl HO) hm (by omega) ?_)
                       | (refine Rng.mk (by omega) ?_)
                       | (refine Split.pos (by omega) ?_)
                       | (refine Split.neg (by omega) ?_)
                       | (refine Split.mk (fun h => ?_) (fun h => ?_))
                       | (refine Need.mk (by omega) ?_)
                       | (refine Ints.ln (by assumption) ?_)
                       | (refine Mat.ln (by assumption) ?_)
                       | (refine Ints.ln (Mat.row (by assumption) _ (by omega)) ?_)
                       | (refine Ints.ix (by assumption) (by omega) ?_)
                       | (refine Mat.ix (by assumption) (by omega) ?_)
                       | (refine Ints.ix (Mat.row (by assumption) _ (by omega)) (by omega) ?_)
                       | (refine Ints.ix (c := 0) (by assumption) (by omega) ?_)
                       | (refine Mat.ix (c := 0) (by assumption) (by omega) ?_)
                       | (refine Ints.ix (c := 0) (Mat.row (by assumption) _ (by omega)) (by omega) ?_)
                       | (refine Ints.ixI (by assumption) (by omega) ?_)
                       | (refine Mat.ixI (by assumption) (by omega) ?_)
                       | (refine Ints.ixI (Mat.row (by assumption) _ (by omega)) (by omega) ?_)
                       | (refine Ints.ld (by assumption) (by omega) ?_)
                       | (refine Mat.ld (by assumption) (by omega) ?_)
                       | (refine Ints.ld (Mat.row (by assumption) _ (by omega)) (by omega) ?_)
                       | (refine At.ld (by assumption) rfl ?_)
                       | (refine At.ldN (by assumption) rfl ?_)
                       | (refine Prs.ln (by assumption) ?_)
                       | (refine Trs.ln (by assumption) ?_)
                       | (refine Prs.ix (by assumption) (by omega) ?_)
                       | (refine Trs.ix (by assumption) (by omega) ?_)
                       | (refine Prs.ldN (by assumption) (by omega) ?_)
                       | (refine Trs.ldN (by assumption) (by omega) ?_)
                       | (refine At.ldN (Blk.at (by assumption)) rfl ?_)
                       | (refine At.ld (Blk.at (by assumption)) rfl ?_)
                       | (refine IxA.mk (by omega) ?_)
                       | (refine Sl.ln (Own.sl (by assumption)) ?_)
                       | (refine Ints.ix (Own.sl (by assumption)) (by omega) ?_)
                       | (refine Ints.ixI (Own.sl (by assumption)) (by omega) ?_)
                       | (refine Ints.ld (Own.sl (by assumption)) (by omega) ?_))
              refine ⟨_, (by omega : A.length - (d + 1) < A.length - d), rfl, d + 1, by omega, rfl, rfl, ⟨M, S, HO, HS, hR, hcnt, hmk⟩, EL1⟩
            | false =>
              have hpu := hR.push (t := too A d) (by omega) (by omega) hrt
              have hcs := cntF_set (l := M) (t := (too A d).toNat) (by omega) hm
              have hgm : ∀ j, (M.set (too A d).toNat true).getD j false = if (too A d).toNat = j then true else M.getD j false := fun j => setB_getD (by omega)
              have hSl : S.length ≤ 40 := by omega
              have hmk : ∀ i, i < d + 1 → ∀ t, Edg A f v t i → (M.set (too A d).toNat true).getD t.toNat false = true := by
                intro i hi t hte
                rw [hgm]
                by_cases e2 : (too A d).toNat = t.toNat
                · rw [if_pos e2]
                · rw [if_neg e2]
                  by_cases e : i = d
                  · subst e; exact absurd (by rw [huniq t hte]) e2
                  · exact hdone i (by omega) t hte
              repeat' (conv => whnf
                       first
                       | (refine Dr.quiet tyOk (by kernel_rfl) ?_)
                       | (refine Bls.ixI (Own.sl HO) (by omega) ?_)
                       | (refine Bls.ldv (Own.sl HO) hm (by omega) ?_)
                       | (refine Rng.mk (by omega) ?_)
                       | (refine Split.pos (by omega) ?_)
                       | (refine Split.neg (by omega) ?_)
                       | (refine Split.mk (fun h => ?_) (fun h => ?_))
                       | (refine Need.mk (by omega) ?_)
                       | (refine Ints.ln (by assumption) ?_)
                       | (refine Mat.ln (by assumption) ?_)
                       | (refine Ints.ln (Mat.row (by assumption) _ (by omega)) ?_)
                       | (refine Ints.ix (by assumption) (by omega) ?_)
                       | (refine Mat.ix (by assumption) (by omega) ?_)
                       | (refine Ints.ix (Mat.row (by assumption) _ (by omega)) (by omega) ?_)
                       | (refine Ints.ix (c := 0) (by assumption) (by omega) ?_)
                       | (refine Mat.ix (c := 0) (by assumption) (by omega) ?_)
                       | (refine Ints.ix (c := 0) (Mat.row (by assumption) _ (by omega)) (by omega) ?_)
                       | (refine Ints.ixI (by assumption) (by omega) ?_)
                       | (refine Mat.ixI (by assumption) (by omega) ?_)
                       | (refine Ints.ixI (Mat.row (by assumption) _ (by omega)) (by omega) ?_)
                       | (refine Ints.ld (by assumption) (by omega) ?_)
                       | (refine Mat.ld (by assumption) (by omega) ?_)
                       | (refine Ints.ld (Mat.row (by assumption) _ (by omega)) (by omega) ?_)
                       | (refine At.ld (by assumption) rfl ?_)
                       | (refine At.ldN (by assumption) rfl ?_)
                       | (refine Prs.ln (by assumption) ?_)
                       | (refine Trs.ln (by assumption) ?_)
                       | (refine Prs.ix (by assumption) (by omega) ?_)
                       | (refine Trs.ix (by assumption) (by omega) ?_)
                       | (refine Prs.ldN (by assumption) (by omega) ?_)
                       | (refine Trs.ldN (by assumption) (by omega) ?_)
                       | (refine At.ldN (Blk.at (by assumption)) rfl ?_)
                       | (refine At.ld (Blk.at (by assumption)) rfl ?_)
                       | (refine IxA.mk (by omega) ?_)
                       | (refine Sl.ln (Own.sl (by assumption)) ?_)
                       | (refine Ints.ix (Own.sl (by assumption)) (by omega) ?_)
                       | (refine Ints.ixI (Own.sl (by assumption)) (by omega) ?_)
                       | (refine Ints.ld (Own.sl (by assumption)) (by omega) ?_))
              have ho0 := HO
              have hs0 := HS
              refine OZ.set HO (by omega) fun w26 G26 HO' => ?_
              have E26 : Ext w2 w26 := Own.keep HO EL1 (Nat.le_refl _) G26
              replace HO := HO'
              replace HA := HA__1.ext E26
              replace Hf := Hf__1.ext E26
              replace EE := EE__1.ext E26
              replace Hb := Hb__1.ext E26
              replace EL1 := E26
              have HS2 := Own.gr hs0 G26 (fun q hq hS => Own.ne ho0 hs0 (by decide) q hS hq)
              repeat' (conv => whnf
                       first
                       | (refine Dr.quiet tyOk (by kernel_rfl) ?_)
                       | (refine Rng.mk (by omega) ?_)
                       | (refine Split.pos (by omega) ?_)
                       | (refine Split.neg (by omega) ?_)
                       | (refine Split.mk (fun h => ?_) (fun h => ?_))
                       | (refine Need.mk (by omega) ?_)
                       | (refine Ints.ln (by assumption) ?_)
                       | (refine Mat.ln (by assumption) ?_)
                       | (refine Ints.ln (Mat.row (by assumption) _ (by omega)) ?_)
                       | (refine Ints.ix (by assumption) (by omega) ?_)
                       | (refine Mat.ix (by assumption) (by omega) ?_)
                       | (refine Ints.ix (Mat.row (by assumption) _ (by omega)) (by omega) ?_)
                       | (refine Ints.ix (c := 0) (by assumption) (by omega) ?_)
                       | (refine Mat.ix (c := 0) (by assumption) (by omega) ?_)
                       | (refine Ints.ix (c := 0) (Mat.row (by assumption) _ (by omega)) (by omega) ?_)
                       | (refine Ints.ixI (by assumption) (by omega) ?_)
                       | (refine Mat.ixI (by assumption) (by omega) ?_)
                       | (refine Ints.ixI (Mat.row (by assumption) _ (by omega)) (by omega) ?_)
                       | (refine Ints.ld (by assumption) (by omega) ?_)
                       | (refine Mat.ld (by assumption) (by omega) ?_)
                       | (refine Ints.ld (Mat.row (by assumption) _ (by omega)) (by omega) ?_)
                       | (refine At.ld (by assumption) rfl ?_)
                       | (refine At.ldN (by assumption) rfl ?_)
                       | (refine Prs.ln (by assumption) ?_)
                       | (refine Trs.ln (by assumption) ?_)
                       | (refine Prs.ix (by assumption) (by omega) ?_)
                       | (refine Trs.ix (by assumption) (by omega) ?_)
                       | (refine Prs.ldN (by assumption) (by omega) ?_)
                       | (refine Trs.ldN (by assumption) (by omega) ?_)
                       | (refine At.ldN (Blk.at (by assumption)) rfl ?_)
                       | (refine At.ld (Blk.at (by assumption)) rfl ?_)
                       | (refine IxA.mk (by omega) ?_)
                       | (refine Sl.ln (Own.sl (by assumption)) ?_)
                       | (refine Ints.ix (Own.sl (by assumption)) (by omega) ?_)
                       | (refine Ints.ixI (Own.sl (by assumption)) (by omega) ?_)
                       | (refine Ints.ld (Own.sl (by assumption)) (by omega) ?_))
              refine VE.lit1 Try.underlying26 eInt (rfl) fun lv w27 E27 Hl => ?_
              replace HA := HA.ext E27
              replace Hf := Hf.ext E27
              replace EE := EE.ext E27
              replace Hb := Hb.ext E27
              replace EL1 := EL1.ext E27
              replace HO := HO.ext E27
              replace HS2 := HS2.ext E27
              conv => whnf
              refine VE.app Try.underlying26 eInt rfl (by omega) HS2 EL1 rfl Hl (by simp [Value.oneCell']) (by first | omega | (simp only [List.length_map, List.length_range]; omega) | (simp; omega)) (by first | omega | (simp only [List.length_map, List.length_range]; omega) | (simp; omega)) fun v8 w28 E28 G28 H8 => ?_
              replace HO := Own.gr HO G28 (fun k hk hS => Own.ne HS2 HO (by decide) k hS hk)
              replace HA := HA__1.ext E28
              replace Hf := Hf__1.ext E28
              replace EE := EE__1.ext E28
              replace Hb := Hb__1.ext E28
              replace EL1 := E28
              repeat' (conv => whnf
                       first
                       | (refine Dr.quiet tyOk (by kernel_rfl) ?_)
                       | (refine Rng.mk (by omega) ?_)
                       | (refine Split.pos (by omega) ?_)
                       | (refine Split.neg (by omega) ?_)
                       | (refine Split.mk (fun h => ?_) (fun h => ?_))
                       | (refine Need.mk (by omega) ?_)
                       | (refine Ints.ln (by assumption) ?_)
                       | (refine Mat.ln (by assumption) ?_)
                       | (refine Ints.ln (Mat.row (by assumption) _ (by omega)) ?_)
                       | (refine Ints.ix (by assumption) (by omega) ?_)
                       | (refine Mat.ix (by assumption) (by omega) ?_)
                       | (refine Ints.ix (Mat.row (by assumption) _ (by omega)) (by omega) ?_)
                       | (refine Ints.ix (c := 0) (by assumption) (by omega) ?_)
                       | (refine Mat.ix (c := 0) (by assumption) (by omega) ?_)
                       | (refine Ints.ix (c := 0) (Mat.row (by assumption) _ (by omega)) (by omega) ?_)
                       | (refine Ints.ixI (by assumption) (by omega) ?_)
                       | (refine Mat.ixI (by assumption) (by omega) ?_)
                       | (refine Ints.ixI (Mat.row (by assumption) _ (by omega)) (by omega) ?_)
                       | (refine Ints.ld (by assumption) (by omega) ?_)
                       | (refine Mat.ld (by assumption) (by omega) ?_)
                       | (refine Ints.ld (Mat.row (by assumption) _ (by omega)) (by omega) ?_)
                       | (refine At.ld (by assumption) rfl ?_)
                       | (refine At.ldN (by assumption) rfl ?_)
                       | (refine Prs.ln (by assumption) ?_)
                       | (refine Trs.ln (by assumption) ?_)
                       | (refine Prs.ix (by assumption) (by omega) ?_)
                       | (refine Trs.ix (by assumption) (by omega) ?_)
                       | (refine Prs.ldN (by assumption) (by omega) ?_)
                       | (refine Trs.ldN (by assumption) (by omega) ?_)
                       | (refine At.ldN (Blk.at (by assumption)) rfl ?_)
                       | (refine At.ld (Blk.at (by assumption)) rfl ?_)
                       | (refine IxA.mk (by omega) ?_)
                       | (refine Sl.ln (Own.sl (by assumption)) ?_)
                       | (refine Ints.ix (Own.sl (by assumption)) (by omega) ?_)
                       | (refine Ints.ixI (Own.sl (by assumption)) (by omega) ?_)
                       | (refine Ints.ld (Own.sl (by assumption)) (by omega) ?_))
              refine ⟨_, (by omega : A.length - (d + 1) < A.length - d), rfl, d + 1, by omega, rfl, rfl, ⟨M.set (too A d).toNat true, S ++ [too A d], HO, by show Go.Eng.Own _ _ _ _ _ (S ++ [too A d]).length ((S ++ [too A d]).map i64v); rw [List.length_append, List.map_append]; exact H8, hpu, by rw [List.length_append]; simp only [List.length_singleton]; omega, hmk⟩, EL1⟩
          · by_cases hB1 : too A d = v ∧ 0 < f.getD d 0
            · have hedge : Edg A f v (frm A d) d := .inr ⟨hB1.1, rfl, hB1.2⟩
              have huniq : ∀ t, Edg A f v t d → t = frm A d := fun t h => by unfold Edg at h; omega
              have hrt : Rch A f (frm A d) := Rch.s hrch hdl hedge
              cases hm : M.getD (frm A d).toNat false with
              | true =>
                have hmk : ∀ i, i < d + 1 → ∀ t, Edg A f v t i → M.getD t.toNat false = true := by
                  intro i hi t hte
                  by_cases e : i = d
                  · subst e; rw [huniq t hte]; exact hm
                  · exact hdone i (by omega) t hte
                repeat' (conv => whnf
                         first
                         | (refine Dr.quiet tyOk (by kernel_rfl) ?_)
                         | (refine Bls.ixI (Own.sl HO) (by omega) ?_)
                         | (refine Bls.ldv (Own.sl HO) hm (by omega) ?_)
                         | (refine Rng.mk (by omega) ?_)
                         | (refine Split.pos (by omega) ?_)
                         | (refine Split.neg (by omega) ?_)
                         | (refine Split.mk (fun h => ?_) (fun h => ?_))
                         | (refine Need.mk (by omega) ?_)
                         | (refine Ints.ln (by assumption) ?_)
                         | (refine Mat.ln (by assumption) ?_)
                         | (refine Ints.ln (Mat.row (by assumption) _ (by omega)) ?_)
                         | (refine Ints.ix (by assumption) (by omega) ?_)
                         | (refine Mat.ix (by assumption) (by omega) ?_)
                         | (refine Ints.ix (Mat.row (by assumption) _ (by omega)) (by omega) ?_)
                         | (refine Ints.ix (c := 0) (by assumption) (by omega) ?_)
                         | (refine Mat.ix (c := 0) (by assumption) (by omega) ?_)
                         | (refine Ints.ix (c := 0) (Mat.row (by assumption) _ (by omega)) (by omega) ?_)
                         | (refine Ints.ixI (by assumption) (by omega) ?_)
                         | (refine Mat.ixI (by assumption) (by omega) ?_)
                         | (refine Ints.ixI (Mat.row (by assumption) _ (by omega)) (by omega) ?_)
                         | (refine Ints.ld (by assumption) (by omega) ?_)
                         | (refine Mat.ld (by assumption) (by omega) ?_)
                         | (refine Ints.ld (Mat.row (by assumption) _ (by omega)) (by omega) ?_)
                         | (refine At.ld (by assumption) rfl ?_)
                         | (refine At.ldN (by assumption) rfl ?_)
                         | (refine Prs.ln (by assumption) ?_)
                         | (refine Trs.ln (by assumption) ?_)
                         | (refine Prs.ix (by assumption) (by omega) ?_)
                         | (refine Trs.ix (by assumption) (by omega) ?_)
                         | (refine Prs.ldN (by assumption) (by omega) ?_)
                         | (refine Trs.ldN (by assumption) (by omega) ?_)
                         | (refine At.ldN (Blk.at (by assumption)) rfl ?_)
                         | (refine At.ld (Blk.at (by assumption)) rfl ?_)
                         | (refine IxA.mk (by omega) ?_)
                         | (refine Sl.ln (Own.sl (by assumption)) ?_)
                         | (refine Ints.ix (Own.sl (by assumption)) (by omega) ?_)
                         | (refine Ints.ixI (Own.sl (by assumption)) (by omega) ?_)
                         | (refine Ints.ld (Own.sl (by assumption)) (by omega) ?_))
                refine ⟨_, (by omega : A.length - (d + 1) < A.length - d), rfl, d + 1, by omega, rfl, rfl, ⟨M, S, HO, HS, hR, hcnt, hmk⟩, EL1⟩
              | false =>
                have hpu := hR.push (t := frm A d) (by omega) (by omega) hrt
                have hcs := cntF_set (l := M) (t := (frm A d).toNat) (by omega) hm
                have hgm : ∀ j, (M.set (frm A d).toNat true).getD j false = if (frm A d).toNat = j then true else M.getD j false := fun j => setB_getD (by omega)
                have hSl : S.length ≤ 40 := by omega
                have hmk : ∀ i, i < d + 1 → ∀ t, Edg A f v t i → (M.set (frm A d).toNat true).getD t.toNat false = true := by
                  intro i hi t hte
                  rw [hgm]
                  by_cases e2 : (frm A d).toNat = t.toNat
                  · rw [if_pos e2]
                  · rw [if_neg e2]
                    by_cases e : i = d
                    · subst e; exact absurd (by rw [huniq t hte]) e2
                    · exact hdone i (by omega) t hte
                repeat' (conv => whnf
                         first
                         | (refine Dr.quiet tyOk (by kernel_rfl) ?_)
                         | (refine Bls.ixI (Own.sl HO) (by omega) ?_)
                         | (refine Bls.ldv (Own.sl HO) hm (by omega) ?_)
                         | (refine Rng.mk (by omega) ?_)
                         | (refine Split.pos (by omega) ?_)
                         | (refine Split.neg (by omega) ?_)
                         | (refine Split.mk (fun h => ?_) (fun h => ?_))
                         | (refine Need.mk (by omega) ?_)
                         | (refine Ints.ln (by assumption) ?_)
                         | (refine Mat.ln (by assumption) ?_)
                         | (refine Ints.ln (Mat.row (by assumption) _ (by omega)) ?_)
                         | (refine Ints.ix (by assumption) (by omega) ?_)
                         | (refine Mat.ix (by assumption) (by omega) ?_)
                         | (refine Ints.ix (Mat.row (by assumption) _ (by omega)) (by omega) ?_)
                         | (refine Ints.ix (c := 0) (by assumption) (by omega) ?_)
                         | (refine Mat.ix (c := 0) (by assumption) (by omega) ?_)
                         | (refine Ints.ix (c := 0) (Mat.row (by assumption) _ (by omega)) (by omega) ?_)
                         | (refine Ints.ixI (by assumption) (by omega) ?_)
                         | (refine Mat.ixI (by assumption) (by omega) ?_)
                         | (refine Ints.ixI (Mat.row (by assumption) _ (by omega)) (by omega) ?_)
                         | (refine Ints.ld (by assumption) (by omega) ?_)
                         | (refine Mat.ld (by assumption) (by omega) ?_)
                         | (refine Ints.ld (Mat.row (by assumption) _ (by omega)) (by omega) ?_)
                         | (refine At.ld (by assumption) rfl ?_)
                         | (refine At.ldN (by assumption) rfl ?_)
                         | (refine Prs.ln (by assumption) ?_)
                         | (refine Trs.ln (by assumption) ?_)
                         | (refine Prs.ix (by assumption) (by omega) ?_)
                         | (refine Trs.ix (by assumption) (by omega) ?_)
                         | (refine Prs.ldN (by assumption) (by omega) ?_)
                         | (refine Trs.ldN (by assumption) (by omega) ?_)
                         | (refine At.ldN (Blk.at (by assumption)) rfl ?_)
                         | (refine At.ld (Blk.at (by assumption)) rfl ?_)
                         | (refine IxA.mk (by omega) ?_)
                         | (refine Sl.ln (Own.sl (by assumption)) ?_)
                         | (refine Ints.ix (Own.sl (by assumption)) (by omega) ?_)
                         | (refine Ints.ixI (Own.sl (by assumption)) (by omega) ?_)
                         | (refine Ints.ld (Own.sl (by assumption)) (by omega) ?_))
                have ho0 := HO
                have hs0 := HS
                refine OZ.set HO (by omega) fun w29 G29 HO' => ?_
                have E29 : Ext w2 w29 := Own.keep HO EL1 (Nat.le_refl _) G29
                replace HO := HO'
                replace HA := HA__1.ext E29
                replace Hf := Hf__1.ext E29
                replace EE := EE__1.ext E29
                replace Hb := Hb__1.ext E29
                replace EL1 := E29
                have HS2 := Own.gr hs0 G29 (fun q hq hS => Own.ne ho0 hs0 (by decide) q hS hq)
                repeat' (conv => whnf
                         first
                         | (refine Dr.quiet tyOk (by kernel_rfl) ?_)
                         | (refine Rng.mk (by omega) ?_)
                         | (refine Split.pos (by omega) ?_)
                         | (refine Split.neg (by omega) ?_)
                         | (refine Split.mk (fun h => ?_) (fun h => ?_))
                         | (refine Need.mk (by omega) ?_)
                         | (refine Ints.ln (by assumption) ?_)
                         | (refine Mat.ln (by assumption) ?_)
                         | (refine Ints.ln (Mat.row (by assumption) _ (by omega)) ?_)
                         | (refine Ints.ix (by assumption) (by omega) ?_)
                         | (refine Mat.ix (by assumption) (by omega) ?_)
                         | (refine Ints.ix (Mat.row (by assumption) _ (by omega)) (by omega) ?_)
                         | (refine Ints.ix (c := 0) (by assumption) (by omega) ?_)
                         | (refine Mat.ix (c := 0) (by assumption) (by omega) ?_)
                         | (refine Ints.ix (c := 0) (Mat.row (by assumption) _ (by omega)) (by omega) ?_)
                         | (refine Ints.ixI (by assumption) (by omega) ?_)
                         | (refine Mat.ixI (by assumption) (by omega) ?_)
                         | (refine Ints.ixI (Mat.row (by assumption) _ (by omega)) (by omega) ?_)
                         | (refine Ints.ld (by assumption) (by omega) ?_)
                         | (refine Mat.ld (by assumption) (by omega) ?_)
                         | (refine Ints.ld (Mat.row (by assumption) _ (by omega)) (by omega) ?_)
                         | (refine At.ld (by assumption) rfl ?_)
                         | (refine At.ldN (by assumption) rfl ?_)
                         | (refine Prs.ln (by assumption) ?_)
                         | (refine Trs.ln (by assumption) ?_)
                         | (refine Prs.ix (by assumption) (by omega) ?_)
                         | (refine Trs.ix (by assumption) (by omega) ?_)
                         | (refine Prs.ldN (by assumption) (by omega) ?_)
                         | (refine Trs.ldN (by assumption) (by omega) ?_)
                         | (refine At.ldN (Blk.at (by assumption)) rfl ?_)
                         | (refine At.ld (Blk.at (by assumption)) rfl ?_)
                         | (refine IxA.mk (by omega) ?_)
                         | (refine Sl.ln (Own.sl (by assumption)) ?_)
                         | (refine Ints.ix (Own.sl (by assumption)) (by omega) ?_)
                         | (refine Ints.ixI (Own.sl (by assumption)) (by omega) ?_)
                         | (refine Ints.ld (Own.sl (by assumption)) (by omega) ?_))
                refine VE.lit1 Try.underlying26 eInt (rfl) fun lv w30 E30 Hl => ?_
                replace HA := HA.ext E30
                replace Hf := Hf.ext E30
                replace EE := EE.ext E30
                replace Hb := Hb.ext E30
                replace EL1 := EL1.ext E30
                replace HO := HO.ext E30
                replace HS2 := HS2.ext E30
                conv => whnf
                refine VE.app Try.underlying26 eInt rfl (by omega) HS2 EL1 rfl Hl (by simp [Value.oneCell']) (by first | omega | (simp only [List.length_map, List.length_range]; omega) | (simp; omega)) (by first | omega | (simp only [List.length_map, List.length_range]; omega) | (simp; omega)) fun v8 w31 E31 G31 H8 => ?_
                replace HO := Own.gr HO G31 (fun k hk hS => Own.ne HS2 HO (by decide) k hS hk)
                replace HA := HA__1.ext E31
                replace Hf := Hf__1.ext E31
                replace EE := EE__1.ext E31
                replace Hb := Hb__1.ext E31
                replace EL1 := E31
                repeat' (conv => whnf
                         first
                         | (refine Dr.quiet tyOk (by kernel_rfl) ?_)
                         | (refine Rng.mk (by omega) ?_)
                         | (refine Split.pos (by omega) ?_)
                         | (refine Split.neg (by omega) ?_)
                         | (refine Split.mk (fun h => ?_) (fun h => ?_))
                         | (refine Need.mk (by omega) ?_)
                         | (refine Ints.ln (by assumption) ?_)
                         | (refine Mat.ln (by assumption) ?_)
                         | (refine Ints.ln (Mat.row (by assumption) _ (by omega)) ?_)
                         | (refine Ints.ix (by assumption) (by omega) ?_)
                         | (refine Mat.ix (by assumption) (by omega) ?_)
                         | (refine Ints.ix (Mat.row (by assumption) _ (by omega)) (by omega) ?_)
                         | (refine Ints.ix (c := 0) (by assumption) (by omega) ?_)
                         | (refine Mat.ix (c := 0) (by assumption) (by omega) ?_)
                         | (refine Ints.ix (c := 0) (Mat.row (by assumption) _ (by omega)) (by omega) ?_)
                         | (refine Ints.ixI (by assumption) (by omega) ?_)
                         | (refine Mat.ixI (by assumption) (by omega) ?_)
                         | (refine Ints.ixI (Mat.row (by assumption) _ (by omega)) (by omega) ?_)
                         | (refine Ints.ld (by assumption) (by omega) ?_)
                         | (refine Mat.ld (by assumption) (by omega) ?_)
                         | (refine Ints.ld (Mat.row (by assumption) _ (by omega)) (by omega) ?_)
                         | (refine At.ld (by assumption) rfl ?_)
                         | (refine At.ldN (by assumption) rfl ?_)
                         | (refine Prs.ln (by assumption) ?_)
                         | (refine Trs.ln (by assumption) ?_)
                         | (refine Prs.ix (by assumption) (by omega) ?_)
                         | (refine Trs.ix (by assumption) (by omega) ?_)
                         | (refine Prs.ldN (by assumption) (by omega) ?_)
                         | (refine Trs.ldN (by assumption) (by omega) ?_)
                         | (refine At.ldN (Blk.at (by assumption)) rfl ?_)
                         | (refine At.ld (Blk.at (by assumption)) rfl ?_)
                         | (refine IxA.mk (by omega) ?_)
                         | (refine Sl.ln (Own.sl (by assumption)) ?_)
                         | (refine Ints.ix (Own.sl (by assumption)) (by omega) ?_)
                         | (refine Ints.ixI (Own.sl (by assumption)) (by omega) ?_)
                         | (refine Ints.ld (Own.sl (by assumption)) (by omega) ?_))
                refine ⟨_, (by omega : A.length - (d + 1) < A.length - d), rfl, d + 1, by omega, rfl, rfl, ⟨M.set (frm A d).toNat true, S ++ [frm A d], HO, by show Go.Eng.Own _ _ _ _ _ (S ++ [frm A d]).length ((S ++ [frm A d]).map i64v); rw [List.length_append, List.map_append]; exact H8, hpu, by rw [List.length_append]; simp only [List.length_singleton]; omega, hmk⟩, EL1⟩
            · have hno : ∀ t, ¬ Edg A f v t d := fun t h => by unfold Edg at h; omega
              have hmk : ∀ i, i < d + 1 → ∀ t, Edg A f v t i → M.getD t.toNat false = true := by
                intro i hi t hte
                by_cases e : i = d
                · subst e; exact absurd hte (hno t)
                · exact hdone i (by omega) t hte
              repeat' (conv => whnf
                       first
                       | (refine Dr.quiet tyOk (by kernel_rfl) ?_)
                       | (refine Rng.mk (by omega) ?_)
                       | (refine Split.pos (by omega) ?_)
                       | (refine Split.neg (by omega) ?_)
                       | (refine Split.mk (fun h => ?_) (fun h => ?_))
                       | (refine Need.mk (by omega) ?_)
                       | (refine Ints.ln (by assumption) ?_)
                       | (refine Mat.ln (by assumption) ?_)
                       | (refine Ints.ln (Mat.row (by assumption) _ (by omega)) ?_)
                       | (refine Ints.ix (by assumption) (by omega) ?_)
                       | (refine Mat.ix (by assumption) (by omega) ?_)
                       | (refine Ints.ix (Mat.row (by assumption) _ (by omega)) (by omega) ?_)
                       | (refine Ints.ix (c := 0) (by assumption) (by omega) ?_)
                       | (refine Mat.ix (c := 0) (by assumption) (by omega) ?_)
                       | (refine Ints.ix (c := 0) (Mat.row (by assumption) _ (by omega)) (by omega) ?_)
                       | (refine Ints.ixI (by assumption) (by omega) ?_)
                       | (refine Mat.ixI (by assumption) (by omega) ?_)
                       | (refine Ints.ixI (Mat.row (by assumption) _ (by omega)) (by omega) ?_)
                       | (refine Ints.ld (by assumption) (by omega) ?_)
                       | (refine Mat.ld (by assumption) (by omega) ?_)
                       | (refine Ints.ld (Mat.row (by assumption) _ (by omega)) (by omega) ?_)
                       | (refine At.ld (by assumption) rfl ?_)
                       | (refine At.ldN (by assumption) rfl ?_)
                       | (refine Prs.ln (by assumption) ?_)
                       | (refine Trs.ln (by assumption) ?_)
                       | (refine Prs.ix (by assumption) (by omega) ?_)
                       | (refine Trs.ix (by assumption) (by omega) ?_)
                       | (refine Prs.ldN (by assumption) (by omega) ?_)
                       | (refine Trs.ldN (by assumption) (by omega) ?_)
                       | (refine At.ldN (Blk.at (by assumption)) rfl ?_)
                       | (refine At.ld (Blk.at (by assumption)) rfl ?_)
                       | (refine IxA.mk (by omega) ?_)
                       | (refine Sl.ln (Own.sl (by assumption)) ?_)
                       | (refine Ints.ix (Own.sl (by assumption)) (by omega) ?_)
                       | (refine Ints.ixI (Own.sl (by assumption)) (by omega) ?_)
                       | (refine Ints.ld (Own.sl (by assumption)) (by omega) ?_))
              all_goals (refine ⟨_, (by omega : A.length - (d + 1) < A.length - d), rfl, d + 1, by omega, rfl, rfl, ⟨M, S, HO, HS, hR, hcnt, hmk⟩, EL1⟩)
        · repeat' (conv => whnf
                   first
                   | (refine Dr.quiet tyOk (by kernel_rfl) ?_)
                   | (refine Rng.mk (by omega) ?_)
                   | (refine Split.pos (by omega) ?_)
                   | (refine Split.neg (by omega) ?_)
                   | (refine Split.mk (fun h => ?_) (fun h => ?_))
                   | (refine Need.mk (by omega) ?_)
                   | (refine Ints.ln (by assumption) ?_)
                   | (refine Mat.ln (by assumption) ?_)
                   | (refine Ints.ln (Mat.row (by assumption) _ (by omega)) ?_)
                   | (refine Ints.ix (by assumption) (by omega) ?_)
                   | (refine Mat.ix (by assumption) (by omega) ?_)
                   | (refine Ints.ix (Mat.row (by assumption) _ (by omega)) (by omega) ?_)
                   | (refine Ints.ix (c := 0) (by assumption) (by omega) ?_)
                   | (refine Mat.ix (c := 0) (by assumption) (by omega) ?_)
                   | (refine Ints.ix (c := 0) (Mat.row (by assumption) _ (by omega)) (by omega) ?_)
                   | (refine Ints.ixI (by assumption) (by omega) ?_)
                   | (refine Mat.ixI (by assumption) (by omega) ?_)
                   | (refine Ints.ixI (Mat.row (by assumption) _ (by omega)) (by omega) ?_)
                   | (refine Ints.ld (by assumption) (by omega) ?_)
                   | (refine Mat.ld (by assumption) (by omega) ?_)
                   | (refine Ints.ld (Mat.row (by assumption) _ (by omega)) (by omega) ?_)
                   | (refine At.ld (by assumption) rfl ?_)
                   | (refine At.ldN (by assumption) rfl ?_)
                   | (refine Prs.ln (by assumption) ?_)
                   | (refine Trs.ln (by assumption) ?_)
                   | (refine Prs.ix (by assumption) (by omega) ?_)
                   | (refine Trs.ix (by assumption) (by omega) ?_)
                   | (refine Prs.ldN (by assumption) (by omega) ?_)
                   | (refine Trs.ldN (by assumption) (by omega) ?_)
                   | (refine At.ldN (Blk.at (by assumption)) rfl ?_)
                   | (refine At.ld (Blk.at (by assumption)) rfl ?_)
                   | (refine IxA.mk (by omega) ?_)
                   | (refine Sl.ln (Own.sl (by assumption)) ?_)
                   | (refine Ints.ix (Own.sl (by assumption)) (by omega) ?_)
                   | (refine Ints.ixI (Own.sl (by assumption)) (by omega) ?_)
                   | (refine Ints.ld (Own.sl (by assumption)) (by omega) ?_))
          refine ⟨_, (by omega : (N + 1) - (c + 1) < (N + 1) - c), rfl, c + 1, by omega, rfl, ⟨M, S, HO, HS, hR.shut (fun i hi t ht => hdone i (by omega) t ht), by omega⟩, EL1⟩
end Go.Proofs.Ytpdldifklgpikaa
set_option linter.unusedVariables false
set_option linter.unusedSimpArgs false
namespace Go.Proofs.Ytpdldifklgpikaa
open Go.Eng
set_option maxRecDepth 100000
set_option maxHeartbeats 4000000

theorem rleft_pc {w : World} {N : Nat} {sv fv : Value} {A : List T3} {f : List Int} {d : Nat} (HA : Trs w sv A) (Hf : Ints w fv f) (hk : NetOk N A) (hF : isF A f) (hd : d < f.length) :
    PC Try.prog 44 [.agg #[.int .i64 (N : Int), sv], fv, .int .i64 (d : Int)] w (.tuple #[.int .i64 (cpy A d - f.getD d 0), .int .i64 (f.getD d 0)]) := by
  refine PC.mk tyOk Try.func44 rfl (by kernel_rfl) fun w1 E1 => ?_
  replace HA := HA.ext E1
  replace Hf := Hf.ext E1
  have EE := Ext.refl w1
  refine Bx.agg fun b2 w2 E2 hb2 Hb _ => ?_
  replace HA := HA.ext E2
  replace Hf := Hf.ext E2
  replace EE := EE.ext E2
  have hfl := hF.1
  have h1 := hF.2 d hd
  have h2 := (hk.arc d (by omega)).2.2.2.2
  have e3 : (A.getD d (0, 0, 0)).2.2 = cpy A d := rfl
  repeat' (conv => whnf
           first
           | (refine Dr.quiet tyOk (by kernel_rfl) ?_)
           | (refine Trs.ld0 (by assumption) (by omega) rfl ?_)
           | (refine Trs.ld1 (by assumption) (by omega) rfl ?_)
           | (refine Trs.ld2 (by assumption) (by omega) rfl ?_)
           | (refine Rng.mk (by omega) ?_)
           | (refine Split.pos (by omega) ?_)
           | (refine Split.neg (by omega) ?_)
           | (refine Split.mk (fun h => ?_) (fun h => ?_))
           | (refine Need.mk (by omega) ?_)
           | (refine Ints.ln (by assumption) ?_)
           | (refine Mat.ln (by assumption) ?_)
           | (refine Ints.ln (Mat.row (by assumption) _ (by omega)) ?_)
           | (refine Ints.ix (by assumption) (by omega) ?_)
           | (refine Mat.ix (by assumption) (by omega) ?_)
           | (refine Ints.ix (Mat.row (by assumption) _ (by omega)) (by omega) ?_)
           | (refine Ints.ix (c := 0) (by assumption) (by omega) ?_)
           | (refine Mat.ix (c := 0) (by assumption) (by omega) ?_)
           | (refine Ints.ix (c := 0) (Mat.row (by assumption) _ (by omega)) (by omega) ?_)
           | (refine Ints.ixI (by assumption) (by omega) ?_)
           | (refine Mat.ixI (by assumption) (by omega) ?_)
           | (refine Ints.ixI (Mat.row (by assumption) _ (by omega)) (by omega) ?_)
           | (refine Ints.ld (by assumption) (by omega) ?_)
           | (refine Mat.ld (by assumption) (by omega) ?_)
           | (refine Ints.ld (Mat.row (by assumption) _ (by omega)) (by omega) ?_)
           | (refine At.ld (by assumption) rfl ?_)
           | (refine At.ldN (by assumption) rfl ?_)
           | (refine Prs.ln (by assumption) ?_)
           | (refine Trs.ln (by assumption) ?_)
           | (refine Prs.ix (by assumption) (by omega) ?_)
           | (refine Trs.ix (by assumption) (by omega) ?_)
           | (refine Prs.ldN (by assumption) (by omega) ?_)
           | (refine Trs.ldN (by assumption) (by omega) ?_)
           | (refine At.ldN (Blk.at (by assumption)) rfl ?_)
           | (refine At.ld (Blk.at (by assumption)) rfl ?_)
           | (refine IxA.mk (by omega) ?_)
           | (refine Sl.ln (Own.sl (by assumption)) ?_)
           | (refine Ints.ix (Own.sl (by assumption)) (by omega) ?_)
           | (refine Ints.ixI (Own.sl (by assumption)) (by omega) ?_)
           | (refine Ints.ld (Own.sl (by assumption)) (by omega) ?_))
  exact ⟨rfl, EE⟩

/-- what is behind arc i is marked -/
def Shut (A : List T3) (f : List Int) (M : List Bool) (i : Nat) : Prop := ∀ u v : Int, M.getD u.toNat false = true → Edg A f u v i → M.getD v.toNat false = true

theorem rfound_rc {w : World} {N : Nat} {sv fv : Value} {A : List T3} {f : List Int} (HA : Trs w sv A) (Hf : Ints w fv f) (hk : NetOk N A) (hF : isF A f) :
    RC Try.prog 35 [.agg #[.int .i64 (N : Int), sv], fv] w NoB (fun u w' => OZ w.heap.size w' u (rchL N A f)) := by
  refine RC.mk tyOk Try.func35 rfl (by kernel_rfl) fun w1 E1 => ?_
  replace HA := HA.ext E1
  replace Hf := Hf.ext E1
  have EE := Ext.refl w1
  refine Bx.agg fun b2 w2 E2 hb2 Hb _ => ?_
  replace HA := HA.ext E2
  replace Hf := Hf.ext E2
  replace EE := EE.ext E2
  have hz1 := EE.size
  have hz0 : w.heap.size ≤ w1.heap.size := by first | omega | exact E1.size
  have hle := HA.le
  have hlf := Hf.le
  have h40 := hk.n40
  have h200 := hk.a200
  have hn2 := hk.n2
  have hfl := hF.1
  have hrm0 := (RI.start (f := f) hk).1.rm
  have hcn := (RI.start (f := f) hk).2
  repeat' (conv => whnf
           first
           | (refine Dr.quiet tyOk (by kernel_rfl) ?_)
           | (refine Rng.mk (by omega) ?_)
           | (refine Split.pos (by omega) ?_)
           | (refine Split.neg (by omega) ?_)
           | (refine Split.mk (fun h => ?_) (fun h => ?_))
           | (refine Need.mk (by omega) ?_)
           | (refine Ints.ln (by assumption) ?_)
           | (refine Mat.ln (by assumption) ?_)
           | (refine Ints.ln (Mat.row (by assumption) _ (by omega)) ?_)
           | (refine Ints.ix (by assumption) (by omega) ?_)
           | (refine Mat.ix (by assumption) (by omega) ?_)
           | (refine Ints.ix (Mat.row (by assumption) _ (by omega)) (by omega) ?_)
           | (refine Ints.ix (c := 0) (by assumption) (by omega) ?_)
           | (refine Mat.ix (c := 0) (by assumption) (by omega) ?_)
           | (refine Ints.ix (c := 0) (Mat.row (by assumption) _ (by omega)) (by omega) ?_)
           | (refine Ints.ixI (by assumption) (by omega) ?_)
           | (refine Mat.ixI (by assumption) (by omega) ?_)
           | (refine Ints.ixI (Mat.row (by assumption) _ (by omega)) (by omega) ?_)
           | (refine Ints.ld (by assumption) (by omega) ?_)
           | (refine Mat.ld (by assumption) (by omega) ?_)
           | (refine Ints.ld (Mat.row (by assumption) _ (by omega)) (by omega) ?_)
           | (refine At.ld (by assumption) rfl ?_)
           | (refine At.ldN (by assumption) rfl ?_)
           | (refine Prs.ln (by assumption) ?_)
           | (refine Trs.ln (by assumption) ?_)
           | (refine Prs.ix (by assumption) (by omega) ?_)
           | (refine Trs.ix (by assumption) (by omega) ?_)
           | (refine Prs.ldN (by assumption) (by omega) ?_)
           | (refine Trs.ldN (by assumption) (by omega) ?_)
           | (refine At.ldN (Blk.at (by assumption)) rfl ?_)
           | (refine At.ld (Blk.at (by assumption)) rfl ?_)
           | (refine IxA.mk (by omega) ?_)
           | (refine Sl.ln (Own.sl (by assumption)) ?_)
           | (refine Ints.ix (Own.sl (by assumption)) (by omega) ?_)
           | (refine Ints.ixI (Own.sl (by assumption)) (by omega) ?_)
           | (refine Ints.ld (Own.sl (by assumption)) (by omega) ?_))
  have HA__1 := HA
  have Hf__1 := Hf
  have EE__1 := EE
  have Hb__1 := Hb
  conv => whnf
  refine VE.made (n := N) Try.underlying32 eBool rfl (by omega) (by omega) fun rv w3 E3 HO hb_rv => ?_
  replace HA := HA.ext E3
  replace Hf := Hf.ext E3
  replace EE := EE.ext E3
  replace Hb := Hb.ext E3
  replace HO := OZ.made (HO _ (Nat.le_refl _))
  have EL1 := E3
  have hrl : (List.replicate N false).length = N := List.length_replicate
  repeat' (conv => whnf
           first
           | (refine Dr.quiet tyOk (by kernel_rfl) ?_)
           | (refine Bls.ix (c := 0) (Own.sl HO) (by omega) ?_)
           | (refine Rng.mk (by omega) ?_)
           | (refine Split.pos (by omega) ?_)
           | (refine Split.neg (by omega) ?_)
           | (refine Split.mk (fun h => ?_) (fun h => ?_))
           | (refine Need.mk (by omega) ?_)
           | (refine Ints.ln (by assumption) ?_)
           | (refine Mat.ln (by assumption) ?_)
           | (refine Ints.ln (Mat.row (by assumption) _ (by omega)) ?_)
           | (refine Ints.ix (by assumption) (by omega) ?_)
           | (refine Mat.ix (by assumption) (by omega) ?_)
           | (refine Ints.ix (Mat.row (by assumption) _ (by omega)) (by omega) ?_)
           | (refine Ints.ix (c := 0) (by assumption) (by omega) ?_)
           | (refine Mat.ix (c := 0) (by assumption) (by omega) ?_)
           | (refine Ints.ix (c := 0) (Mat.row (by assumption) _ (by omega)) (by omega) ?_)
           | (refine Ints.ixI (by assumption) (by omega) ?_)
           | (refine Mat.ixI (by assumption) (by omega) ?_)
           | (refine Ints.ixI (Mat.row (by assumption) _ (by omega)) (by omega) ?_)
           | (refine Ints.ld (by assumption) (by omega) ?_)
           | (refine Mat.ld (by assumption) (by omega) ?_)
           | (refine Ints.ld (Mat.row (by assumption) _ (by omega)) (by omega) ?_)
           | (refine At.ld (by assumption) rfl ?_)
           | (refine At.ldN (by assumption) rfl ?_)
           | (refine Prs.ln (by assumption) ?_)
           | (refine Trs.ln (by assumption) ?_)
           | (refine Prs.ix (by assumption) (by omega) ?_)
           | (refine Trs.ix (by assumption) (by omega) ?_)
           | (refine Prs.ldN (by assumption) (by omega) ?_)
           | (refine Trs.ldN (by assumption) (by omega) ?_)
           | (refine At.ldN (Blk.at (by assumption)) rfl ?_)
           | (refine At.ld (Blk.at (by assumption)) rfl ?_)
           | (refine IxA.mk (by omega) ?_)
           | (refine Sl.ln (Own.sl (by assumption)) ?_)
           | (refine Ints.ix (Own.sl (by assumption)) (by omega) ?_)
           | (refine Ints.ixI (Own.sl (by assumption)) (by omega) ?_)
           | (refine Ints.ld (Own.sl (by assumption)) (by omega) ?_))
  refine OZ.set HO (by omega) fun w4 G4 HO' => ?_
  have E4 : Ext w2 w4 := Own.keep HO EL1 (Nat.le_refl _) G4
  replace HO := HO'
  replace HA := HA__1.ext E4
  replace Hf := Hf__1.ext E4
  replace EE := EE__1.ext E4
  replace Hb := Hb__1.ext E4
  replace EL1 := E4
  repeat' (conv => whnf
           first
           | (refine Dr.quiet tyOk (by kernel_rfl) ?_)
           | (refine Rng.mk (by omega) ?_)
           | (refine Split.pos (by omega) ?_)
           | (refine Split.neg (by omega) ?_)
           | (refine Split.mk (fun h => ?_) (fun h => ?_))
           | (refine Need.mk (by omega) ?_)
           | (refine Ints.ln (by assumption) ?_)
           | (refine Mat.ln (by assumption) ?_)
           | (refine Ints.ln (Mat.row (by assumption) _ (by omega)) ?_)
           | (refine Ints.ix (by assumption) (by omega) ?_)
           | (refine Mat.ix (by assumption) (by omega) ?_)
           | (refine Ints.ix (Mat.row (by assumption) _ (by omega)) (by omega) ?_)
           | (refine Ints.ix (c := 0) (by assumption) (by omega) ?_)
           | (refine Mat.ix (c := 0) (by assumption) (by omega) ?_)
           | (refine Ints.ix (c := 0) (Mat.row (by assumption) _ (by omega)) (by omega) ?_)
           | (refine Ints.ixI (by assumption) (by omega) ?_)
           | (refine Mat.ixI (by assumption) (by omega) ?_)
           | (refine Ints.ixI (Mat.row (by assumption) _ (by omega)) (by omega) ?_)
           | (refine Ints.ld (by assumption) (by omega) ?_)
           | (refine Mat.ld (by assumption) (by omega) ?_)
           | (refine Ints.ld (Mat.row (by assumption) _ (by omega)) (by omega) ?_)
           | (refine At.ld (by assumption) rfl ?_)
           | (refine At.ldN (by assumption) rfl ?_)
           | (refine Prs.ln (by assumption) ?_)
           | (refine Trs.ln (by assumption) ?_)
           | (refine Prs.ix (by assumption) (by omega) ?_)
           | (refine Trs.ix (by assumption) (by omega) ?_)
           | (refine Prs.ldN (by assumption) (by omega) ?_)
           | (refine Trs.ldN (by assumption) (by omega) ?_)
           | (refine At.ldN (Blk.at (by assumption)) rfl ?_)
           | (refine At.ld (Blk.at (by assumption)) rfl ?_)
           | (refine IxA.mk (by omega) ?_)
           | (refine Sl.ln (Own.sl (by assumption)) ?_)
           | (refine Ints.ix (Own.sl (by assumption)) (by omega) ?_)
           | (refine Ints.ixI (Own.sl (by assumption)) (by omega) ?_)
           | (refine Ints.ld (Own.sl (by assumption)) (by omega) ?_))
  refine Lp.mk tyOk [false, false, false, false, false, false, true, true, true, true, true, false, false, false, false, false, true, true, true, true, true, true, true, true, true, true, true, true, true, true, true, true, true, true, true, true, true, true, true, true, true, true, true, true, true, true, true, true, true, true, true, true, true, true, true, true, true, true, true, true, true, true, true, true, true, true, true, true, true, true, true, true, true, true, true, true, true] (fun m fr wr => getK fr 6 fun mo => ∃ c : Nat, c ≤ (N + 1) ∧ m = (N + 1) - c ∧ ((∃ b M, mo = .bool b ∧ OZ w2.heap.size wr rv M ∧ RM N A f M ∧ (b = true → c + cntF M ≤ N) ∧ (b = false → ∀ i, i < A.length → Shut A f M i))) ∧ Ext w2 wr) ((N + 1)) ?_ ?_
  · exact ⟨0, Nat.zero_le _, rfl, ⟨true, _, rfl, HO, hrm0, fun _ => by omega, fun h => (by cases h)⟩, EL1⟩
  · intro m w5 u6 u7 u8 u9 u10 u16 u17 u18 u19 u20 u21 u22 u23 u24 u25 u26 u27 u28 u29 u30 u31 u32 u33 u34 u35 u36 u37 u38 u39 u40 u41 u42 u43 u44 u45 u46 u47 u48 u49 u50 u51 u52 u53 u54 u55 u56 u57 u58 u59 u60 u61 u62 u63 u64 u65 u66 u67 u68 u69 u70 u71 u72 u73 u74 u75 u76 hR
    obtain ⟨c, hc, rfl, HX, EL1⟩ := hR
    replace HA := HA__1.ext EL1
    replace Hf := Hf__1.ext EL1
    replace EE := EE__1.ext EL1
    replace Hb := Hb__1.ext EL1
    obtain ⟨b, M, rfl, HO, hR, hb1, hb0⟩ := HX
    cases b with
    | false =>
      repeat' (conv => whnf
               first
               | (refine Dr.quiet tyOk (by kernel_rfl) ?_)
               | (refine Rng.mk (by omega) ?_)
               | (refine Split.pos (by omega) ?_)
               | (refine Split.neg (by omega) ?_)
               | (refine Split.mk (fun h => ?_) (fun h => ?_))
               | (refine Need.mk (by omega) ?_)
               | (refine Ints.ln (by assumption) ?_)
               | (refine Mat.ln (by assumption) ?_)
               | (refine Ints.ln (Mat.row (by assumption) _ (by omega)) ?_)
               | (refine Ints.ix (by assumption) (by omega) ?_)
               | (refine Mat.ix (by assumption) (by omega) ?_)
               | (refine Ints.ix (Mat.row (by assumption) _ (by omega)) (by omega) ?_)
               | (refine Ints.ix (c := 0) (by assumption) (by omega) ?_)
               | (refine Mat.ix (c := 0) (by assumption) (by omega) ?_)
               | (refine Ints.ix (c := 0) (Mat.row (by assumption) _ (by omega)) (by omega) ?_)
               | (refine Ints.ixI (by assumption) (by omega) ?_)
               | (refine Mat.ixI (by assumption) (by omega) ?_)
               | (refine Ints.ixI (Mat.row (by assumption) _ (by omega)) (by omega) ?_)
               | (refine Ints.ld (by assumption) (by omega) ?_)
               | (refine Mat.ld (by assumption) (by omega) ?_)
               | (refine Ints.ld (Mat.row (by assumption) _ (by omega)) (by omega) ?_)
               | (refine At.ld (by assumption) rfl ?_)
               | (refine At.ldN (by assumption) rfl ?_)
               | (refine Prs.ln (by assumption) ?_)
               | (refine Trs.ln (by assumption) ?_)
               | (refine Prs.ix (by assumption) (by omega) ?_)
               | (refine Trs.ix (by assumption) (by omega) ?_)
               | (refine Prs.ldN (by assumption) (by omega) ?_)
               | (refine Trs.ldN (by assumption) (by omega) ?_)
               | (refine At.ldN (Blk.at (by assumption)) rfl ?_)
               | (refine At.ld (Blk.at (by assumption)) rfl ?_)
               | (refine IxA.mk (by omega) ?_)
               | (refine Sl.ln (Own.sl (by assumption)) ?_)
               | (refine Ints.ix (Own.sl (by assumption)) (by omega) ?_)
               | (refine Ints.ixI (Own.sl (by assumption)) (by omega) ?_)
               | (refine Ints.ld (Own.sl (by assumption)) (by omega) ?_))
      rw [← hR.done hk (fun i hi => hb0 rfl i hi)]
      exact ⟨EE, Own.base HO (by omega)⟩
    | true =>
      have hcK := hb1 rfl
      obtain ⟨K, hK⟩ : ∃ K, K = cntF M := ⟨_, rfl⟩
      repeat' (conv => whnf
               first
               | (refine Dr.quiet tyOk (by kernel_rfl) ?_)
               | (refine Rng.mk (by omega) ?_)
               | (refine Split.pos (by omega) ?_)
               | (refine Split.neg (by omega) ?_)
               | (refine Split.mk (fun h => ?_) (fun h => ?_))
               | (refine Need.mk (by omega) ?_)
               | (refine Ints.ln (by assumption) ?_)
               | (refine Mat.ln (by assumption) ?_)
               | (refine Ints.ln (Mat.row (by assumption) _ (by omega)) ?_)
               | (refine Ints.ix (by assumption) (by omega) ?_)
               | (refine Mat.ix (by assumption) (by omega) ?_)
               | (refine Ints.ix (Mat.row (by assumption) _ (by omega)) (by omega) ?_)
               | (refine Ints.ix (c := 0) (by assumption) (by omega) ?_)
               | (refine Mat.ix (c := 0) (by assumption) (by omega) ?_)
               | (refine Ints.ix (c := 0) (Mat.row (by assumption) _ (by omega)) (by omega) ?_)
               | (refine Ints.ixI (by assumption) (by omega) ?_)
               | (refine Mat.ixI (by assumption) (by omega) ?_)
               | (refine Ints.ixI (Mat.row (by assumption) _ (by omega)) (by omega) ?_)
               | (refine Ints.ld (by assumption) (by omega) ?_)
               | (refine Mat.ld (by assumption) (by omega) ?_)
               | (refine Ints.ld (Mat.row (by assumption) _ (by omega)) (by omega) ?_)
               | (refine At.ld (by assumption) rfl ?_)
               | (refine At.ldN (by assumption) rfl ?_)
               | (refine Prs.ln (by assumption) ?_)
               | (refine Trs.ln (by assumption) ?_)
               | (refine Prs.ix (by assumption) (by omega) ?_)
               | (refine Trs.ix (by assumption) (by omega) ?_)
               | (refine Prs.ldN (by assumption) (by omega) ?_)
               | (refine Trs.ldN (by assumption) (by omega) ?_)
               | (refine At.ldN (Blk.at (by assumption)) rfl ?_)
               | (refine At.ld (Blk.at (by assumption)) rfl ?_)
               | (refine IxA.mk (by omega) ?_)
               | (refine Sl.ln (Own.sl (by assumption)) ?_)
               | (refine Ints.ix (Own.sl (by assumption)) (by omega) ?_)
               | (refine Ints.ixI (Own.sl (by assumption)) (by omega) ?_)
               | (refine Ints.ld (Own.sl (by assumption)) (by omega) ?_))
      refine Lp.mk tyOk [false, false, false, false, false, false, true, true, true, true, true, false, false, false, false, false, false, true, true, true, true, true, true, true, true, true, true, true, true, true, true, true, true, true, true, true, true, true, true, true, true, true, true, true, true, true, true, true, true, true, true, true, true, true, true, true, true, true, true, true, true, true, true, true, true, true, true, true, true, true, true, true, true, true, true, true, true] (fun m fr wr => getK fr 7 fun i => getK fr 6 fun mo => ∃ d : Nat, d ≤ f.length ∧ m = f.length - d ∧ i = .int .i64 (d : Int) ∧ ((∃ b M, mo = .bool b ∧ OZ w2.heap.size wr rv M ∧ RM N A f M ∧ cntF M ≤ K ∧ (b = true → cntF M < K) ∧ (b = false → ∀ i, i < d → Shut A f M i))) ∧ Ext w2 wr) (f.length) ?_ ?_
      · exact ⟨0, Nat.zero_le _, rfl, rfl, ⟨false, M, rfl, HO, hR, by omega, fun h => (by cases h), fun _ i hi => absurd hi (Nat.not_lt_zero _)⟩, EL1⟩
      · intro m w6 u6 u7 u8 u9 u10 u17 u18 u19 u20 u21 u22 u23 u24 u25 u26 u27 u28 u29 u30 u31 u32 u33 u34 u35 u36 u37 u38 u39 u40 u41 u42 u43 u44 u45 u46 u47 u48 u49 u50 u51 u52 u53 u54 u55 u56 u57 u58 u59 u60 u61 u62 u63 u64 u65 u66 u67 u68 u69 u70 u71 u72 u73 u74 u75 u76 hR
        obtain ⟨d, hd, rfl, rfl, HY, EL1⟩ := hR
        replace HA := HA__1.ext EL1
        replace Hf := Hf__1.ext EL1
        replace EE := EE__1.ext EL1
        replace Hb := Hb__1.ext EL1
        obtain ⟨b, M, rfl, HO, hR, hleK, hbt, hbf⟩ := HY
        have hMl := hR.len
        by_cases hdl : d < f.length
        · have hdA : d < A.length := by omega
          obtain ⟨hf, ht, hne, hc0, hc1⟩ := hk.arc d hdA
          have hfd := hF.2 d hdl
          have e1 : (A.getD d (0, 0, 0)).1 = frm A d := rfl
          have e2 : (A.getD d (0, 0, 0)).2.1 = too A d := rfl
          have e3 : (A.getD d (0, 0, 0)).2.2 = cpy A d := rfl
          have hkeep : Shut A f M d → b = false → ∀ i, i < d + 1 → Shut A f M i := fun hsd h i hi => by
            by_cases e : i = d
            · subst e; exact hsd
            · exact hbf h i (by omega)
          repeat' (conv => whnf
                   first
                   | (refine Dr.quiet tyOk (by kernel_rfl) ?_)
                   | (refine Rng.mk (by omega) ?_)
                   | (refine Split.pos (by omega) ?_)
                   | (refine Split.neg (by omega) ?_)
                   | (refine Split.mk (fun h => ?_) (fun h => ?_))
                   | (refine Need.mk (by omega) ?_)
                   | (refine Ints.ln (by assumption) ?_)
                   | (refine Mat.ln (by assumption) ?_)
                   | (refine Ints.ln (Mat.row (by assumption) _ (by omega)) ?_)
                   | (refine Ints.ix (by assumption) (by omega) ?_)
                   | (refine Mat.ix (by assumption) (by omega) ?_)
                   | (refine Ints.ix (Mat.row (by assumption) _ (by omega)) (by omega) ?_)
                   | (refine Ints.ix (c := 0) (by assumption) (by omega) ?_)
                   | (refine Mat.ix (c := 0) (by assumption) (by omega) ?_)
                   | (refine Ints.ix (c := 0) (Mat.row (by assumption) _ (by omega)) (by omega) ?_)
                   | (refine Ints.ixI (by assumption) (by omega) ?_)
                   | (refine Mat.ixI (by assumption) (by omega) ?_)
                   | (refine Ints.ixI (Mat.row (by assumption) _ (by omega)) (by omega) ?_)
                   | (refine Ints.ld (by assumption) (by omega) ?_)
                   | (refine Mat.ld (by assumption) (by omega) ?_)
                   | (refine Ints.ld (Mat.row (by assumption) _ (by omega)) (by omega) ?_)
                   | (refine At.ld (by assumption) rfl ?_)
                   | (refine At.ldN (by assumption) rfl ?_)
                   | (refine Prs.ln (by assumption) ?_)
                   | (refine Trs.ln (by assumption) ?_)
                   | (refine Prs.ix (by assumption) (by omega) ?_)
                   | (refine Trs.ix (by assumption) (by omega) ?_)
                   | (refine Prs.ldN (by assumption) (by omega) ?_)
                   | (refine Trs.ldN (by assumption) (by omega) ?_)
                   | (refine At.ldN (Blk.at (by assumption)) rfl ?_)
                   | (refine At.ld (Blk.at (by assumption)) rfl ?_)
                   | (refine IxA.mk (by omega) ?_)
                   | (refine Sl.ln (Own.sl (by assumption)) ?_)
                   | (refine Ints.ix (Own.sl (by assumption)) (by omega) ?_)
                   | (refine Ints.ixI (Own.sl (by assumption)) (by omega) ?_)
                   | (refine Ints.ld (Own.sl (by assumption)) (by omega) ?_))
          have HA__2 := HA
          have Hf__2 := Hf
          have EE__2 := EE
          have Hb__2 := Hb
          have EL1__2 := EL1
          have HO__2 := HO
          conv => whnf
          refine VE.alloc eArc fun xb w7 E7 hb_xb Hk => ?_
          replace HA := HA.ext E7
          replace Hf := Hf.ext E7
          replace EE := EE.ext E7
          replace Hb := Hb.ext E7
          replace EL1 := EL1.ext E7
          replace HO := HO.ext E7
          have EL2 := E7
          conv => whnf
          refine Blk.all Hk (by kernel_rfl) (by first | decide | simp) rfl rfl (by intro v hv; simp at hv; rcases hv with rfl | rfl | rfl | rfl | rfl <;> rfl) fun w8 G8 Hk' => ?_
          have E8 : Ext w6 w8 := EL2.new G8 fun i hi hk => by omega
          replace Hk := Hk'
          replace HA := HA__2.ext E8
          replace Hf := Hf__2.ext E8
          replace EE := EE__2.ext E8
          replace Hb := Hb__2.ext E8
          replace EL1 := EL1__2.ext E8
          replace HO := HO__2.ext E8
          replace EL2 := E8
          have cl := rleft_pc (d := d) HA Hf hk hF hdl
          cases hp : M.getD (frm A d).toNat false with
          | true =>
            cases hq : M.getD (too A d).toNat false with
            | true =>
              have hsd : Shut A f M d := fun u v hu he => by
                rcases he with ⟨h1, h2, _⟩ | ⟨h1, h2, _⟩
                · rw [← h2]; exact hq
                · rw [← h2]; exact hp
              repeat' (conv => whnf
                       first
                       | (refine Dr.quiet tyOk (by kernel_rfl) ?_)
                       | (refine VC.pure cl ?_)
                       | (refine Bls.ixI (Own.sl HO) (by omega) ?_)
                       | (refine Bls.ldv (Own.sl HO) hp (by omega) ?_)
                       | (refine Bls.ldv (Own.sl HO) hq (by omega) ?_)
                       | (refine Rng.mk (by omega) ?_)
                       | (refine Split.pos (by omega) ?_)
                       | (refine Split.neg (by omega) ?_)
                       | (refine Split.mk (fun h => ?_) (fun h => ?_))
                       | (refine Need.mk (by omega) ?_)
                       | (refine Ints.ln (by assumption) ?_)
                       | (refine Mat.ln (by assumption) ?_)
                       | (refine Ints.ln (Mat.row (by assumption) _ (by omega)) ?_)
                       | (refine Ints.ix (by assumption) (by omega) ?_)
                       | (refine Mat.ix (by assumption) (by omega) ?_)
                       | (refine Ints.ix (Mat.row (by assumption) _ (by omega)) (by omega) ?_)
                       | (refine Ints.ix (c := 0) (by assumption) (by omega) ?_)
                       | (refine Mat.ix (c := 0) (by assumption) (by omega) ?_)
                       | (refine Ints.ix (c := 0) (Mat.row (by assumption) _ (by omega)) (by omega) ?_)
                       | (refine Ints.ixI (by assumption) (by omega) ?_)
                       | (refine Mat.ixI (by assumption) (by omega) ?_)
                       | (refine Ints.ixI (Mat.row (by assumption) _ (by omega)) (by omega) ?_)
                       | (refine Ints.ld (by assumption) (by omega) ?_)
                       | (refine Mat.ld (by assumption) (by omega) ?_)
                       | (refine Ints.ld (Mat.row (by assumption) _ (by omega)) (by omega) ?_)
                       | (refine At.ld (by assumption) rfl ?_)
                       | (refine At.ldN (by assumption) rfl ?_)
                       | (refine Prs.ln (by assumption) ?_)
                       | (refine Trs.ln (by assumption) ?_)
                       | (refine Prs.ix (by assumption) (by omega) ?_)
                       | (refine Trs.ix (by assumption) (by omega) ?_)
                       | (refine Prs.ldN (by assumption) (by omega) ?_)
                       | (refine Trs.ldN (by assumption) (by omega) ?_)
                       | (refine At.ldN (Blk.at (by assumption)) rfl ?_)
                       | (refine At.ld (Blk.at (by assumption)) rfl ?_)
                       | (refine IxA.mk (by omega) ?_)
                       | (refine Sl.ln (Own.sl (by assumption)) ?_)
                       | (refine Ints.ix (Own.sl (by assumption)) (by omega) ?_)
                       | (refine Ints.ixI (Own.sl (by assumption)) (by omega) ?_)
                       | (refine Ints.ld (Own.sl (by assumption)) (by omega) ?_))
              all_goals (refine ⟨_, (by omega : f.length - (d + 1) < f.length - d), rfl, d + 1, by omega, rfl, rfl, ⟨b, M, rfl, HO, hR, hleK, hbt, fun h i hi => hkeep hsd h i hi⟩, EL1⟩)
            | false =>
              by_cases hfw : f.getD d 0 < cpy A d
              · have hpu := hR.set (t := (too A d).toNat) (by omega) (by rw [show ((((too A d).toNat : Nat)) : Int) = too A d by omega]; exact Rch.s (by have := hR.rch _ hp; rwa [show ((((frm A d).toNat : Nat)) : Int) = frm A d by omega] at this) hdA (.inl ⟨rfl, rfl, hfw⟩))
                have hcs := cntF_set (l := M) (t := (too A d).toNat) (by omega) hq
                have hg1 : (M.set (too A d).toNat true).getD (too A d).toNat false = true := by rw [setB_getD (by omega), if_pos rfl]
                have hg2 : (M.set (too A d).toNat true).getD (frm A d).toNat false = true := by rw [setB_getD (by omega)]; split; rfl; exact hp
                have hml2 : (M.set (too A d).toNat true).length = N := by rw [List.length_set]; exact hMl
                repeat' (conv => whnf
                         first
                         | (refine Dr.quiet tyOk (by kernel_rfl) ?_)
                         | (refine VC.pure cl ?_)
                         | (refine Bls.ixI (Own.sl HO) (by omega) ?_)
                         | (refine Bls.ldv (Own.sl HO) hp (by omega) ?_)
                         | (refine Bls.ldv (Own.sl HO) hq (by omega) ?_)
                         | (refine Rng.mk (by omega) ?_)
                         | (refine Split.pos (by omega) ?_)
                         | (refine Split.neg (by omega) ?_)
                         | (refine Split.mk (fun h => ?_) (fun h => ?_))
                         | (refine Need.mk (by omega) ?_)
                         | (refine Ints.ln (by assumption) ?_)
                         | (refine Mat.ln (by assumption) ?_)
                         | (refine Ints.ln (Mat.row (by assumption) _ (by omega)) ?_)
                         | (refine Ints.ix (by assumption) (by omega) ?_)
                         | (refine Mat.ix (by assumption) (by omega) ?_)
                         | (refine Ints.ix (Mat.row (by assumption) _ (by omega)) (by omega) ?_)
                         | (refine Ints.ix (c := 0) (by assumption) (by omega) ?_)
                         | (refine Mat.ix (c := 0) (by assumption) (by omega) ?_)
                         | (refine Ints.ix (c := 0) (Mat.row (by assumption) _ (by omega)) (by omega) ?_)
                         | (refine Ints.ixI (by assumption) (by omega) ?_)
                         | (refine Mat.ixI (by assumption) (by omega) ?_)
                         | (refine Ints.ixI (Mat.row (by assumption) _ (by omega)) (by omega) ?_)
                         | (refine Ints.ld (by assumption) (by omega) ?_)
                         | (refine Mat.ld (by assumption) (by omega) ?_)
                         | (refine Ints.ld (Mat.row (by assumption) _ (by omega)) (by omega) ?_)
                         | (refine At.ld (by assumption) rfl ?_)
                         | (refine At.ldN (by assumption) rfl ?_)
                         | (refine Prs.ln (by assumption) ?_)
                         | (refine Trs.ln (by assumption) ?_)
                         | (refine Prs.ix (by assumption) (by omega) ?_)
                         | (refine Trs.ix (by assumption) (by omega) ?_)
                         | (refine Prs.ldN (by assumption) (by omega) ?_)
                         | (refine Trs.ldN (by assumption) (by omega) ?_)
                         | (refine At.ldN (Blk.at (by assumption)) rfl ?_)
                         | (refine At.ld (Blk.at (by assumption)) rfl ?_)
                         | (refine IxA.mk (by omega) ?_)
                         | (refine Sl.ln (Own.sl (by assumption)) ?_)
                         | (refine Ints.ix (Own.sl (by assumption)) (by omega) ?_)
                         | (refine Ints.ixI (Own.sl (by assumption)) (by omega) ?_)
                         | (refine Ints.ld (Own.sl (by assumption)) (by omega) ?_))
                have ho0 := HO
                refine OZ.set HO (by omega) fun w9 G9 HO' => ?_
                have E9 : Ext w2 w9 := Own.keep HO EL1 (Nat.le_refl _) G9
                replace HO := HO'
                replace HA := HA__1.ext E9
                replace Hf := Hf__1.ext E9
                replace EE := EE__1.ext E9
                replace Hb := Hb__1.ext E9
                replace EL1 := E9
                rw [e2] at HO
                have Hk2 := Blk.row Hk ho0 (by decide) G9
                repeat' (conv => whnf
                         first
                         | (refine Dr.quiet tyOk (by kernel_rfl) ?_)
                         | (refine Bls.ixI (Own.sl HO) (by omega) ?_)
                         | (refine Bls.ldv (Own.sl HO) hg1 (by omega) ?_)
                         | (refine Bls.ldv (Own.sl HO) hg2 (by omega) ?_)
                         | (refine Rng.mk (by omega) ?_)
                         | (refine Split.pos (by omega) ?_)
                         | (refine Split.neg (by omega) ?_)
                         | (refine Split.mk (fun h => ?_) (fun h => ?_))
                         | (refine Need.mk (by omega) ?_)
                         | (refine Ints.ln (by assumption) ?_)
                         | (refine Mat.ln (by assumption) ?_)
                         | (refine Ints.ln (Mat.row (by assumption) _ (by omega)) ?_)
                         | (refine Ints.ix (by assumption) (by omega) ?_)
                         | (refine Mat.ix (by assumption) (by omega) ?_)
                         | (refine Ints.ix (Mat.row (by assumption) _ (by omega)) (by omega) ?_)
                         | (refine Ints.ix (c := 0) (by assumption) (by omega) ?_)
                         | (refine Mat.ix (c := 0) (by assumption) (by omega) ?_)
                         | (refine Ints.ix (c := 0) (Mat.row (by assumption) _ (by omega)) (by omega) ?_)
                         | (refine Ints.ixI (by assumption) (by omega) ?_)
                         | (refine Mat.ixI (by assumption) (by omega) ?_)
                         | (refine Ints.ixI (Mat.row (by assumption) _ (by omega)) (by omega) ?_)
                         | (refine Ints.ld (by assumption) (by omega) ?_)
                         | (refine Mat.ld (by assumption) (by omega) ?_)
                         | (refine Ints.ld (Mat.row (by assumption) _ (by omega)) (by omega) ?_)
                         | (refine At.ld (by assumption) rfl ?_)
                         | (refine At.ldN (by assumption) rfl ?_)
                         | (refine Prs.ln (by assumption) ?_)
                         | (refine Trs.ln (by assumption) ?_)
                         | (refine Prs.ix (by assumption) (by omega) ?_)
                         | (refine Trs.ix (by assumption) (by omega) ?_)
                         | (refine Prs.ldN (by assumption) (by omega) ?_)
                         | (refine Trs.ldN (by assumption) (by omega) ?_)
                         | (refine At.ldN (Blk.at (by assumption)) rfl ?_)
                         | (refine At.ld (Blk.at (by assumption)) rfl ?_)
                         | (refine IxA.mk (by omega) ?_)
                         | (refine Sl.ln (Own.sl (by assumption)) ?_)
                         | (refine Ints.ix (Own.sl (by assumption)) (by omega) ?_)
                         | (refine Ints.ixI (Own.sl (by assumption)) (by omega) ?_)
                         | (refine Ints.ld (Own.sl (by assumption)) (by omega) ?_))
                refine ⟨_, (by omega : f.length - (d + 1) < f.length - d), rfl, d + 1, by omega, rfl, rfl, ⟨true, M.set (too A d).toNat true, rfl, HO, hpu, by omega, fun _ => by omega, fun h => (by cases h)⟩, EL1⟩
              · have hsd : Shut A f M d := fun u v hu he => by
                  rcases he with ⟨h1, h2, h3⟩ | ⟨h1, h2, _⟩
                  · exact absurd h3 hfw
                  · rw [← h1, hq] at hu; cases hu
                repeat' (conv => whnf
                         first
                         | (refine Dr.quiet tyOk (by kernel_rfl) ?_)
                         | (refine VC.pure cl ?_)
                         | (refine Bls.ixI (Own.sl HO) (by omega) ?_)
                         | (refine Bls.ldv (Own.sl HO) hp (by omega) ?_)
                         | (refine Bls.ldv (Own.sl HO) hq (by omega) ?_)
                         | (refine Rng.mk (by omega) ?_)
                         | (refine Split.pos (by omega) ?_)
                         | (refine Split.neg (by omega) ?_)
                         | (refine Split.mk (fun h => ?_) (fun h => ?_))
                         | (refine Need.mk (by omega) ?_)
                         | (refine Ints.ln (by assumption) ?_)
                         | (refine Mat.ln (by assumption) ?_)
                         | (refine Ints.ln (Mat.row (by assumption) _ (by omega)) ?_)
                         | (refine Ints.ix (by assumption) (by omega) ?_)
                         | (refine Mat.ix (by assumption) (by omega) ?_)
                         | (refine Ints.ix (Mat.row (by assumption) _ (by omega)) (by omega) ?_)
                         | (refine Ints.ix (c := 0) (by assumption) (by omega) ?_)
                         | (refine Mat.ix (c := 0) (by assumption) (by omega) ?_)
                         | (refine Ints.ix (c := 0) (Mat.row (by assumption) _ (by omega)) (by omega) ?_)
                         | (refine Ints.ixI (by assumption) (by omega) ?_)
                         | (refine Mat.ixI (by assumption) (by omega) ?_)
                         | (refine Ints.ixI (Mat.row (by assumption) _ (by omega)) (by omega) ?_)
                         | (refine Ints.ld (by assumption) (by omega) ?_)
                         | (refine Mat.ld (by assumption) (by omega) ?_)
                         | (refine Ints.ld (Mat.row (by assumption) _ (by omega)) (by omega) ?_)
                         | (refine At.ld (by assumption) rfl ?_)
                         | (refine At.ldN (by assumption) rfl ?_)
                         | (refine Prs.ln (by assumption) ?_)
                         | (refine Trs.ln (by assumption) ?_)
                         | (refine Prs.ix (by assumption) (by omega) ?_)
                         | (refine Trs.ix (by assumption) (by omega) ?_)
                         | (refine Prs.ldN (by assumption) (by omega) ?_)
                         | (refine Trs.ldN (by assumption) (by omega) ?_)
                         | (refine At.ldN (Blk.at (by assumption)) rfl ?_)
                         | (refine At.ld (Blk.at (by assumption)) rfl ?_)
                         | (refine IxA.mk (by omega) ?_)
                         | (refine Sl.ln (Own.sl (by assumption)) ?_)
                         | (refine Ints.ix (Own.sl (by assumption)) (by omega) ?_)
                         | (refine Ints.ixI (Own.sl (by assumption)) (by omega) ?_)
                         | (refine Ints.ld (Own.sl (by assumption)) (by omega) ?_))
                all_goals (refine ⟨_, (by omega : f.length - (d + 1) < f.length - d), rfl, d + 1, by omega, rfl, rfl, ⟨b, M, rfl, HO, hR, hleK, hbt, fun h i hi => hkeep hsd h i hi⟩, EL1⟩)
          | false =>
            cases hq : M.getD (too A d).toNat false with
            | true =>
              by_cases hbw : 0 < f.getD d 0
              · have hpu := hR.set (t := (frm A d).toNat) (by omega) (by rw [show ((((frm A d).toNat : Nat)) : Int) = frm A d by omega]; exact Rch.s (by have := hR.rch _ hq; rwa [show ((((too A d).toNat : Nat)) : Int) = too A d by omega] at this) hdA (.inr ⟨rfl, rfl, hbw⟩))
                have hcs := cntF_set (l := M) (t := (frm A d).toNat) (by omega) hp
                have hg1 : (M.set (frm A d).toNat true).getD (frm A d).toNat false = true := by rw [setB_getD (by omega), if_pos rfl]
                have hg2 : (M.set (frm A d).toNat true).getD (too A d).toNat false = true := by rw [setB_getD (by omega)]; split; rfl; exact hq
                have hml2 : (M.set (frm A d).toNat true).length = N := by rw [List.length_set]; exact hMl
                repeat' (conv => whnf
                         first
                         | (refine Dr.quiet tyOk (by kernel_rfl) ?_)
                         | (refine VC.pure cl ?_)
                         | (refine Bls.ixI (Own.sl HO) (by omega) ?_)
                         | (refine Bls.ldv (Own.sl HO) hp (by omega) ?_)
                         | (refine Bls.ldv (Own.sl HO) hq (by omega) ?_)
                         | (refine Rng.mk (by omega) ?_)
                         | (refine Split.pos (by omega) ?_)
                         | (refine Split.neg (by omega) ?_)
                         | (refine Split.mk (fun h => ?_) (fun h => ?_))
                         | (refine Need.mk (by omega) ?_)
                         | (refine Ints.ln (by assumption) ?_)
                         | (refine Mat.ln (by assumption) ?_)
                         | (refine Ints.ln (Mat.row (by assumption) _ (by omega)) ?_)
                         | (refine Ints.ix (by assumption) (by omega) ?_)
                         | (refine Mat.ix (by assumption) (by omega) ?_)
                         | (refine Ints.ix (Mat.row (by assumption) _ (by omega)) (by omega) ?_)
                         | (refine Ints.ix (c := 0) (by assumption) (by omega) ?_)
                         | (refine Mat.ix (c := 0) (by assumption) (by omega) ?_)
                         | (refine Ints.ix (c := 0) (Mat.row (by assumption) _ (by omega)) (by omega) ?_)
                         | (refine Ints.ixI (by assumption) (by omega) ?_)
                         | (refine Mat.ixI (by assumption) (by omega) ?_)
                         | (refine Ints.ixI (Mat.row (by assumption) _ (by omega)) (by omega) ?_)
                         | (refine Ints.ld (by assumption) (by omega) ?_)
                         | (refine Mat.ld (by assumption) (by omega) ?_)
                         | (refine Ints.ld (Mat.row (by assumption) _ (by omega)) (by omega) ?_)
                         | (refine At.ld (by assumption) rfl ?_)
                         | (refine At.ldN (by assumption) rfl ?_)
                         | (refine Prs.ln (by assumption) ?_)
                         | (refine Trs.ln (by assumption) ?_)
                         | (refine Prs.ix (by assumption) (by omega) ?_)
                         | (refine Trs.ix (by assumption) (by omega) ?_)
                         | (refine Prs.ldN (by assumption) (by omega) ?_)
                         | (refine Trs.ldN (by assumption) (by omega) ?_)
                         | (refine At.ldN (Blk.at (by assumption)) rfl ?_)
                         | (refine At.ld (Blk.at (by assumption)) rfl ?_)
                         | (refine IxA.mk (by omega) ?_)
                         | (refine Sl.ln (Own.sl (by assumption)) ?_)
                         | (refine Ints.ix (Own.sl (by assumption)) (by omega) ?_)
                         | (refine Ints.ixI (Own.sl (by assumption)) (by omega) ?_)
                         | (refine Ints.ld (Own.sl (by assumption)) (by omega) ?_))
                have ho0 := HO
                refine OZ.set HO (by omega) fun w10 G10 HO' => ?_
                have E10 : Ext w2 w10 := Own.keep HO EL1 (Nat.le_refl _) G10
                replace HO := HO'
                replace HA := HA__1.ext E10
                replace Hf := Hf__1.ext E10
                replace EE := EE__1.ext E10
                replace Hb := Hb__1.ext E10
                replace EL1 := E10
                rw [e1] at HO
                have Hk2 := Blk.row Hk ho0 (by decide) G10
                repeat' (conv => whnf
                         first
                         | (refine Dr.quiet tyOk (by kernel_rfl) ?_)
                         | (refine Bls.ixI (Own.sl HO) (by omega) ?_)
                         | (refine Bls.ldv (Own.sl HO) hg1 (by omega) ?_)
                         | (refine Bls.ldv (Own.sl HO) hg2 (by omega) ?_)
                         | (refine Rng.mk (by omega) ?_)
                         | (refine Split.pos (by omega) ?_)
                         | (refine Split.neg (by omega) ?_)
                         | (refine Split.mk (fun h => ?_) (fun h => ?_))
                         | (refine Need.mk (by omega) ?_)
                         | (refine Ints.ln (by assumption) ?_)
                         | (refine Mat.ln (by assumption) ?_)
                         | (refine Ints.ln (Mat.row (by assumption) _ (by omega)) ?_)
                         | (refine Ints.ix (by assumption) (by omega) ?_)
                         | (refine Mat.ix (by assumption) (by omega) ?_)
                         | (refine Ints.ix (Mat.row (by assumption) _ (by omega)) (by omega) ?_)
                         | (refine Ints.ix (c := 0) (by assumption) (by omega) ?_)
                         | (refine Mat.ix (c := 0) (by assumption) (by omega) ?_)
                         | (refine Ints.ix (c := 0) (Mat.row (by assumption) _ (by omega)) (by omega) ?_)
                         | (refine Ints.ixI (by assumption) (by omega) ?_)
                         | (refine Mat.ixI (by assumption) (by omega) ?_)
                         | (refine Ints.ixI (Mat.row (by assumption) _ (by omega)) (by omega) ?_)
                         | (refine Ints.ld (by assumption) (by omega) ?_)
                         | (refine Mat.ld (by assumption) (by omega) ?_)
                         | (refine Ints.ld (Mat.row (by assumption) _ (by omega)) (by omega) ?_)
                         | (refine At.ld (by assumption) rfl ?_)
                         | (refine At.ldN (by assumption) rfl ?_)
                         | (refine Prs.ln (by assumption) ?_)
                         | (refine Trs.ln (by assumption) ?_)
                         | (refine Prs.ix (by assumption) (by omega) ?_)
                         | (refine Trs.ix (by assumption) (by omega) ?_)
                         | (refine Prs.ldN (by assumption) (by omega) ?_)
                         | (refine Trs.ldN (by assumption) (by omega) ?_)
                         | (refine At.ldN (Blk.at (by assumption)) rfl ?_)
                         | (refine At.ld (Blk.at (by assumption)) rfl ?_)
                         | (refine IxA.mk (by omega) ?_)
                         | (refine Sl.ln (Own.sl (by assumption)) ?_)
                         | (refine Ints.ix (Own.sl (by assumption)) (by omega) ?_)
                         | (refine Ints.ixI (Own.sl (by assumption)) (by omega) ?_)
                         | (refine Ints.ld (Own.sl (by assumption)) (by omega) ?_))
                refine ⟨_, (by omega : f.length - (d + 1) < f.length - d), rfl, d + 1, by omega, rfl, rfl, ⟨true, M.set (frm A d).toNat true, rfl, HO, hpu, by omega, fun _ => by omega, fun h => (by cases h)⟩, EL1⟩
              · have hsd : Shut A f M d := fun u v hu he => by
                  rcases he with ⟨h1, h2, h3⟩ | ⟨h1, h2, h3⟩
                  · rw [← h1, hp] at hu; cases hu
                  · exact absurd h3 hbw
                repeat' (conv => whnf
                         first
                         | (refine Dr.quiet tyOk (by kernel_rfl) ?_)
                         | (refine VC.pure cl ?_)
                         | (refine Bls.ixI (Own.sl HO) (by omega) ?_)
                         | (refine Bls.ldv (Own.sl HO) hp (by omega) ?_)
                         | (refine Bls.ldv (Own.sl HO) hq (by omega) ?_)
                         | (refine Rng.mk (by omega) ?_)
                         | (refine Split.pos (by omega) ?_)
                         | (refine Split.neg (by omega) ?_)
                         | (refine Split.mk (fun h => ?_) (fun h => ?_))
                         | (refine Need.mk (by omega) ?_)
                         | (refine Ints.ln (by assumption) ?_)
                         | (refine Mat.ln (by assumption) ?_)
                         | (refine Ints.ln (Mat.row (by assumption) _ (by omega)) ?_)
                         | (refine Ints.ix (by assumption) (by omega) ?_)
                         | (refine Mat.ix (by assumption) (by omega) ?_)
                         | (refine Ints.ix (Mat.row (by assumption) _ (by omega)) (by omega) ?_)
                         | (refine Ints.ix (c := 0) (by assumption) (by omega) ?_)
                         | (refine Mat.ix (c := 0) (by assumption) (by omega) ?_)
                         | (refine Ints.ix (c := 0) (Mat.row (by assumption) _ (by omega)) (by omega) ?_)
                         | (refine Ints.ixI (by assumption) (by omega) ?_)
                         | (refine Mat.ixI (by assumption) (by omega) ?_)
                         | (refine Ints.ixI (Mat.row (by assumption) _ (by omega)) (by omega) ?_)
                         | (refine Ints.ld (by assumption) (by omega) ?_)
                         | (refine Mat.ld (by assumption) (by omega) ?_)
                         | (refine Ints.ld (Mat.row (by assumption) _ (by omega)) (by omega) ?_)
                         | (refine At.ld (by assumption) rfl ?_)
                         | (refine At.ldN (by assumption) rfl ?_)
                         | (refine Prs.ln (by assumption) ?_)
                         | (refine Trs.ln (by assumption) ?_)
                         | (refine Prs.ix (by assumption) (by omega) ?_)
                         | (refine Trs.ix (by assumption) (by omega) ?_)
                         | (refine Prs.ldN (by assumption) (by omega) ?_)
                         | (refine Trs.ldN (by assumption) (by omega) ?_)
                         | (refine At.ldN (Blk.at (by assumption)) rfl ?_)
                         | (refine At.ld (Blk.at (by assumption)) rfl ?_)
                         | (refine IxA.mk (by omega) ?_)
                         | (refine Sl.ln (Own.sl (by assumption)) ?_)
                         | (refine Ints.ix (Own.sl (by assumption)) (by omega) ?_)
                         | (refine Ints.ixI (Own.sl (by assumption)) (by omega) ?_)
                         | (refine Ints.ld (Own.sl (by assumption)) (by omega) ?_))
                all_goals (refine ⟨_, (by omega : f.length - (d + 1) < f.length - d), rfl, d + 1, by omega, rfl, rfl, ⟨b, M, rfl, HO, hR, hleK, hbt, fun h i hi => hkeep hsd h i hi⟩, EL1⟩)
            | false =>
              have hsd : Shut A f M d := fun u v hu he => by
                rcases he with ⟨h1, h2, _⟩ | ⟨h1, h2, _⟩
                · rw [← h1, hp] at hu; cases hu
                · rw [← h1, hq] at hu; cases hu
              repeat' (conv => whnf
                       first
                       | (refine Dr.quiet tyOk (by kernel_rfl) ?_)
                       | (refine VC.pure cl ?_)
                       | (refine Bls.ixI (Own.sl HO) (by omega) ?_)
                       | (refine Bls.ldv (Own.sl HO) hp (by omega) ?_)
                       | (refine Bls.ldv (Own.sl HO) hq (by omega) ?_)
                       | (refine Rng.mk (by omega) ?_)
                       | (refine Split.pos (by omega) ?_)
                       | (refine Split.neg (by omega) ?_)
                       | (refine Split.mk (fun h => ?_) (fun h => ?_))
                       | (refine Need.mk (by omega) ?_)
                       | (refine Ints.ln (by assumption) ?_)
                       | (refine Mat.ln (by assumption) ?_)
                       | (refine Ints.ln (Mat.row (by assumption) _ (by omega)) ?_)
                       | (refine Ints.ix (by assumption) (by omega) ?_)
                       | (refine Mat.ix (by assumption) (by omega) ?_)
                       | (refine Ints.ix (Mat.row (by assumption) _ (by omega)) (by omega) ?_)
                       | (refine Ints.ix (c := 0) (by assumption) (by omega) ?_)
                       | (refine Mat.ix (c := 0) (by assumption) (by omega) ?_)
                       | (refine Ints.ix (c := 0) (Mat.row (by assumption) _ (by omega)) (by omega) ?_)
                       | (refine Ints.ixI (by assumption) (by omega) ?_)
                       | (refine Mat.ixI (by assumption) (by omega) ?_)
                       | (refine Ints.ixI (Mat.row (by assumption) _ (by omega)) (by omega) ?_)
                       | (refine Ints.ld (by assumption) (by omega) ?_)
                       | (refine Mat.ld (by assumption) (by omega) ?_)
                       | (refine Ints.ld (Mat.row (by assumption) _ (by omega)) (by omega) ?_)
                       | (refine At.ld (by assumption) rfl ?_)
                       | (refine At.ldN (by assumption) rfl ?_)
                       | (refine Prs.ln (by assumption) ?_)
                       | (refine Trs.ln (by assumption) ?_)
                       | (refine Prs.ix (by assumption) (by omega) ?_)
                       | (refine Trs.ix (by assumption) (by omega) ?_)
                       | (refine Prs.ldN (by assumption) (by omega) ?_)
                       | (refine Trs.ldN (by assumption) (by omega) ?_)
                       | (refine At.ldN (Blk.at (by assumption)) rfl ?_)
                       | (refine At.ld (Blk.at (by assumption)) rfl ?_)
                       | (refine IxA.mk (by omega) ?_)
                       | (refine Sl.ln (Own.sl (by assumption)) ?_)
                       | (refine Ints.ix (Own.sl (by assumption)) (by omega) ?_)
                       | (refine Ints.ixI (Own.sl (by assumption)) (by omega) ?_)
                       | (refine Ints.ld (Own.sl (by assumption)) (by omega) ?_))
              all_goals (refine ⟨_, (by omega : f.length - (d + 1) < f.length - d), rfl, d + 1, by omega, rfl, rfl, ⟨b, M, rfl, HO, hR, hleK, hbt, fun h i hi => hkeep hsd h i hi⟩, EL1⟩)
        · repeat' (conv => whnf
                   first
                   | (refine Dr.quiet tyOk (by kernel_rfl) ?_)
                   | (refine Rng.mk (by omega) ?_)
                   | (refine Split.pos (by omega) ?_)
                   | (refine Split.neg (by omega) ?_)
                   | (refine Split.mk (fun h => ?_) (fun h => ?_))
                   | (refine Need.mk (by omega) ?_)
                   | (refine Ints.ln (by assumption) ?_)
                   | (refine Mat.ln (by assumption) ?_)
                   | (refine Ints.ln (Mat.row (by assumption) _ (by omega)) ?_)
                   | (refine Ints.ix (by assumption) (by omega) ?_)
                   | (refine Mat.ix (by assumption) (by omega) ?_)
                   | (refine Ints.ix (Mat.row (by assumption) _ (by omega)) (by omega) ?_)
                   | (refine Ints.ix (c := 0) (by assumption) (by omega) ?_)
                   | (refine Mat.ix (c := 0) (by assumption) (by omega) ?_)
                   | (refine Ints.ix (c := 0) (Mat.row (by assumption) _ (by omega)) (by omega) ?_)
                   | (refine Ints.ixI (by assumption) (by omega) ?_)
                   | (refine Mat.ixI (by assumption) (by omega) ?_)
                   | (refine Ints.ixI (Mat.row (by assumption) _ (by omega)) (by omega) ?_)
                   | (refine Ints.ld (by assumption) (by omega) ?_)
                   | (refine Mat.ld (by assumption) (by omega) ?_)
                   | (refine Ints.ld (Mat.row (by assumption) _ (by omega)) (by omega) ?_)
                   | (refine At.ld (by assumption) rfl ?_)
                   | (refine At.ldN (by assumption) rfl ?_)
                   | (refine Prs.ln (by assumption) ?_)
                   | (refine Trs.ln (by assumption) ?_)
                   | (refine Prs.ix (by assumption) (by omega) ?_)
                   | (refine Trs.ix (by assumption) (by omega) ?_)
                   | (refine Prs.ldN (by assumption) (by omega) ?_)
                   | (refine Trs.ldN (by assumption) (by omega) ?_)
                   | (refine At.ldN (Blk.at (by assumption)) rfl ?_)
                   | (refine At.ld (Blk.at (by assumption)) rfl ?_)
                   | (refine IxA.mk (by omega) ?_)
                   | (refine Sl.ln (Own.sl (by assumption)) ?_)
                   | (refine Ints.ix (Own.sl (by assumption)) (by omega) ?_)
                   | (refine Ints.ixI (Own.sl (by assumption)) (by omega) ?_)
                   | (refine Ints.ld (Own.sl (by assumption)) (by omega) ?_))
          refine ⟨_, (by omega : (N + 1) - (c + 1) < (N + 1) - c), rfl, c + 1, by omega, rfl, ⟨b, M, rfl, HO, hR, fun h => (by have := hbt h; omega), fun h i hi => hbf h i (by omega)⟩, EL1⟩

open Classical in noncomputable def rL (n : Int) (A : List T3) (f : List Int) : List Bool := if vE n A f = 0 then rchL n.toNat A f else []
theorem vE_ok {N : Nat} {A : List T3} {f : List Int} (hE : netE (N : Int) A = 0) (hW : isW N A f) : vE (N : Int) A f = 0 := by unfold vE; rw [if_pos hE, Int.toNat_natCast, if_pos hW]
theorem vE_bad {N : Nat} {A : List T3} {f : List Int} (hE : netE (N : Int) A = 0) (hW : ¬ isW N A f) : vE (N : Int) A f = 8 := by unfold vE; rw [if_pos hE, Int.toNat_natCast, if_neg hW]
theorem vE_err {n : Int} {A : List T3} {f : List Int} (hE : ¬ netE n A = 0) : vE n A f = netE n A := by unfold vE; rw [if_neg hE]
theorem rL_ok {N : Nat} {A : List T3} {f : List Int} (hE : netE (N : Int) A = 0) (hW : isW N A f) : rL (N : Int) A f = rchL N A f := by unfold rL; rw [if_pos (vE_ok hE hW), Int.toNat_natCast]
theorem rL_no {n : Int} {A : List T3} {f : List Int} (h : ¬ vE n A f = 0) : rL n A f = [] := by unfold rL; rw [if_neg h]

theorem gReach_rc {w : World} {n : Int} {sv fv : Value} {A : List T3} {f : List Int} (HA : Trs w sv A) (Hf : Ints w fv f) :
    RC Try.prog 23 [.agg #[.int .i64 n, sv], fv] w NoB (fun u w' => ∃ v, u = .tuple #[v, .int .i64 (vE n A f)] ∧ OZ 0 w' v (rL n A f)) := by
  refine RC.mk tyOk Try.func23 rfl (by kernel_rfl) fun w1 E1 => ?_
  replace HA := HA.ext E1
  replace Hf := Hf.ext E1
  have EE := Ext.refl w1
  refine Bx.agg fun b2 w2 E2 hb2 Hb _ => ?_
  replace HA := HA.ext E2
  replace Hf := Hf.ext E2
  replace EE := EE.ext E2
  have cn := gnet_pc (n := n) HA
  by_cases hE : netE n A = 0
  · obtain ⟨N, rfl, hk⟩ := netOk hE
    have cw := gworth_pc HA Hf hk
    rw [hE] at cn
    by_cases hW : isW N A f
    · rw [tf_t hW] at cw
      rw [vE_ok hE hW, rL_ok hE hW]
      repeat' (conv => whnf
               first
               | (refine Dr.quiet tyOk (by kernel_rfl) ?_)
               | (refine At.ldN Hb rfl ?_)
               | (refine VC.pure cn ?_)
               | (refine VC.pure cw ?_)
               | (refine Rng.mk (by omega) ?_)
               | (refine Split.pos (by omega) ?_)
               | (refine Split.neg (by omega) ?_)
               | (refine Split.mk (fun h => ?_) (fun h => ?_))
               | (refine Need.mk (by omega) ?_)
               | (refine Ints.ln (by assumption) ?_)
               | (refine Mat.ln (by assumption) ?_)
               | (refine Ints.ln (Mat.row (by assumption) _ (by omega)) ?_)
               | (refine Ints.ix (by assumption) (by omega) ?_)
               | (refine Mat.ix (by assumption) (by omega) ?_)
               | (refine Ints.ix (Mat.row (by assumption) _ (by omega)) (by omega) ?_)
               | (refine Ints.ix (c := 0) (by assumption) (by omega) ?_)
               | (refine Mat.ix (c := 0) (by assumption) (by omega) ?_)
               | (refine Ints.ix (c := 0) (Mat.row (by assumption) _ (by omega)) (by omega) ?_)
               | (refine Ints.ixI (by assumption) (by omega) ?_)
               | (refine Mat.ixI (by assumption) (by omega) ?_)
               | (refine Ints.ixI (Mat.row (by assumption) _ (by omega)) (by omega) ?_)
               | (refine Ints.ld (by assumption) (by omega) ?_)
               | (refine Mat.ld (by assumption) (by omega) ?_)
               | (refine Ints.ld (Mat.row (by assumption) _ (by omega)) (by omega) ?_)
               | (refine At.ld (by assumption) rfl ?_)
               | (refine At.ldN (by assumption) rfl ?_)
               | (refine Prs.ln (by assumption) ?_)
               | (refine Trs.ln (by assumption) ?_)
               | (refine Prs.ix (by assumption) (by omega) ?_)
               | (refine Trs.ix (by assumption) (by omega) ?_)
               | (refine Prs.ldN (by assumption) (by omega) ?_)
               | (refine Trs.ldN (by assumption) (by omega) ?_)
               | (refine At.ldN (Blk.at (by assumption)) rfl ?_)
               | (refine At.ld (Blk.at (by assumption)) rfl ?_)
               | (refine IxA.mk (by omega) ?_)
               | (refine Sl.ln (Own.sl (by assumption)) ?_)
               | (refine Ints.ix (Own.sl (by assumption)) (by omega) ?_)
               | (refine Ints.ixI (Own.sl (by assumption)) (by omega) ?_)
               | (refine Ints.ld (Own.sl (by assumption)) (by omega) ?_))
      conv => whnf
      refine VC.rc (greach_rc HA Hf hk hW.1) ?_
      rintro v w3 E3 HV
      replace HA := HA.ext E3
      replace Hf := Hf.ext E3
      replace EE := EE.ext E3
      replace Hb := Hb.ext E3
      repeat' (conv => whnf
               first
               | (refine Dr.quiet tyOk (by kernel_rfl) ?_)
               | (refine Rng.mk (by omega) ?_)
               | (refine Split.pos (by omega) ?_)
               | (refine Split.neg (by omega) ?_)
               | (refine Split.mk (fun h => ?_) (fun h => ?_))
               | (refine Need.mk (by omega) ?_)
               | (refine Ints.ln (by assumption) ?_)
               | (refine Mat.ln (by assumption) ?_)
               | (refine Ints.ln (Mat.row (by assumption) _ (by omega)) ?_)
               | (refine Ints.ix (by assumption) (by omega) ?_)
               | (refine Mat.ix (by assumption) (by omega) ?_)
               | (refine Ints.ix (Mat.row (by assumption) _ (by omega)) (by omega) ?_)
               | (refine Ints.ix (c := 0) (by assumption) (by omega) ?_)
               | (refine Mat.ix (c := 0) (by assumption) (by omega) ?_)
               | (refine Ints.ix (c := 0) (Mat.row (by assumption) _ (by omega)) (by omega) ?_)
               | (refine Ints.ixI (by assumption) (by omega) ?_)
               | (refine Mat.ixI (by assumption) (by omega) ?_)
               | (refine Ints.ixI (Mat.row (by assumption) _ (by omega)) (by omega) ?_)
               | (refine Ints.ld (by assumption) (by omega) ?_)
               | (refine Mat.ld (by assumption) (by omega) ?_)
               | (refine Ints.ld (Mat.row (by assumption) _ (by omega)) (by omega) ?_)
               | (refine At.ld (by assumption) rfl ?_)
               | (refine At.ldN (by assumption) rfl ?_)
               | (refine Prs.ln (by assumption) ?_)
               | (refine Trs.ln (by assumption) ?_)
               | (refine Prs.ix (by assumption) (by omega) ?_)
               | (refine Trs.ix (by assumption) (by omega) ?_)
               | (refine Prs.ldN (by assumption) (by omega) ?_)
               | (refine Trs.ldN (by assumption) (by omega) ?_)
               | (refine At.ldN (Blk.at (by assumption)) rfl ?_)
               | (refine At.ld (Blk.at (by assumption)) rfl ?_)
               | (refine IxA.mk (by omega) ?_)
               | (refine Sl.ln (Own.sl (by assumption)) ?_)
               | (refine Ints.ix (Own.sl (by assumption)) (by omega) ?_)
               | (refine Ints.ixI (Own.sl (by assumption)) (by omega) ?_)
               | (refine Ints.ld (Own.sl (by assumption)) (by omega) ?_))
      exact ⟨EE, _, rfl, Own.base HV (Nat.zero_le _)⟩
    · rw [tf_f hW] at cw
      rw [rL_no (by rw [vE_bad hE hW]; decide), vE_bad hE hW]
      repeat' (conv => whnf
               first
               | (refine Dr.quiet tyOk (by kernel_rfl) ?_)
               | (refine At.ldN Hb rfl ?_)
               | (refine VC.pure cn ?_)
               | (refine VC.pure cw ?_)
               | (refine Rng.mk (by omega) ?_)
               | (refine Split.pos (by omega) ?_)
               | (refine Split.neg (by omega) ?_)
               | (refine Split.mk (fun h => ?_) (fun h => ?_))
               | (refine Need.mk (by omega) ?_)
               | (refine Ints.ln (by assumption) ?_)
               | (refine Mat.ln (by assumption) ?_)
               | (refine Ints.ln (Mat.row (by assumption) _ (by omega)) ?_)
               | (refine Ints.ix (by assumption) (by omega) ?_)
               | (refine Mat.ix (by assumption) (by omega) ?_)
               | (refine Ints.ix (Mat.row (by assumption) _ (by omega)) (by omega) ?_)
               | (refine Ints.ix (c := 0) (by assumption) (by omega) ?_)
               | (refine Mat.ix (c := 0) (by assumption) (by omega) ?_)
               | (refine Ints.ix (c := 0) (Mat.row (by assumption) _ (by omega)) (by omega) ?_)
               | (refine Ints.ixI (by assumption) (by omega) ?_)
               | (refine Mat.ixI (by assumption) (by omega) ?_)
               | (refine Ints.ixI (Mat.row (by assumption) _ (by omega)) (by omega) ?_)
               | (refine Ints.ld (by assumption) (by omega) ?_)
               | (refine Mat.ld (by assumption) (by omega) ?_)
               | (refine Ints.ld (Mat.row (by assumption) _ (by omega)) (by omega) ?_)
               | (refine At.ld (by assumption) rfl ?_)
               | (refine At.ldN (by assumption) rfl ?_)
               | (refine Prs.ln (by assumption) ?_)
               | (refine Trs.ln (by assumption) ?_)
               | (refine Prs.ix (by assumption) (by omega) ?_)
               | (refine Trs.ix (by assumption) (by omega) ?_)
               | (refine Prs.ldN (by assumption) (by omega) ?_)
               | (refine Trs.ldN (by assumption) (by omega) ?_)
               | (refine At.ldN (Blk.at (by assumption)) rfl ?_)
               | (refine At.ld (Blk.at (by assumption)) rfl ?_)
               | (refine IxA.mk (by omega) ?_)
               | (refine Sl.ln (Own.sl (by assumption)) ?_)
               | (refine Ints.ix (Own.sl (by assumption)) (by omega) ?_)
               | (refine Ints.ixI (Own.sl (by assumption)) (by omega) ?_)
               | (refine Ints.ld (Own.sl (by assumption)) (by omega) ?_))
      exact ⟨EE, _, rfl, Own.nil⟩
  · rw [rL_no (by rw [vE_err hE]; exact hE), vE_err hE]
    repeat' (conv => whnf
             first
             | (refine Dr.quiet tyOk (by kernel_rfl) ?_)
             | (refine At.ldN Hb rfl ?_)
             | (refine VC.pure cn ?_)
             | (refine Rng.mk (by omega) ?_)
             | (refine Split.pos (by omega) ?_)
             | (refine Split.neg (by omega) ?_)
             | (refine Split.mk (fun h => ?_) (fun h => ?_))
             | (refine Need.mk (by omega) ?_)
             | (refine Ints.ln (by assumption) ?_)
             | (refine Mat.ln (by assumption) ?_)
             | (refine Ints.ln (Mat.row (by assumption) _ (by omega)) ?_)
             | (refine Ints.ix (by assumption) (by omega) ?_)
             | (refine Mat.ix (by assumption) (by omega) ?_)
             | (refine Ints.ix (Mat.row (by assumption) _ (by omega)) (by omega) ?_)
             | (refine Ints.ix (c := 0) (by assumption) (by omega) ?_)
             | (refine Mat.ix (c := 0) (by assumption) (by omega) ?_)
             | (refine Ints.ix (c := 0) (Mat.row (by assumption) _ (by omega)) (by omega) ?_)
             | (refine Ints.ixI (by assumption) (by omega) ?_)
             | (refine Mat.ixI (by assumption) (by omega) ?_)
             | (refine Ints.ixI (Mat.row (by assumption) _ (by omega)) (by omega) ?_)
             | (refine Ints.ld (by assumption) (by omega) ?_)
             | (refine Mat.ld (by assumption) (by omega) ?_)
             | (refine Ints.ld (Mat.row (by assumption) _ (by omega)) (by omega) ?_)
             | (refine At.ld (by assumption) rfl ?_)
             | (refine At.ldN (by assumption) rfl ?_)
             | (refine Prs.ln (by assumption) ?_)
             | (refine Trs.ln (by assumption) ?_)
             | (refine Prs.ix (by assumption) (by omega) ?_)
             | (refine Trs.ix (by assumption) (by omega) ?_)
             | (refine Prs.ldN (by assumption) (by omega) ?_)
             | (refine Trs.ldN (by assumption) (by omega) ?_)
             | (refine At.ldN (Blk.at (by assumption)) rfl ?_)
             | (refine At.ld (Blk.at (by assumption)) rfl ?_)
             | (refine IxA.mk (by omega) ?_)
             | (refine Sl.ln (Own.sl (by assumption)) ?_)
             | (refine Ints.ix (Own.sl (by assumption)) (by omega) ?_)
             | (refine Ints.ixI (Own.sl (by assumption)) (by omega) ?_)
             | (refine Ints.ld (Own.sl (by assumption)) (by omega) ?_))
    exact ⟨EE, _, rfl, Own.nil⟩
theorem rReach_rc {w : World} {n : Int} {sv fv : Value} {A : List T3} {f : List Int} (HA : Trs w sv A) (Hf : Ints w fv f) :
    RC Try.prog 24 [.agg #[.int .i64 n, sv], fv] w NoB (fun u w' => ∃ v, u = .tuple #[v, .int .i64 (vE n A f)] ∧ OZ 0 w' v (rL n A f)) := by
  refine RC.mk tyOk Try.func24 rfl (by kernel_rfl) fun w1 E1 => ?_
  replace HA := HA.ext E1
  replace Hf := Hf.ext E1
  have EE := Ext.refl w1
  refine Bx.agg fun b2 w2 E2 hb2 Hb _ => ?_
  replace HA := HA.ext E2
  replace Hf := Hf.ext E2
  replace EE := EE.ext E2
  have cn := rnet_pc (n := n) HA
  by_cases hE : netE n A = 0
  · obtain ⟨N, rfl, hk⟩ := netOk hE
    have cw := ris_pc HA Hf hk
    rw [hE] at cn
    by_cases hW : isW N A f
    · rw [tf_t hW] at cw
      rw [vE_ok hE hW, rL_ok hE hW]
      repeat' (conv => whnf
               first
               | (refine Dr.quiet tyOk (by kernel_rfl) ?_)
               | (refine At.ldN Hb rfl ?_)
               | (refine VC.pure cn ?_)
               | (refine VC.pure cw ?_)
               | (refine Rng.mk (by omega) ?_)
               | (refine Split.pos (by omega) ?_)
               | (refine Split.neg (by omega) ?_)
               | (refine Split.mk (fun h => ?_) (fun h => ?_))
               | (refine Need.mk (by omega) ?_)
               | (refine Ints.ln (by assumption) ?_)
               | (refine Mat.ln (by assumption) ?_)
               | (refine Ints.ln (Mat.row (by assumption) _ (by omega)) ?_)
               | (refine Ints.ix (by assumption) (by omega) ?_)
               | (refine Mat.ix (by assumption) (by omega) ?_)
               | (refine Ints.ix (Mat.row (by assumption) _ (by omega)) (by omega) ?_)
               | (refine Ints.ix (c := 0) (by assumption) (by omega) ?_)
               | (refine Mat.ix (c := 0) (by assumption) (by omega) ?_)
               | (refine Ints.ix (c := 0) (Mat.row (by assumption) _ (by omega)) (by omega) ?_)
               | (refine Ints.ixI (by assumption) (by omega) ?_)
               | (refine Mat.ixI (by assumption) (by omega) ?_)
               | (refine Ints.ixI (Mat.row (by assumption) _ (by omega)) (by omega) ?_)
               | (refine Ints.ld (by assumption) (by omega) ?_)
               | (refine Mat.ld (by assumption) (by omega) ?_)
               | (refine Ints.ld (Mat.row (by assumption) _ (by omega)) (by omega) ?_)
               | (refine At.ld (by assumption) rfl ?_)
               | (refine At.ldN (by assumption) rfl ?_)
               | (refine Prs.ln (by assumption) ?_)
               | (refine Trs.ln (by assumption) ?_)
               | (refine Prs.ix (by assumption) (by omega) ?_)
               | (refine Trs.ix (by assumption) (by omega) ?_)
               | (refine Prs.ldN (by assumption) (by omega) ?_)
               | (refine Trs.ldN (by assumption) (by omega) ?_)
               | (refine At.ldN (Blk.at (by assumption)) rfl ?_)
               | (refine At.ld (Blk.at (by assumption)) rfl ?_)
               | (refine IxA.mk (by omega) ?_)
               | (refine Sl.ln (Own.sl (by assumption)) ?_)
               | (refine Ints.ix (Own.sl (by assumption)) (by omega) ?_)
               | (refine Ints.ixI (Own.sl (by assumption)) (by omega) ?_)
               | (refine Ints.ld (Own.sl (by assumption)) (by omega) ?_))
      conv => whnf
      refine VC.rc (rfound_rc HA Hf hk hW.1) ?_
      rintro v w3 E3 HV
      replace HA := HA.ext E3
      replace Hf := Hf.ext E3
      replace EE := EE.ext E3
      replace Hb := Hb.ext E3
      repeat' (conv => whnf
               first
               | (refine Dr.quiet tyOk (by kernel_rfl) ?_)
               | (refine Rng.mk (by omega) ?_)
               | (refine Split.pos (by omega) ?_)
               | (refine Split.neg (by omega) ?_)
               | (refine Split.mk (fun h => ?_) (fun h => ?_))
               | (refine Need.mk (by omega) ?_)
               | (refine Ints.ln (by assumption) ?_)
               | (refine Mat.ln (by assumption) ?_)
               | (refine Ints.ln (Mat.row (by assumption) _ (by omega)) ?_)
               | (refine Ints.ix (by assumption) (by omega) ?_)
               | (refine Mat.ix (by assumption) (by omega) ?_)
               | (refine Ints.ix (Mat.row (by assumption) _ (by omega)) (by omega) ?_)
               | (refine Ints.ix (c := 0) (by assumption) (by omega) ?_)
               | (refine Mat.ix (c := 0) (by assumption) (by omega) ?_)
               | (refine Ints.ix (c := 0) (Mat.row (by assumption) _ (by omega)) (by omega) ?_)
               | (refine Ints.ixI (by assumption) (by omega) ?_)
               | (refine Mat.ixI (by assumption) (by omega) ?_)
               | (refine Ints.ixI (Mat.row (by assumption) _ (by omega)) (by omega) ?_)
               | (refine Ints.ld (by assumption) (by omega) ?_)
               | (refine Mat.ld (by assumption) (by omega) ?_)
               | (refine Ints.ld (Mat.row (by assumption) _ (by omega)) (by omega) ?_)
               | (refine At.ld (by assumption) rfl ?_)
               | (refine At.ldN (by assumption) rfl ?_)
               | (refine Prs.ln (by assumption) ?_)
               | (refine Trs.ln (by assumption) ?_)
               | (refine Prs.ix (by assumption) (by omega) ?_)
               | (refine Trs.ix (by assumption) (by omega) ?_)
               | (refine Prs.ldN (by assumption) (by omega) ?_)
               | (refine Trs.ldN (by assumption) (by omega) ?_)
               | (refine At.ldN (Blk.at (by assumption)) rfl ?_)
               | (refine At.ld (Blk.at (by assumption)) rfl ?_)
               | (refine IxA.mk (by omega) ?_)
               | (refine Sl.ln (Own.sl (by assumption)) ?_)
               | (refine Ints.ix (Own.sl (by assumption)) (by omega) ?_)
               | (refine Ints.ixI (Own.sl (by assumption)) (by omega) ?_)
               | (refine Ints.ld (Own.sl (by assumption)) (by omega) ?_))
      exact ⟨EE, _, rfl, Own.base HV (Nat.zero_le _)⟩
    · rw [tf_f hW] at cw
      rw [rL_no (by rw [vE_bad hE hW]; decide), vE_bad hE hW]
      repeat' (conv => whnf
               first
               | (refine Dr.quiet tyOk (by kernel_rfl) ?_)
               | (refine At.ldN Hb rfl ?_)
               | (refine VC.pure cn ?_)
               | (refine VC.pure cw ?_)
               | (refine Rng.mk (by omega) ?_)
               | (refine Split.pos (by omega) ?_)
               | (refine Split.neg (by omega) ?_)
               | (refine Split.mk (fun h => ?_) (fun h => ?_))
               | (refine Need.mk (by omega) ?_)
               | (refine Ints.ln (by assumption) ?_)
               | (refine Mat.ln (by assumption) ?_)
               | (refine Ints.ln (Mat.row (by assumption) _ (by omega)) ?_)
               | (refine Ints.ix (by assumption) (by omega) ?_)
               | (refine Mat.ix (by assumption) (by omega) ?_)
               | (refine Ints.ix (Mat.row (by assumption) _ (by omega)) (by omega) ?_)
               | (refine Ints.ix (c := 0) (by assumption) (by omega) ?_)
               | (refine Mat.ix (c := 0) (by assumption) (by omega) ?_)
               | (refine Ints.ix (c := 0) (Mat.row (by assumption) _ (by omega)) (by omega) ?_)
               | (refine Ints.ixI (by assumption) (by omega) ?_)
               | (refine Mat.ixI (by assumption) (by omega) ?_)
               | (refine Ints.ixI (Mat.row (by assumption) _ (by omega)) (by omega) ?_)
               | (refine Ints.ld (by assumption) (by omega) ?_)
               | (refine Mat.ld (by assumption) (by omega) ?_)
               | (refine Ints.ld (Mat.row (by assumption) _ (by omega)) (by omega) ?_)
               | (refine At.ld (by assumption) rfl ?_)
               | (refine At.ldN (by assumption) rfl ?_)
               | (refine Prs.ln (by assumption) ?_)
               | (refine Trs.ln (by assumption) ?_)
               | (refine Prs.ix (by assumption) (by omega) ?_)
               | (refine Trs.ix (by assumption) (by omega) ?_)
               | (refine Prs.ldN (by assumption) (by omega) ?_)
               | (refine Trs.ldN (by assumption) (by omega) ?_)
               | (refine At.ldN (Blk.at (by assumption)) rfl ?_)
               | (refine At.ld (Blk.at (by assumption)) rfl ?_)
               | (refine IxA.mk (by omega) ?_)
               | (refine Sl.ln (Own.sl (by assumption)) ?_)
               | (refine Ints.ix (Own.sl (by assumption)) (by omega) ?_)
               | (refine Ints.ixI (Own.sl (by assumption)) (by omega) ?_)
               | (refine Ints.ld (Own.sl (by assumption)) (by omega) ?_))
      exact ⟨EE, _, rfl, Own.nil⟩
  · rw [rL_no (by rw [vE_err hE]; exact hE), vE_err hE]
    repeat' (conv => whnf
             first
             | (refine Dr.quiet tyOk (by kernel_rfl) ?_)
             | (refine At.ldN Hb rfl ?_)
             | (refine VC.pure cn ?_)
             | (refine Rng.mk (by omega) ?_)
             | (refine Split.pos (by omega) ?_)
             | (refine Split.neg (by omega) ?_)
             | (refine Split.mk (fun h => ?_) (fun h => ?_))
             | (refine Need.mk (by omega) ?_)
             | (refine Ints.ln (by assumption) ?_)
             | (refine Mat.ln (by assumption) ?_)
             | (refine Ints.ln (Mat.row (by assumption) _ (by omega)) ?_)
             | (refine Ints.ix (by assumption) (by omega) ?_)
             | (refine Mat.ix (by assumption) (by omega) ?_)
             | (refine Ints.ix (Mat.row (by assumption) _ (by omega)) (by omega) ?_)
             | (refine Ints.ix (c := 0) (by assumption) (by omega) ?_)
             | (refine Mat.ix (c := 0) (by assumption) (by omega) ?_)
             | (refine Ints.ix (c := 0) (Mat.row (by assumption) _ (by omega)) (by omega) ?_)
             | (refine Ints.ixI (by assumption) (by omega) ?_)
             | (refine Mat.ixI (by assumption) (by omega) ?_)
             | (refine Ints.ixI (Mat.row (by assumption) _ (by omega)) (by omega) ?_)
             | (refine Ints.ld (by assumption) (by omega) ?_)
             | (refine Mat.ld (by assumption) (by omega) ?_)
             | (refine Ints.ld (Mat.row (by assumption) _ (by omega)) (by omega) ?_)
             | (refine At.ld (by assumption) rfl ?_)
             | (refine At.ldN (by assumption) rfl ?_)
             | (refine Prs.ln (by assumption) ?_)
             | (refine Trs.ln (by assumption) ?_)
             | (refine Prs.ix (by assumption) (by omega) ?_)
             | (refine Trs.ix (by assumption) (by omega) ?_)
             | (refine Prs.ldN (by assumption) (by omega) ?_)
             | (refine Trs.ldN (by assumption) (by omega) ?_)
             | (refine At.ldN (Blk.at (by assumption)) rfl ?_)
             | (refine At.ld (Blk.at (by assumption)) rfl ?_)
             | (refine IxA.mk (by omega) ?_)
             | (refine Sl.ln (Own.sl (by assumption)) ?_)
             | (refine Ints.ix (Own.sl (by assumption)) (by omega) ?_)
             | (refine Ints.ixI (Own.sl (by assumption)) (by omega) ?_)
             | (refine Ints.ld (Own.sl (by assumption)) (by omega) ?_))
    exact ⟨EE, _, rfl, Own.nil⟩
end Go.Proofs.Ytpdldifklgpikaa
