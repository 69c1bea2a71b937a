/- Joined texts: FlowMx L25. -/
import Derived.Test.YtpdldifklgpikaaJ3
set_option linter.unusedVariables false
set_option linter.unusedSimpArgs false
namespace Go.Proofs.Ytpdldifklgpikaa
open Go.Eng
set_option maxRecDepth 100000
set_option maxHeartbeats 4000000

open Classical in noncomputable def mxL (n : Int) (A : List T3) : List Int := if netE n A = 0 then gf n.toNat A else []
open Classical in noncomputable def lsL (n : Int) (A : List T3) : List Bool := if netE n A = 0 then rchL n.toNat A (gf n.toNat A) else []
theorem mxL_ok {N : Nat} {A : List T3} (h : netE (N : Int) A = 0) : mxL (N : Int) A = gf N A := by unfold mxL; rw [if_pos h, Int.toNat_natCast]
theorem lsL_ok {N : Nat} {A : List T3} (h : netE (N : Int) A = 0) : lsL (N : Int) A = rchL N A (gf N A) := by unfold lsL; rw [if_pos h, Int.toNat_natCast]
theorem mxL_no {n : Int} {A : List T3} (h : ¬ netE n A = 0) : mxL n A = [] := by unfold mxL; rw [if_neg h]
theorem lsL_no {n : Int} {A : List T3} (h : ¬ netE n A = 0) : lsL n A = [] := by unfold lsL; rw [if_neg h]

theorem vV_ok {N : Nat} {A : List T3} {f : List Int} (hE : netE (N : Int) A = 0) (hW : isW N A f) : vV (N : Int) A f = -bal A f 0 A.length := by unfold vV; rw [if_pos hE, Int.toNat_natCast]; exact wV_ok hW
theorem cE_ok {N : Nat} {A : List T3} {s : List Bool} (hE : netE (N : Int) A = 0) (hS : sdOk N s) : cE (N : Int) A s = 0 := by unfold cE; rw [if_pos hE, Int.toNat_natCast, if_pos hS]
theorem cE_bad {N : Nat} {A : List T3} {s : List Bool} (hE : netE (N : Int) A = 0) (hS : ¬ sdOk N s) : cE (N : Int) A s = 2 := by unfold cE; rw [if_pos hE, Int.toNat_natCast, if_neg hS]
theorem cV_ok {N : Nat} {A : List T3} {s : List Bool} (hE : netE (N : Int) A = 0) (hS : sdOk N s) : cV (N : Int) A s = cutTo A s A.length := by unfold cV; rw [if_pos hE, Int.toNat_natCast]; exact cutV_ok hS

theorem gMax_rc {w : World} {n : Int} {sv : Value} {A : List T3} (HA : Trs w sv A) :
    RC Try.prog 11 [.agg #[.int .i64 n, sv]] w NoB (fun u w' => ∃ v, u = .tuple #[v, .int .i64 (netE n A)] ∧ OI w' v (mxL n A) ∧ (netE n A = 0 → Mx n.toNat A)) := by
  refine RC.mk tyOk Try.func11 rfl (by kernel_rfl) fun w1 E1 => ?_
  replace HA := HA.ext E1
  have EE := Ext.refl w1
  refine Bx.agg fun b2 w2 E2 hb2 Hb _ => ?_
  replace HA := HA.ext E2
  replace EE := EE.ext E2
  have cn := gnet_pc (n := n) HA
  by_cases hE : netE n A = 0
  · obtain ⟨N, rfl, hk⟩ := netOk hE
    rw [mxL_ok hE]
    rw [hE] at cn ⊢
    repeat' ((conv => whnf); first | (refine Dr.quiet tyOk (by kernel_rfl) ?_) | (refine At.ldN Hb rfl ?_) | (refine VC.pure cn ?_) | (refine Rng.mk (by omega) ?_) | (refine Split.pos (by omega) ?_) | (refine Split.neg (by omega) ?_) | (refine Split.mk (fun h => ?_) (fun h => ?_)) | (refine Need.mk (by omega) ?_) | (refine Ints.ln (by assumption) ?_) | (refine Mat.ln (by assumption) ?_) | (refine Ints.ln (Mat.row (by assumption) _ (by omega)) ?_) | (refine Ints.ix (by assumption) (by omega) ?_) | (refine Mat.ix (by assumption) (by omega) ?_) | (refine Ints.ix (Mat.row (by assumption) _ (by omega)) (by omega) ?_) | (refine Ints.ix (c := 0) (by assumption) (by omega) ?_) | (refine Mat.ix (c := 0) (by assumption) (by omega) ?_) | (refine Ints.ix (c := 0) (Mat.row (by assumption) _ (by omega)) (by omega) ?_) | (refine Ints.ixI (by assumption) (by omega) ?_) | (refine Mat.ixI (by assumption) (by omega) ?_) | (refine Ints.ixI (Mat.row (by assumption) _ (by omega)) (by omega) ?_) | (refine Ints.ld (by assumption) (by omega) ?_) | (refine Mat.ld (by assumption) (by omega) ?_) | (refine Ints.ld (Mat.row (by assumption) _ (by omega)) (by omega) ?_) | (refine At.ld (by assumption) rfl ?_) | (refine At.ldN (by assumption) rfl ?_) | (refine Prs.ln (by assumption) ?_) | (refine Trs.ln (by assumption) ?_) | (refine Prs.ix (by assumption) (by omega) ?_) | (refine Trs.ix (by assumption) (by omega) ?_) | (refine Prs.ldN (by assumption) (by omega) ?_) | (refine Trs.ldN (by assumption) (by omega) ?_) | (refine At.ldN (Blk.at (by assumption)) rfl ?_) | (refine At.ld (Blk.at (by assumption)) rfl ?_) | (refine IxA.mk (by omega) ?_) | (refine Sl.ln (Own.sl (by assumption)) ?_) | (refine Ints.ix (Own.sl (by assumption)) (by omega) ?_) | (refine Ints.ixI (Own.sl (by assumption)) (by omega) ?_) | (refine Ints.ld (Own.sl (by assumption)) (by omega) ?_))
    conv => whnf
    refine VC.rc (greatest_rc HA hk) ?_
    rintro v w3 E3 ⟨HV, hM⟩
    replace HA := HA.ext E3
    replace EE := EE.ext E3
    replace Hb := Hb.ext E3
    repeat' ((conv => whnf); first | (refine Dr.quiet tyOk (by kernel_rfl) ?_) | (refine Rng.mk (by omega) ?_) | (refine Split.pos (by omega) ?_) | (refine Split.neg (by omega) ?_) | (refine Split.mk (fun h => ?_) (fun h => ?_)) | (refine Need.mk (by omega) ?_) | (refine Ints.ln (by assumption) ?_) | (refine Mat.ln (by assumption) ?_) | (refine Ints.ln (Mat.row (by assumption) _ (by omega)) ?_) | (refine Ints.ix (by assumption) (by omega) ?_) | (refine Mat.ix (by assumption) (by omega) ?_) | (refine Ints.ix (Mat.row (by assumption) _ (by omega)) (by omega) ?_) | (refine Ints.ix (c := 0) (by assumption) (by omega) ?_) | (refine Mat.ix (c := 0) (by assumption) (by omega) ?_) | (refine Ints.ix (c := 0) (Mat.row (by assumption) _ (by omega)) (by omega) ?_) | (refine Ints.ixI (by assumption) (by omega) ?_) | (refine Mat.ixI (by assumption) (by omega) ?_) | (refine Ints.ixI (Mat.row (by assumption) _ (by omega)) (by omega) ?_) | (refine Ints.ld (by assumption) (by omega) ?_) | (refine Mat.ld (by assumption) (by omega) ?_) | (refine Ints.ld (Mat.row (by assumption) _ (by omega)) (by omega) ?_) | (refine At.ld (by assumption) rfl ?_) | (refine At.ldN (by assumption) rfl ?_) | (refine Prs.ln (by assumption) ?_) | (refine Trs.ln (by assumption) ?_) | (refine Prs.ix (by assumption) (by omega) ?_) | (refine Trs.ix (by assumption) (by omega) ?_) | (refine Prs.ldN (by assumption) (by omega) ?_) | (refine Trs.ldN (by assumption) (by omega) ?_) | (refine At.ldN (Blk.at (by assumption)) rfl ?_) | (refine At.ld (Blk.at (by assumption)) rfl ?_) | (refine IxA.mk (by omega) ?_) | (refine Sl.ln (Own.sl (by assumption)) ?_) | (refine Ints.ix (Own.sl (by assumption)) (by omega) ?_) | (refine Ints.ixI (Own.sl (by assumption)) (by omega) ?_) | (refine Ints.ld (Own.sl (by assumption)) (by omega) ?_))
    exact ⟨EE, _, rfl, Own.base HV (Nat.zero_le _), fun _ => by rw [Int.toNat_natCast]; exact hM⟩
  · rw [mxL_no hE]
    repeat' ((conv => whnf); first | (refine Dr.quiet tyOk (by kernel_rfl) ?_) | (refine At.ldN Hb rfl ?_) | (refine VC.pure cn ?_) | (refine Rng.mk (by omega) ?_) | (refine Split.pos (by omega) ?_) | (refine Split.neg (by omega) ?_) | (refine Split.mk (fun h => ?_) (fun h => ?_)) | (refine Need.mk (by omega) ?_) | (refine Ints.ln (by assumption) ?_) | (refine Mat.ln (by assumption) ?_) | (refine Ints.ln (Mat.row (by assumption) _ (by omega)) ?_) | (refine Ints.ix (by assumption) (by omega) ?_) | (refine Mat.ix (by assumption) (by omega) ?_) | (refine Ints.ix (Mat.row (by assumption) _ (by omega)) (by omega) ?_) | (refine Ints.ix (c := 0) (by assumption) (by omega) ?_) | (refine Mat.ix (c := 0) (by assumption) (by omega) ?_) | (refine Ints.ix (c := 0) (Mat.row (by assumption) _ (by omega)) (by omega) ?_) | (refine Ints.ixI (by assumption) (by omega) ?_) | (refine Mat.ixI (by assumption) (by omega) ?_) | (refine Ints.ixI (Mat.row (by assumption) _ (by omega)) (by omega) ?_) | (refine Ints.ld (by assumption) (by omega) ?_) | (refine Mat.ld (by assumption) (by omega) ?_) | (refine Ints.ld (Mat.row (by assumption) _ (by omega)) (by omega) ?_) | (refine At.ld (by assumption) rfl ?_) | (refine At.ldN (by assumption) rfl ?_) | (refine Prs.ln (by assumption) ?_) | (refine Trs.ln (by assumption) ?_) | (refine Prs.ix (by assumption) (by omega) ?_) | (refine Trs.ix (by assumption) (by omega) ?_) | (refine Prs.ldN (by assumption) (by omega) ?_) | (refine Trs.ldN (by assumption) (by omega) ?_) | (refine At.ldN (Blk.at (by assumption)) rfl ?_) | (refine At.ld (Blk.at (by assumption)) rfl ?_) | (refine IxA.mk (by omega) ?_) | (refine Sl.ln (Own.sl (by assumption)) ?_) | (refine Ints.ix (Own.sl (by assumption)) (by omega) ?_) | (refine Ints.ixI (Own.sl (by assumption)) (by omega) ?_) | (refine Ints.ld (Own.sl (by assumption)) (by omega) ?_))
    exact ⟨EE, _, rfl, Own.nil, fun h => absurd h hE⟩
theorem gLeast_rc {w : World} {n : Int} {sv : Value} {A : List T3} (HA : Trs w sv A) :
    RC Try.prog 13 [.agg #[.int .i64 n, sv]] w NoB (fun u w' => ∃ v, u = .tuple #[v, .int .i64 (netE n A)] ∧ OZ 0 w' v (lsL n A)) := by
  refine RC.mk tyOk Try.func13 rfl (by kernel_rfl) fun w1 E1 => ?_
  replace HA := HA.ext E1
  have EE := Ext.refl w1
  refine Bx.agg fun b2 w2 E2 hb2 Hb _ => ?_
  replace HA := HA.ext E2
  replace EE := EE.ext E2
  have cn := gnet_pc (n := n) HA
  by_cases hE : netE n A = 0
  · obtain ⟨N, rfl, hk⟩ := netOk hE
    rw [lsL_ok hE]
    rw [hE] at cn ⊢
    repeat' ((conv => whnf); first | (refine Dr.plan 10 [] (.q 0 (.q 1 (.e 2 (.e 3 (.q 4 (.q 5 .nil)) .nil) .nil))) tyOk rfl (by kernel_rfl) ?_) | (refine Dr.quiet tyOk (by kernel_rfl) ?_) | (refine At.ldN Hb rfl ?_) | (refine VC.pure cn ?_) | (refine Rng.mk (by omega) ?_) | (refine Split.pos (by omega) ?_) | (refine Split.neg (by omega) ?_) | (refine Split.mk (fun h => ?_) (fun h => ?_)) | (refine Need.mk (by omega) ?_) | (refine Ints.ln (by assumption) ?_) | (refine Mat.ln (by assumption) ?_) | (refine Ints.ln (Mat.row (by assumption) _ (by omega)) ?_) | (refine Ints.ix (by assumption) (by omega) ?_) | (refine Mat.ix (by assumption) (by omega) ?_) | (refine Ints.ix (Mat.row (by assumption) _ (by omega)) (by omega) ?_) | (refine Ints.ix (c := 0) (by assumption) (by omega) ?_) | (refine Mat.ix (c := 0) (by assumption) (by omega) ?_) | (refine Ints.ix (c := 0) (Mat.row (by assumption) _ (by omega)) (by omega) ?_) | (refine Ints.ixI (by assumption) (by omega) ?_) | (refine Mat.ixI (by assumption) (by omega) ?_) | (refine Ints.ixI (Mat.row (by assumption) _ (by omega)) (by omega) ?_) | (refine Ints.ld (by assumption) (by omega) ?_) | (refine Mat.ld (by assumption) (by omega) ?_) | (refine Ints.ld (Mat.row (by assumption) _ (by omega)) (by omega) ?_) | (refine At.ld (by assumption) rfl ?_) | (refine At.ldN (by assumption) rfl ?_) | (refine Prs.ln (by assumption) ?_) | (refine Trs.ln (by assumption) ?_) | (refine Prs.ix (by assumption) (by omega) ?_) | (refine Trs.ix (by assumption) (by omega) ?_) | (refine Prs.ldN (by assumption) (by omega) ?_) | (refine Trs.ldN (by assumption) (by omega) ?_) | (refine At.ldN (Blk.at (by assumption)) rfl ?_) | (refine At.ld (Blk.at (by assumption)) rfl ?_) | (refine IxA.mk (by omega) ?_) | (refine Sl.ln (Own.sl (by assumption)) ?_) | (refine Ints.ix (Own.sl (by assumption)) (by omega) ?_) | (refine Ints.ixI (Own.sl (by assumption)) (by omega) ?_) | (refine Ints.ld (Own.sl (by assumption)) (by omega) ?_))
    conv => whnf
    refine VCX.rc (greatest_rc HA hk) ?_
    rintro v w3 E3 ⟨HV, hM⟩
    replace HA := HA.ext E3
    replace EE := EE.ext E3
    replace Hb := Hb.ext E3
    repeat' ((conv => whnf); first | (refine Dr.plan 10 [] (.q 0 (.q 1 (.e 2 (.e 3 (.q 4 (.q 5 .nil)) .nil) .nil))) tyOk rfl (by kernel_rfl) ?_) | (refine Dr.quiet tyOk (by kernel_rfl) ?_) | (refine At.ldN Hb rfl ?_) | (refine Rng.mk (by omega) ?_) | (refine Split.pos (by omega) ?_) | (refine Split.neg (by omega) ?_) | (refine Split.mk (fun h => ?_) (fun h => ?_)) | (refine Need.mk (by omega) ?_) | (refine Ints.ln (by assumption) ?_) | (refine Mat.ln (by assumption) ?_) | (refine Ints.ln (Mat.row (by assumption) _ (by omega)) ?_) | (refine Ints.ix (by assumption) (by omega) ?_) | (refine Mat.ix (by assumption) (by omega) ?_) | (refine Ints.ix (Mat.row (by assumption) _ (by omega)) (by omega) ?_) | (refine Ints.ix (c := 0) (by assumption) (by omega) ?_) | (refine Mat.ix (c := 0) (by assumption) (by omega) ?_) | (refine Ints.ix (c := 0) (Mat.row (by assumption) _ (by omega)) (by omega) ?_) | (refine Ints.ixI (by assumption) (by omega) ?_) | (refine Mat.ixI (by assumption) (by omega) ?_) | (refine Ints.ixI (Mat.row (by assumption) _ (by omega)) (by omega) ?_) | (refine Ints.ld (by assumption) (by omega) ?_) | (refine Mat.ld (by assumption) (by omega) ?_) | (refine Ints.ld (Mat.row (by assumption) _ (by omega)) (by omega) ?_) | (refine At.ld (by assumption) rfl ?_) | (refine At.ldN (by assumption) rfl ?_) | (refine Prs.ln (by assumption) ?_) | (refine Trs.ln (by assumption) ?_) | (refine Prs.ix (by assumption) (by omega) ?_) | (refine Trs.ix (by assumption) (by omega) ?_) | (refine Prs.ldN (by assumption) (by omega) ?_) | (refine Trs.ldN (by assumption) (by omega) ?_) | (refine At.ldN (Blk.at (by assumption)) rfl ?_) | (refine At.ld (Blk.at (by assumption)) rfl ?_) | (refine IxA.mk (by omega) ?_) | (refine Sl.ln (Own.sl (by assumption)) ?_) | (refine Ints.ix (Own.sl (by assumption)) (by omega) ?_) | (refine Ints.ixI (Own.sl (by assumption)) (by omega) ?_) | (refine Ints.ld (Own.sl (by assumption)) (by omega) ?_))
    conv => whnf
    refine VCX.rc (greach_rc HA (Own.sl HV) hk hM.is.1.1) ?_
    rintro q w4 E4 HQ
    replace HA := HA.ext E4
    replace EE := EE.ext E4
    replace Hb := Hb.ext E4
    replace HV := HV.ext E4
    repeat' ((conv => whnf); first | (refine Dr.quiet tyOk (by kernel_rfl) ?_) | (refine Rng.mk (by omega) ?_) | (refine Split.pos (by omega) ?_) | (refine Split.neg (by omega) ?_) | (refine Split.mk (fun h => ?_) (fun h => ?_)) | (refine Need.mk (by omega) ?_) | (refine Ints.ln (by assumption) ?_) | (refine Mat.ln (by assumption) ?_) | (refine Ints.ln (Mat.row (by assumption) _ (by omega)) ?_) | (refine Ints.ix (by assumption) (by omega) ?_) | (refine Mat.ix (by assumption) (by omega) ?_) | (refine Ints.ix (Mat.row (by assumption) _ (by omega)) (by omega) ?_) | (refine Ints.ix (c := 0) (by assumption) (by omega) ?_) | (refine Mat.ix (c := 0) (by assumption) (by omega) ?_) | (refine Ints.ix (c := 0) (Mat.row (by assumption) _ (by omega)) (by omega) ?_) | (refine Ints.ixI (by assumption) (by omega) ?_) | (refine Mat.ixI (by assumption) (by omega) ?_) | (refine Ints.ixI (Mat.row (by assumption) _ (by omega)) (by omega) ?_) | (refine Ints.ld (by assumption) (by omega) ?_) | (refine Mat.ld (by assumption) (by omega) ?_) | (refine Ints.ld (Mat.row (by assumption) _ (by omega)) (by omega) ?_) | (refine At.ld (by assumption) rfl ?_) | (refine At.ldN (by assumption) rfl ?_) | (refine Prs.ln (by assumption) ?_) | (refine Trs.ln (by assumption) ?_) | (refine Prs.ix (by assumption) (by omega) ?_) | (refine Trs.ix (by assumption) (by omega) ?_) | (refine Prs.ldN (by assumption) (by omega) ?_) | (refine Trs.ldN (by assumption) (by omega) ?_) | (refine At.ldN (Blk.at (by assumption)) rfl ?_) | (refine At.ld (Blk.at (by assumption)) rfl ?_) | (refine IxA.mk (by omega) ?_) | (refine Sl.ln (Own.sl (by assumption)) ?_) | (refine Ints.ix (Own.sl (by assumption)) (by omega) ?_) | (refine Ints.ixI (Own.sl (by assumption)) (by omega) ?_) | (refine Ints.ld (Own.sl (by assumption)) (by omega) ?_))
    exact ⟨EE, _, rfl, Own.base HQ (Nat.zero_le _)⟩
  · rw [lsL_no hE]
    repeat' ((conv => whnf); first | (refine Dr.quiet tyOk (by kernel_rfl) ?_) | (refine At.ldN Hb rfl ?_) | (refine VC.pure cn ?_) | (refine Rng.mk (by omega) ?_) | (refine Split.pos (by omega) ?_) | (refine Split.neg (by omega) ?_) | (refine Split.mk (fun h => ?_) (fun h => ?_)) | (refine Need.mk (by omega) ?_) | (refine Ints.ln (by assumption) ?_) | (refine Mat.ln (by assumption) ?_) | (refine Ints.ln (Mat.row (by assumption) _ (by omega)) ?_) | (refine Ints.ix (by assumption) (by omega) ?_) | (refine Mat.ix (by assumption) (by omega) ?_) | (refine Ints.ix (Mat.row (by assumption) _ (by omega)) (by omega) ?_) | (refine Ints.ix (c := 0) (by assumption) (by omega) ?_) | (refine Mat.ix (c := 0) (by assumption) (by omega) ?_) | (refine Ints.ix (c := 0) (Mat.row (by assumption) _ (by omega)) (by omega) ?_) | (refine Ints.ixI (by assumption) (by omega) ?_) | (refine Mat.ixI (by assumption) (by omega) ?_) | (refine Ints.ixI (Mat.row (by assumption) _ (by omega)) (by omega) ?_) | (refine Ints.ld (by assumption) (by omega) ?_) | (refine Mat.ld (by assumption) (by omega) ?_) | (refine Ints.ld (Mat.row (by assumption) _ (by omega)) (by omega) ?_) | (refine At.ld (by assumption) rfl ?_) | (refine At.ldN (by assumption) rfl ?_) | (refine Prs.ln (by assumption) ?_) | (refine Trs.ln (by assumption) ?_) | (refine Prs.ix (by assumption) (by omega) ?_) | (refine Trs.ix (by assumption) (by omega) ?_) | (refine Prs.ldN (by assumption) (by omega) ?_) | (refine Trs.ldN (by assumption) (by omega) ?_) | (refine At.ldN (Blk.at (by assumption)) rfl ?_) | (refine At.ld (Blk.at (by assumption)) rfl ?_) | (refine IxA.mk (by omega) ?_) | (refine Sl.ln (Own.sl (by assumption)) ?_) | (refine Ints.ix (Own.sl (by assumption)) (by omega) ?_) | (refine Ints.ixI (Own.sl (by assumption)) (by omega) ?_) | (refine Ints.ld (Own.sl (by assumption)) (by omega) ?_))
    exact ⟨EE, _, rfl, Own.nil⟩

section
open Classical
theorem noway_side {N : Nat} {A : List T3} {g : List Int} (hk : NetOk N A) (h : NoWay A g 0 ((N - 1 : Nat) : Int) 0) : ∃ s : List Bool, sdOk N s ∧ ∀ j, j < A.length → ∀ u v : Int, s.getD u.toNat false = true → Edg A g u v j → s.getD v.toNat false = true := by
  obtain ⟨S, h0, h1, hc⟩ := h
  have h2 := hk.n2
  have hg : ∀ v : Nat, v < N → (mk N fun v : Nat => tf (S (v : Int))).getD v false = tf (S (v : Int)) := fun v hv => mk_get false hv
  refine ⟨mk N fun v : Nat => tf (S (v : Int)), ⟨mk_len _ _, by rw [hg 0 (by omega)]; exact tf_t h0, by rw [hg _ (by omega)]; exact tf_f h1⟩, fun j hj u v hu he => ?_⟩
  have hr := edg_rng hk hj he
  rw [hg _ (by omega)] at hu ⊢
  rw [show ((u.toNat : Nat) : Int) = u by omega] at hu
  rw [show ((v.toNat : Nat) : Int) = v by omega]
  exact tf_t (hc j (Nat.zero_le _) hj u v (of_tf hu) he)
theorem rch_not {N : Nat} {A : List T3} {f g : List Int} (hk : NetOk N A) (hf : isW N A f) (hg : isW N A g) (e : bal A g 0 A.length = bal A f 0 A.length) (h : NoWay A g 0 ((N - 1 : Nat) : Int) 0) : ¬ Rch A f ((N - 1 : Nat) : Int) := by
  obtain ⟨s, hs, hc⟩ := noway_side hk h
  have h1 := (cut_weak hk hg hs).2.2 hc
  intro hr
  have h2 := rch_sub hk hf hs (by rw [← e]; exact h1) hr
  rw [Int.toNat_natCast, hs.2.2] at h2
  cases h2
theorem mx_rch {N : Nat} {A : List T3} {f : List Int} (hk : NetOk N A) (hM : Mx N A) (ha : A.length < 200) (hf : isW N A f) : Rch A f ((N - 1 : Nat) : Int) ↔ bal A (gf N A) 0 A.length < bal A f 0 A.length := by
  have hle := hM.is.2.1 f hf
  constructor
  · intro hr
    refine Classical.byContradiction fun hn => ?_
    obtain ⟨g, hg, he, hw⟩ := hM.cut ha
    exact rch_not hk hf hg (by omega) hw hr
  · intro hlt
    refine Classical.byContradiction fun hn => ?_
    have := most_flow hk hf hM.is.1 (noway_of hn)
    omega
theorem mx_proves {N : Nat} {A : List T3} (hk : NetOk N A) (hM : Mx N A) (ha : A.length < 200) : sdOk N (rchL N A (gf N A)) ∧ - bal A (gf N A) 0 A.length = cutTo A (rchL N A (gf N A)) A.length :=
  rch_proves hk hM.is.1 fun h => by have := (mx_rch hk hM ha hM.is.1).1 h; omega
theorem rchL_same {N : Nat} {A : List T3} {f : List Int} (hk : NetOk N A) (hM : Mx N A) (ha : A.length < 200) (hf : isW N A f) (e : bal A f 0 A.length = bal A (gf N A) 0 A.length) : rchL N A f = rchL N A (gf N A) := by
  have hn : ¬ Rch A f ((N - 1 : Nat) : Int) := fun h => by have := (mx_rch hk hM ha hf).1 h; omega
  have h1 := rch_proves hk hf hn
  have h2 := mx_proves hk hM ha
  refine ext_getD false (by rw [rchL_len, rchL_len]) fun i hi => ?_
  rw [rchL_len] at hi
  rw [rch_get hi, rch_get hi]
  by_cases hr : Rch A f (i : Int)
  · have h3 := rch_sub hk hf h2.1 (by rw [e]; exact h2.2) hr
    rw [Int.toNat_natCast, rch_get hi] at h3
    rw [tf_t hr, h3]
  · have h3 : ¬ Rch A (gf N A) (i : Int) := fun hr2 => by
      have h3 := rch_sub hk hM.is.1 h1.1 (by rw [← e]; exact h1.2) hr2
      rw [Int.toNat_natCast, rch_get hi] at h3
      exact hr (of_tf h3)
    rw [tf_f hr, tf_f h3]

/-! ### given networks -/
def nwB (A : List T3) (f : List Int) (S : List Bool) (s t : Int) (k : Nat) : Bool :=
  S.getD s.toNat false && !S.getD t.toNat false && (List.range A.length).all fun j => decide (j < k) || ((!(S.getD (frm A j).toNat false) || !decide (f.getD j 0 < cpy A j) || S.getD (too A j).toNat false) && (!(S.getD (too A j).toNat false) || !decide (0 < f.getD j 0) || S.getD (frm A j).toNat false))
theorem nw_of {A : List T3} {f : List Int} {S : List Bool} {s t : Int} {k : Nat} (h : nwB A f S s t k = true) : NoWay A f s t k := by
  simp only [nwB, Bool.and_eq_true, List.all_eq_true] at h
  refine ⟨fun v => S.getD v.toNat false = true, h.1.1, fun h2 => ?_, fun j hj hl u v hu he => ?_⟩
  · have h3 := h.1.2; rw [h2] at h3; cases h3
  · have h3 := h.2 j (List.mem_range.2 hl)
    rw [decide_eq_false (show ¬ j < k by omega), Bool.false_or, Bool.and_eq_true] at h3
    rcases he with ⟨rfl, rfl, hlt⟩ | ⟨rfl, rfl, hlt⟩
    · have h4 := h3.1
      rw [hu, decide_eq_true hlt] at h4; simpa using h4
    · have h4 := h3.2
      rw [hu, decide_eq_true hlt] at h4; simpa using h4
def isWB (N : Nat) (A : List T3) (f : List Int) : Bool := decide (f.length = A.length) && ((List.range A.length).all fun i => decide (0 ≤ f.getD i 0) && decide (f.getD i 0 ≤ cpy A i)) && (List.range (N - 2)).all fun v => decide (bal A f ((v + 1 : Nat) : Int) A.length = 0)
theorem isW_of {N : Nat} {A : List T3} {f : List Int} (h : isWB N A f = true) : isW N A f := by
  simp only [isWB, Bool.and_eq_true, List.all_eq_true, decide_eq_true_eq] at h
  refine ⟨⟨h.1.1, fun i hi => h.1.2 i (List.mem_range.2 (by omega))⟩, fun v h1 h2 => ?_⟩
  have := h.2 (v - 1) (List.mem_range.2 (by omega))
  rwa [show v - 1 + 1 = v by omega] at this
/-- a flow with the sets that prove it -/
def gfB (N : Nat) (A : List T3) (f : List Int) (c : List Bool) (cs : List (List Bool)) : Bool :=
  isWB N A f && nwB A f c 0 ((N - 1 : Nat) : Int) 0 && (List.range A.length).all fun i => decide (f.getD i 0 = 0) || nwB A f (cs.getD i []) (frm A i) (too A i) (i + 1)
theorem gf_ex {N : Nat} {A : List T3} {f : List Int} {c : List Bool} {cs : List (List Bool)} (hk : NetOk N A) (h : gfB N A f c cs = true) : gf N A = f := by
  simp only [gfB, Bool.and_eq_true, List.all_eq_true, Bool.or_eq_true, decide_eq_true_eq] at h
  have hW := isW_of h.1.1
  exact gf_is (isGf_of hk hW (fun g hg => most_flow hk hW hg (nw_of h.1.2)) fun i hi => ⟨f, hW, rfl, fun _ _ => rfl, (h.2 i (List.mem_range.2 hi)).imp id nw_of⟩)
def netB (n : Int) (A : List T3) : Bool := decide (2 ≤ n) && decide (n ≤ 40) && decide (A.length ≤ 200) && (List.range A.length).all fun i => decide (0 ≤ frm A i) && decide (frm A i < n) && decide (0 ≤ too A i) && decide (too A i < n) && decide (frm A i ≠ too A i) && decide (0 ≤ cpy A i) && decide (cpy A i ≤ 1000000)
theorem net_of {n : Int} {A : List T3} (h : netB n A = true) : netE n A = 0 := by
  simp only [netB, Bool.and_eq_true, List.all_eq_true, decide_eq_true_eq] at h
  refine netE_ok (by omega) ?_
  rintro (h2 | ⟨i, hi, hb⟩)
  · omega
  · have := h.2 i (List.mem_range.2 hi)
    unfold badX at hb
    unfold frm too cpy at this
    omega
theorem netOk_of {N : Nat} {A : List T3} (h : netB (N : Int) A = true) : NetOk N A := by
  obtain ⟨M, e, hk⟩ := netOk (net_of h)
  rw [show N = M by omega]; exact hk
/-- what is reached, told by a list that is shut, and the ways to its nodes -/
theorem rch_ex {N : Nat} {A : List T3} {f : List Int} {M : List Bool} (hk : NetOk N A) (hl : M.length = N) (h0 : M.getD 0 false = true) (hr : ∀ v, v < N → M.getD v false = true → Rch A f (v : Int)) (hc : ((List.range A.length).all fun j => ((!(M.getD (frm A j).toNat false) || !decide (f.getD j 0 < cpy A j) || M.getD (too A j).toNat false) && (!(M.getD (too A j).toNat false) || !decide (0 < f.getD j 0) || M.getD (frm A j).toNat false))) = true) : rchL N A f = M := by
  have hcl : ∀ j, j < A.length → ∀ u v : Int, M.getD u.toNat false = true → Edg A f u v j → M.getD v.toNat false = true := fun j hj u v hu he => by
    have h3 := List.all_eq_true.1 hc j (List.mem_range.2 hj)
    rw [Bool.and_eq_true] at h3
    rcases he with ⟨rfl, rfl, hlt⟩ | ⟨rfl, rfl, hlt⟩
    · have h4 := h3.1
      rw [hu, decide_eq_true hlt] at h4; simpa using h4
    · have h4 := h3.2
      rw [hu, decide_eq_true hlt] at h4; simpa using h4
  have hsub : ∀ v : Int, Rch A f v → M.getD v.toNat false = true := fun v hv => by
    induction hv with
    | z => exact h0
    | s _ hi hed ih => exact hcl _ hi _ _ ih hed
  refine ext_getD false (by rw [rchL_len, hl]) fun i hi => ?_
  rw [rchL_len] at hi
  rw [rch_get hi]
  by_cases h : M.getD i false = true
  · rw [h, tf_t (hr i hi h)]
  · rw [tf_f (fun h2 => h (by have := hsub _ h2; rwa [Int.toNat_natCast] at this))]
    simpa using h
end
end Go.Proofs.Ytpdldifklgpikaa
set_option linter.unusedVariables false
set_option linter.unusedSimpArgs false
namespace Go.Proofs.Ytpdldifklgpikaa
open Go.Eng
set_option maxRecDepth 100000
set_option maxHeartbeats 4000000

abbrev OA (B : Nat) (w : World) (v : Value) (l : List T3) : Prop := Go.Eng.Own B 56 3 w v l.length (flat3 l)
theorem eNet : Elem Try.prog 24 (.agg #[.int .i64 0, .slice none 0 0]) 2 32 := by unfold Elem; kernel_rfl
def exA (F : Int) : List T3 := [(0, 1, F), (0, 2, 2), (1, 2, 1), (1, 3, 2), (2, 3, 3)]
theorem ex3_ok : netE ((4 : Nat) : Int) (exA 3) = 0 := net_of (by decide +kernel)
theorem ex10_ok : netE ((4 : Nat) : Int) (exA 10) = 0 := net_of (by decide +kernel)
theorem ex3_net : NetOk 4 (exA 3) := netOk_of (by decide +kernel)
theorem ex10_net : NetOk 4 (exA 10) := netOk_of (by decide +kernel)
theorem ex3_gf : gf 4 (exA 3) = [3, 2, 1, 2, 3] := gf_ex ex3_net (c := [true, false, false, false]) (cs := [[true, false, false, false], [true, false, false, false], [false, true, false, false], [false, true, false, false], [false, false, true, false]]) (by decide +kernel)
theorem ex10_gf : gf 4 (exA 10) = [3, 2, 1, 2, 3] := gf_ex ex10_net (c := [true, true, false, false]) (cs := [[true, false, false, false], [true, false, false, false], [false, true, false, false], [false, true, false, false], [false, false, true, false]]) (by decide +kernel)
theorem ex3_rch : rchL 4 (exA 3) [3, 2, 1, 2, 3] = [true, false, false, false] := rch_ex ex3_net rfl rfl (fun v hv h => by
  match v, hv, h with
  | 0, _, _ => exact Rch.z
  | 1, _, h => exact absurd h (by decide)
  | 2, _, h => exact absurd h (by decide)
  | 3, _, h => exact absurd h (by decide)) (by decide +kernel)
theorem ex10_rch : rchL 4 (exA 10) [3, 2, 1, 2, 3] = [true, true, false, false] := rch_ex ex10_net rfl rfl (fun v hv h => by
  match v, hv, h with
  | 0, _, _ => exact Rch.z
  | 1, _, _ => exact Rch.s (i := 0) Rch.z (by decide) (.inl ⟨rfl, rfl, by decide⟩)
  | 2, _, h => exact absurd h (by decide)
  | 3, _, h => exact absurd h (by decide)) (by decide +kernel)
theorem ex3_isW : isW 4 (exA 3) [3, 2, 1, 2, 3] := isW_of (by decide +kernel)

theorem example_rc {w : World} {F : Int} : RC Try.prog 31 [.int .i64 F] w NoB (fun u w' => ∃ sv, u = .agg #[.int .i64 4, sv] ∧ OA 0 w' sv (exA F)) := by
  refine RC.mk tyOk Try.func31 rfl (by kernel_rfl) fun w1 E1 => ?_
  have EE := Ext.refl w1
  have EE__1 := EE
  conv => whnf
  refine VE.alloc eNet fun b w2 E2 hb_b Hk => ?_
  replace EE := EE.ext E2
  have EL1 := E2
  conv => whnf
  refine VS.sparseR (ps := [(0, .int .i64 (0)), (1, .int .i64 (1)), (2, .int .i64 (F))]) #[.int .i64 (0), .int .i64 (1), .int .i64 (F)] Try.underlying56 eArc (by decide +kernel) (by intro p hp; simp only [List.mem_cons, List.not_mem_nil, or_false] at hp; rcases hp with rfl | rfl | rfl <;> first | exact ⟨by kernel_rfl, by simp, rfl⟩) rfl ?_
  conv => whnf
  refine VS.sparseR (ps := [(0, .int .i64 (0)), (1, .int .i64 (2)), (2, .int .i64 (2))]) #[.int .i64 (0), .int .i64 (2), .int .i64 (2)] Try.underlying56 eArc (by decide +kernel) (by intro p hp; simp only [List.mem_cons, List.not_mem_nil, or_false] at hp; rcases hp with rfl | rfl | rfl <;> first | exact ⟨by kernel_rfl, by simp, rfl⟩) rfl ?_
  conv => whnf
  refine VS.sparseR (ps := [(0, .int .i64 (1)), (1, .int .i64 (2)), (2, .int .i64 (1))]) #[.int .i64 (1), .int .i64 (2), .int .i64 (1)] Try.underlying56 eArc (by decide +kernel) (by intro p hp; simp only [List.mem_cons, List.not_mem_nil, or_false] at hp; rcases hp with rfl | rfl | rfl <;> first | exact ⟨by kernel_rfl, by simp, rfl⟩) rfl ?_
  conv => whnf
  refine VS.sparseR (ps := [(0, .int .i64 (1)), (1, .int .i64 (3)), (2, .int .i64 (2))]) #[.int .i64 (1), .int .i64 (3), .int .i64 (2)] Try.underlying56 eArc (by decide +kernel) (by intro p hp; simp only [List.mem_cons, List.not_mem_nil, or_false] at hp; rcases hp with rfl | rfl | rfl <;> first | exact ⟨by kernel_rfl, by simp, rfl⟩) rfl ?_
  conv => whnf
  refine VS.sparseR (ps := [(0, .int .i64 (2)), (1, .int .i64 (3)), (2, .int .i64 (3))]) #[.int .i64 (2), .int .i64 (3), .int .i64 (3)] Try.underlying56 eArc (by decide +kernel) (by intro p hp; simp only [List.mem_cons, List.not_mem_nil, or_false] at hp; rcases hp with rfl | rfl | rfl <;> first | exact ⟨by kernel_rfl, by simp, rfl⟩) rfl ?_
  conv => whnf
  refine VE.litA [[i64v (0), i64v (1), i64v (F)], [i64v (0), i64v (2), i64v (2)], [i64v (1), i64v (2), i64v (1)], [i64v (1), i64v (3), i64v (2)], [i64v (2), i64v (3), i64v (3)]] Try.underlying22 eArc (by simp) (by simp) (by simp) fun sv w3 E3 HA _ => ?_
  replace HA : OA 0 w3 sv [(0, 1, F), (0, 2, 2), (1, 2, 1), (1, 3, 2), (2, 3, 3)] := HA 0 (Nat.zero_le _)
  replace EE := EE.ext E3
  replace EL1 := EL1.ext E3
  replace Hk := Hk.ext E3
  conv => whnf
  refine VS.sparseR (ps := [(0, .int .i64 (4)), (1, sv)]) #[.int .i64 (4), sv] Try.underlying24 eNet (by decide +kernel) (by intro p hp; simp only [List.mem_cons, List.not_mem_nil, or_false] at hp; rcases hp with rfl | rfl <;> first | exact ⟨by kernel_rfl, by simp, rfl⟩ | exact ⟨by kernel_rfl, by simp, (Sl.cells (Own.sl HA)).1⟩) rfl ?_
  conv => whnf
  refine Blk.all Hk (by kernel_rfl) (by decide) rfl rfl (by intro v hv; simp at hv; rcases hv with rfl | rfl; rfl; exact (Sl.cells (Own.sl HA)).2) fun w6 G6 Hk6 => ?_
  have EE6 := EL1.new G6 fun i hi hk => by omega
  replace HA := Own.blk HA Hk (by decide) G6
  repeat' ((conv => whnf); first | (refine Dr.quiet tyOk (by kernel_rfl) ?_) | (refine Rng.mk (by omega) ?_) | (refine Split.pos (by omega) ?_) | (refine Split.neg (by omega) ?_) | (refine Split.mk (fun h => ?_) (fun h => ?_)) | (refine Need.mk (by omega) ?_) | (refine Ints.ln (by assumption) ?_) | (refine Mat.ln (by assumption) ?_) | (refine Ints.ln (Mat.row (by assumption) _ (by omega)) ?_) | (refine Ints.ix (by assumption) (by omega) ?_) | (refine Mat.ix (by assumption) (by omega) ?_) | (refine Ints.ix (Mat.row (by assumption) _ (by omega)) (by omega) ?_) | (refine Ints.ix (c := 0) (by assumption) (by omega) ?_) | (refine Mat.ix (c := 0) (by assumption) (by omega) ?_) | (refine Ints.ix (c := 0) (Mat.row (by assumption) _ (by omega)) (by omega) ?_) | (refine Ints.ixI (by assumption) (by omega) ?_) | (refine Mat.ixI (by assumption) (by omega) ?_) | (refine Ints.ixI (Mat.row (by assumption) _ (by omega)) (by omega) ?_) | (refine Ints.ld (by assumption) (by omega) ?_) | (refine Mat.ld (by assumption) (by omega) ?_) | (refine Ints.ld (Mat.row (by assumption) _ (by omega)) (by omega) ?_) | (refine At.ld (by assumption) rfl ?_) | (refine At.ldN (by assumption) rfl ?_) | (refine Prs.ln (by assumption) ?_) | (refine Trs.ln (by assumption) ?_) | (refine Prs.ix (by assumption) (by omega) ?_) | (refine Trs.ix (by assumption) (by omega) ?_) | (refine Prs.ldN (by assumption) (by omega) ?_) | (refine Trs.ldN (by assumption) (by omega) ?_) | (refine At.ldN (Blk.at (by assumption)) rfl ?_) | (refine At.ld (Blk.at (by assumption)) rfl ?_) | (refine IxA.mk (by omega) ?_) | (refine Sl.ln (Own.sl (by assumption)) ?_) | (refine Ints.ix (Own.sl (by assumption)) (by omega) ?_) | (refine Ints.ixI (Own.sl (by assumption)) (by omega) ?_) | (refine Ints.ld (Own.sl (by assumption)) (by omega) ?_))
  exact ⟨EE__1.ext EE6, sv, rfl, HA⟩

theorem alive25_pc {w : World} : PC Try.prog 27 [] w (.bool true) := by
  refine PC.mk tyOk Try.func27 rfl (by kernel_rfl) fun w1 E1 => ?_
  have EE := Ext.refl w1
  conv => whnf
  refine VC.rc (example_rc) ?_
  rintro _ w2 E2 ⟨g1, rfl, HA⟩
  replace EE := EE.ext E2
  conv => whnf
  refine VC.rc (gMax_rc (n := ((4 : Nat) : Int)) (Own.sl HA)) ?_
  rintro _ w3 E3 ⟨fv, rfl, HF, hM⟩
  replace EE := EE.ext E3
  replace HA := HA.ext E3
  rw [mxL_ok ex3_ok, ex3_gf] at HF
  rw [ex3_ok]
  repeat' ((conv => whnf); first | (refine Dr.quiet tyOk (by kernel_rfl) ?_) | (refine Rng.mk (by omega) ?_) | (refine Split.pos (by omega) ?_) | (refine Split.neg (by omega) ?_) | (refine Split.mk (fun h => ?_) (fun h => ?_)) | (refine Need.mk (by omega) ?_) | (refine Ints.ln (by assumption) ?_) | (refine Mat.ln (by assumption) ?_) | (refine Ints.ln (Mat.row (by assumption) _ (by omega)) ?_) | (refine Ints.ix (by assumption) (by omega) ?_) | (refine Mat.ix (by assumption) (by omega) ?_) | (refine Ints.ix (Mat.row (by assumption) _ (by omega)) (by omega) ?_) | (refine Ints.ix (c := 0) (by assumption) (by omega) ?_) | (refine Mat.ix (c := 0) (by assumption) (by omega) ?_) | (refine Ints.ix (c := 0) (Mat.row (by assumption) _ (by omega)) (by omega) ?_) | (refine Ints.ixI (by assumption) (by omega) ?_) | (refine Mat.ixI (by assumption) (by omega) ?_) | (refine Ints.ixI (Mat.row (by assumption) _ (by omega)) (by omega) ?_) | (refine Ints.ld (by assumption) (by omega) ?_) | (refine Mat.ld (by assumption) (by omega) ?_) | (refine Ints.ld (Mat.row (by assumption) _ (by omega)) (by omega) ?_) | (refine At.ld (by assumption) rfl ?_) | (refine At.ldN (by assumption) rfl ?_) | (refine Prs.ln (by assumption) ?_) | (refine Trs.ln (by assumption) ?_) | (refine Prs.ix (by assumption) (by omega) ?_) | (refine Trs.ix (by assumption) (by omega) ?_) | (refine Prs.ldN (by assumption) (by omega) ?_) | (refine Trs.ldN (by assumption) (by omega) ?_) | (refine At.ldN (Blk.at (by assumption)) rfl ?_) | (refine At.ld (Blk.at (by assumption)) rfl ?_) | (refine IxA.mk (by omega) ?_) | (refine Sl.ln (Own.sl (by assumption)) ?_) | (refine Ints.ix (Own.sl (by assumption)) (by omega) ?_) | (refine Ints.ixI (Own.sl (by assumption)) (by omega) ?_) | (refine Ints.ld (Own.sl (by assumption)) (by omega) ?_))
  conv => whnf
  refine VC.rc (example_rc) ?_
  rintro _ w4 E4 ⟨g2, rfl, HA⟩
  replace EE := EE.ext E4
  replace HF := HF.ext E4
  have c1 := gvalue_pc (n := ((4 : Nat) : Int)) (Own.sl HA) (Own.sl HF)
  rw [vE_ok ex3_ok ex3_isW, vV_ok ex3_ok ex3_isW, show -bal (exA 3) [3, 2, 1, 2, 3] 0 (exA 3).length = 5 by decide +kernel] at c1
  repeat' ((conv => whnf); first | (refine Dr.quiet tyOk (by kernel_rfl) ?_) | (refine VC.pure c1 ?_) | (refine Rng.mk (by omega) ?_) | (refine Split.pos (by omega) ?_) | (refine Split.neg (by omega) ?_) | (refine Split.mk (fun h => ?_) (fun h => ?_)) | (refine Need.mk (by omega) ?_) | (refine Ints.ln (by assumption) ?_) | (refine Mat.ln (by assumption) ?_) | (refine Ints.ln (Mat.row (by assumption) _ (by omega)) ?_) | (refine Ints.ix (by assumption) (by omega) ?_) | (refine Mat.ix (by assumption) (by omega) ?_) | (refine Ints.ix (Mat.row (by assumption) _ (by omega)) (by omega) ?_) | (refine Ints.ix (c := 0) (by assumption) (by omega) ?_) | (refine Mat.ix (c := 0) (by assumption) (by omega) ?_) | (refine Ints.ix (c := 0) (Mat.row (by assumption) _ (by omega)) (by omega) ?_) | (refine Ints.ixI (by assumption) (by omega) ?_) | (refine Mat.ixI (by assumption) (by omega) ?_) | (refine Ints.ixI (Mat.row (by assumption) _ (by omega)) (by omega) ?_) | (refine Ints.ld (by assumption) (by omega) ?_) | (refine Mat.ld (by assumption) (by omega) ?_) | (refine Ints.ld (Mat.row (by assumption) _ (by omega)) (by omega) ?_) | (refine At.ld (by assumption) rfl ?_) | (refine At.ldN (by assumption) rfl ?_) | (refine Prs.ln (by assumption) ?_) | (refine Trs.ln (by assumption) ?_) | (refine Prs.ix (by assumption) (by omega) ?_) | (refine Trs.ix (by assumption) (by omega) ?_) | (refine Prs.ldN (by assumption) (by omega) ?_) | (refine Trs.ldN (by assumption) (by omega) ?_) | (refine At.ldN (Blk.at (by assumption)) rfl ?_) | (refine At.ld (Blk.at (by assumption)) rfl ?_) | (refine IxA.mk (by omega) ?_) | (refine Sl.ln (Own.sl (by assumption)) ?_) | (refine Ints.ix (Own.sl (by assumption)) (by omega) ?_) | (refine Ints.ixI (Own.sl (by assumption)) (by omega) ?_) | (refine Ints.ld (Own.sl (by assumption)) (by omega) ?_))
  conv => whnf
  refine VC.rc (example_rc) ?_
  rintro _ w5 E5 ⟨g3, rfl, HA⟩
  replace EE := EE.ext E5
  replace HF := HF.ext E5
  conv => whnf
  refine VC.rc (gLeast_rc (n := ((4 : Nat) : Int)) (Own.sl HA)) ?_
  rintro _ w6 E6 ⟨qv, rfl, HS⟩
  replace EE := EE.ext E6
  replace HF := HF.ext E6
  replace HA := HA.ext E6
  rw [lsL_ok ex3_ok, ex3_gf, ex3_rch] at HS
  rw [ex3_ok]
  repeat' ((conv => whnf); first | (refine Dr.quiet tyOk (by kernel_rfl) ?_) | (refine Rng.mk (by omega) ?_) | (refine Split.pos (by omega) ?_) | (refine Split.neg (by omega) ?_) | (refine Split.mk (fun h => ?_) (fun h => ?_)) | (refine Need.mk (by omega) ?_) | (refine Ints.ln (by assumption) ?_) | (refine Mat.ln (by assumption) ?_) | (refine Ints.ln (Mat.row (by assumption) _ (by omega)) ?_) | (refine Ints.ix (by assumption) (by omega) ?_) | (refine Mat.ix (by assumption) (by omega) ?_) | (refine Ints.ix (Mat.row (by assumption) _ (by omega)) (by omega) ?_) | (refine Ints.ix (c := 0) (by assumption) (by omega) ?_) | (refine Mat.ix (c := 0) (by assumption) (by omega) ?_) | (refine Ints.ix (c := 0) (Mat.row (by assumption) _ (by omega)) (by omega) ?_) | (refine Ints.ixI (by assumption) (by omega) ?_) | (refine Mat.ixI (by assumption) (by omega) ?_) | (refine Ints.ixI (Mat.row (by assumption) _ (by omega)) (by omega) ?_) | (refine Ints.ld (by assumption) (by omega) ?_) | (refine Mat.ld (by assumption) (by omega) ?_) | (refine Ints.ld (Mat.row (by assumption) _ (by omega)) (by omega) ?_) | (refine At.ld (by assumption) rfl ?_) | (refine At.ldN (by assumption) rfl ?_) | (refine Prs.ln (by assumption) ?_) | (refine Trs.ln (by assumption) ?_) | (refine Prs.ix (by assumption) (by omega) ?_) | (refine Trs.ix (by assumption) (by omega) ?_) | (refine Prs.ldN (by assumption) (by omega) ?_) | (refine Trs.ldN (by assumption) (by omega) ?_) | (refine At.ldN (Blk.at (by assumption)) rfl ?_) | (refine At.ld (Blk.at (by assumption)) rfl ?_) | (refine IxA.mk (by omega) ?_) | (refine Sl.ln (Own.sl (by assumption)) ?_) | (refine Ints.ix (Own.sl (by assumption)) (by omega) ?_) | (refine Ints.ixI (Own.sl (by assumption)) (by omega) ?_) | (refine Ints.ld (Own.sl (by assumption)) (by omega) ?_))
  conv => whnf
  refine VC.rc (example_rc) ?_
  rintro _ w7 E7 ⟨g4, rfl, HA⟩
  replace EE := EE.ext E7
  replace HF := HF.ext E7
  replace HS := HS.ext E7
  conv => whnf
  refine VC.rc (gLeast_rc (n := ((4 : Nat) : Int)) (Own.sl HA)) ?_
  rintro _ w8 E8 ⟨tv, rfl, HT⟩
  replace EE := EE.ext E8
  replace HF := HF.ext E8
  replace HS := HS.ext E8
  replace HA := HA.ext E8
  rw [lsL_ok ex10_ok, ex10_gf, ex10_rch] at HT
  rw [ex10_ok]
  repeat' ((conv => whnf); first | (refine Dr.quiet tyOk (by kernel_rfl) ?_) | (refine Rng.mk (by omega) ?_) | (refine Split.pos (by omega) ?_) | (refine Split.neg (by omega) ?_) | (refine Split.mk (fun h => ?_) (fun h => ?_)) | (refine Need.mk (by omega) ?_) | (refine Ints.ln (by assumption) ?_) | (refine Mat.ln (by assumption) ?_) | (refine Ints.ln (Mat.row (by assumption) _ (by omega)) ?_) | (refine Ints.ix (by assumption) (by omega) ?_) | (refine Mat.ix (by assumption) (by omega) ?_) | (refine Ints.ix (Mat.row (by assumption) _ (by omega)) (by omega) ?_) | (refine Ints.ix (c := 0) (by assumption) (by omega) ?_) | (refine Mat.ix (c := 0) (by assumption) (by omega) ?_) | (refine Ints.ix (c := 0) (Mat.row (by assumption) _ (by omega)) (by omega) ?_) | (refine Ints.ixI (by assumption) (by omega) ?_) | (refine Mat.ixI (by assumption) (by omega) ?_) | (refine Ints.ixI (Mat.row (by assumption) _ (by omega)) (by omega) ?_) | (refine Ints.ld (by assumption) (by omega) ?_) | (refine Mat.ld (by assumption) (by omega) ?_) | (refine Ints.ld (Mat.row (by assumption) _ (by omega)) (by omega) ?_) | (refine At.ld (by assumption) rfl ?_) | (refine At.ldN (by assumption) rfl ?_) | (refine Prs.ln (by assumption) ?_) | (refine Trs.ln (by assumption) ?_) | (refine Prs.ix (by assumption) (by omega) ?_) | (refine Trs.ix (by assumption) (by omega) ?_) | (refine Prs.ldN (by assumption) (by omega) ?_) | (refine Trs.ldN (by assumption) (by omega) ?_) | (refine At.ldN (Blk.at (by assumption)) rfl ?_) | (refine At.ld (Blk.at (by assumption)) rfl ?_) | (refine IxA.mk (by omega) ?_) | (refine Sl.ln (Own.sl (by assumption)) ?_) | (refine Ints.ix (Own.sl (by assumption)) (by omega) ?_) | (refine Ints.ixI (Own.sl (by assumption)) (by omega) ?_) | (refine Ints.ld (Own.sl (by assumption)) (by omega) ?_))
  conv => whnf
  refine VC.rc (example_rc) ?_
  rintro _ w9 E9 ⟨g5, rfl, HA⟩
  replace EE := EE.ext E9
  replace HF := HF.ext E9
  replace HS := HS.ext E9
  replace HT := HT.ext E9
  have c2 := gCut_pc (n := ((4 : Nat) : Int)) (Own.sl HA) (Own.sl HT)
  have hsd : sdOk 4 [true, true, false, false] := ⟨rfl, rfl, rfl⟩
  rw [cE_ok ex10_ok hsd, cV_ok ex10_ok hsd, show cutTo (exA 10) [true, true, false, false] (exA 10).length = 5 by decide +kernel] at c2
  repeat' ((conv => whnf); first | (refine Dr.quiet tyOk (by kernel_rfl) ?_) | (refine VC.pure c2 ?_) | (refine Rng.mk (by omega) ?_) | (refine Split.pos (by omega) ?_) | (refine Split.neg (by omega) ?_) | (refine Split.mk (fun h => ?_) (fun h => ?_)) | (refine Need.mk (by omega) ?_) | (refine Ints.ln (by assumption) ?_) | (refine Mat.ln (by assumption) ?_) | (refine Ints.ln (Mat.row (by assumption) _ (by omega)) ?_) | (refine Ints.ix (by assumption) (by omega) ?_) | (refine Mat.ix (by assumption) (by omega) ?_) | (refine Ints.ix (Mat.row (by assumption) _ (by omega)) (by omega) ?_) | (refine Ints.ix (c := 0) (by assumption) (by omega) ?_) | (refine Mat.ix (c := 0) (by assumption) (by omega) ?_) | (refine Ints.ix (c := 0) (Mat.row (by assumption) _ (by omega)) (by omega) ?_) | (refine Ints.ixI (by assumption) (by omega) ?_) | (refine Mat.ixI (by assumption) (by omega) ?_) | (refine Ints.ixI (Mat.row (by assumption) _ (by omega)) (by omega) ?_) | (refine Ints.ld (by assumption) (by omega) ?_) | (refine Mat.ld (by assumption) (by omega) ?_) | (refine Ints.ld (Mat.row (by assumption) _ (by omega)) (by omega) ?_) | (refine At.ld (by assumption) rfl ?_) | (refine At.ldN (by assumption) rfl ?_) | (refine Prs.ln (by assumption) ?_) | (refine Trs.ln (by assumption) ?_) | (refine Prs.ix (by assumption) (by omega) ?_) | (refine Trs.ix (by assumption) (by omega) ?_) | (refine Prs.ldN (by assumption) (by omega) ?_) | (refine Trs.ldN (by assumption) (by omega) ?_) | (refine At.ldN (Blk.at (by assumption)) rfl ?_) | (refine At.ld (Blk.at (by assumption)) rfl ?_) | (refine IxA.mk (by omega) ?_) | (refine Sl.ln (Own.sl (by assumption)) ?_) | (refine Ints.ix (Own.sl (by assumption)) (by omega) ?_) | (refine Ints.ixI (Own.sl (by assumption)) (by omega) ?_) | (refine Ints.ld (Own.sl (by assumption)) (by omega) ?_))
  conv => whnf
  refine VE.litI [3, 2, 1, 2, 3] Try.underlying26 eInt (by decide) fun x1 w10 E10 X1 _ => ?_
  replace X1 := X1 0 (Nat.zero_le _)
  replace EE := EE.ext E10
  replace HF := HF.ext E10
  replace HS := HS.ext E10
  replace HT := HT.ext E10
  replace HA := HA.ext E10
  have c3 := sameints_pc (Own.sl HF) (Own.sl X1)
  rw [tf_t rfl] at c3
  repeat' ((conv => whnf); first | (refine Dr.quiet tyOk (by kernel_rfl) ?_) | (refine VC.pure c3 ?_) | (refine Rng.mk (by omega) ?_) | (refine Split.pos (by omega) ?_) | (refine Split.neg (by omega) ?_) | (refine Split.mk (fun h => ?_) (fun h => ?_)) | (refine Need.mk (by omega) ?_) | (refine Ints.ln (by assumption) ?_) | (refine Mat.ln (by assumption) ?_) | (refine Ints.ln (Mat.row (by assumption) _ (by omega)) ?_) | (refine Ints.ix (by assumption) (by omega) ?_) | (refine Mat.ix (by assumption) (by omega) ?_) | (refine Ints.ix (Mat.row (by assumption) _ (by omega)) (by omega) ?_) | (refine Ints.ix (c := 0) (by assumption) (by omega) ?_) | (refine Mat.ix (c := 0) (by assumption) (by omega) ?_) | (refine Ints.ix (c := 0) (Mat.row (by assumption) _ (by omega)) (by omega) ?_) | (refine Ints.ixI (by assumption) (by omega) ?_) | (refine Mat.ixI (by assumption) (by omega) ?_) | (refine Ints.ixI (Mat.row (by assumption) _ (by omega)) (by omega) ?_) | (refine Ints.ld (by assumption) (by omega) ?_) | (refine Mat.ld (by assumption) (by omega) ?_) | (refine Ints.ld (Mat.row (by assumption) _ (by omega)) (by omega) ?_) | (refine At.ld (by assumption) rfl ?_) | (refine At.ldN (by assumption) rfl ?_) | (refine Prs.ln (by assumption) ?_) | (refine Trs.ln (by assumption) ?_) | (refine Prs.ix (by assumption) (by omega) ?_) | (refine Trs.ix (by assumption) (by omega) ?_) | (refine Prs.ldN (by assumption) (by omega) ?_) | (refine Trs.ldN (by assumption) (by omega) ?_) | (refine At.ldN (Blk.at (by assumption)) rfl ?_) | (refine At.ld (Blk.at (by assumption)) rfl ?_) | (refine IxA.mk (by omega) ?_) | (refine Sl.ln (Own.sl (by assumption)) ?_) | (refine Ints.ix (Own.sl (by assumption)) (by omega) ?_) | (refine Ints.ixI (Own.sl (by assumption)) (by omega) ?_) | (refine Ints.ld (Own.sl (by assumption)) (by omega) ?_))
  conv => whnf
  refine VE.litV [.bool true, .bool false, .bool false, .bool false] Try.underlying32 eBool (by intro v hv; simp only [List.mem_cons, List.not_mem_nil, or_false] at hv; rcases hv with rfl | rfl | rfl | rfl <;> rfl) (by simp) fun x2 w11 E11 X2 _ => ?_
  replace X2 : OZ 0 w11 x2 [true, false, false, false] := X2 0 (Nat.zero_le _)
  replace EE := EE.ext E11
  replace HF := HF.ext E11
  replace HS := HS.ext E11
  replace HT := HT.ext E11
  replace HA := HA.ext E11
  replace X1 := X1.ext E11
  have c4 := samebools_pc (Own.sl HS) (Own.sl X2) rfl
  repeat' ((conv => whnf); first | (refine Dr.quiet tyOk (by kernel_rfl) ?_) | (refine VC.pure c4 ?_) | (refine Rng.mk (by omega) ?_) | (refine Split.pos (by omega) ?_) | (refine Split.neg (by omega) ?_) | (refine Split.mk (fun h => ?_) (fun h => ?_)) | (refine Need.mk (by omega) ?_) | (refine Ints.ln (by assumption) ?_) | (refine Mat.ln (by assumption) ?_) | (refine Ints.ln (Mat.row (by assumption) _ (by omega)) ?_) | (refine Ints.ix (by assumption) (by omega) ?_) | (refine Mat.ix (by assumption) (by omega) ?_) | (refine Ints.ix (Mat.row (by assumption) _ (by omega)) (by omega) ?_) | (refine Ints.ix (c := 0) (by assumption) (by omega) ?_) | (refine Mat.ix (c := 0) (by assumption) (by omega) ?_) | (refine Ints.ix (c := 0) (Mat.row (by assumption) _ (by omega)) (by omega) ?_) | (refine Ints.ixI (by assumption) (by omega) ?_) | (refine Mat.ixI (by assumption) (by omega) ?_) | (refine Ints.ixI (Mat.row (by assumption) _ (by omega)) (by omega) ?_) | (refine Ints.ld (by assumption) (by omega) ?_) | (refine Mat.ld (by assumption) (by omega) ?_) | (refine Ints.ld (Mat.row (by assumption) _ (by omega)) (by omega) ?_) | (refine At.ld (by assumption) rfl ?_) | (refine At.ldN (by assumption) rfl ?_) | (refine Prs.ln (by assumption) ?_) | (refine Trs.ln (by assumption) ?_) | (refine Prs.ix (by assumption) (by omega) ?_) | (refine Trs.ix (by assumption) (by omega) ?_) | (refine Prs.ldN (by assumption) (by omega) ?_) | (refine Trs.ldN (by assumption) (by omega) ?_) | (refine At.ldN (Blk.at (by assumption)) rfl ?_) | (refine At.ld (Blk.at (by assumption)) rfl ?_) | (refine IxA.mk (by omega) ?_) | (refine Sl.ln (Own.sl (by assumption)) ?_) | (refine Ints.ix (Own.sl (by assumption)) (by omega) ?_) | (refine Ints.ixI (Own.sl (by assumption)) (by omega) ?_) | (refine Ints.ld (Own.sl (by assumption)) (by omega) ?_))
  conv => whnf
  refine VE.litV [.bool true, .bool true, .bool false, .bool false] Try.underlying32 eBool (by intro v hv; simp only [List.mem_cons, List.not_mem_nil, or_false] at hv; rcases hv with rfl | rfl | rfl | rfl <;> rfl) (by simp) fun x3 w12 E12 X3 _ => ?_
  replace X3 : OZ 0 w12 x3 [true, true, false, false] := X3 0 (Nat.zero_le _)
  replace EE := EE.ext E12
  replace HF := HF.ext E12
  replace HS := HS.ext E12
  replace HT := HT.ext E12
  replace HA := HA.ext E12
  replace X1 := X1.ext E12
  replace X2 := X2.ext E12
  have c5 := samebools_pc (Own.sl HT) (Own.sl X3) rfl
  repeat' ((conv => whnf); first | (refine Dr.quiet tyOk (by kernel_rfl) ?_) | (refine VC.pure c5 ?_) | (refine Rng.mk (by omega) ?_) | (refine Split.pos (by omega) ?_) | (refine Split.neg (by omega) ?_) | (refine Split.mk (fun h => ?_) (fun h => ?_)) | (refine Need.mk (by omega) ?_) | (refine Ints.ln (by assumption) ?_) | (refine Mat.ln (by assumption) ?_) | (refine Ints.ln (Mat.row (by assumption) _ (by omega)) ?_) | (refine Ints.ix (by assumption) (by omega) ?_) | (refine Mat.ix (by assumption) (by omega) ?_) | (refine Ints.ix (Mat.row (by assumption) _ (by omega)) (by omega) ?_) | (refine Ints.ix (c := 0) (by assumption) (by omega) ?_) | (refine Mat.ix (c := 0) (by assumption) (by omega) ?_) | (refine Ints.ix (c := 0) (Mat.row (by assumption) _ (by omega)) (by omega) ?_) | (refine Ints.ixI (by assumption) (by omega) ?_) | (refine Mat.ixI (by assumption) (by omega) ?_) | (refine Ints.ixI (Mat.row (by assumption) _ (by omega)) (by omega) ?_) | (refine Ints.ld (by assumption) (by omega) ?_) | (refine Mat.ld (by assumption) (by omega) ?_) | (refine Ints.ld (Mat.row (by assumption) _ (by omega)) (by omega) ?_) | (refine At.ld (by assumption) rfl ?_) | (refine At.ldN (by assumption) rfl ?_) | (refine Prs.ln (by assumption) ?_) | (refine Trs.ln (by assumption) ?_) | (refine Prs.ix (by assumption) (by omega) ?_) | (refine Trs.ix (by assumption) (by omega) ?_) | (refine Prs.ldN (by assumption) (by omega) ?_) | (refine Trs.ldN (by assumption) (by omega) ?_) | (refine At.ldN (Blk.at (by assumption)) rfl ?_) | (refine At.ld (Blk.at (by assumption)) rfl ?_) | (refine IxA.mk (by omega) ?_) | (refine Sl.ln (Own.sl (by assumption)) ?_) | (refine Ints.ix (Own.sl (by assumption)) (by omega) ?_) | (refine Ints.ixI (Own.sl (by assumption)) (by omega) ?_) | (refine Ints.ld (Own.sl (by assumption)) (by omega) ?_))
  exact ⟨rfl, EE⟩
end Go.Proofs.Ytpdldifklgpikaa
