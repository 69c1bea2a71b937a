/- Contracts: slices.Repeat of one number, slices.Index, Contains, Clone. -/
import Derived.Test.YtiahjkhfkbcjhaaEngP
import Derived.Test.YtiahjkhfkbcjhaaR16d
set_option linter.unusedVariables false
set_option linter.unusedSimpArgs false
namespace Go.Proofs.Ytiahjkhfkbcjhaa
open Go.Eng
set_option maxRecDepth 100000
set_option maxHeartbeats 4000000

theorem VS.conv {src dst : TypeId} {d : TypeDesc} {k q : IntKind} {n : Int} {w : World} {K : Value → Prop} (hs : Try.prog.underlying src = some d) (hd : Try.prog.underlying dst = some (.int k)) (hn : k.wrap n = n) (hk : K (.int k n)) : VS Try.prog (convert src dst (.int q n)) w K :=
  VS.mk (fun w1 _ => by
    simp only [convert, Sem.run_bind, run_underlying hs, run_underlying hd, Result.andThen_ok]
    show Result.ok (Value.int k (k.wrap n)) w1 = _
    rw [hn]) hk

theorem VS.gtr {T : TypeId} {x y : Operand} {k : IntKind} {a b : Int} {w : World} {K : Value → Prop} (h : Split (b < a) (K (.bool true)) (K (.bool false))) : VS Try.prog (binSem .gtr T x y (.int k a) (.int k b)) w K := by
  simp only [Split] at h
  have hg : eqGuard .gtr T x y (.int k a) (.int k b) = pure () := rfl
  have hb : binSem .gtr T x y (.int k a) (.int k b) = binOp .gtr T (.int k a) (.int k b) := by unfold binSem; rw [hg]; rfl
  by_cases hab : b < a
  · exact VS.mk (v := .bool true) (fun w1 _ => by rw [hb]; simp [binOp, Op.intCmp, hab]) (h.1 hab)
  · exact VS.mk (v := .bool false) (fun w1 _ => by rw [hb]; simp [binOp, Op.intCmp, hab]) (h.2 hab)

theorem wrap64 {n : Int} (h : 0 ≤ n ∧ n ≤ 1000) : IntKind.u64.wrap n = n := by
  simp only [IntKind.wrap, IntKind.signed, IntKind.bits]
  simp; omega
theorem wrapI {n : Int} (h : 0 ≤ n ∧ n ≤ 1000) : IntKind.i64.wrap n = n := IntWalk.i64_in _ (by omega)

theorem mul64_pc {w : World} {c : Nat} (hc : c ≤ 10) : PC Try.prog 73 [.int .u64 1, .int .u64 c] w (.tuple #[.int .u64 0, .int .u64 c]) := by
  rcases (by omega : c = 0 ∨ c = 1 ∨ c = 2 ∨ c = 3 ∨ c = 4 ∨ c = 5 ∨ c = 6 ∨ c = 7 ∨ c = 8 ∨ c = 9 ∨ c = 10) with rfl | rfl | rfl | rfl | rfl | rfl | rfl | rfl | rfl | rfl | rfl
  all_goals
    refine PC.mk tyOk Try.func73 rfl (by kernel_rfl) fun w1 E1 => ?_
    repeat' (conv => whnf
             first
             | (refine Dr.quiet tyOk (by kernel_rfl) ?_)
             | (refine VS.mk (fun _ _ => rfl) ?_)
             | (refine Rng.mk (by omega) ?_)
             | (refine Split.pos (by omega) ?_)
             | (refine Split.neg (by omega) ?_)
             | (refine Split.mk (fun h => ?_) (fun h => ?_))
             | (refine Need.mk (by omega) ?_)
             | (refine Ints.ln (by assumption) ?_)
             | (refine Mat.ln (by assumption) ?_)
             | (refine Ints.ln (Mat.row (by assumption) _ (by omega)) ?_)
             | (refine Ints.ix (by assumption) (by omega) ?_)
             | (refine Mat.ix (by assumption) (by omega) ?_)
             | (refine Ints.ix (Mat.row (by assumption) _ (by omega)) (by omega) ?_)
             | (refine Ints.ix (c := 0) (by assumption) (by omega) ?_)
             | (refine Mat.ix (c := 0) (by assumption) (by omega) ?_)
             | (refine Ints.ix (c := 0) (Mat.row (by assumption) _ (by omega)) (by omega) ?_)
             | (refine Ints.ixI (by assumption) (by omega) ?_)
             | (refine Mat.ixI (by assumption) (by omega) ?_)
             | (refine Ints.ixI (Mat.row (by assumption) _ (by omega)) (by omega) ?_)
             | (refine Ints.ld (by assumption) (by omega) ?_)
             | (refine Mat.ld (by assumption) (by omega) ?_)
             | (refine Ints.ld (Mat.row (by assumption) _ (by omega)) (by omega) ?_)
             | (refine At.ld (by assumption) rfl ?_)
             | (refine At.ldN (by assumption) rfl ?_))
    exact ⟨rfl, Ext.refl _⟩

theorem mul_pc {w : World} {c : Nat} (hc : c ≤ 10) : PC Try.prog 70 [.int .u64 1, .int .u64 c] w (.tuple #[.int .u64 0, .int .u64 c]) := by
  refine PC.mk tyOk Try.func70 rfl (by kernel_rfl) fun w1 E1 => ?_
  repeat' (conv => whnf
           first
           | (refine Dr.quiet tyOk (by kernel_rfl) ?_)
           | (refine VC.pure (mul64_pc hc) ?_)
           | (refine Rng.mk (by omega) ?_)
           | (refine Split.pos (by omega) ?_)
           | (refine Split.neg (by omega) ?_)
           | (refine Split.mk (fun h => ?_) (fun h => ?_))
           | (refine Need.mk (by omega) ?_)
           | (refine Ints.ln (by assumption) ?_)
           | (refine Mat.ln (by assumption) ?_)
           | (refine Ints.ln (Mat.row (by assumption) _ (by omega)) ?_)
           | (refine Ints.ix (by assumption) (by omega) ?_)
           | (refine Mat.ix (by assumption) (by omega) ?_)
           | (refine Ints.ix (Mat.row (by assumption) _ (by omega)) (by omega) ?_)
           | (refine Ints.ix (c := 0) (by assumption) (by omega) ?_)
           | (refine Mat.ix (c := 0) (by assumption) (by omega) ?_)
           | (refine Ints.ix (c := 0) (Mat.row (by assumption) _ (by omega)) (by omega) ?_)
           | (refine Ints.ixI (by assumption) (by omega) ?_)
           | (refine Mat.ixI (by assumption) (by omega) ?_)
           | (refine Ints.ixI (Mat.row (by assumption) _ (by omega)) (by omega) ?_)
           | (refine Ints.ld (by assumption) (by omega) ?_)
           | (refine Mat.ld (by assumption) (by omega) ?_)
           | (refine Ints.ld (Mat.row (by assumption) _ (by omega)) (by omega) ?_)
           | (refine At.ld (by assumption) rfl ?_)
           | (refine At.ldN (by assumption) rfl ?_))
  exact ⟨rfl, Ext.refl _⟩

theorem repl_step {c d e : Nat} (he : e = min d (c - d)) (_hd : d ≤ c) : (List.replicate d (i64v (-1)) ++ List.replicate (c - d) (i64v 0)).take d ++ (List.replicate d (i64v (-1))).take e ++ (List.replicate d (i64v (-1)) ++ List.replicate (c - d) (i64v 0)).drop (d + e) = List.replicate (d + e) (i64v (-1)) ++ List.replicate (c - (d + e)) (i64v 0) := by
  have h1 : (List.replicate d (i64v (-1)) ++ List.replicate (c - d) (i64v 0)).take d = List.replicate d (i64v (-1)) := by rw [List.take_append]; simp
  have h2 : (List.replicate d (i64v (-1))).take e = List.replicate e (i64v (-1)) := by rw [List.take_replicate]; congr 1; omega
  have h3 : (List.replicate d (i64v (-1)) ++ List.replicate (c - d) (i64v 0)).drop (d + e) = List.replicate (c - (d + e)) (i64v 0) := by
    rw [List.drop_append]; simp; omega
  rw [h1, h2, h3, List.replicate_append_replicate]

theorem repeat_rc {w : World} {sv : Value} {c : Nat} (Hs : Ints w sv [-1]) (hc : c ≤ 10) :
    RC Try.prog 59 [sv, .int .i64 c] w NoB (fun u w' => OI w' u (List.replicate c (-1)) ∧ ∀ B, B ≤ w.heap.size → Own B 3 1 w' u c ((List.replicate c (-1)).map i64v)) := by
  refine RC.mk tyOk Try.func59 rfl (by kernel_rfl) fun w1 E1 => ?_
  replace Hs := Hs.ext E1
  repeat' (conv => whnf
           first
           | (refine Dr.quiet tyOk (by kernel_rfl) ?_)
           | (refine VS.conv Try.underlying3 Try.underlying96 (wrap64 (by decide)) ?_)
           | (refine VS.conv Try.underlying3 Try.underlying96 (wrap64 (by omega)) ?_)
           | (refine VC.pure (mul_pc hc) ?_)
           | (refine VS.gtr ?_)
           | (refine VS.conv Try.underlying96 Try.underlying3 (wrapI (by omega)) ?_)
           | (refine Rng.mk (by omega) ?_)
           | (refine Split.pos (by omega) ?_)
           | (refine Split.neg (by omega) ?_)
           | (refine Split.mk (fun h => ?_) (fun h => ?_))
           | (refine Need.mk (by omega) ?_)
           | (refine Ints.ln (by assumption) ?_)
           | (refine Mat.ln (by assumption) ?_)
           | (refine Ints.ln (Mat.row (by assumption) _ (by omega)) ?_)
           | (refine Ints.ix (by assumption) (by omega) ?_)
           | (refine Mat.ix (by assumption) (by omega) ?_)
           | (refine Ints.ix (Mat.row (by assumption) _ (by omega)) (by omega) ?_)
           | (refine Ints.ix (c := 0) (by assumption) (by omega) ?_)
           | (refine Mat.ix (c := 0) (by assumption) (by omega) ?_)
           | (refine Ints.ix (c := 0) (Mat.row (by assumption) _ (by omega)) (by omega) ?_)
           | (refine Ints.ixI (by assumption) (by omega) ?_)
           | (refine Mat.ixI (by assumption) (by omega) ?_)
           | (refine Ints.ixI (Mat.row (by assumption) _ (by omega)) (by omega) ?_)
           | (refine Ints.ld (by assumption) (by omega) ?_)
           | (refine Mat.ld (by assumption) (by omega) ?_)
           | (refine Ints.ld (Mat.row (by assumption) _ (by omega)) (by omega) ?_)
           | (refine At.ld (by assumption) rfl ?_)
           | (refine At.ldN (by assumption) rfl ?_))
  conv => whnf
  refine VE.made Try.underlying25 eInt rfl (by omega) (by omega) fun nv w2 E2 Hn _ => ?_
  replace Hn := Hn w1.heap.size (Nat.le_refl _)
  replace Hs := Hs.ext E2
  conv => whnf
  refine VE.copy0 Try.underlying25 eInt Hn Hs (by simp [Value.oneCell', i64v]) rfl fun w3 G3 H3 => ?_
  have E3 : Ext w1 w3 := E2.new G3 fun i hi hk => by have := (Own.lt Hn i hk).1; omega
  replace H3 : Own w1.heap.size 3 1 w3 nv c (List.replicate (min 1 c) (i64v (-1)) ++ List.replicate (c - min 1 c) (i64v 0)) := by
    have e : List.take (min [(-1 : Int)].length c) (List.map i64v [-1]) ++ List.drop (min [(-1 : Int)].length c) (List.replicate c (Value.int .i64 0)) = List.replicate (min 1 c) (i64v (-1)) ++ List.replicate (c - min 1 c) (i64v 0) := by
      rw [List.drop_replicate]
      by_cases h0 : c = 0
      · subst h0; rfl
      · have : min 1 c = 1 := by omega
        simp [this, i64v]
    rw [← e]; exact H3
  conv => whnf
  refine Lp.mk tyOk [false, false, false, false, false, false, false, false, true, false, false, false, false, false, false, false, false, false, false, false, false, false, false, false, false, false, false, false, false, false, false, false, false, false, true, true, true, true, true, true, true, true, true, true, true, true, true] (fun m fr wr => getK fr 8 fun n => ∃ d : Nat, min 1 c ≤ d ∧ d ≤ c ∧ m = c - d ∧ n = .int .i64 (d : Int) ∧ Ext w1 wr ∧ Own w1.heap.size 3 1 wr nv c (List.replicate d (i64v (-1)) ++ List.replicate (c - d) (i64v 0))) (c - min 1 c) ?_ ?_
  · exact ⟨min 1 c, Nat.le_refl _, by omega, rfl, rfl, E3, H3⟩
  · intro m w4 u8 u34 u35 u36 u37 u38 u39 u40 u41 u42 u43 u44 u45 u46 hR
    obtain ⟨d, hd0, hd, rfl, rfl, E4, H4⟩ := hR
    repeat' (conv => whnf
             first
             | (refine Dr.plan 38 [7] (.q 0 (.q 1 (.q 2 (.q 3 (.q 4 (.q 5 (.q 6 (.e 7 (.q 8 (.q 9 .nil)) .nil)))))))) tyOk rfl (by kernel_rfl) ?_)
             | (refine Dr.quiet tyOk (by kernel_rfl) ?_)
             | (refine Sl.ln (Own.sl H4) ?_)
             | (refine VS.cutL Try.underlying25 (by kernel_rfl) (by decide) (Own.sl H4) hd ?_)
             | (refine VS.cutH Try.underlying25 (by kernel_rfl) (by decide) (Own.sl H4) hd ?_)
             | (refine Rng.mk (by omega) ?_)
             | (refine Split.pos (by omega) ?_)
             | (refine Split.neg (by omega) ?_)
             | (refine Split.mk (fun h => ?_) (fun h => ?_))
             | (refine Need.mk (by omega) ?_)
             | (refine Ints.ln (by assumption) ?_)
             | (refine Mat.ln (by assumption) ?_)
             | (refine Ints.ln (Mat.row (by assumption) _ (by omega)) ?_)
             | (refine Ints.ix (by assumption) (by omega) ?_)
             | (refine Mat.ix (by assumption) (by omega) ?_)
             | (refine Ints.ix (Mat.row (by assumption) _ (by omega)) (by omega) ?_)
             | (refine Ints.ix (c := 0) (by assumption) (by omega) ?_)
             | (refine Mat.ix (c := 0) (by assumption) (by omega) ?_)
             | (refine Ints.ix (c := 0) (Mat.row (by assumption) _ (by omega)) (by omega) ?_)
             | (refine Ints.ixI (by assumption) (by omega) ?_)
             | (refine Mat.ixI (by assumption) (by omega) ?_)
             | (refine Ints.ixI (Mat.row (by assumption) _ (by omega)) (by omega) ?_)
             | (refine Ints.ld (by assumption) (by omega) ?_)
             | (refine Mat.ld (by assumption) (by omega) ?_)
             | (refine Ints.ld (Mat.row (by assumption) _ (by omega)) (by omega) ?_)
             | (refine At.ld (by assumption) rfl ?_)
             | (refine At.ldN (by assumption) rfl ?_))
    · have Hv := Sl.view (Own.sl H4) (Nat.zero_le d) hd
      refine VE.copy Try.underlying25 eInt H4 hd Hv (fun u hu => ?_) rfl fun w5 G5 H5 => ?_
      · have := List.mem_of_mem_drop (List.mem_of_mem_take hu)
        rw [List.mem_append, List.mem_replicate, List.mem_replicate] at this
        rcases this with ⟨_, rfl⟩ | ⟨_, rfl⟩ <;> rfl
      · have E5 : Ext w1 w5 := Own.keep H4 E4 (Nat.le_refl _) G5
        have hys : List.take ((d - 0) * 1) (List.drop (0 * 1) (List.replicate d (i64v (-1)) ++ List.replicate (c - d) (i64v 0))) = List.replicate d (i64v (-1)) := by
          simp
        rw [hys] at H5
        have hmin : min (d - 0) (c - d) = min d (c - d) := by simp
        rw [hmin] at H5 ⊢
        rw [repl_step rfl hd] at H5
        repeat' (conv => whnf
                 first
                 | (refine Dr.quiet tyOk (by kernel_rfl) ?_)
                 | (refine Rng.mk (by omega) ?_)
                 | (refine Split.pos (by omega) ?_)
                 | (refine Split.neg (by omega) ?_)
                 | (refine Split.mk (fun h => ?_) (fun h => ?_))
                 | (refine Need.mk (by omega) ?_)
                 | (refine Ints.ln (by assumption) ?_)
                 | (refine Mat.ln (by assumption) ?_)
                 | (refine Ints.ln (Mat.row (by assumption) _ (by omega)) ?_)
                 | (refine Ints.ix (by assumption) (by omega) ?_)
                 | (refine Mat.ix (by assumption) (by omega) ?_)
                 | (refine Ints.ix (Mat.row (by assumption) _ (by omega)) (by omega) ?_)
                 | (refine Ints.ix (c := 0) (by assumption) (by omega) ?_)
                 | (refine Mat.ix (c := 0) (by assumption) (by omega) ?_)
                 | (refine Ints.ix (c := 0) (Mat.row (by assumption) _ (by omega)) (by omega) ?_)
                 | (refine Ints.ixI (by assumption) (by omega) ?_)
                 | (refine Mat.ixI (by assumption) (by omega) ?_)
                 | (refine Ints.ixI (Mat.row (by assumption) _ (by omega)) (by omega) ?_)
                 | (refine Ints.ld (by assumption) (by omega) ?_)
                 | (refine Mat.ld (by assumption) (by omega) ?_)
                 | (refine Ints.ld (Mat.row (by assumption) _ (by omega)) (by omega) ?_)
                 | (refine At.ld (by assumption) rfl ?_)
                 | (refine At.ldN (by assumption) rfl ?_))
        refine ⟨_, (by omega : c - (d + min d (c - d)) < c - d), rfl, d + min d (c - d), by omega, by omega, rfl, by simp, E5, H5⟩
    · obtain rfl : d = c := by omega
      have H6 : Own w1.heap.size 3 1 w4 nv d ((List.replicate d (-1)).map i64v) := by
        have e : (List.replicate d (-1)).map i64v = List.replicate d (i64v (-1)) ++ List.replicate (d - d) (i64v 0) := by simp
        rw [e]; exact H4
      have e0 : (List.replicate d (-1 : Int)).length = d := by simp
      exact ⟨E4, OI.of H6, fun B hB => Own.base H6 (Nat.le_trans hB E1.size)⟩
end Go.Proofs.Ytiahjkhfkbcjhaa
