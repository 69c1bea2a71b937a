/- Contracts: Assigned, the reference's Pass and Give. -/
import Derived.Test.YtiahjkhfkbcjhaaPlain16b
import Derived.Test.YtiahjkhfkbcjhaaSlc
import Derived.Test.YtiahjkhfkbcjhaaSlc2
import Derived.Test.YtiahjkhfkbcjhaaGoods2
set_option linter.unusedVariables false
set_option linter.unusedSimpArgs false
namespace Go.Proofs.Ytiahjkhfkbcjhaa
open Go.Eng
set_option maxRecDepth 100000
set_option maxHeartbeats 4000000

theorem assigned_pc {w : World} {av : Value} {o : List Int} {n : Nat} (Ha : Ints w av o) : PC Try.prog 50 [av, .int .i64 n] w (.bool (tf (asg o n))) := by
  refine PC.mk tyOk Try.func50 rfl (by kernel_rfl) fun w1 E1 => ?_
  replace Ha := Ha.ext E1
  have hle := Ha.le
  by_cases hl : o.length = n
  · subst hl
    repeat' (conv => whnf
             first
             | (refine Dr.quiet tyOk (by kernel_rfl) ?_)
             | (refine Rng.mk (by omega) ?_)
             | (refine Split.pos (by omega) ?_)
             | (refine Split.neg (by omega) ?_)
             | (refine Split.mk (fun h => ?_) (fun h => ?_))
             | (refine Need.mk (by omega) ?_)
             | (refine Ints.ln (by assumption) ?_)
             | (refine Mat.ln (by assumption) ?_)
             | (refine Ints.ln (Mat.row (by assumption) _ (by omega)) ?_)
             | (refine Ints.ix (by assumption) (by omega) ?_)
             | (refine Mat.ix (by assumption) (by omega) ?_)
             | (refine Ints.ix (Mat.row (by assumption) _ (by omega)) (by omega) ?_)
             | (refine Ints.ix (c := 0) (by assumption) (by omega) ?_)
             | (refine Mat.ix (c := 0) (by assumption) (by omega) ?_)
             | (refine Ints.ix (c := 0) (Mat.row (by assumption) _ (by omega)) (by omega) ?_)
             | (refine Ints.ixI (by assumption) (by omega) ?_)
             | (refine Mat.ixI (by assumption) (by omega) ?_)
             | (refine Ints.ixI (Mat.row (by assumption) _ (by omega)) (by omega) ?_)
             | (refine Ints.ld (by assumption) (by omega) ?_)
             | (refine Mat.ld (by assumption) (by omega) ?_)
             | (refine Ints.ld (Mat.row (by assumption) _ (by omega)) (by omega) ?_)
             | (refine At.ld (by assumption) rfl ?_)
             | (refine At.ldN (by assumption) rfl ?_))
    refine Lp.mk tyOk [false, false, false, false, true, true, true, true, false, false, false, false, true, true, true, true, true, true, true, true, true, true, true, true, true, true, true, true, true, true, true, true] (fun m fr wr => getK fr 5 fun j => ∃ c : Nat, c ≤ o.length ∧ m = o.length - c ∧ j = .int .i64 (c : Int) ∧ (∀ k : Nat, k < c → cntTo o k o.length = 1) ∧ wr = w1) o.length ?_ ?_
    · exact ⟨0, Nat.zero_le _, rfl, rfl, fun k hk => absurd hk (Nat.not_lt_zero _), rfl⟩
    · intro m w3 u4 u5 u6 u7 u12 u13 u14 u15 u16 u17 u18 u19 u20 u21 u22 u23 u24 u25 u26 u27 u28 u29 u30 u31 hR
      obtain ⟨c, hc, rfl, rfl, hok, rfl⟩ := hR
      repeat' (conv => whnf
               first
               | (refine Dr.quiet tyOk (by kernel_rfl) ?_)
               | (refine Rng.mk (by omega) ?_)
               | (refine Split.pos (by omega) ?_)
               | (refine Split.neg (by omega) ?_)
               | (refine Split.mk (fun h => ?_) (fun h => ?_))
               | (refine Need.mk (by omega) ?_)
               | (refine Ints.ln (by assumption) ?_)
               | (refine Mat.ln (by assumption) ?_)
               | (refine Ints.ln (Mat.row (by assumption) _ (by omega)) ?_)
               | (refine Ints.ix (by assumption) (by omega) ?_)
               | (refine Mat.ix (by assumption) (by omega) ?_)
               | (refine Ints.ix (Mat.row (by assumption) _ (by omega)) (by omega) ?_)
               | (refine Ints.ix (c := 0) (by assumption) (by omega) ?_)
               | (refine Mat.ix (c := 0) (by assumption) (by omega) ?_)
               | (refine Ints.ix (c := 0) (Mat.row (by assumption) _ (by omega)) (by omega) ?_)
               | (refine Ints.ixI (by assumption) (by omega) ?_)
               | (refine Mat.ixI (by assumption) (by omega) ?_)
               | (refine Ints.ixI (Mat.row (by assumption) _ (by omega)) (by omega) ?_)
               | (refine Ints.ld (by assumption) (by omega) ?_)
               | (refine Mat.ld (by assumption) (by omega) ?_)
               | (refine Ints.ld (Mat.row (by assumption) _ (by omega)) (by omega) ?_)
               | (refine At.ld (by assumption) rfl ?_)
               | (refine At.ldN (by assumption) rfl ?_))
      · refine Lp.mk tyOk [false, false, false, false, false, false, true, true, false, false, false, false, false, false, false, false, false, true, true, true, true, true, true, true, true, true, true, true, true, true] (fun m fr wr => getK fr 7 fun i => getK fr 6 fun t => ∃ c2 : Nat, c2 ≤ o.length ∧ m = o.length - c2 ∧ i = .int .i64 (c2 : Int) ∧ t = .int .i64 (cntTo o c c2) ∧ wr = w3) o.length ?_ ?_
        · exact ⟨0, Nat.zero_le _, rfl, rfl, rfl, rfl⟩
        · intro m w4 u6 u7 u17 u18 u19 u20 u21 u22 u23 u24 u25 u26 u27 u28 u29 hR
          obtain ⟨c2, hc2, rfl, rfl, rfl, rfl⟩ := hR
          have hb := cntTo_bd o c c2
          have hs : cntTo o c (c2 + 1) = cntTo o c c2 + if o.getD c2 0 = (c : Int) then 1 else 0 := rfl
          repeat' (conv => whnf
                   first
                   | (refine Dr.quiet tyOk (by kernel_rfl) ?_)
                   | (refine Rng.mk (by omega) ?_)
                   | (refine Split.pos (by omega) ?_)
                   | (refine Split.neg (by omega) ?_)
                   | (refine Split.mk (fun h => ?_) (fun h => ?_))
                   | (refine Need.mk (by omega) ?_)
                   | (refine Ints.ln (by assumption) ?_)
                   | (refine Mat.ln (by assumption) ?_)
                   | (refine Ints.ln (Mat.row (by assumption) _ (by omega)) ?_)
                   | (refine Ints.ix (by assumption) (by omega) ?_)
                   | (refine Mat.ix (by assumption) (by omega) ?_)
                   | (refine Ints.ix (Mat.row (by assumption) _ (by omega)) (by omega) ?_)
                   | (refine Ints.ix (c := 0) (by assumption) (by omega) ?_)
                   | (refine Mat.ix (c := 0) (by assumption) (by omega) ?_)
                   | (refine Ints.ix (c := 0) (Mat.row (by assumption) _ (by omega)) (by omega) ?_)
                   | (refine Ints.ixI (by assumption) (by omega) ?_)
                   | (refine Mat.ixI (by assumption) (by omega) ?_)
                   | (refine Ints.ixI (Mat.row (by assumption) _ (by omega)) (by omega) ?_)
                   | (refine Ints.ld (by assumption) (by omega) ?_)
                   | (refine Mat.ld (by assumption) (by omega) ?_)
                   | (refine Ints.ld (Mat.row (by assumption) _ (by omega)) (by omega) ?_)
                   | (refine At.ld (by assumption) rfl ?_)
                   | (refine At.ldN (by assumption) rfl ?_))
          · exact ⟨_, (by omega : o.length - (c2 + 1) < o.length - c2), rfl, c2 + 1, by omega, rfl, rfl, by rw [hs, if_pos ‹_›], rfl⟩
          · exact ⟨_, (by omega : o.length - (c2 + 1) < o.length - c2), rfl, c2 + 1, by omega, rfl, rfl, by rw [hs, if_neg ‹_›, Int.add_zero], rfl⟩
          · obtain rfl : c2 = o.length := by omega
            refine ⟨_, (by omega : o.length - (c + 1) < o.length - c), rfl, c + 1, by omega, rfl, rfl, fun k hk => ?_, rfl⟩
            by_cases e : k = c
            · subst e; assumption
            · exact hok k (by omega)
          · obtain rfl : c2 = o.length := by omega
            rw [tf_f (p := asg o o.length) (fun h => ‹¬ cntTo o c o.length = 1› (h.2 c (by omega)))]
            exact ⟨rfl, Ext.refl _⟩
      · obtain rfl : c = o.length := by omega
        rw [tf_t (p := asg o o.length) ⟨rfl, hok⟩]
        exact ⟨rfl, Ext.refl _⟩
  · rw [tf_f (p := asg o n) (fun h => hl h.1)]
    repeat' (conv => whnf
             first
             | (refine Dr.quiet tyOk (by kernel_rfl) ?_)
             | (refine Rng.mk (by omega) ?_)
             | (refine Split.pos (by omega) ?_)
             | (refine Split.neg (by omega) ?_)
             | (refine Split.mk (fun h => ?_) (fun h => ?_))
             | (refine Need.mk (by omega) ?_)
             | (refine Ints.ln (by assumption) ?_)
             | (refine Mat.ln (by assumption) ?_)
             | (refine Ints.ln (Mat.row (by assumption) _ (by omega)) ?_)
             | (refine Ints.ix (by assumption) (by omega) ?_)
             | (refine Mat.ix (by assumption) (by omega) ?_)
             | (refine Ints.ix (Mat.row (by assumption) _ (by omega)) (by omega) ?_)
             | (refine Ints.ix (c := 0) (by assumption) (by omega) ?_)
             | (refine Mat.ix (c := 0) (by assumption) (by omega) ?_)
             | (refine Ints.ix (c := 0) (Mat.row (by assumption) _ (by omega)) (by omega) ?_)
             | (refine Ints.ixI (by assumption) (by omega) ?_)
             | (refine Mat.ixI (by assumption) (by omega) ?_)
             | (refine Ints.ixI (Mat.row (by assumption) _ (by omega)) (by omega) ?_)
             | (refine Ints.ld (by assumption) (by omega) ?_)
             | (refine Mat.ld (by assumption) (by omega) ?_)
             | (refine Ints.ld (Mat.row (by assumption) _ (by omega)) (by omega) ?_)
             | (refine At.ld (by assumption) rfl ?_)
             | (refine At.ldN (by assumption) rfl ?_))
    exact ⟨rfl, Ext.refl _⟩

/-- a list of m numbers of which the first c are laid -/
def resTo (f : Nat → Int) (m c : Nat) : List Int := (List.range m).map fun k => if k < c then f k else 0
theorem resTo_len (f : Nat → Int) (m c : Nat) : (resTo f m c).length = m := by simp [resTo]
theorem resTo_zero (f : Nat → Int) (m : Nat) : (resTo f m 0).map i64v = List.replicate m (.int .i64 0) := by rw [List.eq_replicate_iff]; simp [resTo, i64v]
theorem resTo_all (f : Nat → Int) (m : Nat) : resTo f m m = (List.range m).map f := by
  apply List.map_congr_left
  intro k hk
  rw [if_pos (List.mem_range.1 hk)]
theorem resTo_set (f : Nat → Int) {m c : Nat} (h : c < m) : (resTo f m c).set c (f c) = resTo f m (c + 1) := by
  apply List.ext_getElem
  · simp [resTo]
  · intro i h1 h2
    rw [List.getElem_set]
    split
    · rename_i e; subst e; simp [resTo]
    · simp only [resTo, List.getElem_map, List.getElem_range]
      by_cases hi : i < c
      · rw [if_pos hi, if_pos (by omega)]
      · rw [if_neg hi, if_neg (by omega)]

theorem rpass_rc {w : World} {gv av ov : Value} {vs : List Value} {rr : List (List Int)} {a o : List Int} (Hg : Mat w gv vs rr) (Ha : Ints w av a) (Ho : Ints w ov o) :
    RC Try.prog 35 [.agg #[gv], av, ov] w NoB (fun u w' => ∃ v, u = .tuple #[v, .int .i64 (passE rr a o)] ∧ OI w' v (passR rr a o)) := by
  refine RC.mk tyOk Try.func35 rfl (by kernel_rfl) fun w1 E1 => ?_
  replace Hg := Hg.ext E1
  replace Ha := Ha.ext E1
  replace Ho := Ho.ext E1
  refine Bx.agg fun b w2 E2 _ Hb _ => ?_
  replace Hg := Hg.ext E2
  replace Ha := Ha.ext E2
  replace Ho := Ho.ext E2
  by_cases hv : vld rr a = 0
  · have hal := al_of_vld hv
    have hn := hal.n6
    have hm := hal.m10
    have hlen := hal.len
    have ca := assigned_pc (n := rr.length) Ho
    by_cases hasg : asg o rr.length
    · rw [tf_t hasg] at ca
      have hol := hasg.1
      have eE : passE rr a o = 0 := by unfold passE; rw [if_neg (by omega), if_pos hasg]
      have eR : passR rr a o = passV a o := by unfold passR; rw [if_pos ⟨hv, hasg⟩]
      rw [eE, eR]
      repeat' (conv => whnf
               first
               | (refine Dr.quiet tyOk (by kernel_rfl) ?_)
               | (refine VC.pure (rvalid_pc Hg Ha) ?_)
               | (refine VC.pure ca ?_)
               | (refine Rng.mk (by omega) ?_)
               | (refine Split.pos (by omega) ?_)
               | (refine Split.neg (by omega) ?_)
               | (refine Split.mk (fun h => ?_) (fun h => ?_))
               | (refine Need.mk (by omega) ?_)
               | (refine Ints.ln (by assumption) ?_)
               | (refine Mat.ln (by assumption) ?_)
               | (refine Ints.ln (Mat.row (by assumption) _ (by omega)) ?_)
               | (refine Ints.ix (by assumption) (by omega) ?_)
               | (refine Mat.ix (by assumption) (by omega) ?_)
               | (refine Ints.ix (Mat.row (by assumption) _ (by omega)) (by omega) ?_)
               | (refine Ints.ix (c := 0) (by assumption) (by omega) ?_)
               | (refine Mat.ix (c := 0) (by assumption) (by omega) ?_)
               | (refine Ints.ix (c := 0) (Mat.row (by assumption) _ (by omega)) (by omega) ?_)
               | (refine Ints.ixI (by assumption) (by omega) ?_)
               | (refine Mat.ixI (by assumption) (by omega) ?_)
               | (refine Ints.ixI (Mat.row (by assumption) _ (by omega)) (by omega) ?_)
               | (refine Ints.ld (by assumption) (by omega) ?_)
               | (refine Mat.ld (by assumption) (by omega) ?_)
               | (refine Ints.ld (Mat.row (by assumption) _ (by omega)) (by omega) ?_)
               | (refine At.ld (by assumption) rfl ?_)
               | (refine At.ldN (by assumption) rfl ?_))
      refine VE.made Try.underlying25 eInt rfl (by omega) (by omega) fun rv w4 E4 Hmk _ => ?_
      have Hr0 := Hmk _ (Nat.le_refl _)
      rw [← resTo_zero (fun k => lastTo o (a.getD k 0) o.length)] at Hr0
      have Ha2 := Ha
      have Ho2 := Ho
      replace Hg := Hg.ext E4
      replace Ha := Ha.ext E4
      replace Hb := Hb.ext E4
      replace Ho := Ho.ext E4
      repeat' (conv => whnf
               first
               | (refine Dr.quiet tyOk (by kernel_rfl) ?_)
               | (refine Rng.mk (by omega) ?_)
               | (refine Split.pos (by omega) ?_)
               | (refine Split.neg (by omega) ?_)
               | (refine Split.mk (fun h => ?_) (fun h => ?_))
               | (refine Need.mk (by omega) ?_)
               | (refine Ints.ln (by assumption) ?_)
               | (refine Mat.ln (by assumption) ?_)
               | (refine Ints.ln (Mat.row (by assumption) _ (by omega)) ?_)
               | (refine Ints.ix (by assumption) (by omega) ?_)
               | (refine Mat.ix (by assumption) (by omega) ?_)
               | (refine Ints.ix (Mat.row (by assumption) _ (by omega)) (by omega) ?_)
               | (refine Ints.ix (c := 0) (by assumption) (by omega) ?_)
               | (refine Mat.ix (c := 0) (by assumption) (by omega) ?_)
               | (refine Ints.ix (c := 0) (Mat.row (by assumption) _ (by omega)) (by omega) ?_)
               | (refine Ints.ixI (by assumption) (by omega) ?_)
               | (refine Mat.ixI (by assumption) (by omega) ?_)
               | (refine Ints.ixI (Mat.row (by assumption) _ (by omega)) (by omega) ?_)
               | (refine Ints.ld (by assumption) (by omega) ?_)
               | (refine Mat.ld (by assumption) (by omega) ?_)
               | (refine Ints.ld (Mat.row (by assumption) _ (by omega)) (by omega) ?_)
               | (refine At.ld (by assumption) rfl ?_)
               | (refine At.ldN (by assumption) rfl ?_))
      refine Lp.mk tyOk [false, false, false, false, false, false, false, false, false, true, true, false, false, false, false, false, false, false, false, false, false, false, false, false, false, false, false, true, true, true, true, true, true, true, true, true, true, true, true, true, true, true, true, true, true, true, true, true, true, true, true, true, true, true, true] (fun m fr wr => getK fr 9 fun k => ∃ c : Nat, c ≤ a.length ∧ m = a.length - c ∧ k = .int .i64 (c : Int) ∧ Ext w2 wr ∧ Own w2.heap.size 3 1 wr rv a.length ((resTo (fun k => lastTo o (a.getD k 0) o.length) a.length c).map i64v)) a.length ?_ ?_
      · exact ⟨0, Nat.zero_le _, rfl, rfl, E4, Hr0⟩
      · intro m w5 u9 u10 u27 u28 u29 u30 u31 u32 u33 u34 u35 u36 u37 u38 u39 u40 u41 u42 u43 u44 u45 u46 u47 u48 u49 u50 u51 u52 u53 u54 hR
        obtain ⟨c, hc, rfl, rfl, E5, Hr⟩ := hR
        replace Ha := Ha2.ext E5
        replace Ho := Ho2.ext E5
        have hrl := resTo_len (fun k => lastTo o (a.getD k 0) o.length) a.length c
        have HrI : Ints w5 rv (resTo (fun k => lastTo o (a.getD k 0) o.length) a.length c) := by
          unfold Ints; rw [hrl]; exact Own.sl Hr
        repeat' (conv => whnf
                 first
                 | (refine Dr.quiet tyOk (by kernel_rfl) ?_)
                 | (refine Rng.mk (by omega) ?_)
                 | (refine Split.pos (by omega) ?_)
                 | (refine Split.neg (by omega) ?_)
                 | (refine Split.mk (fun h => ?_) (fun h => ?_))
                 | (refine Need.mk (by omega) ?_)
                 | (refine Ints.ln (by assumption) ?_)
                 | (refine Mat.ln (by assumption) ?_)
                 | (refine Ints.ln (Mat.row (by assumption) _ (by omega)) ?_)
                 | (refine Ints.ix (by assumption) (by omega) ?_)
                 | (refine Mat.ix (by assumption) (by omega) ?_)
                 | (refine Ints.ix (Mat.row (by assumption) _ (by omega)) (by omega) ?_)
                 | (refine Ints.ix (c := 0) (by assumption) (by omega) ?_)
                 | (refine Mat.ix (c := 0) (by assumption) (by omega) ?_)
                 | (refine Ints.ix (c := 0) (Mat.row (by assumption) _ (by omega)) (by omega) ?_)
                 | (refine Ints.ixI (by assumption) (by omega) ?_)
                 | (refine Mat.ixI (by assumption) (by omega) ?_)
                 | (refine Ints.ixI (Mat.row (by assumption) _ (by omega)) (by omega) ?_)
                 | (refine Ints.ld (by assumption) (by omega) ?_)
                 | (refine Mat.ld (by assumption) (by omega) ?_)
                 | (refine Ints.ld (Mat.row (by assumption) _ (by omega)) (by omega) ?_)
                 | (refine At.ld (by assumption) rfl ?_)
                 | (refine At.ldN (by assumption) rfl ?_))
        · refine Own.set Hr (by rw [List.length_map, hrl]; omega) rfl fun w6 G6 H6 => ?_
          have E6 := Own.keep Hr E5 (Nat.le_refl _) G6
          rw [set_map] at H6
          repeat' (conv => whnf
                   first
                   | (refine Dr.quiet tyOk (by kernel_rfl) ?_)
                   | (refine Rng.mk (by omega) ?_)
                   | (refine Split.pos (by omega) ?_)
                   | (refine Split.neg (by omega) ?_)
                   | (refine Split.mk (fun h => ?_) (fun h => ?_))
                   | (refine Need.mk (by omega) ?_)
                   | (refine Ints.ln (by assumption) ?_)
                   | (refine Mat.ln (by assumption) ?_)
                   | (refine Ints.ln (Mat.row (by assumption) _ (by omega)) ?_)
                   | (refine Ints.ix (by assumption) (by omega) ?_)
                   | (refine Mat.ix (by assumption) (by omega) ?_)
                   | (refine Ints.ix (Mat.row (by assumption) _ (by omega)) (by omega) ?_)
                   | (refine Ints.ix (c := 0) (by assumption) (by omega) ?_)
                   | (refine Mat.ix (c := 0) (by assumption) (by omega) ?_)
                   | (refine Ints.ix (c := 0) (Mat.row (by assumption) _ (by omega)) (by omega) ?_)
                   | (refine Ints.ixI (by assumption) (by omega) ?_)
                   | (refine Mat.ixI (by assumption) (by omega) ?_)
                   | (refine Ints.ixI (Mat.row (by assumption) _ (by omega)) (by omega) ?_)
                   | (refine Ints.ld (by assumption) (by omega) ?_)
                   | (refine Mat.ld (by assumption) (by omega) ?_)
                   | (refine Ints.ld (Mat.row (by assumption) _ (by omega)) (by omega) ?_)
                   | (refine At.ld (by assumption) rfl ?_)
                   | (refine At.ldN (by assumption) rfl ?_))
          refine Lp.mk tyOk [false, false, false, false, false, false, false, false, false, false, true, false, false, false, false, false, false, false, false, false, false, false, false, false, false, false, false, false, false, false, false, false, false, false, false, false, true, true, true, true, true, true, true, true, true, true, true, true, true, true, true, true, true, true, true] (fun m fr wr => getK fr 10 fun i => ∃ c2 : Nat, c2 ≤ o.length ∧ m = o.length - c2 ∧ i = .int .i64 (c2 : Int) ∧ Ext w2 wr ∧ Own w2.heap.size 3 1 wr rv a.length (((resTo (fun k => lastTo o (a.getD k 0) o.length) a.length c).set c (lastTo o (a.getD c 0) c2)).map i64v)) o.length ?_ ?_
          · exact ⟨0, Nat.zero_le _, rfl, rfl, E6, H6⟩
          · intro m w7 u10 u36 u37 u38 u39 u40 u41 u42 u43 u44 u45 u46 u47 u48 u49 u50 u51 u52 u53 u54 hR
            obtain ⟨c2, hc2, rfl, rfl, E7, H7⟩ := hR
            replace Ha := Ha2.ext E7
            replace Ho := Ho2.ext E7
            have hrl2 : ((resTo (fun k => lastTo o (a.getD k 0) o.length) a.length c).set c (lastTo o (a.getD c 0) c2)).length = a.length := by rw [List.length_set, hrl]
            have HrI2 : Ints w7 rv ((resTo (fun k => lastTo o (a.getD k 0) o.length) a.length c).set c (lastTo o (a.getD c 0) c2)) := by
              unfold Ints; rw [hrl2]; exact Own.sl H7
            have hs : lastTo o (a.getD c 0) (c2 + 1) = if o.getD c2 0 = a.getD c 0 then (c2 : Int) else lastTo o (a.getD c 0) c2 := rfl
            repeat' (conv => whnf
                     first
                     | (refine Dr.quiet tyOk (by kernel_rfl) ?_)
                     | (refine Rng.mk (by omega) ?_)
                     | (refine Split.pos (by omega) ?_)
                     | (refine Split.neg (by omega) ?_)
                     | (refine Split.mk (fun h => ?_) (fun h => ?_))
                     | (refine Need.mk (by omega) ?_)
                     | (refine Ints.ln (by assumption) ?_)
                     | (refine Mat.ln (by assumption) ?_)
                     | (refine Ints.ln (Mat.row (by assumption) _ (by omega)) ?_)
                     | (refine Ints.ix (by assumption) (by omega) ?_)
                     | (refine Mat.ix (by assumption) (by omega) ?_)
                     | (refine Ints.ix (Mat.row (by assumption) _ (by omega)) (by omega) ?_)
                     | (refine Ints.ix (c := 0) (by assumption) (by omega) ?_)
                     | (refine Mat.ix (c := 0) (by assumption) (by omega) ?_)
                     | (refine Ints.ix (c := 0) (Mat.row (by assumption) _ (by omega)) (by omega) ?_)
                     | (refine Ints.ixI (by assumption) (by omega) ?_)
                     | (refine Mat.ixI (by assumption) (by omega) ?_)
                     | (refine Ints.ixI (Mat.row (by assumption) _ (by omega)) (by omega) ?_)
                     | (refine Ints.ld (by assumption) (by omega) ?_)
                     | (refine Mat.ld (by assumption) (by omega) ?_)
                     | (refine Ints.ld (Mat.row (by assumption) _ (by omega)) (by omega) ?_)
                     | (refine At.ld (by assumption) rfl ?_)
                     | (refine At.ldN (by assumption) rfl ?_))
            · refine Own.set H7 (by rw [List.length_map, hrl2]; omega) rfl fun w8 G8 H8 => ?_
              have E8 := Own.keep H7 E7 (Nat.le_refl _) G8
              rw [set_map, List.set_set] at H8
              repeat' (conv => whnf
                       first
                       | (refine Dr.quiet tyOk (by kernel_rfl) ?_)
                       | (refine Rng.mk (by omega) ?_)
                       | (refine Split.pos (by omega) ?_)
                       | (refine Split.neg (by omega) ?_)
                       | (refine Split.mk (fun h => ?_) (fun h => ?_))
                       | (refine Need.mk (by omega) ?_)
                       | (refine Ints.ln (by assumption) ?_)
                       | (refine Mat.ln (by assumption) ?_)
                       | (refine Ints.ln (Mat.row (by assumption) _ (by omega)) ?_)
                       | (refine Ints.ix (by assumption) (by omega) ?_)
                       | (refine Mat.ix (by assumption) (by omega) ?_)
                       | (refine Ints.ix (Mat.row (by assumption) _ (by omega)) (by omega) ?_)
                       | (refine Ints.ix (c := 0) (by assumption) (by omega) ?_)
                       | (refine Mat.ix (c := 0) (by assumption) (by omega) ?_)
                       | (refine Ints.ix (c := 0) (Mat.row (by assumption) _ (by omega)) (by omega) ?_)
                       | (refine Ints.ixI (by assumption) (by omega) ?_)
                       | (refine Mat.ixI (by assumption) (by omega) ?_)
                       | (refine Ints.ixI (Mat.row (by assumption) _ (by omega)) (by omega) ?_)
                       | (refine Ints.ld (by assumption) (by omega) ?_)
                       | (refine Mat.ld (by assumption) (by omega) ?_)
                       | (refine Ints.ld (Mat.row (by assumption) _ (by omega)) (by omega) ?_)
                       | (refine At.ld (by assumption) rfl ?_)
                       | (refine At.ldN (by assumption) rfl ?_))
              refine ⟨_, (by omega : o.length - (c2 + 1) < o.length - c2), rfl, c2 + 1, by omega, rfl, rfl, E8, ?_⟩
              rw [hs, if_pos ‹_›]; exact H8
            · refine ⟨_, (by omega : o.length - (c2 + 1) < o.length - c2), rfl, c2 + 1, by omega, rfl, rfl, E7, ?_⟩
              rw [hs, if_neg ‹_›]; exact H7
            · obtain rfl : c2 = o.length := by omega
              refine ⟨_, (by omega : a.length - (c + 1) < a.length - c), rfl, c + 1, by omega, rfl, rfl, E7, ?_⟩
              rw [resTo_set (fun k => lastTo o (a.getD k 0) o.length) (by omega)] at H7
              exact H7
        · obtain rfl : c = a.length := by omega
          rw [resTo_all] at Hr
          exact ⟨E2.trans E5, _, rfl, OI.of Hr⟩
    · rw [tf_f hasg] at ca
      have eE : passE rr a o = 2 := by unfold passE; rw [if_neg (by omega), if_neg hasg]
      have eR : passR rr a o = [] := by unfold passR; rw [if_neg (fun h => hasg h.2)]
      rw [eE, eR]
      repeat' (conv => whnf
               first
               | (refine Dr.quiet tyOk (by kernel_rfl) ?_)
               | (refine VC.pure (rvalid_pc Hg Ha) ?_)
               | (refine VC.pure ca ?_)
               | (refine Rng.mk (by omega) ?_)
               | (refine Split.pos (by omega) ?_)
               | (refine Split.neg (by omega) ?_)
               | (refine Split.mk (fun h => ?_) (fun h => ?_))
               | (refine Need.mk (by omega) ?_)
               | (refine Ints.ln (by assumption) ?_)
               | (refine Mat.ln (by assumption) ?_)
               | (refine Ints.ln (Mat.row (by assumption) _ (by omega)) ?_)
               | (refine Ints.ix (by assumption) (by omega) ?_)
               | (refine Mat.ix (by assumption) (by omega) ?_)
               | (refine Ints.ix (Mat.row (by assumption) _ (by omega)) (by omega) ?_)
               | (refine Ints.ix (c := 0) (by assumption) (by omega) ?_)
               | (refine Mat.ix (c := 0) (by assumption) (by omega) ?_)
               | (refine Ints.ix (c := 0) (Mat.row (by assumption) _ (by omega)) (by omega) ?_)
               | (refine Ints.ixI (by assumption) (by omega) ?_)
               | (refine Mat.ixI (by assumption) (by omega) ?_)
               | (refine Ints.ixI (Mat.row (by assumption) _ (by omega)) (by omega) ?_)
               | (refine Ints.ld (by assumption) (by omega) ?_)
               | (refine Mat.ld (by assumption) (by omega) ?_)
               | (refine Ints.ld (Mat.row (by assumption) _ (by omega)) (by omega) ?_)
               | (refine At.ld (by assumption) rfl ?_)
               | (refine At.ldN (by assumption) rfl ?_))
      exact ⟨E2, _, rfl, Own.nil⟩
  · have eE : passE rr a o = vld rr a := by unfold passE; rw [if_pos hv]
    have eR : passR rr a o = [] := by unfold passR; rw [if_neg (fun h => hv h.1)]
    rw [eE, eR]
    repeat' (conv => whnf
             first
             | (refine Dr.quiet tyOk (by kernel_rfl) ?_)
             | (refine VC.pure (rvalid_pc Hg Ha) ?_)
             | (refine Rng.mk (by omega) ?_)
             | (refine Split.pos (by omega) ?_)
             | (refine Split.neg (by omega) ?_)
             | (refine Split.mk (fun h => ?_) (fun h => ?_))
             | (refine Need.mk (by omega) ?_)
             | (refine Ints.ln (by assumption) ?_)
             | (refine Mat.ln (by assumption) ?_)
             | (refine Ints.ln (Mat.row (by assumption) _ (by omega)) ?_)
             | (refine Ints.ix (by assumption) (by omega) ?_)
             | (refine Mat.ix (by assumption) (by omega) ?_)
             | (refine Ints.ix (Mat.row (by assumption) _ (by omega)) (by omega) ?_)
             | (refine Ints.ix (c := 0) (by assumption) (by omega) ?_)
             | (refine Mat.ix (c := 0) (by assumption) (by omega) ?_)
             | (refine Ints.ix (c := 0) (Mat.row (by assumption) _ (by omega)) (by omega) ?_)
             | (refine Ints.ixI (by assumption) (by omega) ?_)
             | (refine Mat.ixI (by assumption) (by omega) ?_)
             | (refine Ints.ixI (Mat.row (by assumption) _ (by omega)) (by omega) ?_)
             | (refine Ints.ld (by assumption) (by omega) ?_)
             | (refine Mat.ld (by assumption) (by omega) ?_)
             | (refine Ints.ld (Mat.row (by assumption) _ (by omega)) (by omega) ?_)
             | (refine At.ld (by assumption) rfl ?_)
             | (refine At.ldN (by assumption) rfl ?_))
    exact ⟨E2, _, rfl, Own.nil⟩
end Go.Proofs.Ytiahjkhfkbcjhaa
