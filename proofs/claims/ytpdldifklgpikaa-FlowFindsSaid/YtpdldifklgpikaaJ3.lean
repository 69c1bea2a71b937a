/- Joined texts: Flow6 Flow7 FlowRp EngAC EngAD Flow8a. -/
import Derived.Test.YtpdldifklgpikaaJ2
import Derived.ArgAppend
set_option linter.unusedVariables false
set_option linter.unusedSimpArgs false
namespace Go.Proofs.Ytpdldifklgpikaa
open Go.Eng
set_option maxRecDepth 100000
set_option maxHeartbeats 4000000

theorem eWork : Elem Try.prog 73 (.agg #[.int .i64 0, .slice none 0 0, .slice none 0 0, .slice none 0 0, .int .i64 0, .int .i64 0]) 6 96 := by unfold Elem; kernel_rfl

/-- the record of the search: the network, the flow F, what is seen Z, the first arc and the step -/
structure WS (w0 w : World) (b N : Nat) (sv fv zv : Value) (sk : Nat) (st : Int) (F : List Int) (Z : List Bool) : Prop where
  ex : Ext w0 w
  bB : w0.heap.size ≤ b
  blk : Blk w b 73 [.int .i64 (N : Int), sv, fv, zv, .int .i64 (sk : Int), .int .i64 st]
  hf : OB w0.heap.size w fv F
  hz : OZ w0.heap.size w zv Z
section
variable {w0 w : World} {b N : Nat} {sv fv zv : Value} {sk : Nat} {st : Int} {F : List Int} {Z : List Bool}
theorem WS.ext (h : WS w0 w b N sv fv zv sk st F Z) {w' : World} (hx : Ext w w') : WS w0 w' b N sv fv zv sk st F Z :=
  ⟨h.ex.ext hx, h.bB, h.blk.ext hx, Own.ext h.hf hx, Own.ext h.hz hx⟩
theorem Gr.up {B : Nat} {v : Value} {n s : Nat} {e : TypeId} {xs : List Value} {w w' : World} (h : Go.Eng.Own B e s w v n xs) (hg : Gr (fun k => v.ownBlock = some k) w w') : Gr (fun k => B ≤ k) w w' :=
  hg.mono fun k _ hk => (Own.lt h k hk).1
theorem WS.stF (h : WS w0 w b N sv fv zv sk st F Z) {k : Nat} {x : Int} {K : World → Prop} (hk : k < F.length)
    (hK : ∀ w', Gr (fun k => w0.heap.size ≤ k) w w' → WS w0 w' b N sv fv zv sk st (F.set k x) Z → K w') : St w (ea fv k) (.int .i64 x) K :=
  OB.set h.hf hk fun w' hg h' => hK w' (Gr.up h.hf hg) ⟨Own.keep h.hf h.ex (Nat.le_refl _) hg, h.bB, h.blk.row h.hf (by decide) hg, h', Own.row h.hz h.hf (by decide) hg⟩
theorem WS.stZ (h : WS w0 w b N sv fv zv sk st F Z) {k : Nat} {x : Bool} {K : World → Prop} (hk : k < Z.length)
    (hK : ∀ w', Gr (fun k => w0.heap.size ≤ k) w w' → WS w0 w' b N sv fv zv sk st F (Z.set k x) → K w') : St w (ea zv k) (.bool x) K :=
  OZ.set h.hz hk fun w' hg h' => hK w' (Gr.up h.hz hg) ⟨Own.keep h.hz h.ex (Nat.le_refl _) hg, h.bB, h.blk.row h.hz (by decide) hg, Own.row h.hf h.hz (by decide) hg, h'⟩
end


theorem way_rc {N : Nat} {A : List T3} {sv : Value} {t : Int} {sk : Nat} {st : Int} (hk : NetOk N A) (ht : 0 ≤ t ∧ t < N) (hst : 1 ≤ st ∧ st ≤ 1048576) (hsk : sk ≤ A.length) : ∀ (j : Nat) {w0 w : World} {b : Nat} {fv zv : Value} {F : List Int} {Z : List Bool} {s m : Int},
    cntF Z ≤ j → 0 ≤ s ∧ s < N → 1 ≤ m ∧ m ≤ 200000000 → Z.getD s.toNat false = false → Z.getD t.toNat false = false → Z.length = N → isF A F → Trs w0 sv A → WS w0 w b N sv fv zv sk st F Z →
    RC Try.prog 49 [.pointer (some ⟨b, 0, none⟩), .int .i64 s, .int .i64 t, .int .i64 m] w (fun k => w0.heap.size ≤ k) (fun u w' => ∃ x F' Z', u = .int .i64 x ∧ WS w0 w' b N sv fv zv sk st F' Z' ∧ WayR A F F' st sk s t Z Z' m x)
  | 0, w0, w, b, fv, zv, F, Z, s, m, hj, hs, hm, h1, h2, hl, hF, HV0, HW => absurd (cntF_pos (by omega) h1) (by omega)
  | j + 1, w0, w, b, fv, zv, F, Z, s, m, hj, hs, hm, h1, h2, hl, hF, HV0, HW => by
    have hfl := hF.1
    have h40 := hk.n40
    have h200 := hk.a200
    refine RC.mk tyOk Try.func49 rfl (by kernel_rfl) fun w1 E1 => ?_
    replace HW := HW.ext E1
    have EE := Ext.refl w1
    have HK := HW.blk
    have HFI := Own.sl HW.hf
    have HZI := Own.sl HW.hz
    have HV := HV0.ext HW.ex
    have GS : Gr (fun k => w0.heap.size ≤ k) w1 w1 := Gr.refl _ _
    by_cases hst' : s = t
    · subst hst'
      repeat' ((conv => whnf); first | (refine Dr.quiet tyOk (by kernel_rfl) ?_) | (refine Rng.mk (by omega) ?_) | (refine Split.pos (by omega) ?_) | (refine Split.neg (by omega) ?_) | (refine Split.mk (fun h => ?_) (fun h => ?_)) | (refine Need.mk (by omega) ?_) | (refine Ints.ln (by assumption) ?_) | (refine Mat.ln (by assumption) ?_) | (refine Ints.ln (Mat.row (by assumption) _ (by omega)) ?_) | (refine Ints.ix (by assumption) (by omega) ?_) | (refine Mat.ix (by assumption) (by omega) ?_) | (refine Ints.ix (Mat.row (by assumption) _ (by omega)) (by omega) ?_) | (refine Ints.ix (c := 0) (by assumption) (by omega) ?_) | (refine Mat.ix (c := 0) (by assumption) (by omega) ?_) | (refine Ints.ix (c := 0) (Mat.row (by assumption) _ (by omega)) (by omega) ?_) | (refine Ints.ixI (by assumption) (by omega) ?_) | (refine Mat.ixI (by assumption) (by omega) ?_) | (refine Ints.ixI (Mat.row (by assumption) _ (by omega)) (by omega) ?_) | (refine Ints.ld (by assumption) (by omega) ?_) | (refine Mat.ld (by assumption) (by omega) ?_) | (refine Ints.ld (Mat.row (by assumption) _ (by omega)) (by omega) ?_) | (refine At.ld (by assumption) rfl ?_) | (refine At.ldN (by assumption) rfl ?_) | (refine Prs.ln (by assumption) ?_) | (refine Trs.ln (by assumption) ?_) | (refine Prs.ix (by assumption) (by omega) ?_) | (refine Trs.ix (by assumption) (by omega) ?_) | (refine Prs.ldN (by assumption) (by omega) ?_) | (refine Trs.ldN (by assumption) (by omega) ?_) | (refine At.ldN (Blk.at (by assumption)) rfl ?_) | (refine At.ld (Blk.at (by assumption)) rfl ?_) | (refine IxA.mk (by omega) ?_) | (refine Sl.ln (Own.sl (by assumption)) ?_) | (refine Ints.ix (Own.sl (by assumption)) (by omega) ?_) | (refine Ints.ixI (Own.sl (by assumption)) (by omega) ?_) | (refine Ints.ld (Own.sl (by assumption)) (by omega) ?_))
      exact ⟨GS, m, F, Z, rfl, HW, by omega, ⟨hF, fun _ _ => rfl, fun v => by omega⟩, Alone.refl, fun h => absurd h (by omega)⟩
    · repeat' ((conv => whnf); first | (refine Dr.quiet tyOk (by kernel_rfl) ?_) | (refine Bls.ixI HZI (by omega) ?_) | (refine Rng.mk (by omega) ?_) | (refine Split.pos (by omega) ?_) | (refine Split.neg (by omega) ?_) | (refine Split.mk (fun h => ?_) (fun h => ?_)) | (refine Need.mk (by omega) ?_) | (refine Ints.ln (by assumption) ?_) | (refine Mat.ln (by assumption) ?_) | (refine Ints.ln (Mat.row (by assumption) _ (by omega)) ?_) | (refine Ints.ix (by assumption) (by omega) ?_) | (refine Mat.ix (by assumption) (by omega) ?_) | (refine Ints.ix (Mat.row (by assumption) _ (by omega)) (by omega) ?_) | (refine Ints.ix (c := 0) (by assumption) (by omega) ?_) | (refine Mat.ix (c := 0) (by assumption) (by omega) ?_) | (refine Ints.ix (c := 0) (Mat.row (by assumption) _ (by omega)) (by omega) ?_) | (refine Ints.ixI (by assumption) (by omega) ?_) | (refine Mat.ixI (by assumption) (by omega) ?_) | (refine Ints.ixI (Mat.row (by assumption) _ (by omega)) (by omega) ?_) | (refine Ints.ld (by assumption) (by omega) ?_) | (refine Mat.ld (by assumption) (by omega) ?_) | (refine Ints.ld (Mat.row (by assumption) _ (by omega)) (by omega) ?_) | (refine At.ld (by assumption) rfl ?_) | (refine At.ldN (by assumption) rfl ?_) | (refine Prs.ln (by assumption) ?_) | (refine Trs.ln (by assumption) ?_) | (refine Prs.ix (by assumption) (by omega) ?_) | (refine Trs.ix (by assumption) (by omega) ?_) | (refine Prs.ldN (by assumption) (by omega) ?_) | (refine Trs.ldN (by assumption) (by omega) ?_) | (refine At.ldN (Blk.at (by assumption)) rfl ?_) | (refine At.ld (Blk.at (by assumption)) rfl ?_) | (refine IxA.mk (by omega) ?_) | (refine Sl.ln (Own.sl (by assumption)) ?_) | (refine Ints.ix (Own.sl (by assumption)) (by omega) ?_) | (refine Ints.ixI (Own.sl (by assumption)) (by omega) ?_) | (refine Ints.ld (Own.sl (by assumption)) (by omega) ?_))
      refine WS.stZ HW (by omega) fun w2 G2 HW => ?_
      have HK := HW.blk
      have HFI := Own.sl HW.hf
      have HZI := Own.sl HW.hz
      have HV := HV0.ext HW.ex
      have hT0 := WayT.start (A := A) (F := F) (st := st) (sk := sk) (Z := Z) hs.1 (by omega) hst' ht.1 h2
      repeat' ((conv => whnf); first | (refine Dr.quiet tyOk (by kernel_rfl) ?_) | (refine Rng.mk (by omega) ?_) | (refine Split.pos (by omega) ?_) | (refine Split.neg (by omega) ?_) | (refine Split.mk (fun h => ?_) (fun h => ?_)) | (refine Need.mk (by omega) ?_) | (refine Ints.ln (by assumption) ?_) | (refine Mat.ln (by assumption) ?_) | (refine Ints.ln (Mat.row (by assumption) _ (by omega)) ?_) | (refine Ints.ix (by assumption) (by omega) ?_) | (refine Mat.ix (by assumption) (by omega) ?_) | (refine Ints.ix (Mat.row (by assumption) _ (by omega)) (by omega) ?_) | (refine Ints.ix (c := 0) (by assumption) (by omega) ?_) | (refine Mat.ix (c := 0) (by assumption) (by omega) ?_) | (refine Ints.ix (c := 0) (Mat.row (by assumption) _ (by omega)) (by omega) ?_) | (refine Ints.ixI (by assumption) (by omega) ?_) | (refine Mat.ixI (by assumption) (by omega) ?_) | (refine Ints.ixI (Mat.row (by assumption) _ (by omega)) (by omega) ?_) | (refine Ints.ld (by assumption) (by omega) ?_) | (refine Mat.ld (by assumption) (by omega) ?_) | (refine Ints.ld (Mat.row (by assumption) _ (by omega)) (by omega) ?_) | (refine At.ld (by assumption) rfl ?_) | (refine At.ldN (by assumption) rfl ?_) | (refine Prs.ln (by assumption) ?_) | (refine Trs.ln (by assumption) ?_) | (refine Prs.ix (by assumption) (by omega) ?_) | (refine Trs.ix (by assumption) (by omega) ?_) | (refine Prs.ldN (by assumption) (by omega) ?_) | (refine Trs.ldN (by assumption) (by omega) ?_) | (refine At.ldN (Blk.at (by assumption)) rfl ?_) | (refine At.ld (Blk.at (by assumption)) rfl ?_) | (refine IxA.mk (by omega) ?_) | (refine Sl.ln (Own.sl (by assumption)) ?_) | (refine Ints.ix (Own.sl (by assumption)) (by omega) ?_) | (refine Ints.ixI (Own.sl (by assumption)) (by omega) ?_) | (refine Ints.ld (Own.sl (by assumption)) (by omega) ?_))
      refine Lp.mk tyOk [false, false, false, false, false, false, false, false, true, true, true, true, true, false, false, false, false, false, false, false, false, false, false, false, false, false, false, false, false, false, false, true, true, true, true, true, true, true, true, true, true, true, true, true, true, true, true, true, true, true, true, true, true, true, true, true, true, true, true, true, true, true, true, true, true, true, true, true, true, true, true, true, true, true, true, true, true, true, true, true, true, true, true, true, true, true, true, true, true, true, true, true, true, true, true, true, true, true, true, true, true, true, true, true, true, true, true, true, true, true, true, true, true, true, true, true, true, true, true, true, true, true, true, true, true, true, true, true, true, true, true, true, true, true, true, true, true, true, true, true, true, true, true, true, true, true, true, true, true, true, true, true, true, true, true, true, true, true, true, true, true, true, true, true, true, true, true, true] (fun m fr wr => getK fr 9 fun i => ∃ c : Nat, c ≤ (A.length - sk) ∧ m = (A.length - sk) - c ∧ i = .int .i64 ((sk + c : Nat) : Int) ∧ ((∃ Zc, WS w0 wr b N sv fv zv sk st F Zc ∧ WayT A F st sk s t Z Zc (sk + c))) ∧ (Gr (fun k => w0.heap.size ≤ k) w1 wr)) ((A.length - sk)) ?_ ?_
      · exact ⟨0, Nat.zero_le _, rfl, rfl, ⟨_, HW, hT0⟩, GS.trans G2⟩
      · intro m w2 u8 u9 u10 u11 u12 u31 u32 u33 u34 u35 u36 u37 u38 u39 u40 u41 u42 u43 u44 u45 u46 u47 u48 u49 u50 u51 u52 u53 u54 u55 u56 u57 u58 u59 u60 u61 u62 u63 u64 u65 u66 u67 u68 u69 u70 u71 u72 u73 u74 u75 u76 u77 u78 u79 u80 u81 u82 u83 u84 u85 u86 u87 u88 u89 u90 u91 u92 u93 u94 u95 u96 u97 u98 u99 u100 u101 u102 u103 u104 u105 u106 u107 u108 u109 u110 u111 u112 u113 u114 u115 u116 u117 u118 u119 u120 u121 u122 u123 u124 u125 u126 u127 u128 u129 u130 u131 u132 u133 u134 u135 u136 u137 u138 u139 u140 u141 u142 u143 u144 u145 u146 u147 u148 u149 u150 u151 u152 u153 u154 u155 u156 u157 u158 u159 u160 u161 u162 u163 u164 u165 u166 u167 hR
        obtain ⟨c, hc, rfl, rfl, HL, GS⟩ := hR
        obtain ⟨Zc, HW, hT⟩ := HL
        have HK := HW.blk
        have HFI := Own.sl HW.hf
        have HZI := Own.sl HW.hz
        have HV := HV0.ext HW.ex
        have hzl : Zc.length = N := hT.len.trans hl
        have hcnt := hT.cnt (by omega) h1
        have hgoal := hT.goal
        have hme := hT.me
        by_cases hcl : sk + c < A.length
        · obtain ⟨hf, hto, hne, hc0, hc1⟩ := hk.arc (sk + c) hcl
          have e1 : (A.getD (sk + c) (0, 0, 0)).1 = frm A (sk + c) := rfl
          have e2 : (A.getD (sk + c) (0, 0, 0)).2.1 = too A (sk + c) := rfl
          have e3 : (A.getD (sk + c) (0, 0, 0)).2.2 = cpy A (sk + c) := rfl
          have hFc := hF.2 (sk + c) (by omega)
          repeat' ((conv => whnf); first | (refine Dr.quiet tyOk (by kernel_rfl) ?_) | (refine Rng.mk (by omega) ?_) | (refine Split.pos (by omega) ?_) | (refine Split.neg (by omega) ?_) | (refine Split.mk (fun h => ?_) (fun h => ?_)) | (refine Need.mk (by omega) ?_) | (refine Ints.ln (by assumption) ?_) | (refine Mat.ln (by assumption) ?_) | (refine Ints.ln (Mat.row (by assumption) _ (by omega)) ?_) | (refine Ints.ix (by assumption) (by omega) ?_) | (refine Mat.ix (by assumption) (by omega) ?_) | (refine Ints.ix (Mat.row (by assumption) _ (by omega)) (by omega) ?_) | (refine Ints.ix (c := 0) (by assumption) (by omega) ?_) | (refine Mat.ix (c := 0) (by assumption) (by omega) ?_) | (refine Ints.ix (c := 0) (Mat.row (by assumption) _ (by omega)) (by omega) ?_) | (refine Ints.ixI (by assumption) (by omega) ?_) | (refine Mat.ixI (by assumption) (by omega) ?_) | (refine Ints.ixI (Mat.row (by assumption) _ (by omega)) (by omega) ?_) | (refine Ints.ld (by assumption) (by omega) ?_) | (refine Mat.ld (by assumption) (by omega) ?_) | (refine Ints.ld (Mat.row (by assumption) _ (by omega)) (by omega) ?_) | (refine At.ld (by assumption) rfl ?_) | (refine At.ldN (by assumption) rfl ?_) | (refine Prs.ln (by assumption) ?_) | (refine Trs.ln (by assumption) ?_) | (refine Prs.ix (by assumption) (by omega) ?_) | (refine Trs.ix (by assumption) (by omega) ?_) | (refine Prs.ldN (by assumption) (by omega) ?_) | (refine Trs.ldN (by assumption) (by omega) ?_) | (refine At.ldN (Blk.at (by assumption)) rfl ?_) | (refine At.ld (Blk.at (by assumption)) rfl ?_) | (refine IxA.mk (by omega) ?_) | (refine Sl.ln (Own.sl (by assumption)) ?_) | (refine Ints.ix (Own.sl (by assumption)) (by omega) ?_) | (refine Ints.ixI (Own.sl (by assumption)) (by omega) ?_) | (refine Ints.ld (Own.sl (by assumption)) (by omega) ?_))
          have HW__1 := HW
          conv => whnf
          refine VE.alloc eArc fun xb w3 E3 hb_xb Hk => ?_
          replace HW := HW.ext E3
          have EL1 := E3
          have HK := HW.blk
          have HFI := Own.sl HW.hf
          have HZI := Own.sl HW.hz
          have HV := HV0.ext HW.ex
          conv => whnf
          refine Blk.all Hk (by kernel_rfl) (by first | decide | simp) rfl rfl (by intro v hv; simp at hv; rcases hv with rfl | rfl | rfl | rfl | rfl <;> rfl) fun w4 G4 Hk' => ?_
          have E4 : Ext w2 w4 := EL1.new G4 fun i hi hk => by omega
          replace Hk := Hk'
          replace HW := HW__1.ext E4
          replace EL1 := E4
          have HK := HW.blk
          have HFI := Own.sl HW.hf
          have HZI := Own.sl HW.hz
          have HV := HV0.ext HW.ex
          have GS2 := GS.trans (Gr.ofExt EL1)
          by_cases ha : frm A (sk + c) = s
          · by_cases hm1 : Zc.getD (too A (sk + c)).toNat false = true
            · have hT2 := hT.skip (fun v hv => by unfold EdgS at hv; rw [show v = too A (sk + c) by omega]; exact hm1)
              repeat' ((conv => whnf); first | (refine Dr.quiet tyOk (by kernel_rfl) ?_) | (refine Bls.ixI HZI (by omega) ?_) | (refine Bls.ldv HZI hm1 (by omega) ?_) | (refine Rng.mk (by omega) ?_) | (refine Split.pos (by omega) ?_) | (refine Split.neg (by omega) ?_) | (refine Split.mk (fun h => ?_) (fun h => ?_)) | (refine Need.mk (by omega) ?_) | (refine Ints.ln (by assumption) ?_) | (refine Mat.ln (by assumption) ?_) | (refine Ints.ln (Mat.row (by assumption) _ (by omega)) ?_) | (refine Ints.ix (by assumption) (by omega) ?_) | (refine Mat.ix (by assumption) (by omega) ?_) | (refine Ints.ix (Mat.row (by assumption) _ (by omega)) (by omega) ?_) | (refine Ints.ix (c := 0) (by assumption) (by omega) ?_) | (refine Mat.ix (c := 0) (by assumption) (by omega) ?_) | (refine Ints.ix (c := 0) (Mat.row (by assumption) _ (by omega)) (by omega) ?_) | (refine Ints.ixI (by assumption) (by omega) ?_) | (refine Mat.ixI (by assumption) (by omega) ?_) | (refine Ints.ixI (Mat.row (by assumption) _ (by omega)) (by omega) ?_) | (refine Ints.ld (by assumption) (by omega) ?_) | (refine Mat.ld (by assumption) (by omega) ?_) | (refine Ints.ld (Mat.row (by assumption) _ (by omega)) (by omega) ?_) | (refine At.ld (by assumption) rfl ?_) | (refine At.ldN (by assumption) rfl ?_) | (refine Prs.ln (by assumption) ?_) | (refine Trs.ln (by assumption) ?_) | (refine Prs.ix (by assumption) (by omega) ?_) | (refine Trs.ix (by assumption) (by omega) ?_) | (refine Prs.ldN (by assumption) (by omega) ?_) | (refine Trs.ldN (by assumption) (by omega) ?_) | (refine At.ldN (Blk.at (by assumption)) rfl ?_) | (refine At.ld (Blk.at (by assumption)) rfl ?_) | (refine IxA.mk (by omega) ?_) | (refine Sl.ln (Own.sl (by assumption)) ?_) | (refine Ints.ix (Own.sl (by assumption)) (by omega) ?_) | (refine Ints.ixI (Own.sl (by assumption)) (by omega) ?_) | (refine Ints.ld (Own.sl (by assumption)) (by omega) ?_))
              refine ⟨_, (by omega : (A.length - sk) - (c + 1) < (A.length - sk) - c), rfl, c + 1, by omega, rfl, rfl, ⟨Zc, HW, hT2⟩, GS2⟩
            · have hm1 : Zc.getD (too A (sk + c)).toNat false = false := by simpa using hm1
              by_cases hr : st ≤ cpy A (sk + c) - F.getD (sk + c) 0
              · repeat' ((conv => whnf); first | (refine Dr.plan 81 [16] (.q 0 (.q 1 (.q 2 (.q 3 (.q 4 (.q 5 (.q 6 (.q 7 (.q 8 (.q 9 (.q 10 (.q 11 (.q 12 (.q 13 (.q 14 (.q 15 (.e 16 (.q 17 .nil) .nil))))))))))))))))) tyOk rfl (by kernel_rfl) ?_) | (refine Dr.plan 141 [13] (.q 0 (.q 1 (.q 2 (.q 3 (.q 4 (.q 5 (.q 6 (.q 7 (.q 8 (.q 9 (.q 10 (.q 11 (.q 12 (.e 13 (.q 14 .nil) .nil)))))))))))))) tyOk rfl (by kernel_rfl) ?_) | (refine Dr.quiet tyOk (by kernel_rfl) ?_) | (refine Bls.ixI HZI (by omega) ?_) | (refine Bls.ldv HZI hm1 (by omega) ?_) | (refine Rng.mk (by omega) ?_) | (refine Split.pos (by omega) ?_) | (refine Split.neg (by omega) ?_) | (refine Split.mk (fun h => ?_) (fun h => ?_)) | (refine Need.mk (by omega) ?_) | (refine Ints.ln (by assumption) ?_) | (refine Mat.ln (by assumption) ?_) | (refine Ints.ln (Mat.row (by assumption) _ (by omega)) ?_) | (refine Ints.ix (by assumption) (by omega) ?_) | (refine Mat.ix (by assumption) (by omega) ?_) | (refine Ints.ix (Mat.row (by assumption) _ (by omega)) (by omega) ?_) | (refine Ints.ix (c := 0) (by assumption) (by omega) ?_) | (refine Mat.ix (c := 0) (by assumption) (by omega) ?_) | (refine Ints.ix (c := 0) (Mat.row (by assumption) _ (by omega)) (by omega) ?_) | (refine Ints.ixI (by assumption) (by omega) ?_) | (refine Mat.ixI (by assumption) (by omega) ?_) | (refine Ints.ixI (Mat.row (by assumption) _ (by omega)) (by omega) ?_) | (refine Ints.ld (by assumption) (by omega) ?_) | (refine Mat.ld (by assumption) (by omega) ?_) | (refine Ints.ld (Mat.row (by assumption) _ (by omega)) (by omega) ?_) | (refine At.ld (by assumption) rfl ?_) | (refine At.ldN (by assumption) rfl ?_) | (refine Prs.ln (by assumption) ?_) | (refine Trs.ln (by assumption) ?_) | (refine Prs.ix (by assumption) (by omega) ?_) | (refine Trs.ix (by assumption) (by omega) ?_) | (refine Prs.ldN (by assumption) (by omega) ?_) | (refine Trs.ldN (by assumption) (by omega) ?_) | (refine At.ldN (Blk.at (by assumption)) rfl ?_) | (refine At.ld (Blk.at (by assumption)) rfl ?_) | (refine IxA.mk (by omega) ?_) | (refine Sl.ln (Own.sl (by assumption)) ?_) | (refine Ints.ix (Own.sl (by assumption)) (by omega) ?_) | (refine Ints.ixI (Own.sl (by assumption)) (by omega) ?_) | (refine Ints.ld (Own.sl (by assumption)) (by omega) ?_))
                all_goals
                  conv => whnf
                  refine VC.rc (way_rc hk ht hst hsk j (by omega) (by omega) (by omega) hm1 hgoal hzl hF HV0 HW) ?_
                  rintro _ w5 G5 ⟨x, F2, Z2, rfl, HW, hR⟩
                  have HK := HW.blk
                  have HFI := Own.sl HW.hf
                  have HZI := Own.sl HW.hz
                  have HV := HV0.ext HW.ex
                  have hx0 := hR.rng
                  have hal := hR.alone.at (j := sk + c) (by rw [ha]; exact .inl hme)
                  have hFl2 := hR.psh.fl.1
                  have hF2c := hR.psh.fl.2 (sk + c) (by omega)
                  by_cases hx : 0 < x
                  · repeat' ((conv => whnf); first | (refine Dr.quiet tyOk (by kernel_rfl) ?_) | (refine Rng.mk (by omega) ?_) | (refine Split.pos (by omega) ?_) | (refine Split.neg (by omega) ?_) | (refine Split.mk (fun h => ?_) (fun h => ?_)) | (refine Need.mk (by omega) ?_) | (refine Ints.ln (by assumption) ?_) | (refine Mat.ln (by assumption) ?_) | (refine Ints.ln (Mat.row (by assumption) _ (by omega)) ?_) | (refine Ints.ix (by assumption) (by omega) ?_) | (refine Mat.ix (by assumption) (by omega) ?_) | (refine Ints.ix (Mat.row (by assumption) _ (by omega)) (by omega) ?_) | (refine Ints.ix (c := 0) (by assumption) (by omega) ?_) | (refine Mat.ix (c := 0) (by assumption) (by omega) ?_) | (refine Ints.ix (c := 0) (Mat.row (by assumption) _ (by omega)) (by omega) ?_) | (refine Ints.ixI (by assumption) (by omega) ?_) | (refine Mat.ixI (by assumption) (by omega) ?_) | (refine Ints.ixI (Mat.row (by assumption) _ (by omega)) (by omega) ?_) | (refine Ints.ld (by assumption) (by omega) ?_) | (refine Mat.ld (by assumption) (by omega) ?_) | (refine Ints.ld (Mat.row (by assumption) _ (by omega)) (by omega) ?_) | (refine At.ld (by assumption) rfl ?_) | (refine At.ldN (by assumption) rfl ?_) | (refine Prs.ln (by assumption) ?_) | (refine Trs.ln (by assumption) ?_) | (refine Prs.ix (by assumption) (by omega) ?_) | (refine Trs.ix (by assumption) (by omega) ?_) | (refine Prs.ldN (by assumption) (by omega) ?_) | (refine Trs.ldN (by assumption) (by omega) ?_) | (refine At.ldN (Blk.at (by assumption)) rfl ?_) | (refine At.ld (Blk.at (by assumption)) rfl ?_) | (refine IxA.mk (by omega) ?_) | (refine Sl.ln (Own.sl (by assumption)) ?_) | (refine Ints.ix (Own.sl (by assumption)) (by omega) ?_) | (refine Ints.ixI (Own.sl (by assumption)) (by omega) ?_) | (refine Ints.ld (Own.sl (by assumption)) (by omega) ?_))
                    refine WS.stF HW (by omega) fun w6 G6 HW => ?_
                    repeat' ((conv => whnf); first | (refine Dr.quiet tyOk (by kernel_rfl) ?_) | (refine Rng.mk (by omega) ?_) | (refine Split.pos (by omega) ?_) | (refine Split.neg (by omega) ?_) | (refine Split.mk (fun h => ?_) (fun h => ?_)) | (refine Need.mk (by omega) ?_) | (refine Ints.ln (by assumption) ?_) | (refine Mat.ln (by assumption) ?_) | (refine Ints.ln (Mat.row (by assumption) _ (by omega)) ?_) | (refine Ints.ix (by assumption) (by omega) ?_) | (refine Mat.ix (by assumption) (by omega) ?_) | (refine Ints.ix (Mat.row (by assumption) _ (by omega)) (by omega) ?_) | (refine Ints.ix (c := 0) (by assumption) (by omega) ?_) | (refine Mat.ix (c := 0) (by assumption) (by omega) ?_) | (refine Ints.ix (c := 0) (Mat.row (by assumption) _ (by omega)) (by omega) ?_) | (refine Ints.ixI (by assumption) (by omega) ?_) | (refine Mat.ixI (by assumption) (by omega) ?_) | (refine Ints.ixI (Mat.row (by assumption) _ (by omega)) (by omega) ?_) | (refine Ints.ld (by assumption) (by omega) ?_) | (refine Mat.ld (by assumption) (by omega) ?_) | (refine Ints.ld (Mat.row (by assumption) _ (by omega)) (by omega) ?_) | (refine At.ld (by assumption) rfl ?_) | (refine At.ldN (by assumption) rfl ?_) | (refine Prs.ln (by assumption) ?_) | (refine Trs.ln (by assumption) ?_) | (refine Prs.ix (by assumption) (by omega) ?_) | (refine Trs.ix (by assumption) (by omega) ?_) | (refine Prs.ldN (by assumption) (by omega) ?_) | (refine Trs.ldN (by assumption) (by omega) ?_) | (refine At.ldN (Blk.at (by assumption)) rfl ?_) | (refine At.ld (Blk.at (by assumption)) rfl ?_) | (refine IxA.mk (by omega) ?_) | (refine Sl.ln (Own.sl (by assumption)) ?_) | (refine Ints.ix (Own.sl (by assumption)) (by omega) ?_) | (refine Ints.ixI (Own.sl (by assumption)) (by omega) ?_) | (refine Ints.ld (Own.sl (by assumption)) (by omega) ?_))
                    have h5 := psh_forth (x := x) (k := sk) hR.psh.fl hcl (Nat.le_add_right sk c) hx0.1 (by omega)
                    rw [ha] at h5
                    have hz2 : Z.getD (too A (sk + c)).toNat false = false := by
                      refine Classical.byContradiction fun hn => ?_
                      have := hT.up _ (by simpa using hn)
                      rw [hm1] at this; cases this
                    exact ⟨((GS2.trans G5).trans G6), x, _, Z2, rfl, HW, by omega, hR.psh.leg2 h5, hR.alone.set hT.up (by rw [ha]; exact h1) hz2 (by omega), fun h => absurd h (by omega)⟩
                  · obtain rfl : x = 0 := by omega
                    obtain ⟨hF2, hT3⟩ := hR.none rfl
                    rw [hF2] at HW
                    have hT2 := hT.call hT3 (fun v hv => by unfold EdgS at hv; omega)
                    repeat' ((conv => whnf); first | (refine Dr.quiet tyOk (by kernel_rfl) ?_) | (refine Rng.mk (by omega) ?_) | (refine Split.pos (by omega) ?_) | (refine Split.neg (by omega) ?_) | (refine Split.mk (fun h => ?_) (fun h => ?_)) | (refine Need.mk (by omega) ?_) | (refine Ints.ln (by assumption) ?_) | (refine Mat.ln (by assumption) ?_) | (refine Ints.ln (Mat.row (by assumption) _ (by omega)) ?_) | (refine Ints.ix (by assumption) (by omega) ?_) | (refine Mat.ix (by assumption) (by omega) ?_) | (refine Ints.ix (Mat.row (by assumption) _ (by omega)) (by omega) ?_) | (refine Ints.ix (c := 0) (by assumption) (by omega) ?_) | (refine Mat.ix (c := 0) (by assumption) (by omega) ?_) | (refine Ints.ix (c := 0) (Mat.row (by assumption) _ (by omega)) (by omega) ?_) | (refine Ints.ixI (by assumption) (by omega) ?_) | (refine Mat.ixI (by assumption) (by omega) ?_) | (refine Ints.ixI (Mat.row (by assumption) _ (by omega)) (by omega) ?_) | (refine Ints.ld (by assumption) (by omega) ?_) | (refine Mat.ld (by assumption) (by omega) ?_) | (refine Ints.ld (Mat.row (by assumption) _ (by omega)) (by omega) ?_) | (refine At.ld (by assumption) rfl ?_) | (refine At.ldN (by assumption) rfl ?_) | (refine Prs.ln (by assumption) ?_) | (refine Trs.ln (by assumption) ?_) | (refine Prs.ix (by assumption) (by omega) ?_) | (refine Trs.ix (by assumption) (by omega) ?_) | (refine Prs.ldN (by assumption) (by omega) ?_) | (refine Trs.ldN (by assumption) (by omega) ?_) | (refine At.ldN (Blk.at (by assumption)) rfl ?_) | (refine At.ld (Blk.at (by assumption)) rfl ?_) | (refine IxA.mk (by omega) ?_) | (refine Sl.ln (Own.sl (by assumption)) ?_) | (refine Ints.ix (Own.sl (by assumption)) (by omega) ?_) | (refine Ints.ixI (Own.sl (by assumption)) (by omega) ?_) | (refine Ints.ld (Own.sl (by assumption)) (by omega) ?_))
                    refine ⟨_, (by omega : (A.length - sk) - (c + 1) < (A.length - sk) - c), rfl, c + 1, by omega, rfl, rfl, ⟨Z2, HW, hT2⟩, GS2.trans G5⟩
              · have hT2 := hT.skip (fun v hv => by unfold EdgS at hv; omega)
                repeat' ((conv => whnf); first | (refine Dr.quiet tyOk (by kernel_rfl) ?_) | (refine Bls.ixI HZI (by omega) ?_) | (refine Bls.ldv HZI hm1 (by omega) ?_) | (refine Rng.mk (by omega) ?_) | (refine Split.pos (by omega) ?_) | (refine Split.neg (by omega) ?_) | (refine Split.mk (fun h => ?_) (fun h => ?_)) | (refine Need.mk (by omega) ?_) | (refine Ints.ln (by assumption) ?_) | (refine Mat.ln (by assumption) ?_) | (refine Ints.ln (Mat.row (by assumption) _ (by omega)) ?_) | (refine Ints.ix (by assumption) (by omega) ?_) | (refine Mat.ix (by assumption) (by omega) ?_) | (refine Ints.ix (Mat.row (by assumption) _ (by omega)) (by omega) ?_) | (refine Ints.ix (c := 0) (by assumption) (by omega) ?_) | (refine Mat.ix (c := 0) (by assumption) (by omega) ?_) | (refine Ints.ix (c := 0) (Mat.row (by assumption) _ (by omega)) (by omega) ?_) | (refine Ints.ixI (by assumption) (by omega) ?_) | (refine Mat.ixI (by assumption) (by omega) ?_) | (refine Ints.ixI (Mat.row (by assumption) _ (by omega)) (by omega) ?_) | (refine Ints.ld (by assumption) (by omega) ?_) | (refine Mat.ld (by assumption) (by omega) ?_) | (refine Ints.ld (Mat.row (by assumption) _ (by omega)) (by omega) ?_) | (refine At.ld (by assumption) rfl ?_) | (refine At.ldN (by assumption) rfl ?_) | (refine Prs.ln (by assumption) ?_) | (refine Trs.ln (by assumption) ?_) | (refine Prs.ix (by assumption) (by omega) ?_) | (refine Trs.ix (by assumption) (by omega) ?_) | (refine Prs.ldN (by assumption) (by omega) ?_) | (refine Trs.ldN (by assumption) (by omega) ?_) | (refine At.ldN (Blk.at (by assumption)) rfl ?_) | (refine At.ld (Blk.at (by assumption)) rfl ?_) | (refine IxA.mk (by omega) ?_) | (refine Sl.ln (Own.sl (by assumption)) ?_) | (refine Ints.ix (Own.sl (by assumption)) (by omega) ?_) | (refine Ints.ixI (Own.sl (by assumption)) (by omega) ?_) | (refine Ints.ld (Own.sl (by assumption)) (by omega) ?_))
                refine ⟨_, (by omega : (A.length - sk) - (c + 1) < (A.length - sk) - c), rfl, c + 1, by omega, rfl, rfl, ⟨Zc, HW, hT2⟩, GS2⟩
          · by_cases hb : too A (sk + c) = s
            · by_cases hm1 : Zc.getD (frm A (sk + c)).toNat false = true
              · have hT2 := hT.skip (fun v hv => by unfold EdgS at hv; rw [show v = frm A (sk + c) by omega]; exact hm1)
                repeat' ((conv => whnf); first | (refine Dr.quiet tyOk (by kernel_rfl) ?_) | (refine Bls.ixI HZI (by omega) ?_) | (refine Bls.ldv HZI hm1 (by omega) ?_) | (refine Rng.mk (by omega) ?_) | (refine Split.pos (by omega) ?_) | (refine Split.neg (by omega) ?_) | (refine Split.mk (fun h => ?_) (fun h => ?_)) | (refine Need.mk (by omega) ?_) | (refine Ints.ln (by assumption) ?_) | (refine Mat.ln (by assumption) ?_) | (refine Ints.ln (Mat.row (by assumption) _ (by omega)) ?_) | (refine Ints.ix (by assumption) (by omega) ?_) | (refine Mat.ix (by assumption) (by omega) ?_) | (refine Ints.ix (Mat.row (by assumption) _ (by omega)) (by omega) ?_) | (refine Ints.ix (c := 0) (by assumption) (by omega) ?_) | (refine Mat.ix (c := 0) (by assumption) (by omega) ?_) | (refine Ints.ix (c := 0) (Mat.row (by assumption) _ (by omega)) (by omega) ?_) | (refine Ints.ixI (by assumption) (by omega) ?_) | (refine Mat.ixI (by assumption) (by omega) ?_) | (refine Ints.ixI (Mat.row (by assumption) _ (by omega)) (by omega) ?_) | (refine Ints.ld (by assumption) (by omega) ?_) | (refine Mat.ld (by assumption) (by omega) ?_) | (refine Ints.ld (Mat.row (by assumption) _ (by omega)) (by omega) ?_) | (refine At.ld (by assumption) rfl ?_) | (refine At.ldN (by assumption) rfl ?_) | (refine Prs.ln (by assumption) ?_) | (refine Trs.ln (by assumption) ?_) | (refine Prs.ix (by assumption) (by omega) ?_) | (refine Trs.ix (by assumption) (by omega) ?_) | (refine Prs.ldN (by assumption) (by omega) ?_) | (refine Trs.ldN (by assumption) (by omega) ?_) | (refine At.ldN (Blk.at (by assumption)) rfl ?_) | (refine At.ld (Blk.at (by assumption)) rfl ?_) | (refine IxA.mk (by omega) ?_) | (refine Sl.ln (Own.sl (by assumption)) ?_) | (refine Ints.ix (Own.sl (by assumption)) (by omega) ?_) | (refine Ints.ixI (Own.sl (by assumption)) (by omega) ?_) | (refine Ints.ld (Own.sl (by assumption)) (by omega) ?_))
                refine ⟨_, (by omega : (A.length - sk) - (c + 1) < (A.length - sk) - c), rfl, c + 1, by omega, rfl, rfl, ⟨Zc, HW, hT2⟩, GS2⟩
              · have hm1 : Zc.getD (frm A (sk + c)).toNat false = false := by simpa using hm1
                by_cases hr : st ≤ F.getD (sk + c) 0
                · repeat' ((conv => whnf); first | (refine Dr.plan 81 [16] (.q 0 (.q 1 (.q 2 (.q 3 (.q 4 (.q 5 (.q 6 (.q 7 (.q 8 (.q 9 (.q 10 (.q 11 (.q 12 (.q 13 (.q 14 (.q 15 (.e 16 (.q 17 .nil) .nil))))))))))))))))) tyOk rfl (by kernel_rfl) ?_) | (refine Dr.plan 141 [13] (.q 0 (.q 1 (.q 2 (.q 3 (.q 4 (.q 5 (.q 6 (.q 7 (.q 8 (.q 9 (.q 10 (.q 11 (.q 12 (.e 13 (.q 14 .nil) .nil)))))))))))))) tyOk rfl (by kernel_rfl) ?_) | (refine Dr.quiet tyOk (by kernel_rfl) ?_) | (refine Bls.ixI HZI (by omega) ?_) | (refine Bls.ldv HZI hm1 (by omega) ?_) | (refine Rng.mk (by omega) ?_) | (refine Split.pos (by omega) ?_) | (refine Split.neg (by omega) ?_) | (refine Split.mk (fun h => ?_) (fun h => ?_)) | (refine Need.mk (by omega) ?_) | (refine Ints.ln (by assumption) ?_) | (refine Mat.ln (by assumption) ?_) | (refine Ints.ln (Mat.row (by assumption) _ (by omega)) ?_) | (refine Ints.ix (by assumption) (by omega) ?_) | (refine Mat.ix (by assumption) (by omega) ?_) | (refine Ints.ix (Mat.row (by assumption) _ (by omega)) (by omega) ?_) | (refine Ints.ix (c := 0) (by assumption) (by omega) ?_) | (refine Mat.ix (c := 0) (by assumption) (by omega) ?_) | (refine Ints.ix (c := 0) (Mat.row (by assumption) _ (by omega)) (by omega) ?_) | (refine Ints.ixI (by assumption) (by omega) ?_) | (refine Mat.ixI (by assumption) (by omega) ?_) | (refine Ints.ixI (Mat.row (by assumption) _ (by omega)) (by omega) ?_) | (refine Ints.ld (by assumption) (by omega) ?_) | (refine Mat.ld (by assumption) (by omega) ?_) | (refine Ints.ld (Mat.row (by assumption) _ (by omega)) (by omega) ?_) | (refine At.ld (by assumption) rfl ?_) | (refine At.ldN (by assumption) rfl ?_) | (refine Prs.ln (by assumption) ?_) | (refine Trs.ln (by assumption) ?_) | (refine Prs.ix (by assumption) (by omega) ?_) | (refine Trs.ix (by assumption) (by omega) ?_) | (refine Prs.ldN (by assumption) (by omega) ?_) | (refine Trs.ldN (by assumption) (by omega) ?_) | (refine At.ldN (Blk.at (by assumption)) rfl ?_) | (refine At.ld (Blk.at (by assumption)) rfl ?_) | (refine IxA.mk (by omega) ?_) | (refine Sl.ln (Own.sl (by assumption)) ?_) | (refine Ints.ix (Own.sl (by assumption)) (by omega) ?_) | (refine Ints.ixI (Own.sl (by assumption)) (by omega) ?_) | (refine Ints.ld (Own.sl (by assumption)) (by omega) ?_))
                  all_goals
                    conv => whnf
                    refine VC.rc (way_rc hk ht hst hsk j (by omega) (by omega) (by omega) hm1 hgoal hzl hF HV0 HW) ?_
                    rintro _ w5 G5 ⟨x, F2, Z2, rfl, HW, hR⟩
                    have HK := HW.blk
                    have HFI := Own.sl HW.hf
                    have HZI := Own.sl HW.hz
                    have HV := HV0.ext HW.ex
                    have hx0 := hR.rng
                    have hal := hR.alone.at (j := sk + c) (by rw [hb]; exact .inr hme)
                    have hFl2 := hR.psh.fl.1
                    have hF2c := hR.psh.fl.2 (sk + c) (by omega)
                    by_cases hx : 0 < x
                    · repeat' ((conv => whnf); first | (refine Dr.quiet tyOk (by kernel_rfl) ?_) | (refine Rng.mk (by omega) ?_) | (refine Split.pos (by omega) ?_) | (refine Split.neg (by omega) ?_) | (refine Split.mk (fun h => ?_) (fun h => ?_)) | (refine Need.mk (by omega) ?_) | (refine Ints.ln (by assumption) ?_) | (refine Mat.ln (by assumption) ?_) | (refine Ints.ln (Mat.row (by assumption) _ (by omega)) ?_) | (refine Ints.ix (by assumption) (by omega) ?_) | (refine Mat.ix (by assumption) (by omega) ?_) | (refine Ints.ix (Mat.row (by assumption) _ (by omega)) (by omega) ?_) | (refine Ints.ix (c := 0) (by assumption) (by omega) ?_) | (refine Mat.ix (c := 0) (by assumption) (by omega) ?_) | (refine Ints.ix (c := 0) (Mat.row (by assumption) _ (by omega)) (by omega) ?_) | (refine Ints.ixI (by assumption) (by omega) ?_) | (refine Mat.ixI (by assumption) (by omega) ?_) | (refine Ints.ixI (Mat.row (by assumption) _ (by omega)) (by omega) ?_) | (refine Ints.ld (by assumption) (by omega) ?_) | (refine Mat.ld (by assumption) (by omega) ?_) | (refine Ints.ld (Mat.row (by assumption) _ (by omega)) (by omega) ?_) | (refine At.ld (by assumption) rfl ?_) | (refine At.ldN (by assumption) rfl ?_) | (refine Prs.ln (by assumption) ?_) | (refine Trs.ln (by assumption) ?_) | (refine Prs.ix (by assumption) (by omega) ?_) | (refine Trs.ix (by assumption) (by omega) ?_) | (refine Prs.ldN (by assumption) (by omega) ?_) | (refine Trs.ldN (by assumption) (by omega) ?_) | (refine At.ldN (Blk.at (by assumption)) rfl ?_) | (refine At.ld (Blk.at (by assumption)) rfl ?_) | (refine IxA.mk (by omega) ?_) | (refine Sl.ln (Own.sl (by assumption)) ?_) | (refine Ints.ix (Own.sl (by assumption)) (by omega) ?_) | (refine Ints.ixI (Own.sl (by assumption)) (by omega) ?_) | (refine Ints.ld (Own.sl (by assumption)) (by omega) ?_))
                      refine WS.stF HW (by omega) fun w6 G6 HW => ?_
                      repeat' ((conv => whnf); first | (refine Dr.quiet tyOk (by kernel_rfl) ?_) | (refine Rng.mk (by omega) ?_) | (refine Split.pos (by omega) ?_) | (refine Split.neg (by omega) ?_) | (refine Split.mk (fun h => ?_) (fun h => ?_)) | (refine Need.mk (by omega) ?_) | (refine Ints.ln (by assumption) ?_) | (refine Mat.ln (by assumption) ?_) | (refine Ints.ln (Mat.row (by assumption) _ (by omega)) ?_) | (refine Ints.ix (by assumption) (by omega) ?_) | (refine Mat.ix (by assumption) (by omega) ?_) | (refine Ints.ix (Mat.row (by assumption) _ (by omega)) (by omega) ?_) | (refine Ints.ix (c := 0) (by assumption) (by omega) ?_) | (refine Mat.ix (c := 0) (by assumption) (by omega) ?_) | (refine Ints.ix (c := 0) (Mat.row (by assumption) _ (by omega)) (by omega) ?_) | (refine Ints.ixI (by assumption) (by omega) ?_) | (refine Mat.ixI (by assumption) (by omega) ?_) | (refine Ints.ixI (Mat.row (by assumption) _ (by omega)) (by omega) ?_) | (refine Ints.ld (by assumption) (by omega) ?_) | (refine Mat.ld (by assumption) (by omega) ?_) | (refine Ints.ld (Mat.row (by assumption) _ (by omega)) (by omega) ?_) | (refine At.ld (by assumption) rfl ?_) | (refine At.ldN (by assumption) rfl ?_) | (refine Prs.ln (by assumption) ?_) | (refine Trs.ln (by assumption) ?_) | (refine Prs.ix (by assumption) (by omega) ?_) | (refine Trs.ix (by assumption) (by omega) ?_) | (refine Prs.ldN (by assumption) (by omega) ?_) | (refine Trs.ldN (by assumption) (by omega) ?_) | (refine At.ldN (Blk.at (by assumption)) rfl ?_) | (refine At.ld (Blk.at (by assumption)) rfl ?_) | (refine IxA.mk (by omega) ?_) | (refine Sl.ln (Own.sl (by assumption)) ?_) | (refine Ints.ix (Own.sl (by assumption)) (by omega) ?_) | (refine Ints.ixI (Own.sl (by assumption)) (by omega) ?_) | (refine Ints.ld (Own.sl (by assumption)) (by omega) ?_))
                      have h5 := psh_back (x := x) (k := sk) hR.psh.fl hcl (Nat.le_add_right sk c) hx0.1 (by omega)
                      rw [hb] at h5
                      have hz2 : Z.getD (frm A (sk + c)).toNat false = false := by
                        refine Classical.byContradiction fun hn => ?_
                        have := hT.up _ (by simpa using hn)
                        rw [hm1] at this; cases this
                      exact ⟨((GS2.trans G5).trans G6), x, _, Z2, rfl, HW, by omega, hR.psh.leg2 h5, hR.alone.set hT.up hz2 (by rw [hb]; exact h1) (by omega), fun h => absurd h (by omega)⟩
                    · obtain rfl : x = 0 := by omega
                      obtain ⟨hF2, hT3⟩ := hR.none rfl
                      rw [hF2] at HW
                      have hT2 := hT.call hT3 (fun v hv => by unfold EdgS at hv; omega)
                      repeat' ((conv => whnf); first | (refine Dr.quiet tyOk (by kernel_rfl) ?_) | (refine Rng.mk (by omega) ?_) | (refine Split.pos (by omega) ?_) | (refine Split.neg (by omega) ?_) | (refine Split.mk (fun h => ?_) (fun h => ?_)) | (refine Need.mk (by omega) ?_) | (refine Ints.ln (by assumption) ?_) | (refine Mat.ln (by assumption) ?_) | (refine Ints.ln (Mat.row (by assumption) _ (by omega)) ?_) | (refine Ints.ix (by assumption) (by omega) ?_) | (refine Mat.ix (by assumption) (by omega) ?_) | (refine Ints.ix (Mat.row (by assumption) _ (by omega)) (by omega) ?_) | (refine Ints.ix (c := 0) (by assumption) (by omega) ?_) | (refine Mat.ix (c := 0) (by assumption) (by omega) ?_) | (refine Ints.ix (c := 0) (Mat.row (by assumption) _ (by omega)) (by omega) ?_) | (refine Ints.ixI (by assumption) (by omega) ?_) | (refine Mat.ixI (by assumption) (by omega) ?_) | (refine Ints.ixI (Mat.row (by assumption) _ (by omega)) (by omega) ?_) | (refine Ints.ld (by assumption) (by omega) ?_) | (refine Mat.ld (by assumption) (by omega) ?_) | (refine Ints.ld (Mat.row (by assumption) _ (by omega)) (by omega) ?_) | (refine At.ld (by assumption) rfl ?_) | (refine At.ldN (by assumption) rfl ?_) | (refine Prs.ln (by assumption) ?_) | (refine Trs.ln (by assumption) ?_) | (refine Prs.ix (by assumption) (by omega) ?_) | (refine Trs.ix (by assumption) (by omega) ?_) | (refine Prs.ldN (by assumption) (by omega) ?_) | (refine Trs.ldN (by assumption) (by omega) ?_) | (refine At.ldN (Blk.at (by assumption)) rfl ?_) | (refine At.ld (Blk.at (by assumption)) rfl ?_) | (refine IxA.mk (by omega) ?_) | (refine Sl.ln (Own.sl (by assumption)) ?_) | (refine Ints.ix (Own.sl (by assumption)) (by omega) ?_) | (refine Ints.ixI (Own.sl (by assumption)) (by omega) ?_) | (refine Ints.ld (Own.sl (by assumption)) (by omega) ?_))
                      refine ⟨_, (by omega : (A.length - sk) - (c + 1) < (A.length - sk) - c), rfl, c + 1, by omega, rfl, rfl, ⟨Z2, HW, hT2⟩, GS2.trans G5⟩
                · have hT2 := hT.skip (fun v hv => by unfold EdgS at hv; omega)
                  repeat' ((conv => whnf); first | (refine Dr.quiet tyOk (by kernel_rfl) ?_) | (refine Bls.ixI HZI (by omega) ?_) | (refine Bls.ldv HZI hm1 (by omega) ?_) | (refine Rng.mk (by omega) ?_) | (refine Split.pos (by omega) ?_) | (refine Split.neg (by omega) ?_) | (refine Split.mk (fun h => ?_) (fun h => ?_)) | (refine Need.mk (by omega) ?_) | (refine Ints.ln (by assumption) ?_) | (refine Mat.ln (by assumption) ?_) | (refine Ints.ln (Mat.row (by assumption) _ (by omega)) ?_) | (refine Ints.ix (by assumption) (by omega) ?_) | (refine Mat.ix (by assumption) (by omega) ?_) | (refine Ints.ix (Mat.row (by assumption) _ (by omega)) (by omega) ?_) | (refine Ints.ix (c := 0) (by assumption) (by omega) ?_) | (refine Mat.ix (c := 0) (by assumption) (by omega) ?_) | (refine Ints.ix (c := 0) (Mat.row (by assumption) _ (by omega)) (by omega) ?_) | (refine Ints.ixI (by assumption) (by omega) ?_) | (refine Mat.ixI (by assumption) (by omega) ?_) | (refine Ints.ixI (Mat.row (by assumption) _ (by omega)) (by omega) ?_) | (refine Ints.ld (by assumption) (by omega) ?_) | (refine Mat.ld (by assumption) (by omega) ?_) | (refine Ints.ld (Mat.row (by assumption) _ (by omega)) (by omega) ?_) | (refine At.ld (by assumption) rfl ?_) | (refine At.ldN (by assumption) rfl ?_) | (refine Prs.ln (by assumption) ?_) | (refine Trs.ln (by assumption) ?_) | (refine Prs.ix (by assumption) (by omega) ?_) | (refine Trs.ix (by assumption) (by omega) ?_) | (refine Prs.ldN (by assumption) (by omega) ?_) | (refine Trs.ldN (by assumption) (by omega) ?_) | (refine At.ldN (Blk.at (by assumption)) rfl ?_) | (refine At.ld (Blk.at (by assumption)) rfl ?_) | (refine IxA.mk (by omega) ?_) | (refine Sl.ln (Own.sl (by assumption)) ?_) | (refine Ints.ix (Own.sl (by assumption)) (by omega) ?_) | (refine Ints.ixI (Own.sl (by assumption)) (by omega) ?_) | (refine Ints.ld (Own.sl (by assumption)) (by omega) ?_))
                  refine ⟨_, (by omega : (A.length - sk) - (c + 1) < (A.length - sk) - c), rfl, c + 1, by omega, rfl, rfl, ⟨Zc, HW, hT2⟩, GS2⟩
            · have hT2 := hT.skip (fun v hv => by unfold EdgS at hv; omega)
              repeat' ((conv => whnf); first | (refine Dr.quiet tyOk (by kernel_rfl) ?_) | (refine Rng.mk (by omega) ?_) | (refine Split.pos (by omega) ?_) | (refine Split.neg (by omega) ?_) | (refine Split.mk (fun h => ?_) (fun h => ?_)) | (refine Need.mk (by omega) ?_) | (refine Ints.ln (by assumption) ?_) | (refine Mat.ln (by assumption) ?_) | (refine Ints.ln (Mat.row (by assumption) _ (by omega)) ?_) | (refine Ints.ix (by assumption) (by omega) ?_) | (refine Mat.ix (by assumption) (by omega) ?_) | (refine Ints.ix (Mat.row (by assumption) _ (by omega)) (by omega) ?_) | (refine Ints.ix (c := 0) (by assumption) (by omega) ?_) | (refine Mat.ix (c := 0) (by assumption) (by omega) ?_) | (refine Ints.ix (c := 0) (Mat.row (by assumption) _ (by omega)) (by omega) ?_) | (refine Ints.ixI (by assumption) (by omega) ?_) | (refine Mat.ixI (by assumption) (by omega) ?_) | (refine Ints.ixI (Mat.row (by assumption) _ (by omega)) (by omega) ?_) | (refine Ints.ld (by assumption) (by omega) ?_) | (refine Mat.ld (by assumption) (by omega) ?_) | (refine Ints.ld (Mat.row (by assumption) _ (by omega)) (by omega) ?_) | (refine At.ld (by assumption) rfl ?_) | (refine At.ldN (by assumption) rfl ?_) | (refine Prs.ln (by assumption) ?_) | (refine Trs.ln (by assumption) ?_) | (refine Prs.ix (by assumption) (by omega) ?_) | (refine Trs.ix (by assumption) (by omega) ?_) | (refine Prs.ldN (by assumption) (by omega) ?_) | (refine Trs.ldN (by assumption) (by omega) ?_) | (refine At.ldN (Blk.at (by assumption)) rfl ?_) | (refine At.ld (Blk.at (by assumption)) rfl ?_) | (refine IxA.mk (by omega) ?_) | (refine Sl.ln (Own.sl (by assumption)) ?_) | (refine Ints.ix (Own.sl (by assumption)) (by omega) ?_) | (refine Ints.ixI (Own.sl (by assumption)) (by omega) ?_) | (refine Ints.ld (Own.sl (by assumption)) (by omega) ?_))
              refine ⟨_, (by omega : (A.length - sk) - (c + 1) < (A.length - sk) - c), rfl, c + 1, by omega, rfl, rfl, ⟨Zc, HW, hT2⟩, GS2⟩
        · have hce : sk + c = A.length := by omega
          rw [hce] at hT
          repeat' ((conv => whnf); first | (refine Dr.quiet tyOk (by kernel_rfl) ?_) | (refine Rng.mk (by omega) ?_) | (refine Split.pos (by omega) ?_) | (refine Split.neg (by omega) ?_) | (refine Split.mk (fun h => ?_) (fun h => ?_)) | (refine Need.mk (by omega) ?_) | (refine Ints.ln (by assumption) ?_) | (refine Mat.ln (by assumption) ?_) | (refine Ints.ln (Mat.row (by assumption) _ (by omega)) ?_) | (refine Ints.ix (by assumption) (by omega) ?_) | (refine Mat.ix (by assumption) (by omega) ?_) | (refine Ints.ix (Mat.row (by assumption) _ (by omega)) (by omega) ?_) | (refine Ints.ix (c := 0) (by assumption) (by omega) ?_) | (refine Mat.ix (c := 0) (by assumption) (by omega) ?_) | (refine Ints.ix (c := 0) (Mat.row (by assumption) _ (by omega)) (by omega) ?_) | (refine Ints.ixI (by assumption) (by omega) ?_) | (refine Mat.ixI (by assumption) (by omega) ?_) | (refine Ints.ixI (Mat.row (by assumption) _ (by omega)) (by omega) ?_) | (refine Ints.ld (by assumption) (by omega) ?_) | (refine Mat.ld (by assumption) (by omega) ?_) | (refine Ints.ld (Mat.row (by assumption) _ (by omega)) (by omega) ?_) | (refine At.ld (by assumption) rfl ?_) | (refine At.ldN (by assumption) rfl ?_) | (refine Prs.ln (by assumption) ?_) | (refine Trs.ln (by assumption) ?_) | (refine Prs.ix (by assumption) (by omega) ?_) | (refine Trs.ix (by assumption) (by omega) ?_) | (refine Prs.ldN (by assumption) (by omega) ?_) | (refine Trs.ldN (by assumption) (by omega) ?_) | (refine At.ldN (Blk.at (by assumption)) rfl ?_) | (refine At.ld (Blk.at (by assumption)) rfl ?_) | (refine IxA.mk (by omega) ?_) | (refine Sl.ln (Own.sl (by assumption)) ?_) | (refine Ints.ix (Own.sl (by assumption)) (by omega) ?_) | (refine Ints.ixI (Own.sl (by assumption)) (by omega) ?_) | (refine Ints.ld (Own.sl (by assumption)) (by omega) ?_))
          exact ⟨GS, 0, F, Zc, rfl, HW, by omega, Psh.refl hF, Alone.refl, fun _ => ⟨rfl, hT⟩⟩
end Go.Proofs.Ytpdldifklgpikaa
set_option linter.unusedVariables false
set_option linter.unusedSimpArgs false
namespace Go.Proofs.Ytpdldifklgpikaa
open Go.Eng
set_option maxRecDepth 100000
set_option maxHeartbeats 4000000

section
variable {w0 w : World} {b N : Nat} {sv fv zv : Value} {sk : Nat} {st : Int} {F : List Int} {Z : List Bool}
theorem WS.stT (h : WS w0 w b N sv fv zv sk st F Z) {y z : Int} {K : World → Prop} (e : z = y) (hK : ∀ w', Gr (fun k => w0.heap.size ≤ k) w w' → WS w0 w' b N sv fv zv sk y F Z → K w') : St w ((⟨b, 0, none⟩ : Addr).add 5) (.int .i64 z) K := by
  subst e
  exact Blk.setA h.blk (by simp) rfl fun w' hg hb => hK w' (hg.mono fun k _ e => by have := h.bB; omega) ⟨h.ex.new hg (fun i hi e => by have := h.bB; omega), h.bB, hb, Own.blk h.hf h.blk (by decide) hg, Own.blk h.hz h.blk (by decide) hg⟩
theorem WS.stK (h : WS w0 w b N sv fv zv sk st F Z) {y : Nat} {z : Int} {K : World → Prop} (e : z = (y : Int)) (hK : ∀ w', Gr (fun k => w0.heap.size ≤ k) w w' → WS w0 w' b N sv fv zv y st F Z → K w') : St w ((⟨b, 0, none⟩ : Addr).add 4) (.int .i64 z) K := by
  subst e
  exact Blk.setA h.blk (by simp) rfl fun w' hg hb => hK w' (hg.mono fun k _ e => by have := h.bB; omega) ⟨h.ex.new hg (fun i hi e => by have := h.bB; omega), h.bB, hb, Own.blk h.hf h.blk (by decide) hg, Own.blk h.hz h.blk (by decide) hg⟩
theorem WS.stS (h : WS w0 w b N sv fv zv sk st F Z) {zu : Value} {Y : List Bool} {K : World → Prop} (hy : OZ w0.heap.size w zu Y) (hK : ∀ w', Gr (fun k => w0.heap.size ≤ k) w w' → WS w0 w' b N sv fv zu sk st F Y → K w') : St w ((⟨b, 0, none⟩ : Addr).add 3) zu K :=
  Blk.setA h.blk (by simp) (Sl.cells (Own.sl hy)).2 fun w' hg hb => hK w' (hg.mono fun k _ e => by have := h.bB; omega) ⟨h.ex.new hg (fun i hi e => by have := h.bB; omega), h.bB, hb, Own.blk h.hf h.blk (by decide) hg, Own.blk hy h.blk (by decide) hg⟩
end
theorem hv_rng : ∀ e : Nat, e ≤ 20 → 1 ≤ 1048576 / 2 ^ e ∧ 1048576 / 2 ^ e ≤ 1048576 := by decide
theorem hv_half : ∀ e : Nat, e ≤ 20 → 1048576 / 2 ^ e / 2 = 1048576 / 2 ^ (e + 1) := by decide
theorem rep_false (N u : Nat) : (List.replicate N false).getD u false = false := by simp only [List.getD, List.getElem?_replicate]; split <;> rfl

theorem push_rc {N : Nat} {A : List T3} {sv : Value} {s t : Int} {sk : Nat} {w0 w : World} {b : Nat} {fv zv : Value} {F : List Int} {Z : List Bool} {st mo : Int} (hk : NetOk N A) (hs : 0 ≤ s ∧ s < N) (ht : 0 ≤ t ∧ t < N) (hsk : sk ≤ A.length) (hm : 0 ≤ mo ∧ mo ≤ 200000000) (hF : isF A F) (HV0 : Trs w0 sv A) (HW : WS w0 w b N sv fv zv sk st F Z) :
    RC Try.prog 42 [.pointer (some ⟨b, 0, none⟩), .int .i64 s, .int .i64 t, .int .i64 mo] w (fun k => w0.heap.size ≤ k) (fun u w' => ∃ x F' zu Z' st', u = .int .i64 x ∧ WS w0 w' b N sv fv zu sk st' F' Z' ∧ (0 ≤ x ∧ x ≤ mo) ∧ Psh A F F' s t sk x ∧ (x = mo ∨ NoWay A F' s t sk)) := by
  have h40 := hk.n40
  refine RC.mk tyOk Try.func42 rfl (by kernel_rfl) fun w1 E1 => ?_
  replace HW := HW.ext E1
  have EE := Ext.refl w1
  have HK := HW.blk
  have HV := HV0.ext HW.ex
  have GS : Gr (fun k => w0.heap.size ≤ k) w1 w1 := Gr.refl _ _
  repeat' ((conv => whnf); first | (refine Dr.quiet tyOk (by kernel_rfl) ?_) | (refine Rng.mk (by omega) ?_) | (refine Split.pos (by omega) ?_) | (refine Split.neg (by omega) ?_) | (refine Split.mk (fun h => ?_) (fun h => ?_)) | (refine Need.mk (by omega) ?_) | (refine Ints.ln (by assumption) ?_) | (refine Mat.ln (by assumption) ?_) | (refine Ints.ln (Mat.row (by assumption) _ (by omega)) ?_) | (refine Ints.ix (by assumption) (by omega) ?_) | (refine Mat.ix (by assumption) (by omega) ?_) | (refine Ints.ix (Mat.row (by assumption) _ (by omega)) (by omega) ?_) | (refine Ints.ix (c := 0) (by assumption) (by omega) ?_) | (refine Mat.ix (c := 0) (by assumption) (by omega) ?_) | (refine Ints.ix (c := 0) (Mat.row (by assumption) _ (by omega)) (by omega) ?_) | (refine Ints.ixI (by assumption) (by omega) ?_) | (refine Mat.ixI (by assumption) (by omega) ?_) | (refine Ints.ixI (Mat.row (by assumption) _ (by omega)) (by omega) ?_) | (refine Ints.ld (by assumption) (by omega) ?_) | (refine Mat.ld (by assumption) (by omega) ?_) | (refine Ints.ld (Mat.row (by assumption) _ (by omega)) (by omega) ?_) | (refine At.ld (by assumption) rfl ?_) | (refine At.ldN (by assumption) rfl ?_) | (refine Prs.ln (by assumption) ?_) | (refine Trs.ln (by assumption) ?_) | (refine Prs.ix (by assumption) (by omega) ?_) | (refine Trs.ix (by assumption) (by omega) ?_) | (refine Prs.ldN (by assumption) (by omega) ?_) | (refine Trs.ldN (by assumption) (by omega) ?_) | (refine At.ldN (Blk.at (by assumption)) rfl ?_) | (refine At.ld (Blk.at (by assumption)) rfl ?_) | (refine IxA.mk (by omega) ?_) | (refine Sl.ln (Own.sl (by assumption)) ?_) | (refine Ints.ix (Own.sl (by assumption)) (by omega) ?_) | (refine Ints.ixI (Own.sl (by assumption)) (by omega) ?_) | (refine Ints.ld (Own.sl (by assumption)) (by omega) ?_))
  refine WS.stT HW (y := ((1048576 / 2 ^ 0 : Nat) : Int)) (by decide) fun w2 G2 HW => ?_
  repeat' ((conv => whnf); first | (refine Dr.quiet tyOk (by kernel_rfl) ?_) | (refine Rng.mk (by omega) ?_) | (refine Split.pos (by omega) ?_) | (refine Split.neg (by omega) ?_) | (refine Split.mk (fun h => ?_) (fun h => ?_)) | (refine Need.mk (by omega) ?_) | (refine Ints.ln (by assumption) ?_) | (refine Mat.ln (by assumption) ?_) | (refine Ints.ln (Mat.row (by assumption) _ (by omega)) ?_) | (refine Ints.ix (by assumption) (by omega) ?_) | (refine Mat.ix (by assumption) (by omega) ?_) | (refine Ints.ix (Mat.row (by assumption) _ (by omega)) (by omega) ?_) | (refine Ints.ix (c := 0) (by assumption) (by omega) ?_) | (refine Mat.ix (c := 0) (by assumption) (by omega) ?_) | (refine Ints.ix (c := 0) (Mat.row (by assumption) _ (by omega)) (by omega) ?_) | (refine Ints.ixI (by assumption) (by omega) ?_) | (refine Mat.ixI (by assumption) (by omega) ?_) | (refine Ints.ixI (Mat.row (by assumption) _ (by omega)) (by omega) ?_) | (refine Ints.ld (by assumption) (by omega) ?_) | (refine Mat.ld (by assumption) (by omega) ?_) | (refine Ints.ld (Mat.row (by assumption) _ (by omega)) (by omega) ?_) | (refine At.ld (by assumption) rfl ?_) | (refine At.ldN (by assumption) rfl ?_) | (refine Prs.ln (by assumption) ?_) | (refine Trs.ln (by assumption) ?_) | (refine Prs.ix (by assumption) (by omega) ?_) | (refine Trs.ix (by assumption) (by omega) ?_) | (refine Prs.ldN (by assumption) (by omega) ?_) | (refine Trs.ldN (by assumption) (by omega) ?_) | (refine At.ldN (Blk.at (by assumption)) rfl ?_) | (refine At.ld (Blk.at (by assumption)) rfl ?_) | (refine IxA.mk (by omega) ?_) | (refine Sl.ln (Own.sl (by assumption)) ?_) | (refine Ints.ix (Own.sl (by assumption)) (by omega) ?_) | (refine Ints.ixI (Own.sl (by assumption)) (by omega) ?_) | (refine Ints.ld (Own.sl (by assumption)) (by omega) ?_))
  refine Lp.mk tyOk [false, false, false, false, false, false, false, false, false, true, true, false, false, false, true, true, true, true, true, true, true, true, true, true, true, true, true, true, true, true, true, true, true, true, true, true, true, true, true, true, true, true, true, true, true, true, true, true, true, true, true, true] (fun m fr wr => getK fr 9 fun su => ∃ c : Nat, c ≤ (mo.toNat + 21) ∧ m = (mo.toNat + 21) - c ∧ ((∃ X e zu Y F', su = .int .i64 X ∧ WS w0 wr b N sv fv zu sk ((1048576 / 2 ^ e : Nat) : Int) F' Y ∧ (0 ≤ X ∧ X ≤ mo) ∧ Psh A F F' s t sk X ∧ e ≤ 21 ∧ c ≤ X.toNat + e ∧ (e = 21 → NoWay A F' s t sk))) ∧ (Gr (fun k => w0.heap.size ≤ k) w1 wr)) ((mo.toNat + 21)) ?_ ?_
  · exact ⟨0, Nat.zero_le _, rfl, ⟨0, 0, _, _, _, rfl, HW, by omega, Psh.refl hF, by omega, by omega, fun h => absurd h (by omega)⟩, GS.trans G2⟩
  · intro m w2 u9 u10 u14 u15 u16 u17 u18 u19 u20 u21 u22 u23 u24 u25 u26 u27 u28 u29 u30 u31 u32 u33 u34 u35 u36 u37 u38 u39 u40 u41 u42 u43 u44 u45 u46 u47 u48 u49 u50 u51 hR
    obtain ⟨c, hc, rfl, HL, GS⟩ := hR
    obtain ⟨X, e, zu, Y, F2, rfl, HW, hX, hP, he, hce, hno⟩ := HL
    have HK := HW.blk
    have HV := HV0.ext HW.ex
    by_cases hXm : X < mo
    · by_cases he2 : e ≤ 20
      · have h1 := hv_rng e he2
        obtain ⟨S, hS⟩ : ∃ S, 1048576 / 2 ^ e = S := ⟨_, rfl⟩
        have hSh := hv_half e he2
        rw [hS] at h1 hSh HW HK
        repeat' ((conv => whnf); first | (refine Dr.quiet tyOk (by kernel_rfl) ?_) | (refine Rng.mk (by omega) ?_) | (refine Split.pos (by omega) ?_) | (refine Split.neg (by omega) ?_) | (refine Split.mk (fun h => ?_) (fun h => ?_)) | (refine Need.mk (by omega) ?_) | (refine Ints.ln (by assumption) ?_) | (refine Mat.ln (by assumption) ?_) | (refine Ints.ln (Mat.row (by assumption) _ (by omega)) ?_) | (refine Ints.ix (by assumption) (by omega) ?_) | (refine Mat.ix (by assumption) (by omega) ?_) | (refine Ints.ix (Mat.row (by assumption) _ (by omega)) (by omega) ?_) | (refine Ints.ix (c := 0) (by assumption) (by omega) ?_) | (refine Mat.ix (c := 0) (by assumption) (by omega) ?_) | (refine Ints.ix (c := 0) (Mat.row (by assumption) _ (by omega)) (by omega) ?_) | (refine Ints.ixI (by assumption) (by omega) ?_) | (refine Mat.ixI (by assumption) (by omega) ?_) | (refine Ints.ixI (Mat.row (by assumption) _ (by omega)) (by omega) ?_) | (refine Ints.ld (by assumption) (by omega) ?_) | (refine Mat.ld (by assumption) (by omega) ?_) | (refine Ints.ld (Mat.row (by assumption) _ (by omega)) (by omega) ?_) | (refine At.ld (by assumption) rfl ?_) | (refine At.ldN (by assumption) rfl ?_) | (refine Prs.ln (by assumption) ?_) | (refine Trs.ln (by assumption) ?_) | (refine Prs.ix (by assumption) (by omega) ?_) | (refine Trs.ix (by assumption) (by omega) ?_) | (refine Prs.ldN (by assumption) (by omega) ?_) | (refine Trs.ldN (by assumption) (by omega) ?_) | (refine At.ldN (Blk.at (by assumption)) rfl ?_) | (refine At.ld (Blk.at (by assumption)) rfl ?_) | (refine IxA.mk (by omega) ?_) | (refine Sl.ln (Own.sl (by assumption)) ?_) | (refine Ints.ix (Own.sl (by assumption)) (by omega) ?_) | (refine Ints.ixI (Own.sl (by assumption)) (by omega) ?_) | (refine Ints.ld (Own.sl (by assumption)) (by omega) ?_))
        refine VE.made (n := N) Try.underlying32 eBool rfl (by omega) (by omega) fun zn w3 E3 H3 _ => ?_
        have hz3 := HW.ex.size
        have HW3 := HW.ext E3
        have HZ3 := OZ.made (H3 _ hz3)
        have HK := HW3.blk
        repeat' ((conv => whnf); first | (refine Dr.quiet tyOk (by kernel_rfl) ?_) | (refine Rng.mk (by omega) ?_) | (refine Split.pos (by omega) ?_) | (refine Split.neg (by omega) ?_) | (refine Split.mk (fun h => ?_) (fun h => ?_)) | (refine Need.mk (by omega) ?_) | (refine Ints.ln (by assumption) ?_) | (refine Mat.ln (by assumption) ?_) | (refine Ints.ln (Mat.row (by assumption) _ (by omega)) ?_) | (refine Ints.ix (by assumption) (by omega) ?_) | (refine Mat.ix (by assumption) (by omega) ?_) | (refine Ints.ix (Mat.row (by assumption) _ (by omega)) (by omega) ?_) | (refine Ints.ix (c := 0) (by assumption) (by omega) ?_) | (refine Mat.ix (c := 0) (by assumption) (by omega) ?_) | (refine Ints.ix (c := 0) (Mat.row (by assumption) _ (by omega)) (by omega) ?_) | (refine Ints.ixI (by assumption) (by omega) ?_) | (refine Mat.ixI (by assumption) (by omega) ?_) | (refine Ints.ixI (Mat.row (by assumption) _ (by omega)) (by omega) ?_) | (refine Ints.ld (by assumption) (by omega) ?_) | (refine Mat.ld (by assumption) (by omega) ?_) | (refine Ints.ld (Mat.row (by assumption) _ (by omega)) (by omega) ?_) | (refine At.ld (by assumption) rfl ?_) | (refine At.ldN (by assumption) rfl ?_) | (refine Prs.ln (by assumption) ?_) | (refine Trs.ln (by assumption) ?_) | (refine Prs.ix (by assumption) (by omega) ?_) | (refine Trs.ix (by assumption) (by omega) ?_) | (refine Prs.ldN (by assumption) (by omega) ?_) | (refine Trs.ldN (by assumption) (by omega) ?_) | (refine At.ldN (Blk.at (by assumption)) rfl ?_) | (refine At.ld (Blk.at (by assumption)) rfl ?_) | (refine IxA.mk (by omega) ?_) | (refine Sl.ln (Own.sl (by assumption)) ?_) | (refine Ints.ix (Own.sl (by assumption)) (by omega) ?_) | (refine Ints.ixI (Own.sl (by assumption)) (by omega) ?_) | (refine Ints.ld (Own.sl (by assumption)) (by omega) ?_))
        refine WS.stS HW3 HZ3 fun w4 G4 HW => ?_
        have HK := HW.blk
        have HV := HV0.ext HW.ex
        repeat' ((conv => whnf); first | (refine Dr.quiet tyOk (by kernel_rfl) ?_) | (refine Rng.mk (by omega) ?_) | (refine Split.pos (by omega) ?_) | (refine Split.neg (by omega) ?_) | (refine Split.mk (fun h => ?_) (fun h => ?_)) | (refine Need.mk (by omega) ?_) | (refine Ints.ln (by assumption) ?_) | (refine Mat.ln (by assumption) ?_) | (refine Ints.ln (Mat.row (by assumption) _ (by omega)) ?_) | (refine Ints.ix (by assumption) (by omega) ?_) | (refine Mat.ix (by assumption) (by omega) ?_) | (refine Ints.ix (Mat.row (by assumption) _ (by omega)) (by omega) ?_) | (refine Ints.ix (c := 0) (by assumption) (by omega) ?_) | (refine Mat.ix (c := 0) (by assumption) (by omega) ?_) | (refine Ints.ix (c := 0) (Mat.row (by assumption) _ (by omega)) (by omega) ?_) | (refine Ints.ixI (by assumption) (by omega) ?_) | (refine Mat.ixI (by assumption) (by omega) ?_) | (refine Ints.ixI (Mat.row (by assumption) _ (by omega)) (by omega) ?_) | (refine Ints.ld (by assumption) (by omega) ?_) | (refine Mat.ld (by assumption) (by omega) ?_) | (refine Ints.ld (Mat.row (by assumption) _ (by omega)) (by omega) ?_) | (refine At.ld (by assumption) rfl ?_) | (refine At.ldN (by assumption) rfl ?_) | (refine Prs.ln (by assumption) ?_) | (refine Trs.ln (by assumption) ?_) | (refine Prs.ix (by assumption) (by omega) ?_) | (refine Trs.ix (by assumption) (by omega) ?_) | (refine Prs.ldN (by assumption) (by omega) ?_) | (refine Trs.ldN (by assumption) (by omega) ?_) | (refine At.ldN (Blk.at (by assumption)) rfl ?_) | (refine At.ld (Blk.at (by assumption)) rfl ?_) | (refine IxA.mk (by omega) ?_) | (refine Sl.ln (Own.sl (by assumption)) ?_) | (refine Ints.ix (Own.sl (by assumption)) (by omega) ?_) | (refine Ints.ixI (Own.sl (by assumption)) (by omega) ?_) | (refine Ints.ld (Own.sl (by assumption)) (by omega) ?_))
        refine VC.rc (way_rc hk ht (st := (S : Int)) (by omega) hsk N (by have := cntF_le (List.replicate N false); simpa using this) hs (by omega) (rep_false _ _) (rep_false _ _) (by simp) hP.fl HV0 HW) ?_
        rintro _ w5 G5 ⟨x, F3, Z3, rfl, HW, hR⟩
        have HK := HW.blk
        have HV := HV0.ext HW.ex
        have hx0 := hR.rng
        by_cases hx : x = 0
        · subst hx
          obtain ⟨hF3, hT3⟩ := hR.none rfl
          rw [hF3] at HW
          repeat' ((conv => whnf); first | (refine Dr.quiet tyOk (by kernel_rfl) ?_) | (refine Rng.mk (by omega) ?_) | (refine Split.pos (by omega) ?_) | (refine Split.neg (by omega) ?_) | (refine Split.mk (fun h => ?_) (fun h => ?_)) | (refine Need.mk (by omega) ?_) | (refine Ints.ln (by assumption) ?_) | (refine Mat.ln (by assumption) ?_) | (refine Ints.ln (Mat.row (by assumption) _ (by omega)) ?_) | (refine Ints.ix (by assumption) (by omega) ?_) | (refine Mat.ix (by assumption) (by omega) ?_) | (refine Ints.ix (Mat.row (by assumption) _ (by omega)) (by omega) ?_) | (refine Ints.ix (c := 0) (by assumption) (by omega) ?_) | (refine Mat.ix (c := 0) (by assumption) (by omega) ?_) | (refine Ints.ix (c := 0) (Mat.row (by assumption) _ (by omega)) (by omega) ?_) | (refine Ints.ixI (by assumption) (by omega) ?_) | (refine Mat.ixI (by assumption) (by omega) ?_) | (refine Ints.ixI (Mat.row (by assumption) _ (by omega)) (by omega) ?_) | (refine Ints.ld (by assumption) (by omega) ?_) | (refine Mat.ld (by assumption) (by omega) ?_) | (refine Ints.ld (Mat.row (by assumption) _ (by omega)) (by omega) ?_) | (refine At.ld (by assumption) rfl ?_) | (refine At.ldN (by assumption) rfl ?_) | (refine Prs.ln (by assumption) ?_) | (refine Trs.ln (by assumption) ?_) | (refine Prs.ix (by assumption) (by omega) ?_) | (refine Trs.ix (by assumption) (by omega) ?_) | (refine Prs.ldN (by assumption) (by omega) ?_) | (refine Trs.ldN (by assumption) (by omega) ?_) | (refine At.ldN (Blk.at (by assumption)) rfl ?_) | (refine At.ld (Blk.at (by assumption)) rfl ?_) | (refine IxA.mk (by omega) ?_) | (refine Sl.ln (Own.sl (by assumption)) ?_) | (refine Ints.ix (Own.sl (by assumption)) (by omega) ?_) | (refine Ints.ixI (Own.sl (by assumption)) (by omega) ?_) | (refine Ints.ld (Own.sl (by assumption)) (by omega) ?_))
          refine WS.stT HW (y := ((1048576 / 2 ^ (e + 1) : Nat) : Int)) (by rw [← hSh]; omega) fun w6 G6 HW => ?_
          repeat' ((conv => whnf); first | (refine Dr.quiet tyOk (by kernel_rfl) ?_) | (refine Rng.mk (by omega) ?_) | (refine Split.pos (by omega) ?_) | (refine Split.neg (by omega) ?_) | (refine Split.mk (fun h => ?_) (fun h => ?_)) | (refine Need.mk (by omega) ?_) | (refine Ints.ln (by assumption) ?_) | (refine Mat.ln (by assumption) ?_) | (refine Ints.ln (Mat.row (by assumption) _ (by omega)) ?_) | (refine Ints.ix (by assumption) (by omega) ?_) | (refine Mat.ix (by assumption) (by omega) ?_) | (refine Ints.ix (Mat.row (by assumption) _ (by omega)) (by omega) ?_) | (refine Ints.ix (c := 0) (by assumption) (by omega) ?_) | (refine Mat.ix (c := 0) (by assumption) (by omega) ?_) | (refine Ints.ix (c := 0) (Mat.row (by assumption) _ (by omega)) (by omega) ?_) | (refine Ints.ixI (by assumption) (by omega) ?_) | (refine Mat.ixI (by assumption) (by omega) ?_) | (refine Ints.ixI (Mat.row (by assumption) _ (by omega)) (by omega) ?_) | (refine Ints.ld (by assumption) (by omega) ?_) | (refine Mat.ld (by assumption) (by omega) ?_) | (refine Ints.ld (Mat.row (by assumption) _ (by omega)) (by omega) ?_) | (refine At.ld (by assumption) rfl ?_) | (refine At.ldN (by assumption) rfl ?_) | (refine Prs.ln (by assumption) ?_) | (refine Trs.ln (by assumption) ?_) | (refine Prs.ix (by assumption) (by omega) ?_) | (refine Trs.ix (by assumption) (by omega) ?_) | (refine Prs.ldN (by assumption) (by omega) ?_) | (refine Trs.ldN (by assumption) (by omega) ?_) | (refine At.ldN (Blk.at (by assumption)) rfl ?_) | (refine At.ld (Blk.at (by assumption)) rfl ?_) | (refine IxA.mk (by omega) ?_) | (refine Sl.ln (Own.sl (by assumption)) ?_) | (refine Ints.ix (Own.sl (by assumption)) (by omega) ?_) | (refine Ints.ixI (Own.sl (by assumption)) (by omega) ?_) | (refine Ints.ld (Own.sl (by assumption)) (by omega) ?_))
          refine ⟨_, (by omega : (mo.toNat + 21) - (c + 1) < (mo.toNat + 21) - c), rfl, c + 1, by omega, rfl, ⟨_, e + 1, _, _, _, rfl, HW, by omega, by rw [Int.add_zero]; exact hP, by omega, by omega, fun h => ?_⟩, (((GS.trans (Gr.ofExt E3)).trans G4).trans G5).trans G6⟩
          have h20 : e = 20 := by omega
          subst h20
          have : S = 1 := by rw [← hS]
          subst this
          exact hT3.noway hk hs.1
        · repeat' ((conv => whnf); first | (refine Dr.quiet tyOk (by kernel_rfl) ?_) | (refine Rng.mk (by omega) ?_) | (refine Split.pos (by omega) ?_) | (refine Split.neg (by omega) ?_) | (refine Split.mk (fun h => ?_) (fun h => ?_)) | (refine Need.mk (by omega) ?_) | (refine Ints.ln (by assumption) ?_) | (refine Mat.ln (by assumption) ?_) | (refine Ints.ln (Mat.row (by assumption) _ (by omega)) ?_) | (refine Ints.ix (by assumption) (by omega) ?_) | (refine Mat.ix (by assumption) (by omega) ?_) | (refine Ints.ix (Mat.row (by assumption) _ (by omega)) (by omega) ?_) | (refine Ints.ix (c := 0) (by assumption) (by omega) ?_) | (refine Mat.ix (c := 0) (by assumption) (by omega) ?_) | (refine Ints.ix (c := 0) (Mat.row (by assumption) _ (by omega)) (by omega) ?_) | (refine Ints.ixI (by assumption) (by omega) ?_) | (refine Mat.ixI (by assumption) (by omega) ?_) | (refine Ints.ixI (Mat.row (by assumption) _ (by omega)) (by omega) ?_) | (refine Ints.ld (by assumption) (by omega) ?_) | (refine Mat.ld (by assumption) (by omega) ?_) | (refine Ints.ld (Mat.row (by assumption) _ (by omega)) (by omega) ?_) | (refine At.ld (by assumption) rfl ?_) | (refine At.ldN (by assumption) rfl ?_) | (refine Prs.ln (by assumption) ?_) | (refine Trs.ln (by assumption) ?_) | (refine Prs.ix (by assumption) (by omega) ?_) | (refine Trs.ix (by assumption) (by omega) ?_) | (refine Prs.ldN (by assumption) (by omega) ?_) | (refine Trs.ldN (by assumption) (by omega) ?_) | (refine At.ldN (Blk.at (by assumption)) rfl ?_) | (refine At.ld (Blk.at (by assumption)) rfl ?_) | (refine IxA.mk (by omega) ?_) | (refine Sl.ln (Own.sl (by assumption)) ?_) | (refine Ints.ix (Own.sl (by assumption)) (by omega) ?_) | (refine Ints.ixI (Own.sl (by assumption)) (by omega) ?_) | (refine Ints.ld (Own.sl (by assumption)) (by omega) ?_))
          refine ⟨_, (by omega : (mo.toNat + 21) - (c + 1) < (mo.toNat + 21) - c), rfl, c + 1, by omega, rfl, ⟨_, e, _, _, _, rfl, by rw [hS]; exact HW, by omega, hP.trans hR.psh, by omega, by omega, fun h => absurd h (by omega)⟩, ((GS.trans (Gr.ofExt E3)).trans G4).trans G5⟩
      · obtain rfl : e = 21 := by omega
        have e0 : ((1048576 / 2 ^ 21 : Nat) : Int) = 0 := by decide
        rw [e0] at HW HK
        repeat' ((conv => whnf); first | (refine Dr.quiet tyOk (by kernel_rfl) ?_) | (refine Rng.mk (by omega) ?_) | (refine Split.pos (by omega) ?_) | (refine Split.neg (by omega) ?_) | (refine Split.mk (fun h => ?_) (fun h => ?_)) | (refine Need.mk (by omega) ?_) | (refine Ints.ln (by assumption) ?_) | (refine Mat.ln (by assumption) ?_) | (refine Ints.ln (Mat.row (by assumption) _ (by omega)) ?_) | (refine Ints.ix (by assumption) (by omega) ?_) | (refine Mat.ix (by assumption) (by omega) ?_) | (refine Ints.ix (Mat.row (by assumption) _ (by omega)) (by omega) ?_) | (refine Ints.ix (c := 0) (by assumption) (by omega) ?_) | (refine Mat.ix (c := 0) (by assumption) (by omega) ?_) | (refine Ints.ix (c := 0) (Mat.row (by assumption) _ (by omega)) (by omega) ?_) | (refine Ints.ixI (by assumption) (by omega) ?_) | (refine Mat.ixI (by assumption) (by omega) ?_) | (refine Ints.ixI (Mat.row (by assumption) _ (by omega)) (by omega) ?_) | (refine Ints.ld (by assumption) (by omega) ?_) | (refine Mat.ld (by assumption) (by omega) ?_) | (refine Ints.ld (Mat.row (by assumption) _ (by omega)) (by omega) ?_) | (refine At.ld (by assumption) rfl ?_) | (refine At.ldN (by assumption) rfl ?_) | (refine Prs.ln (by assumption) ?_) | (refine Trs.ln (by assumption) ?_) | (refine Prs.ix (by assumption) (by omega) ?_) | (refine Trs.ix (by assumption) (by omega) ?_) | (refine Prs.ldN (by assumption) (by omega) ?_) | (refine Trs.ldN (by assumption) (by omega) ?_) | (refine At.ldN (Blk.at (by assumption)) rfl ?_) | (refine At.ld (Blk.at (by assumption)) rfl ?_) | (refine IxA.mk (by omega) ?_) | (refine Sl.ln (Own.sl (by assumption)) ?_) | (refine Ints.ix (Own.sl (by assumption)) (by omega) ?_) | (refine Ints.ixI (Own.sl (by assumption)) (by omega) ?_) | (refine Ints.ld (Own.sl (by assumption)) (by omega) ?_))
        exact ⟨GS, X, F2, zu, Y, _, rfl, HW, hX, hP, .inr (hno rfl)⟩
    · repeat' ((conv => whnf); first | (refine Dr.quiet tyOk (by kernel_rfl) ?_) | (refine Rng.mk (by omega) ?_) | (refine Split.pos (by omega) ?_) | (refine Split.neg (by omega) ?_) | (refine Split.mk (fun h => ?_) (fun h => ?_)) | (refine Need.mk (by omega) ?_) | (refine Ints.ln (by assumption) ?_) | (refine Mat.ln (by assumption) ?_) | (refine Ints.ln (Mat.row (by assumption) _ (by omega)) ?_) | (refine Ints.ix (by assumption) (by omega) ?_) | (refine Mat.ix (by assumption) (by omega) ?_) | (refine Ints.ix (Mat.row (by assumption) _ (by omega)) (by omega) ?_) | (refine Ints.ix (c := 0) (by assumption) (by omega) ?_) | (refine Mat.ix (c := 0) (by assumption) (by omega) ?_) | (refine Ints.ix (c := 0) (Mat.row (by assumption) _ (by omega)) (by omega) ?_) | (refine Ints.ixI (by assumption) (by omega) ?_) | (refine Mat.ixI (by assumption) (by omega) ?_) | (refine Ints.ixI (Mat.row (by assumption) _ (by omega)) (by omega) ?_) | (refine Ints.ld (by assumption) (by omega) ?_) | (refine Mat.ld (by assumption) (by omega) ?_) | (refine Ints.ld (Mat.row (by assumption) _ (by omega)) (by omega) ?_) | (refine At.ld (by assumption) rfl ?_) | (refine At.ldN (by assumption) rfl ?_) | (refine Prs.ln (by assumption) ?_) | (refine Trs.ln (by assumption) ?_) | (refine Prs.ix (by assumption) (by omega) ?_) | (refine Trs.ix (by assumption) (by omega) ?_) | (refine Prs.ldN (by assumption) (by omega) ?_) | (refine Trs.ldN (by assumption) (by omega) ?_) | (refine At.ldN (Blk.at (by assumption)) rfl ?_) | (refine At.ld (Blk.at (by assumption)) rfl ?_) | (refine IxA.mk (by omega) ?_) | (refine Sl.ln (Own.sl (by assumption)) ?_) | (refine Ints.ix (Own.sl (by assumption)) (by omega) ?_) | (refine Ints.ixI (Own.sl (by assumption)) (by omega) ?_) | (refine Ints.ld (Own.sl (by assumption)) (by omega) ?_))
      exact ⟨GS, X, F2, zu, Y, _, rfl, HW, hX, hP, .inl (by omega)⟩

theorem VS.buildF {P : Program} {w : World} {t : TypeId} {zc : Array Value} {n b : Nat} {l : List Field} {ps : List (Nat × Value)} {K : Value → Prop} (r : Array Value) (ht : P.underlying t = some (.struct l.toArray)) (hz : Elem P t (.agg zc) n b)
    (hg : ∀ f ∈ l, P.cellsOf f.type ≠ 0) (pl : Array (Nat × Nat)) (hpl : (l.map fun f => (f.offset, P.cellsOf f.type)).toArray = pl) (hf : Instr.fill (pl[·]?) zc ps = some r) (hk : K (.agg r)) : VS P (Instr.build t ps.toArray) w K := by
  refine VS.mk (v := .agg r) (fun w1 _ => ?_) hk
  obtain ⟨i, hi, hz1, _, _⟩ := hz.info
  subst hpl
  simp only [Instr.build, Sem.run_bind, zeroValue, typeInfo, run_program, Result.andThen_ok, hi, hz1, Sem.run_pure, run_underlying ht, places_run hg, Value.cells, hf]

theorem WS.stK2 {w0 w : World} {b N : Nat} {sv fv zv : Value} {sk : Nat} {st : Int} {F : List Int} {Z : List Bool} (h : WS w0 w b N sv fv zv sk st F Z) {y : Nat} {z : Int} {K : World → Prop} (e : z = (y : Int)) (hK : ∀ w', Gr (fun j => j = b) w w' → WS w0 w' b N sv fv zv y st F Z → K w') : St w ((⟨b, 0, none⟩ : Addr).add 4) (.int .i64 z) K := by
  subst e
  exact Blk.setA h.blk (by simp) rfl fun w' hg hb => hK w' hg ⟨h.ex.new hg (fun i hi e => by have := h.bB; omega), h.bB, hb, Own.blk h.hf h.blk (by decide) hg, Own.blk h.hz h.blk (by decide) hg⟩
/-- there is a greatest flow; a network of fewer than 200 arcs has one of its value after which no way is left -/
structure Mx (N : Nat) (A : List T3) : Prop where
  is : IsGf N A (gf N A)
  cut : A.length < 200 → ∃ g, isW N A g ∧ bal A g 0 A.length = bal A (gf N A) 0 A.length ∧ NoWay A g 0 ((N - 1 : Nat) : Int) 0
theorem mx_of {N : Nat} {A : List T3} {F0 F : List Int} {x : Int} (hk : NetOk N A) (h0 : Grt N A F0 0) (hp : Psh A (List.replicate A.length 0) F0 0 ((N - 1 : Nat) : Int) 0 x) (hn : x = 200000000 ∨ NoWay A F0 0 ((N - 1 : Nat) : Int) 0) (h : Grt N A F A.length) : Mx N A := by
  have e := h.done hk
  have hg : IsGf N A F := isGf_of hk h.fw h.most h.tight
  refine ⟨by rw [e]; exact hg, fun h200 => ⟨F0, h0.fw, by rw [e]; exact Int.le_antisymm (h0.most F h.fw) (h.most F0 h0.fw), ?_⟩⟩
  rcases hn with h1 | h1
  · exfalso
    have h2 := hp.bl 0
    have h3 := (val_le (v := 0) hk h0.fw.1).1
    have hn2 := hk.n2
    rw [bal_zero, if_neg (by omega), if_pos rfl] at h2
    omega
  · exact h1

theorem greatest_rc {w : World} {N : Nat} {sv : Value} {A : List T3} (HA : Trs w sv A) (hk : NetOk N A) :
    RC Try.prog 32 [.agg #[.int .i64 (N : Int), sv]] w NoB (fun u w' => OB w.heap.size w' u (gf N A) ∧ Mx N A) := by
  have h40 := hk.n40
  have h200 := hk.a200
  have hn2 := hk.n2
  have hle := HA.le
  refine RC.mk tyOk Try.func32 rfl (by kernel_rfl) fun w1 E1 => ?_
  replace HA := HA.ext E1
  have EE := Ext.refl w1
  refine Bx.agg fun b2 w2 E2 hb2 Hb _ => ?_
  replace HA := HA.ext E2
  replace EE := EE.ext E2
  repeat' ((conv => whnf); first | (refine Dr.plan 7 [] (.q 0 (.q 1 (.q 2 (.q 3 (.e 4 (.q 5 (.e 6 (.q 7 .nil) .nil)) .nil))))) tyOk rfl (by kernel_rfl) ?_) | (refine Dr.plan 39 [12, 15] (.q 0 (.q 1 (.q 2 (.q 3 (.q 4 (.q 5 (.q 6 (.q 7 (.q 8 (.q 9 (.q 10 (.q 11 (.e 12 (.q 13 (.q 14 (.e 15 .nil .nil))) .nil))))))))))))) tyOk rfl (by kernel_rfl) ?_) | (refine Dr.quiet tyOk (by kernel_rfl) ?_) | (refine Rng.mk (by omega) ?_) | (refine Split.pos (by omega) ?_) | (refine Split.neg (by omega) ?_) | (refine Split.mk (fun h => ?_) (fun h => ?_)) | (refine Need.mk (by omega) ?_) | (refine Ints.ln (by assumption) ?_) | (refine Mat.ln (by assumption) ?_) | (refine Ints.ln (Mat.row (by assumption) _ (by omega)) ?_) | (refine Ints.ix (by assumption) (by omega) ?_) | (refine Mat.ix (by assumption) (by omega) ?_) | (refine Ints.ix (Mat.row (by assumption) _ (by omega)) (by omega) ?_) | (refine Ints.ix (c := 0) (by assumption) (by omega) ?_) | (refine Mat.ix (c := 0) (by assumption) (by omega) ?_) | (refine Ints.ix (c := 0) (Mat.row (by assumption) _ (by omega)) (by omega) ?_) | (refine Ints.ixI (by assumption) (by omega) ?_) | (refine Mat.ixI (by assumption) (by omega) ?_) | (refine Ints.ixI (Mat.row (by assumption) _ (by omega)) (by omega) ?_) | (refine Ints.ld (by assumption) (by omega) ?_) | (refine Mat.ld (by assumption) (by omega) ?_) | (refine Ints.ld (Mat.row (by assumption) _ (by omega)) (by omega) ?_) | (refine At.ld (by assumption) rfl ?_) | (refine At.ldN (by assumption) rfl ?_) | (refine Prs.ln (by assumption) ?_) | (refine Trs.ln (by assumption) ?_) | (refine Prs.ix (by assumption) (by omega) ?_) | (refine Trs.ix (by assumption) (by omega) ?_) | (refine Prs.ldN (by assumption) (by omega) ?_) | (refine Trs.ldN (by assumption) (by omega) ?_) | (refine At.ldN (Blk.at (by assumption)) rfl ?_) | (refine At.ld (Blk.at (by assumption)) rfl ?_) | (refine IxA.mk (by omega) ?_) | (refine Sl.ln (Own.sl (by assumption)) ?_) | (refine Ints.ix (Own.sl (by assumption)) (by omega) ?_) | (refine Ints.ixI (Own.sl (by assumption)) (by omega) ?_) | (refine Ints.ld (Own.sl (by assumption)) (by omega) ?_))
  refine VX.made (n := A.length) Try.underlying26 eInt rfl (by omega) (by omega) fun fv w3 E3 H3 _ => ?_
  conv => whnf
  have HF3 := OB.made (H3 _ (Nat.le_refl _))
  obtain ⟨fa, fc, hfv, _⟩ := Own.sl HF3
  refine VS.buildF (ps := [(0, .agg #[.int .i64 (N : Int), sv]), (1, fv)]) #[.int .i64 (N : Int), sv, fv, .slice none 0 0, .int .i64 0, .int .i64 0] Try.underlying73 eWork (by decide +kernel) #[(0, 2), (2, 1), (3, 1), (4, 1), (5, 1)] (by kernel_rfl) (by rw [hfv]; rfl) ?_
  conv => whnf
  refine Bx.blk (l := [.int .i64 (N : Int), sv, fv, .slice none 0 0, .int .i64 0, .int .i64 0]) fun b w4 E4 hsb HK => ?_
  have HW : WS w2 w4 b N sv fv (.slice none 0 0) 0 0 (List.replicate A.length 0) [] := ⟨E3.trans E4, by have := E3.size; omega, HK, Own.ext HF3 E4, Own.nil⟩
  have HA0 := HA
  have Hb0 := Hb
  have hz2 : w.heap.size ≤ w2.heap.size := Nat.le_trans E1.size EE.size
  have hN1 : ((N - 1 : Nat) : Int) = (N : Int) - 1 := by omega
  replace Hb := Hb0.ext HW.ex
  repeat' ((conv => whnf); first | (refine Dr.quiet tyOk (by kernel_rfl) ?_) | (refine Rng.mk (by omega) ?_) | (refine Split.pos (by omega) ?_) | (refine Split.neg (by omega) ?_) | (refine Split.mk (fun h => ?_) (fun h => ?_)) | (refine Need.mk (by omega) ?_) | (refine Ints.ln (by assumption) ?_) | (refine Mat.ln (by assumption) ?_) | (refine Ints.ln (Mat.row (by assumption) _ (by omega)) ?_) | (refine Ints.ix (by assumption) (by omega) ?_) | (refine Mat.ix (by assumption) (by omega) ?_) | (refine Ints.ix (Mat.row (by assumption) _ (by omega)) (by omega) ?_) | (refine Ints.ix (c := 0) (by assumption) (by omega) ?_) | (refine Mat.ix (c := 0) (by assumption) (by omega) ?_) | (refine Ints.ix (c := 0) (Mat.row (by assumption) _ (by omega)) (by omega) ?_) | (refine Ints.ixI (by assumption) (by omega) ?_) | (refine Mat.ixI (by assumption) (by omega) ?_) | (refine Ints.ixI (Mat.row (by assumption) _ (by omega)) (by omega) ?_) | (refine Ints.ld (by assumption) (by omega) ?_) | (refine Mat.ld (by assumption) (by omega) ?_) | (refine Ints.ld (Mat.row (by assumption) _ (by omega)) (by omega) ?_) | (refine At.ld (by assumption) rfl ?_) | (refine At.ldN (by assumption) rfl ?_) | (refine Prs.ln (by assumption) ?_) | (refine Trs.ln (by assumption) ?_) | (refine Prs.ix (by assumption) (by omega) ?_) | (refine Trs.ix (by assumption) (by omega) ?_) | (refine Prs.ldN (by assumption) (by omega) ?_) | (refine Trs.ldN (by assumption) (by omega) ?_) | (refine At.ldN (Blk.at (by assumption)) rfl ?_) | (refine At.ld (Blk.at (by assumption)) rfl ?_) | (refine IxA.mk (by omega) ?_) | (refine Sl.ln (Own.sl (by assumption)) ?_) | (refine Ints.ix (Own.sl (by assumption)) (by omega) ?_) | (refine Ints.ixI (Own.sl (by assumption)) (by omega) ?_) | (refine Ints.ld (Own.sl (by assumption)) (by omega) ?_))
  refine VC.rc (push_rc hk (s := 0) (t := (N : Int) - 1) (mo := 200000000) (by omega) (by omega) (Nat.zero_le _) (by decide) (isF_zero hk) HA0 HW) ?_
  rintro _ w5 G5 ⟨x1, F1, z1, Z1, s1, rfl, HW, hx, hP, hn⟩
  rw [← hN1] at hP hn
  have hG0 : Grt N A F1 0 := Grt.start hk hP hn
  replace Hb := Hb0.ext HW.ex
  have HV := HA0.ext HW.ex
  repeat' ((conv => whnf); first | (refine Dr.quiet tyOk (by kernel_rfl) ?_) | (refine Rng.mk (by omega) ?_) | (refine Split.pos (by omega) ?_) | (refine Split.neg (by omega) ?_) | (refine Split.mk (fun h => ?_) (fun h => ?_)) | (refine Need.mk (by omega) ?_) | (refine Ints.ln (by assumption) ?_) | (refine Mat.ln (by assumption) ?_) | (refine Ints.ln (Mat.row (by assumption) _ (by omega)) ?_) | (refine Ints.ix (by assumption) (by omega) ?_) | (refine Mat.ix (by assumption) (by omega) ?_) | (refine Ints.ix (Mat.row (by assumption) _ (by omega)) (by omega) ?_) | (refine Ints.ix (c := 0) (by assumption) (by omega) ?_) | (refine Mat.ix (c := 0) (by assumption) (by omega) ?_) | (refine Ints.ix (c := 0) (Mat.row (by assumption) _ (by omega)) (by omega) ?_) | (refine Ints.ixI (by assumption) (by omega) ?_) | (refine Mat.ixI (by assumption) (by omega) ?_) | (refine Ints.ixI (Mat.row (by assumption) _ (by omega)) (by omega) ?_) | (refine Ints.ld (by assumption) (by omega) ?_) | (refine Mat.ld (by assumption) (by omega) ?_) | (refine Ints.ld (Mat.row (by assumption) _ (by omega)) (by omega) ?_) | (refine At.ld (by assumption) rfl ?_) | (refine At.ldN (by assumption) rfl ?_) | (refine Prs.ln (by assumption) ?_) | (refine Trs.ln (by assumption) ?_) | (refine Prs.ix (by assumption) (by omega) ?_) | (refine Trs.ix (by assumption) (by omega) ?_) | (refine Prs.ldN (by assumption) (by omega) ?_) | (refine Trs.ldN (by assumption) (by omega) ?_) | (refine At.ldN (Blk.at (by assumption)) rfl ?_) | (refine At.ld (Blk.at (by assumption)) rfl ?_) | (refine IxA.mk (by omega) ?_) | (refine Sl.ln (Own.sl (by assumption)) ?_) | (refine Ints.ix (Own.sl (by assumption)) (by omega) ?_) | (refine Ints.ixI (Own.sl (by assumption)) (by omega) ?_) | (refine Ints.ld (Own.sl (by assumption)) (by omega) ?_))
  refine Lp.mk tyOk [false, false, false, false, true, true, true, false, false, false, false, false, false, false, false, false, false, false, false, false, false, false, true, true, true, true, true, true, true, true, true, true, true, true, true, true, true, true, true, true, true, true, true, true, true, true, true, true, true, true, true, true, true, true, true] (fun m fr wr => getK fr 22 fun i => ∃ c : Nat, c ≤ A.length ∧ m = A.length - c ∧ i = .int .i64 (c : Int) ∧ ((∃ F zu Z st, WS w2 wr b N sv fv zu c st F Z ∧ Grt N A F c))) (A.length) ?_ ?_
  · exact ⟨0, Nat.zero_le _, rfl, rfl, ⟨_, _, _, _, HW, hG0⟩⟩
  · intro m w3 u4 u5 u6 u22 u23 u24 u25 u26 u27 u28 u29 u30 u31 u32 u33 u34 u35 u36 u37 u38 u39 u40 u41 u42 u43 u44 u45 u46 u47 u48 u49 u50 u51 u52 u53 u54 hR
    obtain ⟨c, hc, rfl, rfl, HL⟩ := hR
    obtain ⟨F, zu, Z, st, HW, hG⟩ := HL
    have hFl := hG.fw.1.1
    by_cases hcl : c < A.length
    · obtain ⟨hf, ht, hne, hc0, hc1⟩ := hk.arc c hcl
      have hFc := hG.fw.1.2 c (by omega)
      have HK := HW.blk
      have HV := HA0.ext HW.ex
      have HFI : Ints w3 fv F := Own.sl HW.hf
      have hbl := HK.lt
      repeat' ((conv => whnf); first | (refine Dr.quiet tyOk (by kernel_rfl) ?_) | (refine Rng.mk (by omega) ?_) | (refine Split.pos (by omega) ?_) | (refine Split.neg (by omega) ?_) | (refine Split.mk (fun h => ?_) (fun h => ?_)) | (refine Need.mk (by omega) ?_) | (refine Ints.ln (by assumption) ?_) | (refine Mat.ln (by assumption) ?_) | (refine Ints.ln (Mat.row (by assumption) _ (by omega)) ?_) | (refine Ints.ix (by assumption) (by omega) ?_) | (refine Mat.ix (by assumption) (by omega) ?_) | (refine Ints.ix (Mat.row (by assumption) _ (by omega)) (by omega) ?_) | (refine Ints.ix (c := 0) (by assumption) (by omega) ?_) | (refine Mat.ix (c := 0) (by assumption) (by omega) ?_) | (refine Ints.ix (c := 0) (Mat.row (by assumption) _ (by omega)) (by omega) ?_) | (refine Ints.ixI (by assumption) (by omega) ?_) | (refine Mat.ixI (by assumption) (by omega) ?_) | (refine Ints.ixI (Mat.row (by assumption) _ (by omega)) (by omega) ?_) | (refine Ints.ld (by assumption) (by omega) ?_) | (refine Mat.ld (by assumption) (by omega) ?_) | (refine Ints.ld (Mat.row (by assumption) _ (by omega)) (by omega) ?_) | (refine At.ld (by assumption) rfl ?_) | (refine At.ldN (by assumption) rfl ?_) | (refine Prs.ln (by assumption) ?_) | (refine Trs.ln (by assumption) ?_) | (refine Prs.ix (by assumption) (by omega) ?_) | (refine Trs.ix (by assumption) (by omega) ?_) | (refine Prs.ldN (by assumption) (by omega) ?_) | (refine Trs.ldN (by assumption) (by omega) ?_) | (refine At.ldN (Blk.at (by assumption)) rfl ?_) | (refine At.ld (Blk.at (by assumption)) rfl ?_) | (refine IxA.mk (by omega) ?_) | (refine Sl.ln (Own.sl (by assumption)) ?_) | (refine Ints.ix (Own.sl (by assumption)) (by omega) ?_) | (refine Ints.ixI (Own.sl (by assumption)) (by omega) ?_) | (refine Ints.ld (Own.sl (by assumption)) (by omega) ?_))
      have HW__1 := HW
      conv => whnf
      refine VE.alloc eArc fun xb w4 E4 hb_xb Hk => ?_
      replace HW := HW.ext E4
      have EL1 := E4
      conv => whnf
      refine Blk.all Hk (by kernel_rfl) (by first | decide | simp) rfl rfl (by intro v hv; simp at hv; rcases hv with rfl | rfl | rfl | rfl | rfl <;> rfl) fun w5 G5 Hk' => ?_
      have E5 : Ext w3 w5 := EL1.new G5 fun i hi hk => by omega
      replace Hk := Hk'
      replace HW := HW__1.ext E5
      replace EL1 := E5
      have HK := HW.blk
      repeat' ((conv => whnf); first | (refine Dr.quiet tyOk (by kernel_rfl) ?_) | (refine Rng.mk (by omega) ?_) | (refine Split.pos (by omega) ?_) | (refine Split.neg (by omega) ?_) | (refine Split.mk (fun h => ?_) (fun h => ?_)) | (refine Need.mk (by omega) ?_) | (refine Ints.ln (by assumption) ?_) | (refine Mat.ln (by assumption) ?_) | (refine Ints.ln (Mat.row (by assumption) _ (by omega)) ?_) | (refine Ints.ix (by assumption) (by omega) ?_) | (refine Mat.ix (by assumption) (by omega) ?_) | (refine Ints.ix (Mat.row (by assumption) _ (by omega)) (by omega) ?_) | (refine Ints.ix (c := 0) (by assumption) (by omega) ?_) | (refine Mat.ix (c := 0) (by assumption) (by omega) ?_) | (refine Ints.ix (c := 0) (Mat.row (by assumption) _ (by omega)) (by omega) ?_) | (refine Ints.ixI (by assumption) (by omega) ?_) | (refine Mat.ixI (by assumption) (by omega) ?_) | (refine Ints.ixI (Mat.row (by assumption) _ (by omega)) (by omega) ?_) | (refine Ints.ld (by assumption) (by omega) ?_) | (refine Mat.ld (by assumption) (by omega) ?_) | (refine Ints.ld (Mat.row (by assumption) _ (by omega)) (by omega) ?_) | (refine At.ld (by assumption) rfl ?_) | (refine At.ldN (by assumption) rfl ?_) | (refine Prs.ln (by assumption) ?_) | (refine Trs.ln (by assumption) ?_) | (refine Prs.ix (by assumption) (by omega) ?_) | (refine Trs.ix (by assumption) (by omega) ?_) | (refine Prs.ldN (by assumption) (by omega) ?_) | (refine Trs.ldN (by assumption) (by omega) ?_) | (refine At.ldN (Blk.at (by assumption)) rfl ?_) | (refine At.ld (Blk.at (by assumption)) rfl ?_) | (refine IxA.mk (by omega) ?_) | (refine Sl.ln (Own.sl (by assumption)) ?_) | (refine Ints.ix (Own.sl (by assumption)) (by omega) ?_) | (refine Ints.ixI (Own.sl (by assumption)) (by omega) ?_) | (refine Ints.ld (Own.sl (by assumption)) (by omega) ?_))
      refine WS.stK2 HW (y := c + 1) (by omega) fun w8 G8 HW2 => ?_
      have Hk2 := Blk.two Hk HK (by omega) G8
      have HK := HW2.blk
      have HFI : Ints w8 fv F := Own.sl HW2.hf
      have HV := HA0.ext HW2.ex
      repeat' ((conv => whnf); first | (refine Dr.plan 7 [] (.q 0 (.q 1 (.q 2 (.q 3 (.e 4 (.q 5 (.e 6 (.q 7 .nil) .nil)) .nil))))) tyOk rfl (by kernel_rfl) ?_) | (refine Dr.plan 39 [12, 15] (.q 0 (.q 4 (.q 5 (.q 6 (.q 7 (.q 8 (.q 9 (.q 10 (.q 11 (.e 1 (.e 2 (.e 3 (.e 12 (.q 13 (.e 14 (.e 15 .nil .nil) .nil)) .nil) (.e 12 (.q 13 (.e 3 (.e 14 (.e 15 .nil .nil) .nil) .nil)) .nil)) (.e 12 (.q 13 (.e 2 (.e 3 (.e 14 (.e 15 .nil .nil) .nil) .nil) .nil)) .nil)) (.e 12 (.q 13 (.e 1 (.e 2 (.e 3 (.e 14 (.e 15 .nil .nil) .nil) .nil) .nil) .nil)) .nil))))))))))) tyOk rfl (by kernel_rfl) ?_) | (refine Dr.quiet tyOk (by kernel_rfl) ?_) | (refine And.intro ?_ ?_) | (refine Rng.mk (by omega) ?_) | (refine Split.pos (by omega) ?_) | (refine Split.neg (by omega) ?_) | (refine Split.mk (fun h => ?_) (fun h => ?_)) | (refine Need.mk (by omega) ?_) | (refine Ints.ln (by assumption) ?_) | (refine Mat.ln (by assumption) ?_) | (refine Ints.ln (Mat.row (by assumption) _ (by omega)) ?_) | (refine Ints.ix (by assumption) (by omega) ?_) | (refine Mat.ix (by assumption) (by omega) ?_) | (refine Ints.ix (Mat.row (by assumption) _ (by omega)) (by omega) ?_) | (refine Ints.ix (c := 0) (by assumption) (by omega) ?_) | (refine Mat.ix (c := 0) (by assumption) (by omega) ?_) | (refine Ints.ix (c := 0) (Mat.row (by assumption) _ (by omega)) (by omega) ?_) | (refine Ints.ixI (by assumption) (by omega) ?_) | (refine Mat.ixI (by assumption) (by omega) ?_) | (refine Ints.ixI (Mat.row (by assumption) _ (by omega)) (by omega) ?_) | (refine Ints.ld (by assumption) (by omega) ?_) | (refine Mat.ld (by assumption) (by omega) ?_) | (refine Ints.ld (Mat.row (by assumption) _ (by omega)) (by omega) ?_) | (refine At.ld (by assumption) rfl ?_) | (refine At.ldN (by assumption) rfl ?_) | (refine Prs.ln (by assumption) ?_) | (refine Trs.ln (by assumption) ?_) | (refine Prs.ix (by assumption) (by omega) ?_) | (refine Trs.ix (by assumption) (by omega) ?_) | (refine Prs.ldN (by assumption) (by omega) ?_) | (refine Trs.ldN (by assumption) (by omega) ?_) | (refine At.ldN (Blk.at (by assumption)) rfl ?_) | (refine At.ld (Blk.at (by assumption)) rfl ?_) | (refine IxA.mk (by omega) ?_) | (refine Sl.ln (Own.sl (by assumption)) ?_) | (refine Ints.ix (Own.sl (by assumption)) (by omega) ?_) | (refine Ints.ixI (Own.sl (by assumption)) (by omega) ?_) | (refine Ints.ld (Own.sl (by assumption)) (by omega) ?_))
      all_goals
        conv => whnf
        refine VC.rc (push_rc hk hf ht hcl (by omega) hG.fw.1 HA0 HW2) ?_
        rintro _ w9 G9 ⟨x, F2, zu2, Z2, st2, rfl, HW3, hx2, hP2, hn2⟩
        have HK := HW3.blk
        have hF2l := hP2.fl.1
        have HFI : Ints w9 fv F2 := Own.sl HW3.hf
        repeat' ((conv => whnf); first | (refine Dr.quiet tyOk (by kernel_rfl) ?_) | (refine Rng.mk (by omega) ?_) | (refine Split.pos (by omega) ?_) | (refine Split.neg (by omega) ?_) | (refine Split.mk (fun h => ?_) (fun h => ?_)) | (refine Need.mk (by omega) ?_) | (refine Ints.ln (by assumption) ?_) | (refine Mat.ln (by assumption) ?_) | (refine Ints.ln (Mat.row (by assumption) _ (by omega)) ?_) | (refine Ints.ix (by assumption) (by omega) ?_) | (refine Mat.ix (by assumption) (by omega) ?_) | (refine Ints.ix (Mat.row (by assumption) _ (by omega)) (by omega) ?_) | (refine Ints.ix (c := 0) (by assumption) (by omega) ?_) | (refine Mat.ix (c := 0) (by assumption) (by omega) ?_) | (refine Ints.ix (c := 0) (Mat.row (by assumption) _ (by omega)) (by omega) ?_) | (refine Ints.ixI (by assumption) (by omega) ?_) | (refine Mat.ixI (by assumption) (by omega) ?_) | (refine Ints.ixI (Mat.row (by assumption) _ (by omega)) (by omega) ?_) | (refine Ints.ld (by assumption) (by omega) ?_) | (refine Mat.ld (by assumption) (by omega) ?_) | (refine Ints.ld (Mat.row (by assumption) _ (by omega)) (by omega) ?_) | (refine At.ld (by assumption) rfl ?_) | (refine At.ldN (by assumption) rfl ?_) | (refine Prs.ln (by assumption) ?_) | (refine Trs.ln (by assumption) ?_) | (refine Prs.ix (by assumption) (by omega) ?_) | (refine Trs.ix (by assumption) (by omega) ?_) | (refine Prs.ldN (by assumption) (by omega) ?_) | (refine Trs.ldN (by assumption) (by omega) ?_) | (refine At.ldN (Blk.at (by assumption)) rfl ?_) | (refine At.ld (Blk.at (by assumption)) rfl ?_) | (refine IxA.mk (by omega) ?_) | (refine Sl.ln (Own.sl (by assumption)) ?_) | (refine Ints.ix (Own.sl (by assumption)) (by omega) ?_) | (refine Ints.ixI (Own.sl (by assumption)) (by omega) ?_) | (refine Ints.ld (Own.sl (by assumption)) (by omega) ?_))
        refine WS.stF HW3 (by omega) fun w10 G10 HW4 => ?_
        repeat' ((conv => whnf); first | (refine Dr.quiet tyOk (by kernel_rfl) ?_) | (refine Rng.mk (by omega) ?_) | (refine Split.pos (by omega) ?_) | (refine Split.neg (by omega) ?_) | (refine Split.mk (fun h => ?_) (fun h => ?_)) | (refine Need.mk (by omega) ?_) | (refine Ints.ln (by assumption) ?_) | (refine Mat.ln (by assumption) ?_) | (refine Ints.ln (Mat.row (by assumption) _ (by omega)) ?_) | (refine Ints.ix (by assumption) (by omega) ?_) | (refine Mat.ix (by assumption) (by omega) ?_) | (refine Ints.ix (Mat.row (by assumption) _ (by omega)) (by omega) ?_) | (refine Ints.ix (c := 0) (by assumption) (by omega) ?_) | (refine Mat.ix (c := 0) (by assumption) (by omega) ?_) | (refine Ints.ix (c := 0) (Mat.row (by assumption) _ (by omega)) (by omega) ?_) | (refine Ints.ixI (by assumption) (by omega) ?_) | (refine Mat.ixI (by assumption) (by omega) ?_) | (refine Ints.ixI (Mat.row (by assumption) _ (by omega)) (by omega) ?_) | (refine Ints.ld (by assumption) (by omega) ?_) | (refine Mat.ld (by assumption) (by omega) ?_) | (refine Ints.ld (Mat.row (by assumption) _ (by omega)) (by omega) ?_) | (refine At.ld (by assumption) rfl ?_) | (refine At.ldN (by assumption) rfl ?_) | (refine Prs.ln (by assumption) ?_) | (refine Trs.ln (by assumption) ?_) | (refine Prs.ix (by assumption) (by omega) ?_) | (refine Trs.ix (by assumption) (by omega) ?_) | (refine Prs.ldN (by assumption) (by omega) ?_) | (refine Trs.ldN (by assumption) (by omega) ?_) | (refine At.ldN (Blk.at (by assumption)) rfl ?_) | (refine At.ld (Blk.at (by assumption)) rfl ?_) | (refine IxA.mk (by omega) ?_) | (refine Sl.ln (Own.sl (by assumption)) ?_) | (refine Ints.ix (Own.sl (by assumption)) (by omega) ?_) | (refine Ints.ixI (Own.sl (by assumption)) (by omega) ?_) | (refine Ints.ld (Own.sl (by assumption)) (by omega) ?_))
        refine ⟨_, (by omega : A.length - (c + 1) < A.length - c), rfl, c + 1, by omega, rfl, rfl, ⟨_, _, _, _, HW4, hG.step hk hcl hP2 hx2 hn2⟩⟩
    · obtain rfl : c = A.length := by omega
      have HK := HW.blk
      have hd := hG.done hk
      repeat' ((conv => whnf); first | (refine Dr.quiet tyOk (by kernel_rfl) ?_) | (refine Rng.mk (by omega) ?_) | (refine Split.pos (by omega) ?_) | (refine Split.neg (by omega) ?_) | (refine Split.mk (fun h => ?_) (fun h => ?_)) | (refine Need.mk (by omega) ?_) | (refine Ints.ln (by assumption) ?_) | (refine Mat.ln (by assumption) ?_) | (refine Ints.ln (Mat.row (by assumption) _ (by omega)) ?_) | (refine Ints.ix (by assumption) (by omega) ?_) | (refine Mat.ix (by assumption) (by omega) ?_) | (refine Ints.ix (Mat.row (by assumption) _ (by omega)) (by omega) ?_) | (refine Ints.ix (c := 0) (by assumption) (by omega) ?_) | (refine Mat.ix (c := 0) (by assumption) (by omega) ?_) | (refine Ints.ix (c := 0) (Mat.row (by assumption) _ (by omega)) (by omega) ?_) | (refine Ints.ixI (by assumption) (by omega) ?_) | (refine Mat.ixI (by assumption) (by omega) ?_) | (refine Ints.ixI (Mat.row (by assumption) _ (by omega)) (by omega) ?_) | (refine Ints.ld (by assumption) (by omega) ?_) | (refine Mat.ld (by assumption) (by omega) ?_) | (refine Ints.ld (Mat.row (by assumption) _ (by omega)) (by omega) ?_) | (refine At.ld (by assumption) rfl ?_) | (refine At.ldN (by assumption) rfl ?_) | (refine Prs.ln (by assumption) ?_) | (refine Trs.ln (by assumption) ?_) | (refine Prs.ix (by assumption) (by omega) ?_) | (refine Trs.ix (by assumption) (by omega) ?_) | (refine Prs.ldN (by assumption) (by omega) ?_) | (refine Trs.ldN (by assumption) (by omega) ?_) | (refine At.ldN (Blk.at (by assumption)) rfl ?_) | (refine At.ld (Blk.at (by assumption)) rfl ?_) | (refine IxA.mk (by omega) ?_) | (refine Sl.ln (Own.sl (by assumption)) ?_) | (refine Ints.ix (Own.sl (by assumption)) (by omega) ?_) | (refine Ints.ixI (Own.sl (by assumption)) (by omega) ?_) | (refine Ints.ld (Own.sl (by assumption)) (by omega) ?_))
      rw [hd]
      exact ⟨EE.trans HW.ex, Own.base HW.hf hz2, mx_of hk hG0 hP hn hG⟩
end Go.Proofs.Ytpdldifklgpikaa
set_option linter.unusedVariables false
set_option linter.unusedSimpArgs false
namespace Go.Proofs.Ytpdldifklgpikaa
open Go.Eng

/-- the node before v -/
def prd (A : List T3) (BY : List Int) (BK : List Bool) (v : Int) : Int := if BK.getD v.toNat false = true then too A (BY.getD v.toNat 0).toNat else frm A (BY.getD v.toNat 0).toNat
/-- what is left on the arc to v -/
def res (A : List T3) (f : List Int) (BY : List Int) (BK : List Bool) (v : Int) : Int := if BK.getD v.toNat false = true then f.getD (BY.getD v.toNat 0).toNat 0 else cpy A (BY.getD v.toNat 0).toNat - f.getD (BY.getD v.toNat 0).toNat 0
/-- v was reached by an arc from a node that was reached before -/
structure Prv (N : Nat) (A : List T3) (f : List Int) (sk : Nat) (BY : List Int) (BK SN : List Bool) (rk : Int → Nat) (v : Int) : Prop where
  ix : 0 ≤ BY.getD v.toNat 0 ∧ sk ≤ (BY.getD v.toNat 0).toNat ∧ (BY.getD v.toNat 0).toNat < A.length
  bk : BK.getD v.toNat false = true → frm A (BY.getD v.toNat 0).toNat = v
  fw : BK.getD v.toNat false = false → too A (BY.getD v.toNat 0).toNat = v
  pos : 0 < res A f BY BK v
  sn : SN.getD (prd A BY BK v).toNat false = true
  rk : rk (prd A BY BK v) < rk v
def TR (N : Nat) (A : List T3) (f : List Int) (sk : Nat) (s : Int) (BY : List Int) (BK SN : List Bool) (rk : Int → Nat) : Prop := ∀ v : Int, 0 ≤ v → v < N → SN.getD v.toNat false = true → v = s ∨ Prv N A f sk BY BK SN rk v
structure BT (N : Nat) (A : List T3) (f : List Int) (sk : Nat) (s : Int) (BY : List Int) (BK SN : List Bool) (W : List Int) (X : Int → Prop) : Prop where
  ly : BY.length = N
  lb : BK.length = N
  ls : SN.length = N
  wt : ∀ u ∈ W, 0 ≤ u ∧ u < N ∧ SN.getD u.toNat false = true
  zero : SN.getD s.toNat false = true
  cls : ∀ u : Int, 0 ≤ u → u < N → SN.getD u.toNat false = true → u ∉ W → ¬ X u → ∀ i, sk ≤ i → i < A.length → ∀ t, Edg A f u t i → SN.getD t.toNat false = true
  tree : ∃ (rk : Int → Nat) (K : Nat), (∀ u, rk u < K) ∧ TR N A f sk s BY BK SN rk
section
variable {N : Nat} {A : List T3} {f : List Int} {sk : Nat} {s : Int} {BY : List Int} {BK SN : List Bool} {W : List Int} {X : Int → Prop} {rk : Int → Nat}
theorem prd_rng (hk : NetOk N A) {v : Int} (h : Prv N A f sk BY BK SN rk v) : 0 ≤ prd A BY BK v ∧ prd A BY BK v < N := by
  have := hk.arc _ h.ix.2.2
  unfold prd; split <;> omega
theorem BT.start (hs : 0 ≤ s ∧ s < N) : BT N A f sk s (List.replicate N 0) (List.replicate N false) ((List.replicate N false).set s.toNat true) [s] (fun _ => False) ∧ cntF ((List.replicate N false).set s.toNat true) + 1 = N := by
  have hl : s.toNat < (List.replicate N false).length := by simp; omega
  have h0 : ∀ j, (List.replicate N false).getD j false = false := fun j => by simp only [List.getD, List.getElem?_replicate]; split <;> rfl
  have hg : ∀ j, ((List.replicate N false).set s.toNat true).getD j false = if s.toNat = j then true else false := fun j => by rw [setB_getD hl, h0]
  have hone : ∀ v : Int, 0 ≤ v → ((List.replicate N false).set s.toNat true).getD v.toNat false = true → v = s := fun v hv h => by
    rw [hg] at h
    by_cases e : s.toNat = v.toNat
    · omega
    · rw [if_neg e] at h; cases h
  refine ⟨⟨by simp, by simp, by simp, fun u hu => ?_, by rw [hg, if_pos rfl], fun u h1 h2 h3 h4 _ => absurd (List.mem_singleton.2 (hone u h1 h3)) h4, fun _ => 0, 1, fun _ => Nat.zero_lt_one, fun v h1 h2 h3 => .inl (hone v h1 h3)⟩, ?_⟩
  · rw [List.mem_singleton] at hu; subst hu; exact ⟨hs.1, hs.2, by rw [hg, if_pos rfl]⟩
  · have e : ∀ n, cntF (List.replicate n false) = n := fun n => by
      induction n with
      | zero => rfl
      | succ n ih => rw [List.replicate_succ]; simp only [cntF, ih]; rfl
    have := cntF_set hl (h0 _)
    rw [e] at this; exact this
theorem BT.pop {v : Int} (h : BT N A f sk s BY BK SN (v :: W) fun _ => False) : BT N A f sk s BY BK SN W fun u => u = v :=
  ⟨h.ly, h.lb, h.ls, fun u hu => h.wt u (List.mem_cons_of_mem _ hu), h.zero, fun u h1 h2 h3 h4 h5 => h.cls u h1 h2 h3 (fun hm => by
    rcases List.mem_cons.1 hm with e | e
    · exact h5 e
    · exact h4 e) (fun h => h), h.tree⟩
theorem BT.shut {v : Int} (h : BT N A f sk s BY BK SN W fun u => u = v) (hv : ∀ i, sk ≤ i → i < A.length → ∀ t, Edg A f v t i → SN.getD t.toNat false = true) : BT N A f sk s BY BK SN W fun _ => False :=
  ⟨h.ly, h.lb, h.ls, h.wt, h.zero, fun u h1 h2 h3 h4 _ => by
    by_cases e : u = v
    · subst e; exact hv
    · exact h.cls u h1 h2 h3 h4 e, h.tree⟩
theorem BT.push {v t : Int} {i : Nat} {b : Bool} (h : BT N A f sk s BY BK SN W X) (ht : 0 ≤ t ∧ t < N) (hn : SN.getD t.toNat false = false) (hv : SN.getD v.toNat false = true) (hi : sk ≤ i ∧ i < A.length)
    (h1 : b = true → too A i = v ∧ frm A i = t ∧ 0 < f.getD i 0) (h2 : b = false → frm A i = v ∧ too A i = t ∧ f.getD i 0 < cpy A i) :
    BT N A f sk s (BY.set t.toNat (i : Int)) (BK.set t.toNat b) (SN.set t.toNat true) (W ++ [t]) X := by
  have hly : t.toNat < BY.length := by rw [h.ly]; omega
  have hlb : t.toNat < BK.length := by rw [h.lb]; omega
  have hls : t.toNat < SN.length := by rw [h.ls]; omega
  have mono : ∀ j, SN.getD j false = true → (SN.set t.toNat true).getD j false = true := fun j hj => by rw [setB_getD hls]; split; rfl; exact hj
  obtain ⟨rk, K, hK, htr⟩ := h.tree
  refine ⟨by rw [List.length_set]; exact h.ly, by rw [List.length_set]; exact h.lb, by rw [List.length_set]; exact h.ls, fun u hu => ?_, mono _ h.zero, fun u h3 h4 h5 h6 h7 q hq hq2 p hp => ?_,
    fun u => if u = t then K else rk u, K + 1, fun u => ?_, fun u h3 h4 h5 => ?_⟩
  · rcases List.mem_append.1 hu with hu | hu
    · have := h.wt u hu; exact ⟨this.1, this.2.1, mono _ this.2.2⟩
    · rw [List.mem_singleton] at hu; subst hu; exact ⟨ht.1, ht.2, by rw [setB_getD hls, if_pos rfl]⟩
  · rw [setB_getD hls] at h5
    have hne : t ≠ u := fun e => h6 (by subst e; simp)
    rw [if_neg (by omega)] at h5
    exact mono _ (h.cls u h3 h4 h5 (fun hm => h6 (List.mem_append_left _ hm)) h7 q hq hq2 p hp)
  · show (if u = t then K else rk u) < K + 1
    split
    · omega
    · have := hK u; omega
  · by_cases e : u = t
    · subst e
      right
      have e1 : (BY.set u.toNat (i : Int)).getD u.toNat 0 = (i : Int) := by rw [set_getD' hly, if_pos rfl]
      have e2 : (BK.set u.toNat b).getD u.toNat false = b := by rw [setB_getD hlb, if_pos rfl]
      have e3 : prd A (BY.set u.toNat (i : Int)) (BK.set u.toNat b) u = v := by
        unfold prd; rw [e1, e2, Int.toNat_natCast]
        cases b with
        | true => rw [if_pos rfl]; exact (h1 rfl).1
        | false => rw [if_neg (by decide)]; exact (h2 rfl).1
      have hvu : v ≠ u := fun e => by rw [e, hn] at hv; cases hv
      refine ⟨by rw [e1]; omega, fun hb => ?_, fun hb => ?_, ?_, ?_, ?_⟩
      · rw [e2] at hb; rw [e1, Int.toNat_natCast]; exact (h1 hb).2.1
      · rw [e2] at hb; rw [e1, Int.toNat_natCast]; exact (h2 hb).2.1
      · unfold res; rw [e1, e2, Int.toNat_natCast]
        cases b with
        | true => rw [if_pos rfl]; exact (h1 rfl).2.2
        | false => rw [if_neg (by decide)]; have := (h2 rfl).2.2; omega
      · rw [e3]; exact mono _ hv
      · show (if prd A (BY.set u.toNat (i : Int)) (BK.set u.toNat b) u = u then K else rk (prd A (BY.set u.toNat (i : Int)) (BK.set u.toNat b) u)) < if u = u then K else rk u
        rw [e3, if_neg hvu, if_pos rfl]; exact hK v
    · rw [setB_getD hls, if_neg (by omega)] at h5
      rcases htr u h3 h4 h5 with e0 | hp
      · exact .inl e0
      · right
        have e1 : (BY.set t.toNat (i : Int)).getD u.toNat 0 = BY.getD u.toNat 0 := by rw [set_getD' hly, if_neg (by omega)]
        have e2 : (BK.set t.toNat b).getD u.toNat false = BK.getD u.toNat false := by rw [setB_getD hlb, if_neg (by omega)]
        have e3 : prd A (BY.set t.toNat (i : Int)) (BK.set t.toNat b) u = prd A BY BK u := by unfold prd; rw [e1, e2]
        have e4 : res A f (BY.set t.toNat (i : Int)) (BK.set t.toNat b) u = res A f BY BK u := by unfold res; rw [e1, e2]
        have hpt : prd A BY BK u ≠ t := fun e => by have := hp.sn; rw [e, hn] at this; cases this
        refine ⟨by rw [e1]; exact hp.ix, fun hb => ?_, fun hb => ?_, by rw [e4]; exact hp.pos, by rw [e3]; exact mono _ hp.sn, ?_⟩
        · rw [e2] at hb; rw [e1]; exact hp.bk hb
        · rw [e2] at hb; rw [e1]; exact hp.fw hb
        · show (if prd A (BY.set t.toNat (i : Int)) (BK.set t.toNat b) u = t then K else rk (prd A (BY.set t.toNat (i : Int)) (BK.set t.toNat b) u)) < if u = t then K else rk u
          rw [e3, if_neg hpt, if_neg e]; exact hp.rk
theorem BT.noway {t : Int} (hk : NetOk N A) (hs : 0 ≤ s ∧ s < N) (h : BT N A f sk s BY BK SN [] fun _ => False) (hn : SN.getD t.toNat false = false) : NoWay A f s t sk := by
  refine ⟨fun v => (0 ≤ v ∧ v < N) ∧ SN.getD v.toNat false = true, ⟨hs, h.zero⟩, fun h2 => ?_, fun j hj hl u v hu he => ?_⟩
  · have := h2.2; rw [hn] at this; cases this
  · exact ⟨(edg_rng hk hl he).2, h.cls u hu.1.1 hu.1.2 hu.2 (by simp) (fun h => h) j hj hl v he⟩

/-! ### the way back -/
inductive OnP (A : List T3) (BY : List Int) (BK : List Bool) (s : Int) : Int → Int → Prop
  | refl (v : Int) : OnP A BY BK s v v
  | step {v u : Int} : OnP A BY BK s v u → u ≠ s → OnP A BY BK s v (prd A BY BK u)
theorem OnP.seen (hk : NetOk N A) (h : TR N A f sk s BY BK SN rk) {t u : Int} (ht : 0 ≤ t ∧ t < N) (hst : SN.getD t.toNat false = true) (hu : OnP A BY BK s t u) : (0 ≤ u ∧ u < N) ∧ SN.getD u.toNat false = true := by
  induction hu with
  | refl => exact ⟨ht, hst⟩
  | step _ hne ih =>
    rcases h _ ih.1.1 ih.1.2 ih.2 with e | hp
    · exact absurd e hne
    · exact ⟨prd_rng hk hp, hp.sn⟩
theorem OnP.top {u : Int} (h : OnP A BY BK s s u) : u = s := by
  induction h with
  | refl => rfl
  | step _ hne ih => exact absurd ih hne
theorem OnP.next {v u : Int} (h : OnP A BY BK s v u) : u = v ∨ OnP A BY BK s (prd A BY BK v) u := by
  induction h with
  | refl => exact .inl rfl
  | step h1 hne ih =>
    rcases ih with e | ih
    · subst e; exact .inr (.refl _)
    · exact .inr (.step ih hne)
/-- the least rest on the way from t back to v -/
def Am (A : List T3) (f : List Int) (BY : List Int) (BK : List Bool) (s t v x l : Int) : Prop := OnP A BY BK s t v ∧ (1 ≤ x ∧ x ≤ l) ∧ ∀ u, OnP A BY BK s t u → OnP A BY BK s v u ∨ x ≤ res A f BY BK u
theorem Am.start {t l : Int} (hl : 1 ≤ l) : Am A f BY BK s t t l l := ⟨.refl _, ⟨hl, Int.le_refl _⟩, fun _ h => .inl h⟩
theorem Am.next {t v x y l : Int} (h : Am A f BY BK s t v x l) (hne : v ≠ s) (hp : 0 < res A f BY BK v) (hy : y = min x (res A f BY BK v)) : Am A f BY BK s t (prd A BY BK v) y l := by
  refine ⟨.step h.1 hne, by have := h.2.1; omega, fun u hu => ?_⟩
  rcases h.2.2 u hu with h1 | h1
  · rcases h1.next with e | e
    · subst e; right; omega
    · exact .inl e
  · right; omega
theorem Am.done {t x l : Int} (h : Am A f BY BK s t s x l) {u : Int} (hu : OnP A BY BK s t u) (hne : u ≠ s) : x ≤ res A f BY BK u := by
  rcases h.2.2 u hu with h1 | h1
  · exact absurd h1.top hne
  · exact h1
/-- the way from v on is used -/
structure Up (A : List T3) (f g : List Int) (sk : Nat) (BY : List Int) (BK : List Bool) (rk : Int → Nat) (s t v x : Int) : Prop where
  on : OnP A BY BK s t v
  psh : Psh A f g v t sk x
  same : ∀ j, g.getD j 0 = f.getD j 0 ∨ ∃ u, (u = frm A j ∨ u = too A j) ∧ rk v < rk u
theorem Up.start {t x : Int} (hF : isF A f) : Up A f f sk BY BK rk s t t x := ⟨.refl _, ⟨hF, fun _ _ => rfl, fun v => by omega⟩, fun _ => .inl rfl⟩
theorem Up.keep {g : List Int} {t v x : Int} (h : Up A f g sk BY BK rk s t v x) (hp : Prv N A f sk BY BK SN rk v) : g.getD (BY.getD v.toNat 0).toNat 0 = f.getD (BY.getD v.toNat 0).toNat 0 := by
  rcases h.same (BY.getD v.toNat 0).toNat with e | ⟨u, hu, hr⟩
  · exact e
  · exfalso
    have hrk := hp.rk
    unfold prd at hrk
    by_cases hb : BK.getD v.toNat false = true
    · have e1 := hp.bk hb
      rw [if_pos hb] at hrk
      rcases hu with rfl | rfl
      · rw [e1] at hr; omega
      · omega
    · have e1 := hp.fw (by simpa using hb)
      rw [if_neg hb] at hrk
      rcases hu with rfl | rfl
      · omega
      · rw [e1] at hr; omega
theorem Up.next {g : List Int} {t v x : Int} (hF : isF A f) (h : Up A f g sk BY BK rk s t v x) (hne : v ≠ s) (hp : Prv N A f sk BY BK SN rk v) (hx : 0 ≤ x ∧ x ≤ res A f BY BK v) :
    Up A f (g.set (BY.getD v.toNat 0).toNat (if BK.getD v.toNat false = true then g.getD (BY.getD v.toNat 0).toNat 0 - x else g.getD (BY.getD v.toNat 0).toNat 0 + x)) sk BY BK rk s t (prd A BY BK v) x := by
  have hk := h.keep hp
  obtain ⟨i, hi⟩ : ∃ i, (BY.getD v.toNat 0).toNat = i := ⟨_, rfl⟩
  have hix := hp.ix
  have hbk := hp.bk
  have hfw := hp.fw
  have hrk := hp.rk
  have hpr : prd A BY BK v = if BK.getD v.toNat false = true then too A i else frm A i := by unfold prd; rw [hi]
  have hre : res A f BY BK v = if BK.getD v.toNat false = true then f.getD i 0 else cpy A i - f.getD i 0 := by unfold res; rw [hi]
  rw [hi] at hk hix hbk hfw ⊢
  have hgl : i < g.length := by rw [h.psh.fl.1]; exact hix.2.2
  refine ⟨.step h.on hne, ?_, fun j => ?_⟩
  · by_cases hb : BK.getD v.toNat false = true
    · rw [if_pos hb] at hpr hre ⊢
      have h1 := psh_back h.psh.fl hix.2.2 hix.2.1 hx.1 (by omega)
      rw [hbk hb] at h1
      rw [hpr]
      exact h.psh.leg2 h1
    · rw [if_neg hb] at hpr hre ⊢
      have h1 := psh_forth h.psh.fl hix.2.2 hix.2.1 hx.1 (by omega)
      rw [hfw (by simpa using hb)] at h1
      rw [hpr]
      exact h.psh.leg2 h1
  · by_cases e : i = j
    · subst e
      right
      by_cases hb : BK.getD v.toNat false = true
      · exact ⟨v, .inl (hbk hb).symm, hrk⟩
      · exact ⟨v, .inr (hfw (by simpa using hb)).symm, hrk⟩
    · rw [set_getD' hgl, if_neg e]
      rcases h.same j with e1 | ⟨u, hu, hr⟩
      · exact .inl e1
      · exact .inr ⟨u, hu, by omega⟩
end
end Go.Proofs.Ytpdldifklgpikaa
set_option linter.unusedVariables false
set_option linter.unusedSimpArgs false
namespace Go.Eng
open Go.RowKit

/-- a slice of one-cell elements, anywhere in a block of the call's own -/
def OwnQ (B : Nat) (e : TypeId) (w : World) (v : Value) (n : Nat) (xs : List Value) : Prop :=
  xs.length = n ∧ ((v = .slice none 0 0 ∧ n = 0) ∨ ∃ g off cap cur, v = .slice (some ⟨g, off, none⟩) n cap ∧ B ≤ g ∧ w.heap[g]? = some (.cells cur e (0, 0)) ∧ n ≤ cap ∧ cap ≤ maxLen ∧ off + cap ≤ cur.size ∧ (cur.toList.drop off).take n = xs)
abbrev qb (v : Value) : Option Nat := v.ownBlock

section
variable {P : Program} {B : Nat} {e t : TypeId} {w w' : World} {v : Value} {n : Nat} {xs : List Value}
theorem OwnQ.of (h : Eng.Own B e 1 w v n xs) : OwnQ B e w v n xs := by
  refine ⟨by have := h.1; omega, ?_⟩
  rcases h.2 with h1 | ⟨g, cap, cur, rfl, h1, h2, h3, h4, h5, h6⟩
  · exact .inl h1
  · exact .inr ⟨g, 0, cap, cur, rfl, h1, h2, h3, h4, by omega, by rw [List.drop_zero]; rw [Nat.mul_one] at h6; exact h6⟩
theorem OwnQ.gr {S : Nat → Prop} (h : OwnQ B e w v n xs) (hg : Gr S w w') (hs : ∀ k, qb v = some k → ¬ S k) : OwnQ B e w' v n xs := by
  refine ⟨h.1, ?_⟩
  rcases h.2 with hn | ⟨g, off, cap, cur, rfl, hb, hgg, rest⟩
  · exact .inl hn
  · refine .inr ⟨g, off, cap, cur, rfl, hb, ?_, rest⟩
    rw [hg.block g (Array.getElem?_eq_some_iff.1 hgg).1 (hs g rfl)]
    exact hgg
theorem OwnQ.ext (h : OwnQ B e w v n xs) (hg : Ext w w') : OwnQ B e w' v n xs := h.gr hg fun _ _ hf => hf
theorem OwnQ.lt (h : OwnQ B e w v n xs) : ∀ k, qb v = some k → B ≤ k ∧ k < w.heap.size := by
  intro k hk
  rcases h.2 with ⟨rfl, _⟩ | ⟨g, off, cap, cur, rfl, hb, hgg, _⟩
  · cases hk
  · cases hk; exact ⟨hb, (Array.getElem?_eq_some_iff.1 hgg).1⟩
theorem OwnQ.ne {B' : Nat} {e' : TypeId} {s' : Nat} {v' : Value} {n' : Nat} {xs' : List Value} (h : OwnQ B e w v n xs) (h' : Eng.Own B' e' s' w v' n' xs') (he : e ≠ e') : ∀ k, qb v = some k → v'.ownBlock ≠ some k := by
  intro k hk hk'
  rcases h.2 with ⟨rfl, _⟩ | ⟨g, off, cap, cur, rfl, _, hg, _⟩
  · cases hk
  · rcases h'.2 with ⟨rfl, _⟩ | ⟨g', cap', cur', rfl, _, hg', _⟩
    · simp [Value.ownBlock] at hk'
    · cases hk
      simp [Value.ownBlock] at hk'
      subst hk'
      rw [hg] at hg'
      simp at hg'
      exact he hg'.2
theorem OwnQ.sl (h : OwnQ B e w v n xs) : Sl 1 w v n xs := by
  obtain ⟨hl, h⟩ := h
  rcases h with ⟨rfl, rfl⟩ | ⟨g, off, cap, cur, rfl, hb, hg, h1, h2, h3, h4⟩
  · exact ⟨none, 0, rfl, Nat.le_refl _, Nat.zero_le _, by omega, .inl rfl⟩
  · refine ⟨_, cap, rfl, h1, h2, by omega, .inr ⟨_, rfl, fun i x hx => ?_⟩⟩
    rw [Addr.add_lit]
    simp only [World.cell?, hg]
    have hi : i < xs.length := (List.getElem?_eq_some_iff.1 hx).1
    rw [← h4, List.getElem?_take, if_pos (by omega), List.getElem?_drop] at hx
    simpa using hx
theorem OwnQ.cut1 (h : OwnQ B e w v n xs) (hn : 1 ≤ n) : OwnQ B e w (view v 1 1 n) (n - 1) (xs.drop 1) ∧ ∀ k, qb (view v 1 1 n) = some k → qb v = some k := by
  obtain ⟨hl, h⟩ := h
  rcases h with ⟨rfl, rfl⟩ | ⟨g, off, cap, cur, rfl, hb, hg, h1, h2, h3, h4⟩
  · omega
  · by_cases hc : cap = 1
    · have hn1 : n = 1 := by omega
      subst hn1 hc
      have e1 : view (.slice (some ⟨g, off, none⟩) 1 1) 1 1 1 = .slice (some ⟨g, off, none⟩) 0 0 := by simp [view, sliced]
      rw [e1]
      have hx : xs.drop 1 = [] := List.drop_eq_nil_iff.2 (by omega)
      rw [hx]
      exact ⟨⟨rfl, .inr ⟨g, off, 0, cur, rfl, hb, hg, Nat.le_refl _, Nat.zero_le _, by omega, by simp⟩⟩, fun k hk => hk⟩
    · have e1 : view (.slice (some ⟨g, off, none⟩) n cap) 1 1 n = .slice (some ⟨g, off + 1, none⟩) (n - 1) (cap - 1) := by
        simp only [view, sliced, if_neg hc, Option.map_some, Nat.mul_one, Addr.add_lit]
      rw [e1]
      refine ⟨⟨by rw [List.length_drop]; omega, .inr ⟨g, off + 1, cap - 1, cur, rfl, hb, hg, by omega, by unfold maxLen at *; omega, by omega, ?_⟩⟩, fun k hk => hk⟩
      rw [← h4, List.drop_take, List.drop_drop]
theorem VE.appQ {a : World} {T : TypeId} {z x y : Value} {b : Nat} {K : Value → World → Prop} (ht : P.underlying t = some (.slice e)) (he : Elem P e z 1 b) (hzs : z.cells.size = 1)
    (H : OwnQ B e w v n xs) (hx : Ext a w) (hB : a.heap.size = B) (Hx : Sl 1 w x 1 [y]) (h1 : y.oneCell' = true) (h63 : n + 1 ≤ 9223372036854775807) (hb : (n + 1) * b ≤ 140737488355328)
    (hk : ∀ v' w', Ext a w' → Gr (fun k => qb v = some k) w w' → OwnQ B e w' v' (n + 1) (xs ++ [y]) → (∀ k, qb v' = some k → qb v = some k ∨ w.heap.size ≤ k) → K v' w') : VE P (Builtin.append_ #[t, t] T #[v, x]) w K := by
  refine VE.mk fun w1 hw1 => ?_
  obtain ⟨i, hi, hz, hsz, hby⟩ := he.info
  have H1 := H.ext hw1
  have hx1 := hx.trans hw1
  have hgrow : ∀ {v' w'}, w1.grownBy w' none → w'.ownsRow w1.heap.size e 1 v' (n + 1) (xs ++ [y]) → K v' w' := fun {v' w'} hg ho => by
    have hg1 : Ext w1 w' := (Gr.ofGrown hg).mono fun k _ hk => by cases hk
    have ho2 : Eng.Own w1.heap.size e 1 w' v' (n + 1) (xs ++ [y]) := ho
    have hs1 := hw1.size
    have hs2 := hx.size
    refine hk v' w' (hx1.trans hg1) (Gr.ofExt (hw1.trans hg1)) (OwnQ.of (Own.base ho2 (by omega))) fun k hk => .inr ?_
    have := (OwnQ.of ho2).lt k hk
    omega
  obtain ⟨ax, c, rfl, hc1, hc2, hc3, hat⟩ := Hx.ext hw1
  rcases hat with h0 | ⟨p, rfl, hat⟩
  · omega
  obtain ⟨hl, h⟩ := H1
  rcases h with ⟨rfl, rfl⟩ | ⟨g, off, cap, cur, rfl, hbg, hg, h2, h3, h4, h5⟩
  · obtain ⟨v', w', hr, ho, hg, _⟩ := run_append_own w1 (P := P) w1.heap.size t T e i z 1 b ht hi hz hsz hby hzs (by decide) (.slice none 0 0) 0 [] Own.nil p 1 c [y] (by simp) (fun j u hu => hat j u hu) (by intro u hu; simp at hu; subst hu; exact h1) (by unfold maxLen; omega) hb (Nat.le_refl _)
    have hxs : xs = [] := List.eq_nil_of_length_eq_zero hl
    subst hxs
    exact ⟨v', w', hr, hgrow hg ho⟩
  · by_cases hroom : n + 1 ≤ cap
    · have hlt : off + n < cur.size := by omega
      have hr := run_append_room_cells (P := P) w1 t T e i ht hi g off n cap p 1 c [y] (by rw [hsz]; rfl) (fun j u hu => hat j u hu) (by intro u hu; simp at hu; subst hu; exact h1) hroom
        (by intro j hj
            have : j = 0 := by simpa using hj
            subst this
            rw [hsz]; simp only [World.cell?, hg]; simp; omega)
        (by intro j hj; simp only [World.frozen?, hg]; rfl)
      rw [hsz, Nat.mul_one] at hr
      have hset : w1.setCells g (off + n) [y] = w1.setCell ⟨g, off + n, none⟩ y := rfl
      rw [hset] at hr
      refine ⟨_, _, hr, hk _ _ (hx1.new (Gr.setCell (S := fun k => k = g) (p := ⟨g, off + n, none⟩) (Gr.refl _ _) rfl y) fun k h6 h7 => by have := hx.size; omega) (Gr.setCell (S := fun k => qb (.slice (some ⟨g, off, none⟩) n cap) = some k) (p := ⟨g, off + n, none⟩) (Gr.ofExt hw1) rfl y) ?_ fun k hk => .inl hk⟩
      have hgl := (Array.getElem?_eq_some_iff.1 hg).1
      refine ⟨by simp [hl], .inr ⟨g, off, cap, cur.set (off + n) y, rfl, hbg, ?_, hroom, h3, by simpa using h4, ?_⟩⟩
      · simp only [World.setCell]
        rw [Array.getElem?_modify, if_pos rfl, hg]
        simp [Array.setIfInBounds, hlt]
      · have e1 : (cur.set (off + n) y).toList = cur.toList.set (off + n) y := by simp
        rw [e1, List.drop_set, if_neg (by omega), show off + n - off = n by omega]
        have hdl : n < (cur.toList.drop off).length := by simp; omega
        rw [List.take_set, ← h5]
        apply List.ext_getElem?
        intro j
        rw [List.getElem?_set, List.length_take]
        by_cases hj : n = j
        · subst hj
          rw [if_pos rfl]
          have e2 : (List.take n (cur.toList.drop off)).length = n := by rw [List.length_take]; omega
          rw [if_pos (by omega), List.getElem?_append_right (by omega), e2, Nat.sub_self]; rfl
        · rw [if_neg hj, List.getElem?_take]
          by_cases hj2 : j < n
          · rw [if_pos (by omega), List.getElem?_append_left (by simp; omega), List.getElem?_take, if_pos hj2]
          · rw [if_neg (by omega)]
            rw [List.getElem?_eq_none]
            simp; omega
    · obtain ⟨v', w', hr, ho, hg'⟩ := run_append_arg_grows (P := P) w1 t T e i z 1 b ht hi hz hsz hby hzs (by decide) ⟨g, off, none⟩ n cap xs (by omega) (fun j u hu => by
          rw [Addr.add_lit]; simp only [World.cell?, hg]
          have hi : j < xs.length := (List.getElem?_eq_some_iff.1 hu).1
          rw [← h5, List.getElem?_take, if_pos (by omega), List.getElem?_drop] at hu
          simpa using hu) p 1 c [y] (by rfl) (fun j u hu => hat j u hu) (by omega) (by unfold maxLen; omega) hb
      exact ⟨v', w', hr, hgrow hg' ho⟩
end
end Go.Eng
set_option linter.unusedVariables false
set_option linter.unusedSimpArgs false
namespace Go.Eng
open Go.RowKit

section
variable {P : Program} {tys : List Ty} {all : List Oper} {wr : List Nat} {md : Region.Mode}
/-- Whatever the world. -/
def isFree2 : Op → Bool
  | .fieldAddr _ _ _ => true
  | o => isFree o
theorem opq_free {fr : Fr} {w : World} {K : Value → Prop} (hty : TyOk P tys) {o : Oper} (hq : isQ o.op = true) (hf : isFree2 o.op = true) (h : opq P tys o.op o.type fr w K) : ∃ v, (∀ w', (execOp (ev fr) o).run P w' = .ok (.value v) w') ∧ K v := by
  by_cases hs : ∃ S x f, o.op = .fieldAddr S x f
  · obtain ⟨S, x, f, e⟩ := hs
    rw [e] at h
    unfold opq at h
    simp only [evK_eq] at h
    split at h
    · rename_i p n fs e1 e2
      have hS := hty.at S
      rw [e2] at hS
      split at h
      · rename_i off sz e3
        obtain ⟨g, q, hu, hqq, ho, hff⟩ := st_field hS e3
        have hne : P.cellsOf q.type ≠ 0 := by
          simp only [fieldFits, Bool.and_eq_true] at hff
          have h2 := hff.2
          cases sz <;> simp only [Bool.and_eq_true, beq_iff_eq, bne_iff_ne] at h2 <;> omega
        have hoff : q.offset = off := ho
        refine ⟨_, fun w' => ?_, h⟩
        obtain ⟨dst, op, T, pos, after, guard⟩ := o
        dsimp only at e
        subst e
        simp [execOp, e1, Instr.fieldAt, run_underlying hu, hqq, Instr.sureAddr, fieldPlace, sizeOf_run rfl hne, hne, hoff]
      · simp [Stuck] at h
    · simp [Stuck] at h
  · have hf2 : isFree o.op = true := by
      unfold isFree2 at hf
      split at hf
      · rename_i S x f e; exact absurd ⟨S, x, f, e⟩ hs
      · exact hf
    obtain ⟨v, hy, hk⟩ := opq_sound hty o h
    exact ⟨v, fun w' => quiet_free hf2 (quiet_value hq hy w (Ext.refl w)), hk⟩

noncomputable def quietB2 (md : Region.Mode) (ops : Array Oper) (wr : List Nat) (i : Nat) : Bool :=
  match ops[i]? with
  | none => false
  | some o => isQ o.op && !memB wr i && (isFree2 o.op || wr.all fun j => j == i || befB md ops ops.size i j || befB md ops ops.size j i) &&
    (List.range ops.size).all fun j => j == i || Region.waitsFor md ops j i || Region.waitsFor md ops i j || (match ops[j]? with | some oj => sepB ops o oj | none => true)

noncomputable def chk2 (md : Region.Mode) (ops : Array Oper) (wr : List Nat) : Plan → Bool → Array Bool → Bool
  | .nil, false, l => (Region.ready md ops l).isEmpty
  | .nil, true, _ => true
  | .q i p, false, l => quietB2 md ops wr i && (Region.ready md ops l).contains i && chk2 md ops wr p false (l.setIfInBounds i true)
  | .q _ _, true, _ => false
  | .e i p r, alt, l => chk2 md ops wr p false (l.setIfInBounds i true) && chk2 md ops wr r true l && (alt || ((Region.ready md ops l).contains i && (Region.ready md ops l).all fun j => (Plan.e i p r).heads.contains j))

noncomputable def planB2 (md : Region.Mode) (all : List Oper) (wr : List Nat) (p : Plan) : Bool :=
  (all.all fun o => plainOp o.op) && decide (p.depth ≤ all.length) && chk2 md all.toArray wr p false (Array.replicate all.length false)


theorem pw_sound2 (hty : TyOk P tys) (hpl : ∀ (j : Nat) (o : Oper), all.toArray[j]? = some o → plainOp o.op = true) (K : Fr → World → Prop) : ∀ (p : Plan) (listed : Array Bool) (fr : Fr) (w : World), Closed md all.toArray listed →
    (pw P tys all wr p false fr w K → chk2 md all.toArray wr p false listed = true → ∀ n, p.depth ≤ n → ∀ w', Ext w w' → anyS P md all.toArray wr (Qp K) n listed (Act.mk fr.toArray []) w') ∧
    (pw P tys all wr p true fr w K → chk2 md all.toArray wr p true listed = true → ∀ n, p.depth ≤ n + 1 → ∀ w', Ext w w' → ∀ j ∈ p.heads, j ∈ Region.ready md all.toArray listed → stepS P all.toArray wr j (anyS P md all.toArray wr (Qp K) n (listed.setIfInBounds j true)) (Act.mk fr.toArray []) w') := by
  intro p
  induction p with
  | nil =>
    intro listed fr w _
    refine ⟨fun h hc n _ w' hw => ?_, fun _ _ n _ w' _ j hj => by simp [Plan.heads] at hj⟩
    have h0 : Region.ready md all.toArray listed = [] := by simpa [chk2] using hc
    have hQ : Qp K (Act.mk fr.toArray []) w' := ⟨fr, w, rfl, hw, h⟩
    cases n with
    | zero => exact ⟨h0, hQ⟩
    | succ n => exact ⟨fun _ => hQ, fun i hi => by rw [h0] at hi; cases hi⟩
  | q i p ih =>
    intro listed fr w hcl
    refine ⟨fun h hc n hn w' hw => ?_, fun _ hc => by simp [chk2] at hc⟩
    have h : nthOp all i fun o => grd all fr o.guard (opq P tys o.op o.type fr w fun v => putK fr o.dst v fun fr' => pw P tys all wr p false fr' w K) (putK fr o.dst undef fun fr' => pw P tys all wr p false fr' w K) := h
    obtain ⟨o, ho, h⟩ := nthOp_spec h
    simp only [chk2, Bool.and_eq_true] at hc
    obtain ⟨⟨hq, hr⟩, hc⟩ := hc
    have hir : i ∈ Region.ready md all.toArray listed := by simpa using hr
    unfold quietB2 at hq
    rw [ho] at hq
    simp only [Bool.and_eq_true, Bool.or_eq_true, List.all_eq_true] at hq
    obtain ⟨⟨⟨hQ, hni⟩, hfw⟩, hsep⟩ := hq
    have hni' : i ∉ wr := fun h => by rw [memB_spec.2 h] at hni; simp at hni
    have hsep' : ∀ (j : Nat) (oj : Oper), j ≠ i → all.toArray[j]? = some oj → Region.waitsFor md all.toArray j i = true ∨ Region.waitsFor md all.toArray i j = true ∨ sepB all.toArray o oj = true := fun j oj hj hoj => by
      have hlt : j < all.toArray.size := (Array.getElem?_eq_some_iff.1 hoj).1
      have := hsep j (List.mem_range.2 hlt)
      rw [hoj] at this
      rcases this with ((h1 | h1) | h1) | h1
      · exact absurd (by simpa using h1) hj
      · exact .inl h1
      · exact .inr (.inl h1)
      · exact .inr (.inr h1)
    obtain ⟨m, rfl⟩ : ∃ m, n = m + 1 := ⟨n - 1, by simp only [Plan.depth] at hn; omega⟩
    have hm : p.depth ≤ m := by simp only [Plan.depth] at hn; omega
    have next : ∀ v, pw P tys all wr p false (putF fr o.dst v) w K → anyS P md all.toArray wr (Qp K) m (listed.setIfInBounds i true) ((Act.mk fr.toArray []).put o.dst v) w' := fun v hv => by
      rw [act_put]
      exact (ih _ _ w (closed_set hcl hir)).1 hv hc m hm w' hw
    rcases grd_spec h with ⟨hwt, h⟩ | ⟨hwt, h⟩
    · rcases hfw with hf | hw2
      · obtain ⟨v, hval, hk⟩ := opq_free hty hQ hf h
        rw [putK_eq] at hk
        refine insert_quiet (C := fun _ => True) ho hpl hsep' (fun _ _ _ _ => trivial) (.inl fun _ => trivial) hni' m listed _ w' trivial hcl hir (.inl ⟨hwt, fun w2 _ => ?_⟩) (next v hk)
        rw [ev_eq]
        exact hval w2
      · obtain ⟨v, hy, hk⟩ := opq_sound hty o h
        rw [putK_eq] at hk
        have hval := quiet_value hQ hy
        refine insert_quiet (C := fun w2 => Ext w w2) ho hpl hsep' (fun _ _ h1 h2 => h1.trans h2) (.inr fun j hj hji => ?_) hni' m listed _ w' hw hcl hir (.inl ⟨hwt, fun w2 h2 => by rw [ev_eq]; exact hval w2 h2⟩) (next v hk)
        rcases hw2 j hj with (h3 | h3) | h3
        · exact absurd (by simpa using h3) hji
        · exact ⟨_, .inl h3⟩
        · exact ⟨_, .inr h3⟩
    · rw [putK_eq] at h
      exact insert_quiet (C := fun _ => True) (v := undef) ho hpl hsep' (fun _ _ _ _ => trivial) (.inl fun _ => trivial) hni' m listed _ w' trivial hcl hir (.inr ⟨hwt, rfl⟩) (next undef h)
  | e i p r ihp ihr =>
    intro listed fr w hcl
    have step : ∀ alt, pw P tys all wr (.e i p r) alt fr w K → chk2 md all.toArray wr (.e i p r) alt listed = true → ∀ n, (Plan.e i p r).depth ≤ n + 1 → ∀ w', Ext w w' → ∀ j ∈ (Plan.e i p r).heads, j ∈ Region.ready md all.toArray listed →
        stepS P all.toArray wr j (anyS P md all.toArray wr (Qp K) n (listed.setIfInBounds j true)) (Act.mk fr.toArray []) w' := by
      intro alt h hc n hn w' hw j hj hjr
      have h : andT r (nthOp all i fun o => grd all fr o.guard (effK P tys (memB wr i) o fr w fun v w' => putK fr o.dst v fun fr' => pw P tys all wr p false fr' w' K) (putK fr o.dst undef fun fr' => pw P tys all wr p false fr' w K)) (pw P tys all wr r true fr w K) := h
      obtain ⟨hA, hB⟩ := andT_spec h
      simp only [chk2, Bool.and_eq_true] at hc
      obtain ⟨⟨hcp, hcr⟩, _⟩ := hc
      simp only [Plan.depth] at hn
      simp only [Plan.heads, List.mem_cons] at hj
      rcases hj with rfl | hj
      · obtain ⟨o, ho, hA⟩ := nthOp_spec hA
        have next : ∀ v wb w'', Ext wb w'' → pw P tys all wr p false (putF fr o.dst v) wb K → anyS P md all.toArray wr (Qp K) n (listed.setIfInBounds j true) ((Act.mk fr.toArray []).put o.dst v) w'' := fun v wb w'' hx hv => by
          rw [act_put]
          exact (ihp _ _ wb (closed_set hcl hjr)).1 hv hcp n (by omega) w'' hx
        unfold stepS
        rw [ho]
        dsimp only
        rcases grd_spec hA with ⟨hwt, hA⟩ | ⟨hwt, hA⟩
        · rw [if_pos hwt, ev_eq]
          cases hmem : memB wr j with
          | true =>
            rw [hmem] at hA
            refine ok1_mono (op1_ok1 hty o hw hA) fun u w'' ⟨v, wb, he, hx, hK⟩ => ⟨fun hh => absurd (memB_spec.1 hmem) hh, ?_⟩
            rw [putK_eq] at hK
            rw [he]
            exact next v wb w'' hx hK
          | false =>
            rw [hmem] at hA
            refine ok1_mono (opx_sound (tys := tys) hty o hw hA) fun v w'' ⟨hxx, wb, hx, hK⟩ => ⟨fun _ => hxx, ?_⟩
            rw [putK_eq] at hK
            exact next v wb w'' hx hK
        · rw [if_neg (by rw [hwt]; simp)]
          rw [putK_eq] at hA
          exact next undef w w' hw hA
      · rcases hB with rfl | hB
        · simp [Plan.heads] at hj
        · exact (ihr listed fr w hcl).2 hB hcr n (by omega) w' hw j hj hjr
    refine ⟨fun h hc n hn w' hw => ?_, step true⟩
    have hall := hc
    simp only [chk2, Bool.and_eq_true, Bool.false_or] at hall
    have hall := hall.2
    obtain ⟨m, rfl⟩ : ∃ m, n = m + 1 := ⟨n - 1, by simp only [Plan.depth] at hn; omega⟩
    refine ⟨fun h0 => ?_, fun j hj => ?_⟩
    · have := hall.1
      rw [h0] at this; simp at this
    · refine step false h hc m hn w' hw j ?_ hj
      have := List.all_eq_true.1 hall.2 j hj
      simpa using this


theorem Dr.plan2 (d : Nat) (wr : List Nat) (p : Plan) (hty : TyOk P tys) {fr : Fr} {w : World} {K : Fr → World → Prop} (_hd : firstDst all = some d) (hB : planB2 .any all wr p = true) (h : pw P tys all wr p false fr w K) : Dr P all fr w K := by
  simp only [Dr]
  intro id Q hk w' hw
  simp only [planB2, Bool.and_eq_true, decide_eq_true_eq, List.all_eq_true] at hB
  obtain ⟨⟨hpl, hd⟩, hc⟩ := hB
  refine wp_region_any hty.mixed ?_
  have hcl : Closed .any all.toArray (Array.replicate all.length false) := fun j k hj _ => by rw [getD_replicate_false all.length j] at hj; cases hj
  have := (pw_sound2 hty (fun j o ho => hpl o (List.mem_of_getElem? (by simpa using ho))) K p _ fr w hcl).1 h hc all.length hd _ (hw.drawn (w'.drawn + 1))
  refine any_of_anyS (Qf := Qp K) ?_ _ _ _ _ (by simpa using this)
  rintro a w2 ⟨fr', wb, rfl, hx, hK⟩
  exact hk fr' wb w2 hx hK

end
end Go.Eng
set_option linter.unusedVariables false
set_option linter.unusedSimpArgs false
namespace Go.Proofs.Ytpdldifklgpikaa
open Go.Eng
set_option maxRecDepth 100000
set_option maxHeartbeats 4000000

def Dsj (x y : Value) : Prop := ∀ k, x.ownBlock = some k → y.ownBlock ≠ some k
theorem OwnQ.blk_ne {B b n : Nat} {e T : TypeId} {w : World} {v : Value} {xs ys : List Value} (h : OwnQ B e w v n xs) (hb : Blk w b T ys) (he : e ≠ T) : v.ownBlock ≠ some b := by
  intro hk
  rcases h.2 with ⟨rfl, _⟩ | ⟨g, off, cap, cur, rfl, _, hg, _⟩
  · cases hk
  · cases hk
    unfold Blk at hb
    rw [hg] at hb
    simp at hb
    exact he hb.2
/-- the search's own lists: by, back, seen, and the queue -/
structure BS (w0 w : World) (yv kv nv qv : Value) (BY : List Int) (BK SN : List Bool) (W : List Int) : Prop where
  ex : Ext w0 w
  hy : OB w0.heap.size w yv BY
  hb : OZ w0.heap.size w kv BK
  hn : OZ w0.heap.size w nv SN
  hq : OwnQ w0.heap.size 3 w qv W.length (W.map i64v)
  dkn : Dsj kv nv
  dyq : Dsj yv qv
section
variable {w0 w : World} {yv kv nv qv : Value} {BY : List Int} {BK SN : List Bool} {W : List Int}
theorem BS.ext (h : BS w0 w yv kv nv qv BY BK SN W) {w' : World} (hx : Ext w w') : BS w0 w' yv kv nv qv BY BK SN W :=
  ⟨h.ex.trans hx, Own.ext h.hy hx, Own.ext h.hb hx, Own.ext h.hn hx, h.hq.ext hx, h.dkn, h.dyq⟩
theorem BS.stN (h : BS w0 w yv kv nv qv BY BK SN W) {k : Nat} {x : Bool} {K : World → Prop} (hk : k < SN.length)
    (hK : ∀ w', Gr (fun j => nv.ownBlock = some j) w w' → BS w0 w' yv kv nv qv BY BK (SN.set k x) W → K w') : St w (ea nv k) (.bool x) K :=
  OZ.set h.hn hk fun w' hg h' => hK w' hg ⟨Own.keep h.hn h.ex (Nat.le_refl _) hg, Own.row h.hy h.hn (by decide) hg, Own.gr h.hb hg (fun k hk hS => h.dkn k hk hS), h', h.hq.gr hg (fun k hk hS => h.hq.ne h.hn (by decide) k hk hS), h.dkn, h.dyq⟩
theorem BS.stK (h : BS w0 w yv kv nv qv BY BK SN W) {k : Nat} {x : Bool} {K : World → Prop} (hk : k < BK.length)
    (hK : ∀ w', Gr (fun j => kv.ownBlock = some j) w w' → BS w0 w' yv kv nv qv BY (BK.set k x) SN W → K w') : St w (ea kv k) (.bool x) K :=
  OZ.set h.hb hk fun w' hg h' => hK w' hg ⟨Own.keep h.hb h.ex (Nat.le_refl _) hg, Own.row h.hy h.hb (by decide) hg, h', Own.gr h.hn hg (fun k hk hS => h.dkn k hS hk), h.hq.gr hg (fun k hk hS => h.hq.ne h.hb (by decide) k hk hS), h.dkn, h.dyq⟩
theorem BS.stY (h : BS w0 w yv kv nv qv BY BK SN W) {k : Nat} {x : Int} {K : World → Prop} (hk : k < BY.length)
    (hK : ∀ w', Gr (fun j => yv.ownBlock = some j) w w' → BS w0 w' yv kv nv qv (BY.set k x) BK SN W → K w') : St w (ea yv k) (.int .i64 x) K :=
  OB.set h.hy hk fun w' hg h' => hK w' hg ⟨Own.keep h.hy h.ex (Nat.le_refl _) hg, h', Own.row h.hb h.hy (by decide) hg, Own.row h.hn h.hy (by decide) hg, h.hq.gr hg (fun k hk hS => h.dyq k hS hk), h.dkn, h.dyq⟩
theorem BS.pop {v : Int} (h : BS w0 w yv kv nv qv BY BK SN (v :: W)) : BS w0 w yv kv nv (view qv 1 1 (v :: W).length) BY BK SN W := by
  obtain ⟨h1, h2⟩ := h.hq.cut1 (by simp)
  exact ⟨h.ex, h.hy, h.hb, h.hn, by simpa using h1, h.dkn, fun k hk hq => h.dyq k hk (h2 k hq)⟩
theorem BS.app (h : BS w0 w yv kv nv qv BY BK SN W) {x : Value} {t : Int} {K : Value → World → Prop} (Hx : Sl 1 w x 1 [.int .i64 t]) (hl : W.length ≤ 1000)
    (hK : ∀ v' w', Gr (fun j => qv.ownBlock = some j) w w' → BS w0 w' yv kv nv v' BY BK SN (W ++ [t]) → K v' w') : VE Try.prog (Builtin.append_ #[26, 26] 26 #[qv, x]) w K :=
  VE.appQ Try.underlying26 eInt rfl h.hq h.ex rfl Hx rfl (by omega) (by omega) fun v' w' hx hg ho hb => hK v' w' hg
    ⟨hx, Own.gr h.hy hg (fun k hk hS => h.dyq k hk hS), Own.gr h.hb hg (fun k hk hS => h.hq.ne h.hb (by decide) k hS hk), Own.gr h.hn hg (fun k hk hS => h.hq.ne h.hn (by decide) k hS hk), by rw [List.length_append, List.map_append]; exact ho, h.dkn, fun k hk hq => by
      rcases hb k hq with h1 | h1
      · exact h.dyq k hk h1
      · have := (Own.lt h.hy k hk).2; omega⟩
end

theorem At.gr {S : Nat → Prop} {w w' : World} {b : Nat} {xs : List Value} (h : At w ⟨b, 0, none⟩ xs) (hg : Gr S w w') (hs : ¬ S b) : At w' ⟨b, 0, none⟩ xs := fun i x hx => by
  have := h i x hx
  rw [Addr.add_lit] at this ⊢
  exact Gr.cell hg this hs
structure BX (w0 w : World) (b : Nat) (yv kv nv qv : Value) (BY : List Int) (BK SN : List Bool) (W : List Int) (xs : List Value) : Prop where
  bs : BS w0 w yv kv nv qv BY BK SN W
  bx : Blk w b 56 xs
section
variable {w0 w : World} {b : Nat} {yv kv nv qv : Value} {BY : List Int} {BK SN : List Bool} {W : List Int} {xs : List Value}
theorem BX.kn (h : BX w0 w b yv kv nv qv BY BK SN W xs) : Bls w nv SN := Own.sl h.bs.hn
theorem BX.kb (h : BX w0 w b yv kv nv qv BY BK SN W xs) : Bls w kv BK := Own.sl h.bs.hb
theorem BX.ky (h : BX w0 w b yv kv nv qv BY BK SN W xs) : Ints w yv BY := Own.sl h.bs.hy
theorem BX.stN (h : BX w0 w b yv kv nv qv BY BK SN W xs) {k : Nat} {x : Bool} {K : World → Prop} (hk : k < SN.length) (hK : ∀ w', BX w0 w' b yv kv nv qv BY BK (SN.set k x) W xs → K w') : St w (ea nv k) (.bool x) K :=
  BS.stN h.bs hk fun w' hg h' => hK w' ⟨h', Blk.row h.bx h.bs.hn (by decide) hg⟩
theorem BX.stK (h : BX w0 w b yv kv nv qv BY BK SN W xs) {k : Nat} {x : Bool} {K : World → Prop} (hk : k < BK.length) (hK : ∀ w', BX w0 w' b yv kv nv qv BY (BK.set k x) SN W xs → K w') : St w (ea kv k) (.bool x) K :=
  BS.stK h.bs hk fun w' hg h' => hK w' ⟨h', Blk.row h.bx h.bs.hb (by decide) hg⟩
theorem BX.stY (h : BX w0 w b yv kv nv qv BY BK SN W xs) {k : Nat} {x : Int} {K : World → Prop} (hk : k < BY.length) (hK : ∀ w', BX w0 w' b yv kv nv qv (BY.set k x) BK SN W xs → K w') : St w (ea yv k) (.int .i64 x) K :=
  BS.stY h.bs hk fun w' hg h' => hK w' ⟨h', Blk.row h.bx h.bs.hy (by decide) hg⟩
end
/-- a part of a walk that is proved apart -/
structure Cut (P : Prop) : Prop where
  run : P
noncomputable def push_cut {wA w : World} {N : Nat} {A : List T3} {f : List Int} {sv fv : Value} {s t l : Int} {sk : Nat} (HA : Trs wA sv A) (hex : Ext wA w) (Hf : OB wA.heap.size w fv f) (hk : NetOk N A) (hF : isF A f) (hs : 0 ≤ s ∧ s < N) (ht : 0 ≤ t ∧ t < N) (hl : 0 ≤ l ∧ l ≤ 200000000) (hsk : sk ≤ A.length) :
    {P : Prop × Prop × Prop // Cut P.1 → Cut P.2.1 → Cut P.2.2 → RC Try.prog 43 [.agg #[.int .i64 (N : Int), sv], fv, .int .i64 s, .int .i64 t, .int .i64 (sk : Int), .int .i64 l] w (fun k => fv.ownBlock = some k) (fun u w' => ∃ x f', u = .int .i64 x ∧ OB wA.heap.size w' fv f' ∧ Ext wA w' ∧ (0 ≤ x ∧ x ≤ l) ∧ Psh A f f' s t sk x ∧ (x = 0 → l = 0 ∨ NoWay A f' s t sk))} := by
  refine ⟨(?Pa, ?Pb, ?Pc), fun keyA keyB keyC => ?main⟩
  case main =>
    have h40 := hk.n40
    have h200 := hk.a200
    have hle := HA.le
    have hfl := hF.1
    have HAo := HA
    replace HA := HA.ext hex
    refine RC.mk tyOk Try.func43 rfl (by kernel_rfl) fun w1 E1 => ?_
    replace HA := HA.ext E1
    replace Hf := Hf.ext E1
    have EE := Ext.refl w1
    have hex1 := hex.trans E1
    have Hf__0 := Hf
    refine Bx.agg fun b2 w2 E2 hb2 Hb _ => ?_
    replace HA := HA.ext E2
    replace Hf := Hf.ext E2
    replace EE := EE.ext E2
    have HF : Ints w2 fv f := Own.sl Hf
    have HA0 := HA
    have Hf0 := HF
    have Hb0 := Hb
    have HfB := Hf
    have hbf : ¬ fv.ownBlock = some b2 := fun h => by have := (Own.lt Hf__0 b2 h).2; omega
    repeat' ((conv => whnf); first | (refine Dr.plan 28 [] (.q 0 (.q 1 (.q 3 (.q 4 (.e 2 (.q 6 (.e 5 (.q 7 .nil) .nil)) (.e 5 (.e 2 (.q 6 (.q 7 .nil)) .nil) .nil)))))) tyOk rfl (by kernel_rfl) ?_) | (refine Dr.plan 93 [11, 13, 15] (.q 0 (.q 1 (.q 2 (.q 3 (.q 4 (.q 5 (.q 6 (.q 7 (.q 8 (.q 9 (.q 10 (.e 11 (.q 12 (.e 13 (.q 14 (.e 15 .nil .nil)) .nil)) .nil)))))))))))) tyOk rfl (by kernel_rfl) ?_) | (refine Dr.plan 127 [11, 13, 15] (.q 0 (.q 1 (.q 2 (.q 3 (.q 4 (.q 5 (.q 6 (.q 7 (.q 8 (.q 9 (.q 10 (.e 11 (.q 12 (.e 13 (.q 14 (.e 15 .nil .nil)) .nil)) .nil)))))))))))) tyOk rfl (by kernel_rfl) ?_) | (refine Dr.plan 160 [6] (.q 0 (.q 1 (.q 2 (.q 3 (.q 4 (.q 5 (.e 6 (.q 7 (.q 8 (.q 9 (.q 10 (.q 11 .nil))))) .nil))))))) tyOk rfl (by kernel_rfl) ?_) | (refine Dr.quiet tyOk (by kernel_rfl) ?_) | (refine Rng.mk (by omega) ?_) | (refine Split.pos (by omega) ?_) | (refine Split.neg (by omega) ?_) | (refine Split.mk (fun h => ?_) (fun h => ?_)) | (refine Need.mk (by omega) ?_) | (refine Ints.ln (by assumption) ?_) | (refine Mat.ln (by assumption) ?_) | (refine Ints.ln (Mat.row (by assumption) _ (by omega)) ?_) | (refine Ints.ix (by assumption) (by omega) ?_) | (refine Mat.ix (by assumption) (by omega) ?_) | (refine Ints.ix (Mat.row (by assumption) _ (by omega)) (by omega) ?_) | (refine Ints.ix (c := 0) (by assumption) (by omega) ?_) | (refine Mat.ix (c := 0) (by assumption) (by omega) ?_) | (refine Ints.ix (c := 0) (Mat.row (by assumption) _ (by omega)) (by omega) ?_) | (refine Ints.ixI (by assumption) (by omega) ?_) | (refine Mat.ixI (by assumption) (by omega) ?_) | (refine Ints.ixI (Mat.row (by assumption) _ (by omega)) (by omega) ?_) | (refine Ints.ld (by assumption) (by omega) ?_) | (refine Mat.ld (by assumption) (by omega) ?_) | (refine Ints.ld (Mat.row (by assumption) _ (by omega)) (by omega) ?_) | (refine At.ld (by assumption) rfl ?_) | (refine At.ldN (by assumption) rfl ?_) | (refine Prs.ln (by assumption) ?_) | (refine Trs.ln (by assumption) ?_) | (refine Prs.ix (by assumption) (by omega) ?_) | (refine Trs.ix (by assumption) (by omega) ?_) | (refine Prs.ldN (by assumption) (by omega) ?_) | (refine Trs.ldN (by assumption) (by omega) ?_) | (refine At.ldN (Blk.at (by assumption)) rfl ?_) | (refine At.ld (Blk.at (by assumption)) rfl ?_) | (refine IxA.mk (by omega) ?_) | (refine Sl.ln (Own.sl (by assumption)) ?_) | (refine Ints.ix (Own.sl (by assumption)) (by omega) ?_) | (refine Ints.ixI (Own.sl (by assumption)) (by omega) ?_) | (refine Ints.ld (Own.sl (by assumption)) (by omega) ?_))
    have key : ∀ (wz : World) (yv kv : Value), Ext w2 wz → OB w2.heap.size wz yv (List.replicate N 0) → OZ w2.heap.size wz kv (List.replicate N false) → (?P : World → Value → Value → Prop) wz yv kv := ?key
    conv => whnf
    refine ⟨?_, ?_⟩
    · conv => whnf
      refine VX.made (n := N) Try.underlying26 eInt rfl (by omega) (by omega) fun yv w4 E4 H1 _ => ?_
      conv => whnf
      refine VX.made (n := N) Try.underlying32 eBool rfl (by omega) (by omega) fun kv w5 E5 H2 _ => ?_
      conv => whnf
      exact key _ _ _ (E4.trans E5) (OB.made (Own.ext (H1 _ (Nat.le_refl _)) E5)) (OZ.made (H2 _ E4.size))
    · conv => whnf
      refine VX.made (n := N) Try.underlying32 eBool rfl (by omega) (by omega) fun kv w4 E4 H2 _ => ?_
      conv => whnf
      refine VX.made (n := N) Try.underlying26 eInt rfl (by omega) (by omega) fun yv w5 E5 H1 _ => ?_
      conv => whnf
      exact key _ _ _ (E4.trans E5) (OB.made (H1 _ E4.size)) (OZ.made (Own.ext (H2 _ (Nat.le_refl _)) E5))
    intro wz yv kv Ez HY HK
    replace Hb := Hb0.ext Ez
    conv => whnf
    repeat' ((conv => whnf); first | (refine Dr.quiet tyOk (by kernel_rfl) ?_) | (refine Rng.mk (by omega) ?_) | (refine Split.pos (by omega) ?_) | (refine Split.neg (by omega) ?_) | (refine Split.mk (fun h => ?_) (fun h => ?_)) | (refine Need.mk (by omega) ?_) | (refine Ints.ln (by assumption) ?_) | (refine Mat.ln (by assumption) ?_) | (refine Ints.ln (Mat.row (by assumption) _ (by omega)) ?_) | (refine Ints.ix (by assumption) (by omega) ?_) | (refine Mat.ix (by assumption) (by omega) ?_) | (refine Ints.ix (Mat.row (by assumption) _ (by omega)) (by omega) ?_) | (refine Ints.ix (c := 0) (by assumption) (by omega) ?_) | (refine Mat.ix (c := 0) (by assumption) (by omega) ?_) | (refine Ints.ix (c := 0) (Mat.row (by assumption) _ (by omega)) (by omega) ?_) | (refine Ints.ixI (by assumption) (by omega) ?_) | (refine Mat.ixI (by assumption) (by omega) ?_) | (refine Ints.ixI (Mat.row (by assumption) _ (by omega)) (by omega) ?_) | (refine Ints.ld (by assumption) (by omega) ?_) | (refine Mat.ld (by assumption) (by omega) ?_) | (refine Ints.ld (Mat.row (by assumption) _ (by omega)) (by omega) ?_) | (refine At.ld (by assumption) rfl ?_) | (refine At.ldN (by assumption) rfl ?_) | (refine Prs.ln (by assumption) ?_) | (refine Trs.ln (by assumption) ?_) | (refine Prs.ix (by assumption) (by omega) ?_) | (refine Trs.ix (by assumption) (by omega) ?_) | (refine Prs.ldN (by assumption) (by omega) ?_) | (refine Trs.ldN (by assumption) (by omega) ?_) | (refine At.ldN (Blk.at (by assumption)) rfl ?_) | (refine At.ld (Blk.at (by assumption)) rfl ?_) | (refine IxA.mk (by omega) ?_) | (refine Sl.ln (Own.sl (by assumption)) ?_) | (refine Ints.ix (Own.sl (by assumption)) (by omega) ?_) | (refine Ints.ixI (Own.sl (by assumption)) (by omega) ?_) | (refine Ints.ld (Own.sl (by assumption)) (by omega) ?_))
    refine VE.made (n := N) Try.underlying32 eBool rfl (by omega) (by omega) fun nv w6 E6 H3 hnb => ?_
    have HN := OZ.made (H3 _ Ez.size)
    have hdkn : Dsj kv nv := fun k h1 h2 => by
      have := (Own.lt HK k h1).2
      have := hnb k h2
      omega
    have hrl : (List.replicate N false).length = N := List.length_replicate
    repeat' ((conv => whnf); first | (refine Dr.quiet tyOk (by kernel_rfl) ?_) | (refine Bls.ixI (Own.sl HN) (by omega) ?_) | (refine Rng.mk (by omega) ?_) | (refine Split.pos (by omega) ?_) | (refine Split.neg (by omega) ?_) | (refine Split.mk (fun h => ?_) (fun h => ?_)) | (refine Need.mk (by omega) ?_) | (refine Ints.ln (by assumption) ?_) | (refine Mat.ln (by assumption) ?_) | (refine Ints.ln (Mat.row (by assumption) _ (by omega)) ?_) | (refine Ints.ix (by assumption) (by omega) ?_) | (refine Mat.ix (by assumption) (by omega) ?_) | (refine Ints.ix (Mat.row (by assumption) _ (by omega)) (by omega) ?_) | (refine Ints.ix (c := 0) (by assumption) (by omega) ?_) | (refine Mat.ix (c := 0) (by assumption) (by omega) ?_) | (refine Ints.ix (c := 0) (Mat.row (by assumption) _ (by omega)) (by omega) ?_) | (refine Ints.ixI (by assumption) (by omega) ?_) | (refine Mat.ixI (by assumption) (by omega) ?_) | (refine Ints.ixI (Mat.row (by assumption) _ (by omega)) (by omega) ?_) | (refine Ints.ld (by assumption) (by omega) ?_) | (refine Mat.ld (by assumption) (by omega) ?_) | (refine Ints.ld (Mat.row (by assumption) _ (by omega)) (by omega) ?_) | (refine At.ld (by assumption) rfl ?_) | (refine At.ldN (by assumption) rfl ?_) | (refine Prs.ln (by assumption) ?_) | (refine Trs.ln (by assumption) ?_) | (refine Prs.ix (by assumption) (by omega) ?_) | (refine Trs.ix (by assumption) (by omega) ?_) | (refine Prs.ldN (by assumption) (by omega) ?_) | (refine Trs.ldN (by assumption) (by omega) ?_) | (refine At.ldN (Blk.at (by assumption)) rfl ?_) | (refine At.ld (Blk.at (by assumption)) rfl ?_) | (refine IxA.mk (by omega) ?_) | (refine Sl.ln (Own.sl (by assumption)) ?_) | (refine Ints.ix (Own.sl (by assumption)) (by omega) ?_) | (refine Ints.ixI (Own.sl (by assumption)) (by omega) ?_) | (refine Ints.ld (Own.sl (by assumption)) (by omega) ?_))
    refine OZ.set HN (by omega) fun w7 G7 HN7 => ?_
    have E7 := Own.keep HN (Ez.trans E6) (Nat.le_refl _) G7
    have HY7 := Own.row (Own.ext HY E6) HN (by decide) G7
    have HK7 : OZ _ w7 kv _ := Own.gr (Own.ext HK E6) G7 (fun k hk hS => hdkn k hk hS)
    repeat' ((conv => whnf); first | (refine Dr.quiet tyOk (by kernel_rfl) ?_) | (refine Rng.mk (by omega) ?_) | (refine Split.pos (by omega) ?_) | (refine Split.neg (by omega) ?_) | (refine Split.mk (fun h => ?_) (fun h => ?_)) | (refine Need.mk (by omega) ?_) | (refine Ints.ln (by assumption) ?_) | (refine Mat.ln (by assumption) ?_) | (refine Ints.ln (Mat.row (by assumption) _ (by omega)) ?_) | (refine Ints.ix (by assumption) (by omega) ?_) | (refine Mat.ix (by assumption) (by omega) ?_) | (refine Ints.ix (Mat.row (by assumption) _ (by omega)) (by omega) ?_) | (refine Ints.ix (c := 0) (by assumption) (by omega) ?_) | (refine Mat.ix (c := 0) (by assumption) (by omega) ?_) | (refine Ints.ix (c := 0) (Mat.row (by assumption) _ (by omega)) (by omega) ?_) | (refine Ints.ixI (by assumption) (by omega) ?_) | (refine Mat.ixI (by assumption) (by omega) ?_) | (refine Ints.ixI (Mat.row (by assumption) _ (by omega)) (by omega) ?_) | (refine Ints.ld (by assumption) (by omega) ?_) | (refine Mat.ld (by assumption) (by omega) ?_) | (refine Ints.ld (Mat.row (by assumption) _ (by omega)) (by omega) ?_) | (refine At.ld (by assumption) rfl ?_) | (refine At.ldN (by assumption) rfl ?_) | (refine Prs.ln (by assumption) ?_) | (refine Trs.ln (by assumption) ?_) | (refine Prs.ix (by assumption) (by omega) ?_) | (refine Trs.ix (by assumption) (by omega) ?_) | (refine Prs.ldN (by assumption) (by omega) ?_) | (refine Trs.ldN (by assumption) (by omega) ?_) | (refine At.ldN (Blk.at (by assumption)) rfl ?_) | (refine At.ld (Blk.at (by assumption)) rfl ?_) | (refine IxA.mk (by omega) ?_) | (refine Sl.ln (Own.sl (by assumption)) ?_) | (refine Ints.ix (Own.sl (by assumption)) (by omega) ?_) | (refine Ints.ixI (Own.sl (by assumption)) (by omega) ?_) | (refine Ints.ld (Own.sl (by assumption)) (by omega) ?_))
    refine VE.litI [s] Try.underlying26 eInt (by simp) fun qv w8 E8 HQ hqb => ?_
    have HB : BS w2 w8 yv kv nv qv (List.replicate N 0) (List.replicate N false) ((List.replicate N false).set s.toNat true) [s] := ⟨E7.trans E8, Own.ext HY7 E8, Own.ext HK7 E8, Own.ext HN7 E8, OwnQ.of (HQ _ E7.size), hdkn, fun k h1 h2 => by
      have := (Own.lt HY7 k h1).2
      have := hqb k h2
      omega⟩
    obtain ⟨hT, hcn⟩ := BT.start (A := A) (f := f) (sk := sk) hs
    repeat' ((conv => whnf); first | (refine Dr.quiet tyOk (by kernel_rfl) ?_) | (refine Rng.mk (by omega) ?_) | (refine Split.pos (by omega) ?_) | (refine Split.neg (by omega) ?_) | (refine Split.mk (fun h => ?_) (fun h => ?_)) | (refine Need.mk (by omega) ?_) | (refine Ints.ln (by assumption) ?_) | (refine Mat.ln (by assumption) ?_) | (refine Ints.ln (Mat.row (by assumption) _ (by omega)) ?_) | (refine Ints.ix (by assumption) (by omega) ?_) | (refine Mat.ix (by assumption) (by omega) ?_) | (refine Ints.ix (Mat.row (by assumption) _ (by omega)) (by omega) ?_) | (refine Ints.ix (c := 0) (by assumption) (by omega) ?_) | (refine Mat.ix (c := 0) (by assumption) (by omega) ?_) | (refine Ints.ix (c := 0) (Mat.row (by assumption) _ (by omega)) (by omega) ?_) | (refine Ints.ixI (by assumption) (by omega) ?_) | (refine Mat.ixI (by assumption) (by omega) ?_) | (refine Ints.ixI (Mat.row (by assumption) _ (by omega)) (by omega) ?_) | (refine Ints.ld (by assumption) (by omega) ?_) | (refine Mat.ld (by assumption) (by omega) ?_) | (refine Ints.ld (Mat.row (by assumption) _ (by omega)) (by omega) ?_) | (refine At.ld (by assumption) rfl ?_) | (refine At.ldN (by assumption) rfl ?_) | (refine Prs.ln (by assumption) ?_) | (refine Trs.ln (by assumption) ?_) | (refine Prs.ix (by assumption) (by omega) ?_) | (refine Trs.ix (by assumption) (by omega) ?_) | (refine Prs.ldN (by assumption) (by omega) ?_) | (refine Trs.ldN (by assumption) (by omega) ?_) | (refine At.ldN (Blk.at (by assumption)) rfl ?_) | (refine At.ld (Blk.at (by assumption)) rfl ?_) | (refine IxA.mk (by omega) ?_) | (refine Sl.ln (Own.sl (by assumption)) ?_) | (refine Ints.ix (Own.sl (by assumption)) (by omega) ?_) | (refine Ints.ixI (Own.sl (by assumption)) (by omega) ?_) | (refine Ints.ld (Own.sl (by assumption)) (by omega) ?_))
    refine Lp.mk tyOk [false, false, false, false, false, false, false, false, false, false, false, false, false, false, false, false, true, true, true, true, true, true, false, false, false, false, false, false, false, false, false, false, false, false, false, false, false, false, false, false, false, false, true, true, true, true, true, true, true, true, true, true, true, true, true, true, true, true, true, true, true, true, true, true, true, true, true, true, true, true, true, true, true, true, true, true, true, true, true, true, true, true, true, true, true, true, true, true, true, true, true, true, true, true, true, true, true, true, true, true, true, true, true, true, true, true, true, true, true, true, true, true, true, true, true, true, true, true, true, true, true, true, true, true, true, true, true, true, true, true, true, true, true, true, true, true, true, true, true, true, true, true, true, true, true] (fun m fr wr => getK fr 16 fun q => ∃ c : Nat, c ≤ (N + 1) ∧ m = (N + 1) - c ∧ ((∃ qv BY BK SN W, q = qv ∧ BS w2 wr yv kv nv qv BY BK SN W ∧ BT N A f sk s BY BK SN W (fun _ => False) ∧ c + cntF SN + W.length = N))) ((N + 1)) ?_ ?_
    · exact ⟨0, Nat.zero_le _, rfl, ⟨_, _, _, _, _, rfl, HB, hT, by simp; omega⟩⟩
    · intro m w3 u16 u17 u18 u19 u20 u21 u42 u43 u44 u45 u46 u47 u48 u49 u50 u51 u52 u53 u54 u55 u56 u57 u58 u59 u60 u61 u62 u63 u64 u65 u66 u67 u68 u69 u70 u71 u72 u73 u74 u75 u76 u77 u78 u79 u80 u81 u82 u83 u84 u85 u86 u87 u88 u89 u90 u91 u92 u93 u94 u95 u96 u97 u98 u99 u100 u101 u102 u103 u104 u105 u106 u107 u108 u109 u110 u111 u112 u113 u114 u115 u116 u117 u118 u119 u120 u121 u122 u123 u124 u125 u126 u127 u128 u129 u130 u131 u132 u133 u134 u135 u136 u137 u138 u139 u140 u141 u142 u143 u144 hR
      obtain ⟨c, hc, rfl, HL⟩ := hR
      obtain ⟨qv, BY, BK, SN, W, rfl, HB, hT, hcnt⟩ := HL
      have HYI : Ints w3 yv BY := Own.sl HB.hy
      have HKI : Bls w3 kv BK := Own.sl HB.hb
      have HNI : Bls w3 nv SN := Own.sl HB.hn
      have HV := HA0.ext HB.ex
      have HFI := Hf0.ext HB.ex
      have Hb := Hb0.ext HB.ex
      have HQI : Ints w3 u16 W := HB.hq.sl
      have hls := hT.ls
      have hly := hT.ly
      have hlb := hT.lb
      have HfR : OB wA.heap.size w3 fv f := Own.ext HfB HB.ex
      have hexR := (hex1.trans EE).trans HB.ex
      have GR : Gr (fun k => fv.ownBlock = some k) w1 w3 := Gr.ofExt (EE.trans HB.ex)
      cases hsn : SN.getD t.toNat false with
      | true =>
        rename_i z13 z29 z49 z50
        clear hex1 Hf__0 z13 Hf HF Ez HY HK z29 E6 H3 hnb HN hdkn hrl G7 HN7 E7 HY7 HK7 E8 HQ hqb z49 z50 hcn
        revert h40 h200 hle hfl HAo w1 E1 b2 w2 E2 hb2 HA EE HA0 Hf0 Hb0 HfB hbf wz yv kv nv w6 w7 qv w8 w3 u16 u17 u18 u19 u20 u21 u42 u43 u44 u45 u46 u47 u48 u49 u50 u51 u52 u53 u54 u55 u56 u57 u58 u59 u60 u61 u62 u63 u64 u65 u66 u67 u68 u69 u70 u71 u72 u73 u74 u75 u76 u77 u78 u79 u80 u81 u82 u83 u84 u85 u86 u87 u88 u89 u90 u91 u92 u93 u94 u95 u96 u97 u98 u99 u100 u101 u102 u103 u104 u105 u106 u107 u108 u109 u110 u111 u112 u113 u114 u115 u116 u117 u118 u119 u120 u121 u122 u123 u124 u125 u126 u127 u128 u129 u130 u131 u132 u133 u134 u135 u136 u137 u138 u139 u140 u141 u142 u143 u144 c hc BY BK SN W HB hT hcnt HYI HKI HNI HV HFI Hb HQI hls hly hlb HfR hexR GR hsn
        exact keyA.run
      | false =>
        cases W with
        | nil =>
          have hno := hT.noway hk hs hsn
          have hl00 : ([] : List Int).length = 0 := rfl
          repeat' ((conv => whnf); first | (refine Dr.quiet tyOk (by kernel_rfl) ?_) | (refine Bls.ixI HNI (by omega) ?_) | (refine Bls.ldv HNI hsn (by omega) ?_) | (refine Rng.mk (by omega) ?_) | (refine Split.pos (by omega) ?_) | (refine Split.neg (by omega) ?_) | (refine Split.mk (fun h => ?_) (fun h => ?_)) | (refine Need.mk (by omega) ?_) | (refine Ints.ln (by assumption) ?_) | (refine Mat.ln (by assumption) ?_) | (refine Ints.ln (Mat.row (by assumption) _ (by omega)) ?_) | (refine Ints.ix (by assumption) (by omega) ?_) | (refine Mat.ix (by assumption) (by omega) ?_) | (refine Ints.ix (Mat.row (by assumption) _ (by omega)) (by omega) ?_) | (refine Ints.ix (c := 0) (by assumption) (by omega) ?_) | (refine Mat.ix (c := 0) (by assumption) (by omega) ?_) | (refine Ints.ix (c := 0) (Mat.row (by assumption) _ (by omega)) (by omega) ?_) | (refine Ints.ixI (by assumption) (by omega) ?_) | (refine Mat.ixI (by assumption) (by omega) ?_) | (refine Ints.ixI (Mat.row (by assumption) _ (by omega)) (by omega) ?_) | (refine Ints.ld (by assumption) (by omega) ?_) | (refine Mat.ld (by assumption) (by omega) ?_) | (refine Ints.ld (Mat.row (by assumption) _ (by omega)) (by omega) ?_) | (refine At.ld (by assumption) rfl ?_) | (refine At.ldN (by assumption) rfl ?_) | (refine Prs.ln (by assumption) ?_) | (refine Trs.ln (by assumption) ?_) | (refine Prs.ix (by assumption) (by omega) ?_) | (refine Trs.ix (by assumption) (by omega) ?_) | (refine Prs.ldN (by assumption) (by omega) ?_) | (refine Trs.ldN (by assumption) (by omega) ?_) | (refine At.ldN (Blk.at (by assumption)) rfl ?_) | (refine At.ld (Blk.at (by assumption)) rfl ?_) | (refine IxA.mk (by omega) ?_) | (refine Sl.ln (Own.sl (by assumption)) ?_) | (refine Ints.ix (Own.sl (by assumption)) (by omega) ?_) | (refine Ints.ixI (Own.sl (by assumption)) (by omega) ?_) | (refine Ints.ld (Own.sl (by assumption)) (by omega) ?_))
          exact ⟨GR, 0, f, rfl, HfR, hexR, by omega, Psh.refl hF, fun _ => .inr hno⟩
        | cons v W =>
          have hWl : (v :: W).length = W.length + 1 := rfl
          obtain ⟨hv0, hvN, hvs⟩ := hT.wt v (by simp)
          have HBp := HB.pop
          have hTp := hT.pop
          repeat' ((conv => whnf); first | (refine Dr.quiet tyOk (by kernel_rfl) ?_) | (refine Bls.ixI HNI (by omega) ?_) | (refine Bls.ldv HNI hsn (by omega) ?_) | (refine Ints.ldv HQI (x := v) rfl (by omega) ?_) | (refine VS.cutL (l := 1) Try.underlying26 (by kernel_rfl) (by decide) HQI (by omega) ?_) | (refine Rng.mk (by omega) ?_) | (refine Split.pos (by omega) ?_) | (refine Split.neg (by omega) ?_) | (refine Split.mk (fun h => ?_) (fun h => ?_)) | (refine Need.mk (by omega) ?_) | (refine Ints.ln (by assumption) ?_) | (refine Mat.ln (by assumption) ?_) | (refine Ints.ln (Mat.row (by assumption) _ (by omega)) ?_) | (refine Ints.ix (by assumption) (by omega) ?_) | (refine Mat.ix (by assumption) (by omega) ?_) | (refine Ints.ix (Mat.row (by assumption) _ (by omega)) (by omega) ?_) | (refine Ints.ix (c := 0) (by assumption) (by omega) ?_) | (refine Mat.ix (c := 0) (by assumption) (by omega) ?_) | (refine Ints.ix (c := 0) (Mat.row (by assumption) _ (by omega)) (by omega) ?_) | (refine Ints.ixI (by assumption) (by omega) ?_) | (refine Mat.ixI (by assumption) (by omega) ?_) | (refine Ints.ixI (Mat.row (by assumption) _ (by omega)) (by omega) ?_) | (refine Ints.ld (by assumption) (by omega) ?_) | (refine Mat.ld (by assumption) (by omega) ?_) | (refine Ints.ld (Mat.row (by assumption) _ (by omega)) (by omega) ?_) | (refine At.ld (by assumption) rfl ?_) | (refine At.ldN (by assumption) rfl ?_) | (refine Prs.ln (by assumption) ?_) | (refine Trs.ln (by assumption) ?_) | (refine Prs.ix (by assumption) (by omega) ?_) | (refine Trs.ix (by assumption) (by omega) ?_) | (refine Prs.ldN (by assumption) (by omega) ?_) | (refine Trs.ldN (by assumption) (by omega) ?_) | (refine At.ldN (Blk.at (by assumption)) rfl ?_) | (refine At.ld (Blk.at (by assumption)) rfl ?_) | (refine IxA.mk (by omega) ?_) | (refine Sl.ln (Own.sl (by assumption)) ?_) | (refine Ints.ix (Own.sl (by assumption)) (by omega) ?_) | (refine Ints.ixI (Own.sl (by assumption)) (by omega) ?_) | (refine Ints.ld (Own.sl (by assumption)) (by omega) ?_))
          refine Lp.mk tyOk [false, false, false, false, false, false, false, false, false, false, false, false, false, false, false, false, true, false, true, true, true, true, false, false, false, false, false, false, false, false, false, false, false, false, false, false, false, false, false, false, false, false, false, false, false, false, false, false, false, false, false, false, false, false, false, false, false, false, true, true, true, true, true, true, true, true, true, true, true, true, true, true, true, true, true, true, true, true, true, true, true, true, true, true, true, true, true, true, true, true, true, true, true, true, true, true, true, true, true, true, true, true, true, true, true, true, true, true, true, true, true, true, true, true, true, true, true, true, true, true, true, true, true, true, true, true, true, true, true, true, true, true, true, true, true, true, true, true, true, true, true, true, true, true, true] (fun m fr wr => getK fr 18 fun i => getK fr 16 fun q => ∃ d : Nat, d ≤ (A.length - sk) ∧ m = (A.length - sk) - d ∧ i = .int .i64 ((sk + d : Nat) : Int) ∧ ((∃ qv BY BK SN W, q = qv ∧ BS w2 wr yv kv nv qv BY BK SN W ∧ BT N A f sk s BY BK SN W (fun u => u = v) ∧ SN.getD v.toNat false = true ∧ c + 1 + cntF SN + W.length = N ∧ ∀ i, sk ≤ i → i < sk + d → ∀ t, Edg A f v t i → SN.getD t.toNat false = true))) ((A.length - sk)) ?_ ?_
          · exact ⟨0, Nat.zero_le _, rfl, rfl, ⟨_, _, _, _, _, rfl, HBp, hTp, hvs, by omega, fun i h1 h2 => absurd h2 (by omega)⟩⟩
          · intro m w4 u16 u18 u19 u20 u21 u58 u59 u60 u61 u62 u63 u64 u65 u66 u67 u68 u69 u70 u71 u72 u73 u74 u75 u76 u77 u78 u79 u80 u81 u82 u83 u84 u85 u86 u87 u88 u89 u90 u91 u92 u93 u94 u95 u96 u97 u98 u99 u100 u101 u102 u103 u104 u105 u106 u107 u108 u109 u110 u111 u112 u113 u114 u115 u116 u117 u118 u119 u120 u121 u122 u123 u124 u125 u126 u127 u128 u129 u130 u131 u132 u133 u134 u135 u136 u137 u138 u139 u140 u141 u142 u143 u144 hR
            obtain ⟨d, hd, rfl, rfl, HM⟩ := hR
            obtain ⟨qw, BY, BK, SN, W, rfl, HB, hT, hvs, hcnt, hdn⟩ := HM
            have hls := hT.ls
            have hly := hT.ly
            have hlb := hT.lb
            by_cases hdl : sk + d < A.length
            · obtain ⟨hf, hto, hne, hc0, hc1⟩ := hk.arc (sk + d) hdl
              have e1 : (A.getD (sk + d) (0, 0, 0)).1 = frm A (sk + d) := rfl
              have e2 : (A.getD (sk + d) (0, 0, 0)).2.1 = too A (sk + d) := rfl
              have e3 : (A.getD (sk + d) (0, 0, 0)).2.2 = cpy A (sk + d) := rfl
              have hfd := hF.2 (sk + d) (by omega)
              have hstep : (∀ t, Edg A f v t (sk + d) → SN.getD t.toNat false = true) → ∀ i, sk ≤ i → i < sk + (d + 1) → ∀ t, Edg A f v t i → SN.getD t.toNat false = true := fun h i h1 h2 => by
                by_cases e : i = sk + d
                · subst e; exact h
                · exact hdn i h1 (by omega)
              have HYI : Ints w4 yv BY := Own.sl HB.hy
              have HKI : Bls w4 kv BK := Own.sl HB.hb
              have HNI : Bls w4 nv SN := Own.sl HB.hn
              have HV := HA0.ext HB.ex
              have HFI := Hf0.ext HB.ex
              have Hb := Hb0.ext HB.ex
              repeat' ((conv => whnf); first | (refine Dr.quiet tyOk (by kernel_rfl) ?_) | (refine Rng.mk (by omega) ?_) | (refine Split.pos (by omega) ?_) | (refine Split.neg (by omega) ?_) | (refine Split.mk (fun h => ?_) (fun h => ?_)) | (refine Need.mk (by omega) ?_) | (refine Ints.ln (by assumption) ?_) | (refine Mat.ln (by assumption) ?_) | (refine Ints.ln (Mat.row (by assumption) _ (by omega)) ?_) | (refine Ints.ix (by assumption) (by omega) ?_) | (refine Mat.ix (by assumption) (by omega) ?_) | (refine Ints.ix (Mat.row (by assumption) _ (by omega)) (by omega) ?_) | (refine Ints.ix (c := 0) (by assumption) (by omega) ?_) | (refine Mat.ix (c := 0) (by assumption) (by omega) ?_) | (refine Ints.ix (c := 0) (Mat.row (by assumption) _ (by omega)) (by omega) ?_) | (refine Ints.ixI (by assumption) (by omega) ?_) | (refine Mat.ixI (by assumption) (by omega) ?_) | (refine Ints.ixI (Mat.row (by assumption) _ (by omega)) (by omega) ?_) | (refine Ints.ld (by assumption) (by omega) ?_) | (refine Mat.ld (by assumption) (by omega) ?_) | (refine Ints.ld (Mat.row (by assumption) _ (by omega)) (by omega) ?_) | (refine At.ld (by assumption) rfl ?_) | (refine At.ldN (by assumption) rfl ?_) | (refine Prs.ln (by assumption) ?_) | (refine Trs.ln (by assumption) ?_) | (refine Prs.ix (by assumption) (by omega) ?_) | (refine Trs.ix (by assumption) (by omega) ?_) | (refine Prs.ldN (by assumption) (by omega) ?_) | (refine Trs.ldN (by assumption) (by omega) ?_) | (refine At.ldN (Blk.at (by assumption)) rfl ?_) | (refine At.ld (Blk.at (by assumption)) rfl ?_) | (refine IxA.mk (by omega) ?_) | (refine Sl.ln (Own.sl (by assumption)) ?_) | (refine Ints.ix (Own.sl (by assumption)) (by omega) ?_) | (refine Ints.ixI (Own.sl (by assumption)) (by omega) ?_) | (refine Ints.ld (Own.sl (by assumption)) (by omega) ?_))
              have HB__1 := HB
              conv => whnf
              refine VE.alloc eArc fun xb w5 E5 hb_xb Hk => ?_
              replace HB := HB.ext E5
              have EL1 := E5
              conv => whnf
              refine Blk.all Hk (by kernel_rfl) (by first | decide | simp) rfl rfl (by intro v hv; simp at hv; rcases hv with rfl | rfl | rfl | rfl | rfl <;> rfl) fun w6 G6 Hk' => ?_
              have E6 : Ext w4 w6 := EL1.new G6 fun i hi hk => by omega
              replace Hk := Hk'
              replace HB := HB__1.ext E6
              replace EL1 := E6
              have HYI : Ints w6 yv BY := Own.sl HB.hy
              have HKI : Bls w6 kv BK := Own.sl HB.hb
              have HNI : Bls w6 nv SN := Own.sl HB.hn
              have HV := HA0.ext HB.ex
              have HFI := Hf0.ext HB.ex
              have Hb := Hb0.ext HB.ex
              have cl := rleft_pc (d := sk + d) HV HFI hk hF (by omega)
              by_cases ha : frm A (sk + d) = v
              · by_cases hr : f.getD (sk + d) 0 < cpy A (sk + d)
                · cases hm : SN.getD (too A (sk + d)).toNat false with
                  | true =>
                    have hs2 := hstep fun t ht => by unfold Edg at ht; rw [show t = too A (sk + d) by omega]; exact hm
                    repeat' ((conv => whnf); first | (refine Dr.quiet tyOk (by kernel_rfl) ?_) | (refine VC.pure cl ?_) | (refine VCQ.pure cl ?_) | (refine Bls.ixI HNI (by omega) ?_) | (refine Bls.ldv HNI hm (by omega) ?_) | (refine Rng.mk (by omega) ?_) | (refine Split.pos (by omega) ?_) | (refine Split.neg (by omega) ?_) | (refine Split.mk (fun h => ?_) (fun h => ?_)) | (refine Need.mk (by omega) ?_) | (refine Ints.ln (by assumption) ?_) | (refine Mat.ln (by assumption) ?_) | (refine Ints.ln (Mat.row (by assumption) _ (by omega)) ?_) | (refine Ints.ix (by assumption) (by omega) ?_) | (refine Mat.ix (by assumption) (by omega) ?_) | (refine Ints.ix (Mat.row (by assumption) _ (by omega)) (by omega) ?_) | (refine Ints.ix (c := 0) (by assumption) (by omega) ?_) | (refine Mat.ix (c := 0) (by assumption) (by omega) ?_) | (refine Ints.ix (c := 0) (Mat.row (by assumption) _ (by omega)) (by omega) ?_) | (refine Ints.ixI (by assumption) (by omega) ?_) | (refine Mat.ixI (by assumption) (by omega) ?_) | (refine Ints.ixI (Mat.row (by assumption) _ (by omega)) (by omega) ?_) | (refine Ints.ld (by assumption) (by omega) ?_) | (refine Mat.ld (by assumption) (by omega) ?_) | (refine Ints.ld (Mat.row (by assumption) _ (by omega)) (by omega) ?_) | (refine At.ld (by assumption) rfl ?_) | (refine At.ldN (by assumption) rfl ?_) | (refine Prs.ln (by assumption) ?_) | (refine Trs.ln (by assumption) ?_) | (refine Prs.ix (by assumption) (by omega) ?_) | (refine Trs.ix (by assumption) (by omega) ?_) | (refine Prs.ldN (by assumption) (by omega) ?_) | (refine Trs.ldN (by assumption) (by omega) ?_) | (refine At.ldN (Blk.at (by assumption)) rfl ?_) | (refine At.ld (Blk.at (by assumption)) rfl ?_) | (refine IxA.mk (by omega) ?_) | (refine Sl.ln (Own.sl (by assumption)) ?_) | (refine Ints.ix (Own.sl (by assumption)) (by omega) ?_) | (refine Ints.ixI (Own.sl (by assumption)) (by omega) ?_) | (refine Ints.ld (Own.sl (by assumption)) (by omega) ?_))
                    refine ⟨_, (by omega : (A.length - sk) - (d + 1) < (A.length - sk) - d), rfl, d + 1, by omega, rfl, rfl, ⟨_, _, _, _, _, rfl, HB, hT, hvs, hcnt, hs2⟩⟩
                  | false =>
                    rename_i z13 z29 z31 z32 z49 z50 z53 z56 z57 z58 z75 z76 z77 z78 z79 z80 z81 z82 z83 z84 z85 z86 z87 z88 z89 z90 z91 z92 z93 z94 z95 z96 z97 z98 z99 z100 z101 z102 z103 z104 z105 z106 z107 z108 z109 z110 z111 z112 z113 z114 z115 z116 z117 z118 z119 z120 z121 z122 z123 z124 z125 z126 z127 z128 z129 z130 z131 z132 z133 z134 z135 z136 z137 z138 z139 z140 z141 z142 z143 z144 z145 z146 z147 z148 z149 z150 z151 z152 z153 z154 z155 z156 z157 z158 z159 z160 z161 z164 z165 z166 z167 z168 z169 z170 z171 z172 z173 z174 z175 z181 z182 z183 z184 z189 z308 z309 z310 z311 z312 z313
                    clear hex1 Hf__0 z13 Hf HF Ez HY HK z29 z32 H3 hnb HN hdkn hrl G7 HN7 E7 HY7 HK7 E8 HQ hqb z49 z50 hcn z167 z168 z169 z170 z171 z172 z173 z174 z175 hsn z182 z183 z184 HQI hWl z189 HBp hTp z308 z309 z310 z311 z312 z313 HB__1 E5 G6 Hk' EL1
                    revert h40 h200 hle hfl HAo w1 E1 b2 w2 E2 hb2 HA EE HA0 Hf0 Hb0 HfB hbf wz yv kv nv z31 w7 qv w8 w3 z53 u17 u18 z56 z57 z58 u42 u43 u44 u45 u46 u47 u48 u49 u50 u51 u52 u53 u54 u55 u56 u57 z75 z76 z77 z78 z79 z80 z81 z82 z83 z84 z85 z86 z87 z88 z89 z90 z91 z92 z93 z94 z95 z96 z97 z98 z99 z100 z101 z102 z103 z104 z105 z106 z107 z108 z109 z110 z111 z112 z113 z114 z115 z116 z117 z118 z119 z120 z121 z122 z123 z124 z125 z126 z127 z128 z129 z130 z131 z132 z133 z134 z135 z136 z137 z138 z139 z140 z141 z142 z143 z144 z145 z146 z147 z148 z149 z150 z151 z152 z153 z154 z155 z156 z157 z158 z159 z160 z161 c hc z164 z165 z166 HfR hexR GR v z181 hv0 hvN w4 u16 u19 u20 u21 u58 u59 u60 u61 u62 u63 u64 u65 u66 u67 u68 u69 u70 u71 u72 u73 u74 u75 u76 u77 u78 u79 u80 u81 u82 u83 u84 u85 u86 u87 u88 u89 u90 u91 u92 u93 u94 u95 u96 u97 u98 u99 u100 u101 u102 u103 u104 u105 u106 u107 u108 u109 u110 u111 u112 u113 u114 u115 u116 u117 u118 u119 u120 u121 u122 u123 u124 u125 u126 u127 u128 u129 u130 u131 u132 u133 u134 u135 u136 u137 u138 u139 u140 u141 u142 u143 u144 d hd BY BK SN W hT hvs hcnt hdn hls hly hlb hdl hf hto hne hc0 hc1 e1 e2 e3 hfd hstep xb w5 hb_xb w6 E6 Hk HB HYI HKI HNI HV HFI Hb cl ha hr hm
                    exact keyB.run
                · have hs2 := hstep fun t ht => by unfold Edg at ht; omega
                  repeat' ((conv => whnf); first | (refine Dr.quiet tyOk (by kernel_rfl) ?_) | (refine VC.pure cl ?_) | (refine VCQ.pure cl ?_) | (refine Rng.mk (by omega) ?_) | (refine Split.pos (by omega) ?_) | (refine Split.neg (by omega) ?_) | (refine Split.mk (fun h => ?_) (fun h => ?_)) | (refine Need.mk (by omega) ?_) | (refine Ints.ln (by assumption) ?_) | (refine Mat.ln (by assumption) ?_) | (refine Ints.ln (Mat.row (by assumption) _ (by omega)) ?_) | (refine Ints.ix (by assumption) (by omega) ?_) | (refine Mat.ix (by assumption) (by omega) ?_) | (refine Ints.ix (Mat.row (by assumption) _ (by omega)) (by omega) ?_) | (refine Ints.ix (c := 0) (by assumption) (by omega) ?_) | (refine Mat.ix (c := 0) (by assumption) (by omega) ?_) | (refine Ints.ix (c := 0) (Mat.row (by assumption) _ (by omega)) (by omega) ?_) | (refine Ints.ixI (by assumption) (by omega) ?_) | (refine Mat.ixI (by assumption) (by omega) ?_) | (refine Ints.ixI (Mat.row (by assumption) _ (by omega)) (by omega) ?_) | (refine Ints.ld (by assumption) (by omega) ?_) | (refine Mat.ld (by assumption) (by omega) ?_) | (refine Ints.ld (Mat.row (by assumption) _ (by omega)) (by omega) ?_) | (refine At.ld (by assumption) rfl ?_) | (refine At.ldN (by assumption) rfl ?_) | (refine Prs.ln (by assumption) ?_) | (refine Trs.ln (by assumption) ?_) | (refine Prs.ix (by assumption) (by omega) ?_) | (refine Trs.ix (by assumption) (by omega) ?_) | (refine Prs.ldN (by assumption) (by omega) ?_) | (refine Trs.ldN (by assumption) (by omega) ?_) | (refine At.ldN (Blk.at (by assumption)) rfl ?_) | (refine At.ld (Blk.at (by assumption)) rfl ?_) | (refine IxA.mk (by omega) ?_) | (refine Sl.ln (Own.sl (by assumption)) ?_) | (refine Ints.ix (Own.sl (by assumption)) (by omega) ?_) | (refine Ints.ixI (Own.sl (by assumption)) (by omega) ?_) | (refine Ints.ld (Own.sl (by assumption)) (by omega) ?_))
                  refine ⟨_, (by omega : (A.length - sk) - (d + 1) < (A.length - sk) - d), rfl, d + 1, by omega, rfl, rfl, ⟨_, _, _, _, _, rfl, HB, hT, hvs, hcnt, hs2⟩⟩
              · by_cases hb : too A (sk + d) = v
                · by_cases hr : 0 < f.getD (sk + d) 0
                  · cases hm : SN.getD (frm A (sk + d)).toNat false with
                    | true =>
                      have hs2 := hstep fun t ht => by unfold Edg at ht; rw [show t = frm A (sk + d) by omega]; exact hm
                      repeat' ((conv => whnf); first | (refine Dr.quiet tyOk (by kernel_rfl) ?_) | (refine VC.pure cl ?_) | (refine VCQ.pure cl ?_) | (refine Bls.ixI HNI (by omega) ?_) | (refine Bls.ldv HNI hm (by omega) ?_) | (refine Rng.mk (by omega) ?_) | (refine Split.pos (by omega) ?_) | (refine Split.neg (by omega) ?_) | (refine Split.mk (fun h => ?_) (fun h => ?_)) | (refine Need.mk (by omega) ?_) | (refine Ints.ln (by assumption) ?_) | (refine Mat.ln (by assumption) ?_) | (refine Ints.ln (Mat.row (by assumption) _ (by omega)) ?_) | (refine Ints.ix (by assumption) (by omega) ?_) | (refine Mat.ix (by assumption) (by omega) ?_) | (refine Ints.ix (Mat.row (by assumption) _ (by omega)) (by omega) ?_) | (refine Ints.ix (c := 0) (by assumption) (by omega) ?_) | (refine Mat.ix (c := 0) (by assumption) (by omega) ?_) | (refine Ints.ix (c := 0) (Mat.row (by assumption) _ (by omega)) (by omega) ?_) | (refine Ints.ixI (by assumption) (by omega) ?_) | (refine Mat.ixI (by assumption) (by omega) ?_) | (refine Ints.ixI (Mat.row (by assumption) _ (by omega)) (by omega) ?_) | (refine Ints.ld (by assumption) (by omega) ?_) | (refine Mat.ld (by assumption) (by omega) ?_) | (refine Ints.ld (Mat.row (by assumption) _ (by omega)) (by omega) ?_) | (refine At.ld (by assumption) rfl ?_) | (refine At.ldN (by assumption) rfl ?_) | (refine Prs.ln (by assumption) ?_) | (refine Trs.ln (by assumption) ?_) | (refine Prs.ix (by assumption) (by omega) ?_) | (refine Trs.ix (by assumption) (by omega) ?_) | (refine Prs.ldN (by assumption) (by omega) ?_) | (refine Trs.ldN (by assumption) (by omega) ?_) | (refine At.ldN (Blk.at (by assumption)) rfl ?_) | (refine At.ld (Blk.at (by assumption)) rfl ?_) | (refine IxA.mk (by omega) ?_) | (refine Sl.ln (Own.sl (by assumption)) ?_) | (refine Ints.ix (Own.sl (by assumption)) (by omega) ?_) | (refine Ints.ixI (Own.sl (by assumption)) (by omega) ?_) | (refine Ints.ld (Own.sl (by assumption)) (by omega) ?_))
                      refine ⟨_, (by omega : (A.length - sk) - (d + 1) < (A.length - sk) - d), rfl, d + 1, by omega, rfl, rfl, ⟨_, _, _, _, _, rfl, HB, hT, hvs, hcnt, hs2⟩⟩
                    | false =>
                      rename_i z13 z29 z31 z32 z49 z50 z53 z56 z57 z58 z75 z76 z77 z78 z79 z80 z81 z82 z83 z84 z85 z86 z87 z88 z89 z90 z91 z92 z93 z94 z95 z96 z97 z98 z99 z100 z101 z102 z103 z104 z105 z106 z107 z108 z109 z110 z111 z112 z113 z114 z115 z116 z117 z118 z119 z120 z121 z122 z123 z124 z125 z126 z127 z128 z129 z130 z131 z132 z133 z134 z135 z136 z137 z138 z139 z140 z141 z142 z143 z144 z145 z146 z147 z148 z149 z150 z151 z152 z153 z154 z155 z156 z157 z158 z159 z160 z161 z164 z165 z166 z167 z168 z169 z170 z171 z172 z173 z174 z175 z181 z182 z183 z184 z189 z308 z309 z310 z311 z312 z313
                      clear hex1 Hf__0 z13 Hf HF Ez HY HK z29 z32 H3 hnb HN hdkn hrl G7 HN7 E7 HY7 HK7 E8 HQ hqb z49 z50 hcn z167 z168 z169 z170 z171 z172 z173 z174 z175 hsn z182 z183 z184 HQI hWl z189 HBp hTp z308 z309 z310 z311 z312 z313 HB__1 E5 G6 Hk' EL1
                      revert h40 h200 hle hfl HAo w1 E1 b2 w2 E2 hb2 HA EE HA0 Hf0 Hb0 HfB hbf wz yv kv nv z31 w7 qv w8 w3 z53 u17 u18 z56 z57 z58 u42 u43 u44 u45 u46 u47 u48 u49 u50 u51 u52 u53 u54 u55 u56 u57 z75 z76 z77 z78 z79 z80 z81 z82 z83 z84 z85 z86 z87 z88 z89 z90 z91 z92 z93 z94 z95 z96 z97 z98 z99 z100 z101 z102 z103 z104 z105 z106 z107 z108 z109 z110 z111 z112 z113 z114 z115 z116 z117 z118 z119 z120 z121 z122 z123 z124 z125 z126 z127 z128 z129 z130 z131 z132 z133 z134 z135 z136 z137 z138 z139 z140 z141 z142 z143 z144 z145 z146 z147 z148 z149 z150 z151 z152 z153 z154 z155 z156 z157 z158 z159 z160 z161 c hc z164 z165 z166 HfR hexR GR v z181 hv0 hvN w4 u16 u19 u20 u21 u58 u59 u60 u61 u62 u63 u64 u65 u66 u67 u68 u69 u70 u71 u72 u73 u74 u75 u76 u77 u78 u79 u80 u81 u82 u83 u84 u85 u86 u87 u88 u89 u90 u91 u92 u93 u94 u95 u96 u97 u98 u99 u100 u101 u102 u103 u104 u105 u106 u107 u108 u109 u110 u111 u112 u113 u114 u115 u116 u117 u118 u119 u120 u121 u122 u123 u124 u125 u126 u127 u128 u129 u130 u131 u132 u133 u134 u135 u136 u137 u138 u139 u140 u141 u142 u143 u144 d hd BY BK SN W hT hvs hcnt hdn hls hly hlb hdl hf hto hne hc0 hc1 e1 e2 e3 hfd hstep xb w5 hb_xb w6 E6 Hk HB HYI HKI HNI HV HFI Hb cl ha hb hr hm
                      exact keyC.run
                  · have hs2 := hstep fun t ht => by unfold Edg at ht; omega
                    repeat' ((conv => whnf); first | (refine Dr.quiet tyOk (by kernel_rfl) ?_) | (refine VC.pure cl ?_) | (refine VCQ.pure cl ?_) | (refine Rng.mk (by omega) ?_) | (refine Split.pos (by omega) ?_) | (refine Split.neg (by omega) ?_) | (refine Split.mk (fun h => ?_) (fun h => ?_)) | (refine Need.mk (by omega) ?_) | (refine Ints.ln (by assumption) ?_) | (refine Mat.ln (by assumption) ?_) | (refine Ints.ln (Mat.row (by assumption) _ (by omega)) ?_) | (refine Ints.ix (by assumption) (by omega) ?_) | (refine Mat.ix (by assumption) (by omega) ?_) | (refine Ints.ix (Mat.row (by assumption) _ (by omega)) (by omega) ?_) | (refine Ints.ix (c := 0) (by assumption) (by omega) ?_) | (refine Mat.ix (c := 0) (by assumption) (by omega) ?_) | (refine Ints.ix (c := 0) (Mat.row (by assumption) _ (by omega)) (by omega) ?_) | (refine Ints.ixI (by assumption) (by omega) ?_) | (refine Mat.ixI (by assumption) (by omega) ?_) | (refine Ints.ixI (Mat.row (by assumption) _ (by omega)) (by omega) ?_) | (refine Ints.ld (by assumption) (by omega) ?_) | (refine Mat.ld (by assumption) (by omega) ?_) | (refine Ints.ld (Mat.row (by assumption) _ (by omega)) (by omega) ?_) | (refine At.ld (by assumption) rfl ?_) | (refine At.ldN (by assumption) rfl ?_) | (refine Prs.ln (by assumption) ?_) | (refine Trs.ln (by assumption) ?_) | (refine Prs.ix (by assumption) (by omega) ?_) | (refine Trs.ix (by assumption) (by omega) ?_) | (refine Prs.ldN (by assumption) (by omega) ?_) | (refine Trs.ldN (by assumption) (by omega) ?_) | (refine At.ldN (Blk.at (by assumption)) rfl ?_) | (refine At.ld (Blk.at (by assumption)) rfl ?_) | (refine IxA.mk (by omega) ?_) | (refine Sl.ln (Own.sl (by assumption)) ?_) | (refine Ints.ix (Own.sl (by assumption)) (by omega) ?_) | (refine Ints.ixI (Own.sl (by assumption)) (by omega) ?_) | (refine Ints.ld (Own.sl (by assumption)) (by omega) ?_))
                    refine ⟨_, (by omega : (A.length - sk) - (d + 1) < (A.length - sk) - d), rfl, d + 1, by omega, rfl, rfl, ⟨_, _, _, _, _, rfl, HB, hT, hvs, hcnt, hs2⟩⟩
                · have hs2 := hstep fun t ht => by unfold Edg at ht; omega
                  repeat' ((conv => whnf); first | (refine Dr.quiet tyOk (by kernel_rfl) ?_) | (refine VC.pure cl ?_) | (refine VCQ.pure cl ?_) | (refine Rng.mk (by omega) ?_) | (refine Split.pos (by omega) ?_) | (refine Split.neg (by omega) ?_) | (refine Split.mk (fun h => ?_) (fun h => ?_)) | (refine Need.mk (by omega) ?_) | (refine Ints.ln (by assumption) ?_) | (refine Mat.ln (by assumption) ?_) | (refine Ints.ln (Mat.row (by assumption) _ (by omega)) ?_) | (refine Ints.ix (by assumption) (by omega) ?_) | (refine Mat.ix (by assumption) (by omega) ?_) | (refine Ints.ix (Mat.row (by assumption) _ (by omega)) (by omega) ?_) | (refine Ints.ix (c := 0) (by assumption) (by omega) ?_) | (refine Mat.ix (c := 0) (by assumption) (by omega) ?_) | (refine Ints.ix (c := 0) (Mat.row (by assumption) _ (by omega)) (by omega) ?_) | (refine Ints.ixI (by assumption) (by omega) ?_) | (refine Mat.ixI (by assumption) (by omega) ?_) | (refine Ints.ixI (Mat.row (by assumption) _ (by omega)) (by omega) ?_) | (refine Ints.ld (by assumption) (by omega) ?_) | (refine Mat.ld (by assumption) (by omega) ?_) | (refine Ints.ld (Mat.row (by assumption) _ (by omega)) (by omega) ?_) | (refine At.ld (by assumption) rfl ?_) | (refine At.ldN (by assumption) rfl ?_) | (refine Prs.ln (by assumption) ?_) | (refine Trs.ln (by assumption) ?_) | (refine Prs.ix (by assumption) (by omega) ?_) | (refine Trs.ix (by assumption) (by omega) ?_) | (refine Prs.ldN (by assumption) (by omega) ?_) | (refine Trs.ldN (by assumption) (by omega) ?_) | (refine At.ldN (Blk.at (by assumption)) rfl ?_) | (refine At.ld (Blk.at (by assumption)) rfl ?_) | (refine IxA.mk (by omega) ?_) | (refine Sl.ln (Own.sl (by assumption)) ?_) | (refine Ints.ix (Own.sl (by assumption)) (by omega) ?_) | (refine Ints.ixI (Own.sl (by assumption)) (by omega) ?_) | (refine Ints.ld (Own.sl (by assumption)) (by omega) ?_))
                  refine ⟨_, (by omega : (A.length - sk) - (d + 1) < (A.length - sk) - d), rfl, d + 1, by omega, rfl, rfl, ⟨_, _, _, _, _, rfl, HB, hT, hvs, hcnt, hs2⟩⟩
            · have hde : sk + d = A.length := by omega
              rw [hde] at hdn
              have HYI : Ints w4 yv BY := Own.sl HB.hy
              have HKI : Bls w4 kv BK := Own.sl HB.hb
              have HNI : Bls w4 nv SN := Own.sl HB.hn
              have HV := HA0.ext HB.ex
              have HFI := Hf0.ext HB.ex
              have Hb := Hb0.ext HB.ex
              repeat' ((conv => whnf); first | (refine Dr.quiet tyOk (by kernel_rfl) ?_) | (refine Rng.mk (by omega) ?_) | (refine Split.pos (by omega) ?_) | (refine Split.neg (by omega) ?_) | (refine Split.mk (fun h => ?_) (fun h => ?_)) | (refine Need.mk (by omega) ?_) | (refine Ints.ln (by assumption) ?_) | (refine Mat.ln (by assumption) ?_) | (refine Ints.ln (Mat.row (by assumption) _ (by omega)) ?_) | (refine Ints.ix (by assumption) (by omega) ?_) | (refine Mat.ix (by assumption) (by omega) ?_) | (refine Ints.ix (Mat.row (by assumption) _ (by omega)) (by omega) ?_) | (refine Ints.ix (c := 0) (by assumption) (by omega) ?_) | (refine Mat.ix (c := 0) (by assumption) (by omega) ?_) | (refine Ints.ix (c := 0) (Mat.row (by assumption) _ (by omega)) (by omega) ?_) | (refine Ints.ixI (by assumption) (by omega) ?_) | (refine Mat.ixI (by assumption) (by omega) ?_) | (refine Ints.ixI (Mat.row (by assumption) _ (by omega)) (by omega) ?_) | (refine Ints.ld (by assumption) (by omega) ?_) | (refine Mat.ld (by assumption) (by omega) ?_) | (refine Ints.ld (Mat.row (by assumption) _ (by omega)) (by omega) ?_) | (refine At.ld (by assumption) rfl ?_) | (refine At.ldN (by assumption) rfl ?_) | (refine Prs.ln (by assumption) ?_) | (refine Trs.ln (by assumption) ?_) | (refine Prs.ix (by assumption) (by omega) ?_) | (refine Trs.ix (by assumption) (by omega) ?_) | (refine Prs.ldN (by assumption) (by omega) ?_) | (refine Trs.ldN (by assumption) (by omega) ?_) | (refine At.ldN (Blk.at (by assumption)) rfl ?_) | (refine At.ld (Blk.at (by assumption)) rfl ?_) | (refine IxA.mk (by omega) ?_) | (refine Sl.ln (Own.sl (by assumption)) ?_) | (refine Ints.ix (Own.sl (by assumption)) (by omega) ?_) | (refine Ints.ixI (Own.sl (by assumption)) (by omega) ?_) | (refine Ints.ld (Own.sl (by assumption)) (by omega) ?_))
              refine ⟨_, (by omega : (N + 1) - (c + 1) < (N + 1) - c), rfl, c + 1, by omega, rfl, ⟨_, _, _, _, _, rfl, HB, hT.shut (fun i h1 h2 t ht => hdn i h1 h2 t ht), by omega⟩⟩
end Go.Proofs.Ytpdldifklgpikaa
