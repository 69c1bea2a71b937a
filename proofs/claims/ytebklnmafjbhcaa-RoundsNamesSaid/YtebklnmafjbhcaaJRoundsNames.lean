/- The statement RoundsNames. -/
import Derived.Test.YtebklnmafjbhcaaJ4
import Derived.Test.YtebklnmafjbhcaaRows
set_option linter.unusedVariables false
set_option linter.unusedSimpArgs false
namespace Go.Proofs.Ytebklnmafjbhcaa
open Go.Eng
set_option maxRecDepth 100000

def chkB (rr : List (List Int)) : Int :=
  if decide (6 < rr.length) || (List.range rr.length).any (fun i => decide (10 < (rr.getD i []).length)) then 4
  else if decide (rr.length = 0) || (List.range rr.length).any (fun i => !decide ((rr.getD i []).length = (rr.getD 0 []).length) || (List.range (rr.getD i []).length).any fun j => decide (val rr i j < 0) || decide (1000 < val rr i j)) then 8 else 0
theorem chk_eq (rr : List (List Int)) : chk rr = chkB rr := by
  have h1 : bigP rr ↔ (decide (6 < rr.length) || (List.range rr.length).any (fun i => decide (10 < (rr.getD i []).length))) = true := by
    unfold bigP; simp only [Bool.or_eq_true, decide_eq_true_eq, List.any_eq_true, List.mem_range]
  have h2 : badP rr ↔ (decide (rr.length = 0) || (List.range rr.length).any (fun i => !decide ((rr.getD i []).length = (rr.getD 0 []).length) || (List.range (rr.getD i []).length).any fun j => decide (val rr i j < 0) || decide (1000 < val rr i j))) = true := by
    unfold badP; simp only [Bool.or_eq_true, decide_eq_true_eq, List.any_eq_true, List.mem_range, Bool.not_eq_true', decide_eq_false_iff_not, ne_eq]
  unfold chkB
  by_cases p : bigP rr
  · rw [if_pos (h1.1 p)]; exact chk_big p
  · rw [if_neg (fun h => p (h1.2 h))]
    by_cases q : badP rr
    · rw [if_pos (h2.1 q)]; exact chk_bad p q
    · rw [if_neg (fun h => q (h2.2 h))]; exact chk_ok p q
def vldB (rr : List (List Int)) (a : List Int) : Int :=
  if chkB rr ≠ 0 then chkB rr else if !decide (a.length = (rr.getD 0 []).length) || (List.range a.length).any (fun k => decide (a.getD k 0 < -1) || decide ((rr.length : Int) ≤ a.getD k 0)) then 8 else 0
theorem vld_eq (rr : List (List Int)) (a : List Int) : vld rr a = vldB rr a := by
  have h1 : badA rr a ↔ (!decide (a.length = (rr.getD 0 []).length) || (List.range a.length).any (fun k => decide (a.getD k 0 < -1) || decide ((rr.length : Int) ≤ a.getD k 0))) = true := by
    unfold badA; simp only [Bool.or_eq_true, decide_eq_true_eq, List.any_eq_true, List.mem_range, Bool.not_eq_true', decide_eq_false_iff_not, ne_eq]
  unfold vldB
  by_cases c : chk rr = 0
  · rw [if_neg (by rw [← chk_eq]; omega)]
    by_cases q : badA rr a
    · rw [if_pos (h1.1 q)]; exact vld_bad c q
    · rw [if_neg (fun h => q (h1.2 h))]; exact vld_ok c q
  · rw [if_pos (by rw [← chk_eq]; exact c), ← chk_eq]; exact vld_chk c

theorem OM.made {B n : Nat} {w : World} {v : Value} (h : Go.Eng.Own B 25 1 w v n (List.replicate n (.slice none 0 0))) : OM B w v (List.replicate n (.slice none 0 0)) (List.replicate n []) := by
  refine ⟨by rw [List.length_replicate]; exact h, fun i hi => ?_⟩
  rw [List.length_replicate] at hi
  have e1 : (List.replicate n (Value.slice none 0 0)).getD i undef = .slice none 0 0 := by simp [List.getD, hi]
  have e2 : (List.replicate n ([] : List Int)).getD i [] = [] := by simp [List.getD, hi]
  rw [e1, e2]
  exact Own.nil
theorem OI.made {n : Nat} {w : World} {v : Value} (h : Go.Eng.Own 0 3 1 w v n (List.replicate n (.int .i64 0))) : OI w v (List.replicate n 0) := by
  have e : (List.replicate n (0 : Int)).map i64v = List.replicate n (.int .i64 0) := by simp [i64v]
  rw [← e] at h; exact OI.of h
/-- rows as they are, given one by one -/
theorem OM.push0 {w : World} {v : Value} {vs : List Value} {rr : List (List Int)} (h : Go.Eng.Own 0 25 1 w v rr.length vs) (hr : ∀ i, i < rr.length → OI w (vs.getD i undef) (rr.getD i [])) : OM 0 w v vs rr := ⟨h, hr⟩
end Go.Proofs.Ytebklnmafjbhcaa
set_option linter.unusedVariables false
set_option linter.unusedSimpArgs false
namespace Go.Eng
open Go.RowKit

section
variable {P : Program} {w : World} {e : TypeId} {s : Nat}
theorem VE.madeN {t : TypeId} {z : Value} {zs : Array Value} {b n : Nat} {K : Value → World → Prop} (ht : P.underlying t = some (.slice e)) (he : Elem P e z s b) (hz1 : z.cells = zs) (hzs : zs.size = s) (hs0 : 0 < s) (hn : n ≤ 1000000) (hs8 : s ≤ 8) (hb : b * n ≤ 281474976710656)
    (hk : ∀ v w', Ext w w' → (∀ B, B ≤ w.heap.size → Own B e s w' v n ((List.range (n * s)).map fun j => zs[j % s]!)) → K v w') : VE P (Instr.makeSlice t (.int .i64 (n : Int)) (.int .i64 (n : Int))) w K := by
  refine VE.mk fun w1 hw1 => ?_
  obtain ⟨i, hi, hz, hsz, hby⟩ := he.info
  have hns : n * s ≤ 8000000 := Nat.le_trans (Nat.mul_le_mul hn hs8) (by omega)
  refine ⟨_, _, ?_, hk (.slice (some ⟨w1.heap.size, 0, none⟩) n n) (w1.alloc (.cells ((List.range (n * s)).map fun j => zs[j % s]!).toArray e)) (hw1.alloc _) (fun B hB => ?_)⟩
  · have hw : IntKind.i64.wrap (n : Int) = n := IntWalk.i64_in _ (by omega)
    have h1 : ¬ ((n : Int) < 0) := by omega
    have h2 : ¬ ((b : Int) * (n : Int) > 2 ^ 48) := by
      have : (b : Int) * (n : Int) = ((b * n : Nat) : Int) := by simp
      rw [this]; omega
    have harr : (Array.map (fun j => (if n * s = 0 then (#[] : Array Value) else zs)[j % (if n * s = 0 then (#[] : Array Value) else zs).size]!) (Array.range (n * s))) = ((List.range (n * s)).map fun j => zs[j % s]!).toArray := by
      rw [amap_range]
      by_cases h0 : n * s = 0
      · rw [h0]; rfl
      · simp only [if_neg h0, hzs]
    simp only [Instr.makeSlice, Sem.run_bind, run_underlying ht, Result.andThen_ok, asInt, asIntOf, Sem.run_pure, typeInfo, run_program, hi, hby, hw, Go.sizeOf]
    simp only [h1, h2, decide_false, Bool.or_false, Int.lt_irrefl, Bool.false_eq_true, if_false, gt_iff_lt, Int.toNat_natCast, Sem.run_bind, run_askRoom, Result.andThen_ok, zeroValue, typeInfo, run_program, hi, Sem.run_pure, hsz]
    by_cases h0 : n * s = 0
    · rw [if_pos h0] at harr ⊢
      simp only [Sem.run_pure, Result.andThen_ok, newRow, Sem.run_bind, run_newObj, harr]
      rfl
    · rw [if_neg h0] at harr ⊢
      simp only [Sem.run_bind, run_program, hi, hz, Sem.run_pure, Result.andThen_ok, newRow, run_newObj, hz1, harr]
      rfl
  · have := Own.fresh (B := B) (e := e) (s := s) (w := w1) (cur := ((List.range (n * s)).map fun j => zs[j % s]!).toArray) (n := n) (Nat.le_trans hB hw1.size) (by unfold maxLen; omega) (by simp)
    simpa using this
theorem Sl.ldN2 {n c : Nat} {x u v : Value} {xs : List Value} {K : Value → Prop} (h : Sl 2 w x n xs) (h0 : xs[c * 2]? = some u) (h1 : xs[c * 2 + 1]? = some v) (hn : n ≠ 0) (hk : K (.agg #[u, v])) : LdN 2 w (ea x (c * 2)) K := by
  simp only [LdN]
  refine ⟨[u, v], rfl, fun i z hz => ?_, hk⟩
  match i, hz with
  | 0, hz => simp at hz; subst hz; exact Sl.cell h h0
  | 1, hz =>
    simp at hz; subst hz
    rcases ea_block h (c * 2) 1 with e | e
    · rw [e]; exact Sl.cell h h1
    · omega
end
theorem made_trs (n : Nat) : ((List.range (n * 3)).map fun j => (#[Value.int .i64 0, .int .i64 0, .int .i64 0] : Array Value)[j % 3]!) = flat3 (List.replicate n (0, 0, 0)) := by
  apply List.ext_getElem?
  intro k
  by_cases hk : k < n * 3
  · have e : (flat3 (List.replicate n ((0, 0, 0) : T3)))[k]? = some (.int .i64 0) := by
      obtain ⟨g0, g1, g2⟩ := flat3_get (List.replicate n ((0, 0, 0) : T3)) (k / 3) (by simp; omega)
      have hg : (List.replicate n ((0, 0, 0) : T3)).getD (k / 3) (0, 0, 0) = (0, 0, 0) := by simp [List.getD, show k / 3 < n by omega]
      rw [hg] at g0 g1 g2
      rcases (by omega : k % 3 = 0 ∨ k % 3 = 1 ∨ k % 3 = 2) with h | h | h
      · rw [show k = k / 3 * 3 by omega, g0]; rfl
      · rw [show k = k / 3 * 3 + 1 by omega, g1]; rfl
      · rw [show k = k / 3 * 3 + 2 by omega, g2]; rfl
    rw [e]
    simp only [List.getElem?_map, List.getElem?_range hk, Option.map_some]
    rcases (by omega : k % 3 = 0 ∨ k % 3 = 1 ∨ k % 3 = 2) with h | h | h <;> rw [h] <;> rfl
  · rw [List.getElem?_eq_none (by simp; omega), List.getElem?_eq_none (by rw [flat3_len]; simp; omega)]
theorem made_sps (n : Nat) : ((List.range (n * 3)).map fun j => (#[Value.slice none 0 0, .int .i64 0, .int .i64 0] : Array Value)[j % 3]!) = flatV (List.replicate n (.slice none 0 0, 0, 0)) := by
  apply List.ext_getElem?
  intro k
  by_cases hk : k < n * 3
  · simp only [List.getElem?_map, List.getElem?_range hk, Option.map_some]
    obtain ⟨g0, g1, g2⟩ := flatV_get (List.replicate n ((.slice none 0 0, 0, 0) : V3)) (k / 3) (by simp; omega)
    have hg : (List.replicate n ((.slice none 0 0, 0, 0) : V3)).getD (k / 3) v30 = (.slice none 0 0, 0, 0) := by simp [List.getD, show k / 3 < n by omega]
    rw [hg] at g0 g1 g2
    obtain ⟨q, r, hk3, hr⟩ : ∃ q r, k = q * 3 + r ∧ r < 3 := ⟨k / 3, k % 3, by omega, by omega⟩
    have hq : k / 3 = q := by omega
    rw [hq] at g0 g1 g2
    subst hk3
    have hr3 : (q * 3 + r) % 3 = r := by omega
    rw [hr3]
    rcases (by omega : r = 0 ∨ r = 1 ∨ r = 2) with rfl | rfl | rfl
    · rw [Nat.add_zero, g0]; rfl
    · rw [g1]; rfl
    · rw [g2]; rfl
  · rw [List.getElem?_eq_none (by simp; omega), List.getElem?_eq_none (by rw [flatV_len]; simp; omega)]
end Go.Eng
set_option linter.unusedVariables false
set_option linter.unusedSimpArgs false
namespace Go.Proofs.Ytebklnmafjbhcaa
open Go.Eng
set_option maxRecDepth 100000
set_option maxHeartbeats 4000000

theorem VX.madeN' {P : Program} {w : World} {e : TypeId} {s : Nat} {t : TypeId} {z : Value} {zs : Array Value} {b n : Nat} {K : Value → World → Prop} (ht : P.underlying t = some (.slice e)) (he : Elem P e z s b) (hz1 : z.cells = zs) (hzs : zs.size = s) (hs0 : 0 < s) (hn : n ≤ 1000000) (hs8 : s ≤ 8) (hb : b * n ≤ 281474976710656)
    (hk : ∀ v w', Ext w w' → (∀ B, B ≤ w.heap.size → Own B e s w' v n ((List.range (n * s)).map fun j => zs[j % s]!)) → K v w') : VX P (Instr.makeSlice t (.int .i64 (n : Int)) (.int .i64 (n : Int))) w K := by
  refine VX.mk fun w1 hw1 => ?_
  obtain ⟨i, hi, hz, hsz, hby⟩ := he.info
  have hns : n * s ≤ 8000000 := Nat.le_trans (Nat.mul_le_mul hn hs8) (by omega)
  refine ⟨_, _, ?_, (Ext.refl w1).alloc _, hk (.slice (some ⟨w1.heap.size, 0, none⟩) n n) (w1.alloc (.cells ((List.range (n * s)).map fun j => zs[j % s]!).toArray e)) (hw1.alloc _) (fun B hB => ?_)⟩
  · have hw : IntKind.i64.wrap (n : Int) = n := IntWalk.i64_in _ (by omega)
    have h1 : ¬ ((n : Int) < 0) := by omega
    have h2 : ¬ ((b : Int) * (n : Int) > 2 ^ 48) := by
      have : (b : Int) * (n : Int) = ((b * n : Nat) : Int) := by simp
      rw [this]; omega
    have harr : (Array.map (fun j => (if n * s = 0 then (#[] : Array Value) else zs)[j % (if n * s = 0 then (#[] : Array Value) else zs).size]!) (Array.range (n * s))) = ((List.range (n * s)).map fun j => zs[j % s]!).toArray := by
      rw [amap_range]
      by_cases h0 : n * s = 0
      · rw [h0]; rfl
      · simp only [if_neg h0, hzs]
    simp only [Instr.makeSlice, Sem.run_bind, run_underlying ht, Result.andThen_ok, asInt, asIntOf, Sem.run_pure, typeInfo, run_program, hi, hby, hw, Go.sizeOf]
    simp only [h1, h2, decide_false, Bool.or_false, Int.lt_irrefl, Bool.false_eq_true, if_false, gt_iff_lt, Int.toNat_natCast, Sem.run_bind, run_askRoom, Result.andThen_ok, zeroValue, typeInfo, run_program, hi, Sem.run_pure, hsz]
    by_cases h0 : n * s = 0
    · rw [if_pos h0] at harr ⊢
      simp only [Sem.run_pure, Result.andThen_ok, newRow, Sem.run_bind, run_newObj, harr]
      rfl
    · rw [if_neg h0] at harr ⊢
      simp only [Sem.run_bind, run_program, hi, hz, Sem.run_pure, Result.andThen_ok, newRow, run_newObj, hz1, harr]
      rfl
  · have := Own.fresh (B := B) (e := e) (s := s) (w := w1) (cur := ((List.range (n * s)).map fun j => zs[j % s]!).toArray) (n := n) (Nat.le_trans hB hw1.size) (by unfold maxLen; omega) (by simp)
    simpa using this
def S401 : List Stp := List.replicate 401 ([], 0, 0)
def L401 : List V3 := List.replicate 401 (.slice none 0 0, 0, 0)
theorem getD_rep {α : Type} (n : Nat) (x d : α) (i : Nat) (hi : i < n) : (List.replicate n x).getD i d = x := by
  rw [List.getD, List.getElem?_replicate, if_pos hi]; rfl
theorem sps401 {w0 w : World} {v : Value} (h : ∀ B, B ≤ w0.heap.size → Own B 42 3 w v 401 ((List.range (401 * 3)).map fun j => (#[Value.slice none 0 0, .int .i64 0, .int .i64 0] : Array Value)[j % 3]!)) : Sps w v L401 S401 := by
  have h := Own.sl (h 0 (Nat.zero_le _))
  rw [made_sps] at h
  have hl : S401.length = 401 := List.length_replicate
  refine ⟨by rw [hl]; exact h, by rw [hl]; exact List.length_replicate, fun i hi => ?_, fun i hi => ?_⟩
  · rw [hl] at hi
    rw [show L401.getD i v30 = (.slice none 0 0, 0, 0) from getD_rep 401 _ _ i hi, show S401.getD i s30 = ([], 0, 0) from getD_rep 401 _ _ i hi]
    exact nil_ints2
  · rw [hl] at hi
    rw [show L401.getD i v30 = (.slice none 0 0, 0, 0) from getD_rep 401 _ _ i hi, show S401.getD i s30 = ([], 0, 0) from getD_rep 401 _ _ i hi]
def stpB (rr : List (List Int)) (s : Stp) : Bool := if s.1.length = 0 then decide (0 ≤ s.2.1) && decide (s.2.1 < rr.length) && decide (0 ≤ s.2.2) && decide (s.2.2 < (rr.getD 0 []).length) else decide (s.2.1 = -1) && decide (s.2.2 = -1) && ordB s.1 rr.length
theorem stpB_iff {rr : List (List Int)} {s : Stp} : stpB rr s = true ↔ stpOk rr s := by
  obtain ⟨l, x, y⟩ := s
  unfold stpB
  by_cases h : l.length = 0
  · rw [if_pos h, stpOk_give h]
    simp only [Bool.and_eq_true, decide_eq_true_eq]
    constructor
    · rintro ⟨⟨⟨h1, h2⟩, h3⟩, h4⟩; exact ⟨⟨h1, h2⟩, h3, h4⟩
    · rintro ⟨⟨h1, h2⟩, h3, h4⟩; exact ⟨⟨⟨h1, h2⟩, h3⟩, h4⟩
  · rw [if_neg h, stpOk_circ (by omega)]
    simp only [Bool.and_eq_true, decide_eq_true_eq, ord_iff]
    constructor
    · rintro ⟨⟨h1, h2⟩, h3⟩; exact ⟨h1, h2, h3⟩
    · rintro ⟨h1, h2, h3⟩; exact ⟨⟨h1, h2⟩, h3⟩
def badS : List Stp := [([], 2, 0), ([], -1, 0), ([], 0, 3), ([], 0, -1), ([0], -1, 0), ([0, 1], 0, -1), ([0, 0], -1, -1), ([0, 2], -1, -1)]
theorem badS_rp (c : Nat) (hc : c < 8) : rpE gvn ((badS.drop c).take (c + 1 - c)) = 8 := by
  have hl : ¬ 400 < ((badS.drop c).take (c + 1 - c)).length := by rw [List.length_take]; omega
  refine rpE_bad gvn_chk hl fun h => ?_
  have h0 : ((badS.drop c).take (c + 1 - c)).getD 0 s30 = badS.getD c s30 := by
    have : c = 0 ∨ c = 1 ∨ c = 2 ∨ c = 3 ∨ c = 4 ∨ c = 5 ∨ c = 6 ∨ c = 7 := by omega
    rcases this with rfl | rfl | rfl | rfl | rfl | rfl | rfl | rfl <;> rfl
  have h1 : 0 < ((badS.drop c).take (c + 1 - c)).length := by
    have h8 : badS.length = 8 := rfl
    rw [List.length_take, List.length_drop, h8]; omega
  have h2 := stpB_iff.2 (h 0 h1)
  rw [h0] at h2
  have h3 : ∀ c, c < 8 → stpB gvn (badS.getD c s30) = false := by decide +kernel
  rw [h3 c hc] at h2; cases h2
def okS : List Stp := [([], 1, 0), ([], 0, 1), ([], 0, 1), ([0, 1], -1, -1)]
theorem okS_rp : rpE gvn okS = 0 ∧ rpL gvn okS = [0, 1, -1] := by
  have h : rpE gvn okS = 0 := rpE_ok gvn_chk (by decide) fun i hi => by
    have h3 : ∀ c, c < 4 → stpB gvn (okS.getD c s30) = true := by decide +kernel
    exact stpB_iff.1 (h3 i hi)
  exact ⟨h, by rw [rpL, if_pos h]; decide +kernel⟩
def gthree : List (List Int) := [[0, 1, 0], [0, 0, 1], [1, 0, 0]]
def gfour : List (List Int) := [[0, 1, 0, 0], [0, 0, 1, 0], [0, 0, 0, 1], [1, 0, 1, 0]]
theorem three_circ : circ gthree [0, 1, 2] = [0, 1, 2] := (circ_cer 3 5 (by decide) (by decide +kernel)).trans (by decide +kernel)
theorem three_und : Und gthree [0, 1, 2] [2, 0, 1] := by
  refine .go (by rw [three_circ]; decide) ?_
  rw [three_circ, show pas gthree.length [0, 1, 2] [0, 1, 2] = [2, 0, 1] by decide +kernel]
  exact .stop (circ_no (by decide) (by decide +kernel))
theorem four_circ : circ gfour [0, 1, 2, 3] = [2, 3] := (circ_cer 2 11 (by decide) (by decide +kernel)).trans (by decide +kernel)
theorem one_circ : circ [[1]] [-1] = [] := circ_no (by decide) (by decide +kernel)
theorem cir_is {rr : List (List Int)} {a l : List Int} {w : World} {v : Value} (h1 : vld rr a = 0 → CiR rr a w v) (hv : vld rr a = 0) (e : circ rr a = l) : Ints w v l := by
  rcases h1 hv with ⟨rfl, e2⟩ | ⟨_, h⟩
  · rw [← e, e2]; exact nil_ints2
  · rw [e] at h; exact Own.sl h
theorem runS_nil : RunS gvn [] (noneL 3) [] (noneL 3) := .nil

theorem rnames_pc {w : World} : PC Try.prog 14 [] w (.bool true) := by
  refine PC.mk tyOk Try.func14 rfl (by kernel_rfl) fun w1 E1 => ?_
  have EE := Ext.refl w1
  have z0 : ∀ w, Mat w (.slice none 0 0) [] [] := fun w => (OM.nil (B := 0)).mat
  have v1 : vld gvn [0] = 8 := (vld_eq _ _).trans (by decide +kernel)
  have v2 : vld [] [] = 8 := (vld_eq _ _).trans (by decide +kernel)
  have o1 : runE gvn [3] = 8 := runE_bad gvn_chk (fun h => absurd (ord_iff.2 h) (by decide +kernel))
  have o2 : runE gvn [0, 0] = 8 := runE_bad gvn_chk (fun h => absurd (ord_iff.2 h) (by decide +kernel))
  have o3 : runE gvn [-1] = 8 := runE_bad gvn_chk (fun h => absurd (ord_iff.2 h) (by decide +kernel))
  have c7 : chk (List.replicate 7 ([] : List Int)) = 4 := (chk_eq _).trans (by decide +kernel)
  have o4 : runE (List.replicate 7 []) [] = 4 := (runE_chk (by rw [c7]; decide)).trans c7
  have o5 : runE gvn [] = 0 := runE_ok gvn_chk (ord_iff.1 (by decide +kernel))
  have o6 : rpE gvn S401 = 4 := rpE_many gvn_chk (by rw [show S401.length = 401 from List.length_replicate]; decide)
  have vd3 : vld gthree [0, 1, 2] = 0 := (vld_eq _ _).trans (by decide +kernel)
  have vd4 : vld gfour [0, 1, 2, 3] = 0 := (vld_eq _ _).trans (by decide +kernel)
  have vd1 : vld [[1]] [-1] = 0 := (vld_eq _ _).trans (by decide +kernel)
  conv => whnf
  refine VC.rc (given19_rc) ?_
  rintro _ w2 E2 ⟨g1, _, rfl, HG⟩
  replace EE := EE.ext E2
  conv => whnf
  refine VE.litI [0] Try.underlying25 eInt (by first | decide | simp) fun l1 w3 E3 H1 _ => ?_
  replace H1 := H1 0 (Nat.zero_le _)
  replace EE := EE.ext E3
  replace HG := HG.ext E3
  conv => whnf
  refine VC.rc (Circle_rc HG.mat (Own.sl H1)) ?_
  rintro _ w4 E4 ⟨cv, rfl, hc1, hc2⟩
  replace EE := EE.ext E4
  replace HG := HG.ext E4
  replace H1 := H1.ext E4
  rw [v1]
  repeat' ((conv => whnf); first | (refine Dr.quiet tyOk (by kernel_rfl) ?_) | (refine Rng.mk (by omega) ?_) | (refine Split.pos (by omega) ?_) | (refine Split.neg (by omega) ?_) | (refine Split.mk (fun h => ?_) (fun h => ?_)) | (refine Need.mk (by omega) ?_) | (refine Ints.ln (by assumption) ?_) | (refine Mat.ln (by assumption) ?_) | (refine Ints.ln (Mat.row (by assumption) _ (by omega)) ?_) | (refine Ints.ix (by assumption) (by omega) ?_) | (refine Mat.ix (by assumption) (by omega) ?_) | (refine Ints.ix (Mat.row (by assumption) _ (by omega)) (by omega) ?_) | (refine Ints.ix (c := 0) (by assumption) (by omega) ?_) | (refine Mat.ix (c := 0) (by assumption) (by omega) ?_) | (refine Ints.ix (c := 0) (Mat.row (by assumption) _ (by omega)) (by omega) ?_) | (refine Ints.ixI (by assumption) (by omega) ?_) | (refine Mat.ixI (by assumption) (by omega) ?_) | (refine Ints.ixI (Mat.row (by assumption) _ (by omega)) (by omega) ?_) | (refine Ints.ld (by assumption) (by omega) ?_) | (refine Mat.ld (by assumption) (by omega) ?_) | (refine Ints.ld (Mat.row (by assumption) _ (by omega)) (by omega) ?_) | (refine At.ld (by assumption) rfl ?_) | (refine At.ldN (by assumption) rfl ?_) | (refine Prs.ln (by assumption) ?_) | (refine Trs.ln (by assumption) ?_) | (refine Prs.ix (by assumption) (by omega) ?_) | (refine Trs.ix (by assumption) (by omega) ?_) | (refine Prs.ldN (by assumption) (by omega) ?_) | (refine Trs.ldN (by assumption) (by omega) ?_) | (refine At.ldN (Blk.at (by assumption)) rfl ?_) | (refine At.ld (Blk.at (by assumption)) rfl ?_) | (refine IxA.mk (by omega) ?_) | (refine Sl.ln (Own.sl (by assumption)) ?_) | (refine Ints.ix (Own.sl (by assumption)) (by omega) ?_) | (refine Ints.ixI (Own.sl (by assumption)) (by omega) ?_) | (refine Ints.ld (Own.sl (by assumption)) (by omega) ?_))
  conv => whnf
  refine VS.sparse (ps := []) Try.underlying24 eGoods (by decide +kernel) rfl (by simp) rfl ?_
  conv => whnf
  refine VC.rc (Undo_rc (z0 _) nil_ints2) ?_
  rintro _ w5 E5 ⟨cv, rfl, hc1, hc2⟩
  replace EE := EE.ext E5
  replace HG := HG.ext E5
  replace H1 := H1.ext E5
  rw [v2]
  repeat' ((conv => whnf); first | (refine Dr.quiet tyOk (by kernel_rfl) ?_) | (refine Rng.mk (by omega) ?_) | (refine Split.pos (by omega) ?_) | (refine Split.neg (by omega) ?_) | (refine Split.mk (fun h => ?_) (fun h => ?_)) | (refine Need.mk (by omega) ?_) | (refine Ints.ln (by assumption) ?_) | (refine Mat.ln (by assumption) ?_) | (refine Ints.ln (Mat.row (by assumption) _ (by omega)) ?_) | (refine Ints.ix (by assumption) (by omega) ?_) | (refine Mat.ix (by assumption) (by omega) ?_) | (refine Ints.ix (Mat.row (by assumption) _ (by omega)) (by omega) ?_) | (refine Ints.ix (c := 0) (by assumption) (by omega) ?_) | (refine Mat.ix (c := 0) (by assumption) (by omega) ?_) | (refine Ints.ix (c := 0) (Mat.row (by assumption) _ (by omega)) (by omega) ?_) | (refine Ints.ixI (by assumption) (by omega) ?_) | (refine Mat.ixI (by assumption) (by omega) ?_) | (refine Ints.ixI (Mat.row (by assumption) _ (by omega)) (by omega) ?_) | (refine Ints.ld (by assumption) (by omega) ?_) | (refine Mat.ld (by assumption) (by omega) ?_) | (refine Ints.ld (Mat.row (by assumption) _ (by omega)) (by omega) ?_) | (refine At.ld (by assumption) rfl ?_) | (refine At.ldN (by assumption) rfl ?_) | (refine Prs.ln (by assumption) ?_) | (refine Trs.ln (by assumption) ?_) | (refine Prs.ix (by assumption) (by omega) ?_) | (refine Trs.ix (by assumption) (by omega) ?_) | (refine Prs.ldN (by assumption) (by omega) ?_) | (refine Trs.ldN (by assumption) (by omega) ?_) | (refine At.ldN (Blk.at (by assumption)) rfl ?_) | (refine At.ld (Blk.at (by assumption)) rfl ?_) | (refine IxA.mk (by omega) ?_) | (refine Sl.ln (Own.sl (by assumption)) ?_) | (refine Ints.ix (Own.sl (by assumption)) (by omega) ?_) | (refine Ints.ixI (Own.sl (by assumption)) (by omega) ?_) | (refine Ints.ld (Own.sl (by assumption)) (by omega) ?_))
  conv => whnf
  refine VC.rc (given19_rc) ?_
  rintro _ w6 E6 ⟨g1, _, rfl, HG⟩
  replace EE := EE.ext E6
  replace H1 := H1.ext E6
  conv => whnf
  refine VE.litI [3] Try.underlying25 eInt (by first | decide | simp) fun l1 w7 E7 H1 _ => ?_
  replace H1 := H1 0 (Nat.zero_le _)
  replace EE := EE.ext E7
  replace HG := HG.ext E7
  conv => whnf
  refine VC.rc (run_rc HG.mat (Own.sl H1)) ?_
  rintro _ w8 E8 ⟨av, sv, rfl, hr1, hr2⟩
  replace EE := EE.ext E8
  replace HG := HG.ext E8
  replace H1 := H1.ext E8
  rw [o1]
  repeat' ((conv => whnf); first | (refine Dr.quiet tyOk (by kernel_rfl) ?_) | (refine Rng.mk (by omega) ?_) | (refine Split.pos (by omega) ?_) | (refine Split.neg (by omega) ?_) | (refine Split.mk (fun h => ?_) (fun h => ?_)) | (refine Need.mk (by omega) ?_) | (refine Ints.ln (by assumption) ?_) | (refine Mat.ln (by assumption) ?_) | (refine Ints.ln (Mat.row (by assumption) _ (by omega)) ?_) | (refine Ints.ix (by assumption) (by omega) ?_) | (refine Mat.ix (by assumption) (by omega) ?_) | (refine Ints.ix (Mat.row (by assumption) _ (by omega)) (by omega) ?_) | (refine Ints.ix (c := 0) (by assumption) (by omega) ?_) | (refine Mat.ix (c := 0) (by assumption) (by omega) ?_) | (refine Ints.ix (c := 0) (Mat.row (by assumption) _ (by omega)) (by omega) ?_) | (refine Ints.ixI (by assumption) (by omega) ?_) | (refine Mat.ixI (by assumption) (by omega) ?_) | (refine Ints.ixI (Mat.row (by assumption) _ (by omega)) (by omega) ?_) | (refine Ints.ld (by assumption) (by omega) ?_) | (refine Mat.ld (by assumption) (by omega) ?_) | (refine Ints.ld (Mat.row (by assumption) _ (by omega)) (by omega) ?_) | (refine At.ld (by assumption) rfl ?_) | (refine At.ldN (by assumption) rfl ?_) | (refine Prs.ln (by assumption) ?_) | (refine Trs.ln (by assumption) ?_) | (refine Prs.ix (by assumption) (by omega) ?_) | (refine Trs.ix (by assumption) (by omega) ?_) | (refine Prs.ldN (by assumption) (by omega) ?_) | (refine Trs.ldN (by assumption) (by omega) ?_) | (refine At.ldN (Blk.at (by assumption)) rfl ?_) | (refine At.ld (Blk.at (by assumption)) rfl ?_) | (refine IxA.mk (by omega) ?_) | (refine Sl.ln (Own.sl (by assumption)) ?_) | (refine Ints.ix (Own.sl (by assumption)) (by omega) ?_) | (refine Ints.ixI (Own.sl (by assumption)) (by omega) ?_) | (refine Ints.ld (Own.sl (by assumption)) (by omega) ?_))
  conv => whnf
  refine VC.rc (given19_rc) ?_
  rintro _ w9 E9 ⟨g1, _, rfl, HG⟩
  replace EE := EE.ext E9
  replace H1 := H1.ext E9
  conv => whnf
  refine VE.litI [0, 0] Try.underlying25 eInt (by first | decide | simp) fun l1 w10 E10 H1 _ => ?_
  replace H1 := H1 0 (Nat.zero_le _)
  replace EE := EE.ext E10
  replace HG := HG.ext E10
  conv => whnf
  refine VC.rc (run_rc HG.mat (Own.sl H1)) ?_
  rintro _ w11 E11 ⟨av, sv, rfl, hr1, hr2⟩
  replace EE := EE.ext E11
  replace HG := HG.ext E11
  replace H1 := H1.ext E11
  rw [o2]
  repeat' ((conv => whnf); first | (refine Dr.quiet tyOk (by kernel_rfl) ?_) | (refine Rng.mk (by omega) ?_) | (refine Split.pos (by omega) ?_) | (refine Split.neg (by omega) ?_) | (refine Split.mk (fun h => ?_) (fun h => ?_)) | (refine Need.mk (by omega) ?_) | (refine Ints.ln (by assumption) ?_) | (refine Mat.ln (by assumption) ?_) | (refine Ints.ln (Mat.row (by assumption) _ (by omega)) ?_) | (refine Ints.ix (by assumption) (by omega) ?_) | (refine Mat.ix (by assumption) (by omega) ?_) | (refine Ints.ix (Mat.row (by assumption) _ (by omega)) (by omega) ?_) | (refine Ints.ix (c := 0) (by assumption) (by omega) ?_) | (refine Mat.ix (c := 0) (by assumption) (by omega) ?_) | (refine Ints.ix (c := 0) (Mat.row (by assumption) _ (by omega)) (by omega) ?_) | (refine Ints.ixI (by assumption) (by omega) ?_) | (refine Mat.ixI (by assumption) (by omega) ?_) | (refine Ints.ixI (Mat.row (by assumption) _ (by omega)) (by omega) ?_) | (refine Ints.ld (by assumption) (by omega) ?_) | (refine Mat.ld (by assumption) (by omega) ?_) | (refine Ints.ld (Mat.row (by assumption) _ (by omega)) (by omega) ?_) | (refine At.ld (by assumption) rfl ?_) | (refine At.ldN (by assumption) rfl ?_) | (refine Prs.ln (by assumption) ?_) | (refine Trs.ln (by assumption) ?_) | (refine Prs.ix (by assumption) (by omega) ?_) | (refine Trs.ix (by assumption) (by omega) ?_) | (refine Prs.ldN (by assumption) (by omega) ?_) | (refine Trs.ldN (by assumption) (by omega) ?_) | (refine At.ldN (Blk.at (by assumption)) rfl ?_) | (refine At.ld (Blk.at (by assumption)) rfl ?_) | (refine IxA.mk (by omega) ?_) | (refine Sl.ln (Own.sl (by assumption)) ?_) | (refine Ints.ix (Own.sl (by assumption)) (by omega) ?_) | (refine Ints.ixI (Own.sl (by assumption)) (by omega) ?_) | (refine Ints.ld (Own.sl (by assumption)) (by omega) ?_))
  conv => whnf
  refine VC.rc (given19_rc) ?_
  rintro _ w12 E12 ⟨g1, _, rfl, HG⟩
  replace EE := EE.ext E12
  replace H1 := H1.ext E12
  conv => whnf
  refine VE.litI [-1] Try.underlying25 eInt (by first | decide | simp) fun l1 w13 E13 H1 _ => ?_
  replace H1 := H1 0 (Nat.zero_le _)
  replace EE := EE.ext E13
  replace HG := HG.ext E13
  conv => whnf
  refine VC.rc (run_rc HG.mat (Own.sl H1)) ?_
  rintro _ w14 E14 ⟨av, sv, rfl, hr1, hr2⟩
  replace EE := EE.ext E14
  replace HG := HG.ext E14
  replace H1 := H1.ext E14
  rw [o3]
  repeat' ((conv => whnf); first | (refine Dr.quiet tyOk (by kernel_rfl) ?_) | (refine Rng.mk (by omega) ?_) | (refine Split.pos (by omega) ?_) | (refine Split.neg (by omega) ?_) | (refine Split.mk (fun h => ?_) (fun h => ?_)) | (refine Need.mk (by omega) ?_) | (refine Ints.ln (by assumption) ?_) | (refine Mat.ln (by assumption) ?_) | (refine Ints.ln (Mat.row (by assumption) _ (by omega)) ?_) | (refine Ints.ix (by assumption) (by omega) ?_) | (refine Mat.ix (by assumption) (by omega) ?_) | (refine Ints.ix (Mat.row (by assumption) _ (by omega)) (by omega) ?_) | (refine Ints.ix (c := 0) (by assumption) (by omega) ?_) | (refine Mat.ix (c := 0) (by assumption) (by omega) ?_) | (refine Ints.ix (c := 0) (Mat.row (by assumption) _ (by omega)) (by omega) ?_) | (refine Ints.ixI (by assumption) (by omega) ?_) | (refine Mat.ixI (by assumption) (by omega) ?_) | (refine Ints.ixI (Mat.row (by assumption) _ (by omega)) (by omega) ?_) | (refine Ints.ld (by assumption) (by omega) ?_) | (refine Mat.ld (by assumption) (by omega) ?_) | (refine Ints.ld (Mat.row (by assumption) _ (by omega)) (by omega) ?_) | (refine At.ld (by assumption) rfl ?_) | (refine At.ldN (by assumption) rfl ?_) | (refine Prs.ln (by assumption) ?_) | (refine Trs.ln (by assumption) ?_) | (refine Prs.ix (by assumption) (by omega) ?_) | (refine Trs.ix (by assumption) (by omega) ?_) | (refine Prs.ldN (by assumption) (by omega) ?_) | (refine Trs.ldN (by assumption) (by omega) ?_) | (refine At.ldN (Blk.at (by assumption)) rfl ?_) | (refine At.ld (Blk.at (by assumption)) rfl ?_) | (refine IxA.mk (by omega) ?_) | (refine Sl.ln (Own.sl (by assumption)) ?_) | (refine Ints.ix (Own.sl (by assumption)) (by omega) ?_) | (refine Ints.ixI (Own.sl (by assumption)) (by omega) ?_) | (refine Ints.ld (Own.sl (by assumption)) (by omega) ?_))
  conv => whnf
  refine VE.made (n := 7) Try.underlying22 eRow rfl (by omega) (by omega) fun mv7 w15 E15 HG _ => ?_
  replace EE := EE.ext E15
  replace H1 := H1.ext E15
  replace HG := OM.made (HG 0 (Nat.zero_le _))
  conv => whnf
  refine VS.field1 Try.underlying24 eGoods (by kernel_rfl) rfl (Sl.cells (Own.sl HG.top)).1 ?_
  conv => whnf
  refine VC.rc (run_rc HG.mat nil_ints2) ?_
  rintro _ w16 E16 ⟨av, sv, rfl, hr1, hr2⟩
  replace EE := EE.ext E16
  replace H1 := H1.ext E16
  replace HG := HG.ext E16
  rw [o4]
  repeat' ((conv => whnf); first | (refine Dr.quiet tyOk (by kernel_rfl) ?_) | (refine Rng.mk (by omega) ?_) | (refine Split.pos (by omega) ?_) | (refine Split.neg (by omega) ?_) | (refine Split.mk (fun h => ?_) (fun h => ?_)) | (refine Need.mk (by omega) ?_) | (refine Ints.ln (by assumption) ?_) | (refine Mat.ln (by assumption) ?_) | (refine Ints.ln (Mat.row (by assumption) _ (by omega)) ?_) | (refine Ints.ix (by assumption) (by omega) ?_) | (refine Mat.ix (by assumption) (by omega) ?_) | (refine Ints.ix (Mat.row (by assumption) _ (by omega)) (by omega) ?_) | (refine Ints.ix (c := 0) (by assumption) (by omega) ?_) | (refine Mat.ix (c := 0) (by assumption) (by omega) ?_) | (refine Ints.ix (c := 0) (Mat.row (by assumption) _ (by omega)) (by omega) ?_) | (refine Ints.ixI (by assumption) (by omega) ?_) | (refine Mat.ixI (by assumption) (by omega) ?_) | (refine Ints.ixI (Mat.row (by assumption) _ (by omega)) (by omega) ?_) | (refine Ints.ld (by assumption) (by omega) ?_) | (refine Mat.ld (by assumption) (by omega) ?_) | (refine Ints.ld (Mat.row (by assumption) _ (by omega)) (by omega) ?_) | (refine At.ld (by assumption) rfl ?_) | (refine At.ldN (by assumption) rfl ?_) | (refine Prs.ln (by assumption) ?_) | (refine Trs.ln (by assumption) ?_) | (refine Prs.ix (by assumption) (by omega) ?_) | (refine Trs.ix (by assumption) (by omega) ?_) | (refine Prs.ldN (by assumption) (by omega) ?_) | (refine Trs.ldN (by assumption) (by omega) ?_) | (refine At.ldN (Blk.at (by assumption)) rfl ?_) | (refine At.ld (Blk.at (by assumption)) rfl ?_) | (refine IxA.mk (by omega) ?_) | (refine Sl.ln (Own.sl (by assumption)) ?_) | (refine Ints.ix (Own.sl (by assumption)) (by omega) ?_) | (refine Ints.ixI (Own.sl (by assumption)) (by omega) ?_) | (refine Ints.ld (Own.sl (by assumption)) (by omega) ?_))
  conv => whnf
  refine VC.rc (given19_rc) ?_
  rintro _ w17 E17 ⟨g1, _, rfl, HG⟩
  replace EE := EE.ext E17
  replace H1 := H1.ext E17
  conv => whnf
  refine VC.rc (run_rc HG.mat nil_ints2) ?_
  rintro _ w18 E18 hr
  replace EE := EE.ext E18
  replace H1 := H1.ext E18
  replace HG := HG.ext E18
  obtain ⟨xv, sv, b1, L1, S1, rfl, HX, HS, hr1, hr2⟩ := runA_read hr
  obtain ⟨rfl, rfl⟩ := (hr1 o5).one runS_nil
  replace HX : Ints w18 xv [-1, -1, -1] := HX
  rw [o5]
  repeat' ((conv => whnf); first | (refine Dr.plan 84 [2] (.e 0 (.e 1 (.e 2 (.q 3 (.q 4 (.q 5 (.q 6 (.q 7 .nil))))) .nil) .nil) (.e 1 (.e 0 (.e 2 (.q 3 (.q 4 (.q 5 (.q 6 (.q 7 .nil))))) .nil) .nil) .nil)) tyOk rfl (by kernel_rfl) ?_) | (refine Dr.plan 109 [6] (.q 1 (.q 2 (.q 3 (.q 4 (.q 5 (.e 0 (.e 6 (.q 7 (.q 8 (.q 9 (.q 10 (.q 11 .nil))))) .nil) .nil)))))) tyOk rfl (by kernel_rfl) ?_) | (refine Dr.quiet tyOk (by kernel_rfl) ?_) | (refine Rng.mk (by omega) ?_) | (refine Split.pos (by omega) ?_) | (refine Split.neg (by omega) ?_) | (refine Split.mk (fun h => ?_) (fun h => ?_)) | (refine Need.mk (by omega) ?_) | (refine Ints.ln (by assumption) ?_) | (refine Mat.ln (by assumption) ?_) | (refine Ints.ln (Mat.row (by assumption) _ (by omega)) ?_) | (refine Ints.ix (by assumption) (by omega) ?_) | (refine Mat.ix (by assumption) (by omega) ?_) | (refine Ints.ix (Mat.row (by assumption) _ (by omega)) (by omega) ?_) | (refine Ints.ix (c := 0) (by assumption) (by omega) ?_) | (refine Mat.ix (c := 0) (by assumption) (by omega) ?_) | (refine Ints.ix (c := 0) (Mat.row (by assumption) _ (by omega)) (by omega) ?_) | (refine Ints.ixI (by assumption) (by omega) ?_) | (refine Mat.ixI (by assumption) (by omega) ?_) | (refine Ints.ixI (Mat.row (by assumption) _ (by omega)) (by omega) ?_) | (refine Ints.ld (by assumption) (by omega) ?_) | (refine Mat.ld (by assumption) (by omega) ?_) | (refine Ints.ld (Mat.row (by assumption) _ (by omega)) (by omega) ?_) | (refine At.ld (by assumption) rfl ?_) | (refine At.ldN (by assumption) rfl ?_) | (refine Prs.ln (by assumption) ?_) | (refine Trs.ln (by assumption) ?_) | (refine Prs.ix (by assumption) (by omega) ?_) | (refine Trs.ix (by assumption) (by omega) ?_) | (refine Prs.ldN (by assumption) (by omega) ?_) | (refine Trs.ldN (by assumption) (by omega) ?_) | (refine At.ldN (Blk.at (by assumption)) rfl ?_) | (refine At.ld (Blk.at (by assumption)) rfl ?_) | (refine IxA.mk (by omega) ?_) | (refine Sl.ln (Own.sl (by assumption)) ?_) | (refine Ints.ix (Own.sl (by assumption)) (by omega) ?_) | (refine Ints.ixI (Own.sl (by assumption)) (by omega) ?_) | (refine Ints.ld (Own.sl (by assumption)) (by omega) ?_))
  have ER := Ext.refl w18
  have key : ∀ (wz : World) (g sv : Value) (us : List Value), Ext w18 wz → OM 0 wz g us gvn → Sps wz sv L401 S401 → (?P : World → Value → Value → List Value → Prop) wz g sv us := ?key
  conv => whnf
  refine ⟨?_, ?_⟩
  · conv => whnf
    refine VCX.rc (given19_rc) ?_
    rintro _ w19 E19 ⟨g1, us, rfl, HG⟩
    replace EE := EE.ext E19
    replace H1 := H1.ext E19
    replace HX := HX.ext E19
    replace HS := HS.ext E19
    replace ER := ER.ext E19
    conv => whnf
    refine VX.madeN' (zs := #[.slice none 0 0, .int .i64 0, .int .i64 0]) (n := 401) Try.underlying34 eStep rfl rfl (by decide) (by decide) (by decide) (by decide) fun mv w70 E70 HMk => ?_
    conv => whnf
    exact key _ _ _ _ (ER.trans E70) (HG.ext E70) (sps401 HMk)
  · conv => whnf
    refine VX.madeN' (zs := #[.slice none 0 0, .int .i64 0, .int .i64 0]) (n := 401) Try.underlying34 eStep rfl rfl (by decide) (by decide) (by decide) (by decide) fun mv w70 E70 HMk => ?_
    have HK := sps401 HMk
    replace EE := EE.ext E70
    replace H1 := H1.ext E70
    replace HG := HG.ext E70
    replace HX := HX.ext E70
    replace HS := HS.ext E70
    replace ER := ER.ext E70
    conv => whnf
    refine VCX.rc (given19_rc) ?_
    rintro _ w71 E71 ⟨g1, us, rfl, HG⟩
    replace EE := EE.ext E71
    replace H1 := H1.ext E71
    replace HX := HX.ext E71
    replace HS := HS.ext E71
    replace ER := ER.ext E71
    replace HK := HK.ext E71
    conv => whnf
    exact key _ _ _ _ ER HG HK
  intro wz g1 kv us Ez HG9 HK9
  replace EE := EE.ext Ez
  replace H1 := H1.ext Ez
  replace HG := HG.ext Ez
  replace HX := HX.ext Ez
  replace HS := HS.ext Ez
  replace ER := ER.ext Ez
  conv => whnf
  refine VC.rc (replay_rc HG9.mat HK9) ?_
  rintro _ w76 E76 ⟨av, rfl, hr3, hr4⟩
  replace EE := EE.ext E76
  replace H1 := H1.ext E76
  replace HG := HG.ext E76
  replace HX := HX.ext E76
  replace HS := HS.ext E76
  replace ER := ER.ext E76
  replace HG9 := HG9.ext E76
  replace HK9 := HK9.ext E76
  rw [o6]
  repeat' ((conv => whnf); first | (refine Dr.quiet tyOk (by kernel_rfl) ?_) | (refine Rng.mk (by omega) ?_) | (refine Split.pos (by omega) ?_) | (refine Split.neg (by omega) ?_) | (refine Split.mk (fun h => ?_) (fun h => ?_)) | (refine Need.mk (by omega) ?_) | (refine Ints.ln (by assumption) ?_) | (refine Mat.ln (by assumption) ?_) | (refine Ints.ln (Mat.row (by assumption) _ (by omega)) ?_) | (refine Ints.ix (by assumption) (by omega) ?_) | (refine Mat.ix (by assumption) (by omega) ?_) | (refine Ints.ix (Mat.row (by assumption) _ (by omega)) (by omega) ?_) | (refine Ints.ix (c := 0) (by assumption) (by omega) ?_) | (refine Mat.ix (c := 0) (by assumption) (by omega) ?_) | (refine Ints.ix (c := 0) (Mat.row (by assumption) _ (by omega)) (by omega) ?_) | (refine Ints.ixI (by assumption) (by omega) ?_) | (refine Mat.ixI (by assumption) (by omega) ?_) | (refine Ints.ixI (Mat.row (by assumption) _ (by omega)) (by omega) ?_) | (refine Ints.ld (by assumption) (by omega) ?_) | (refine Mat.ld (by assumption) (by omega) ?_) | (refine Ints.ld (Mat.row (by assumption) _ (by omega)) (by omega) ?_) | (refine At.ld (by assumption) rfl ?_) | (refine At.ldN (by assumption) rfl ?_) | (refine Prs.ln (by assumption) ?_) | (refine Trs.ln (by assumption) ?_) | (refine Prs.ix (by assumption) (by omega) ?_) | (refine Trs.ix (by assumption) (by omega) ?_) | (refine Prs.ldN (by assumption) (by omega) ?_) | (refine Trs.ldN (by assumption) (by omega) ?_) | (refine At.ldN (Blk.at (by assumption)) rfl ?_) | (refine At.ld (Blk.at (by assumption)) rfl ?_) | (refine IxA.mk (by omega) ?_) | (refine Sl.ln (Own.sl (by assumption)) ?_) | (refine Ints.ix (Own.sl (by assumption)) (by omega) ?_) | (refine Ints.ixI (Own.sl (by assumption)) (by omega) ?_) | (refine Ints.ld (Own.sl (by assumption)) (by omega) ?_))
  conv => whnf
  refine VS.sparseR (ps := [(1, .int .i64 2)]) #[.slice none 0 0, .int .i64 2, .int .i64 0] Try.underlying42 eStep (by decide +kernel) (by intro p hp; simp only [List.mem_cons, List.not_mem_nil, or_false] at hp; rcases hp with rfl <;> first | exact ⟨by kernel_rfl, by simp, rfl⟩) rfl ?_
  conv => whnf
  refine VS.sparseR (ps := [(1, .int .i64 (-1))]) #[.slice none 0 0, .int .i64 (-1), .int .i64 0] Try.underlying42 eStep (by decide +kernel) (by intro p hp; simp only [List.mem_cons, List.not_mem_nil, or_false] at hp; rcases hp with rfl <;> first | exact ⟨by kernel_rfl, by simp, rfl⟩) rfl ?_
  conv => whnf
  refine VS.sparseR (ps := [(2, .int .i64 3)]) #[.slice none 0 0, .int .i64 0, .int .i64 3] Try.underlying42 eStep (by decide +kernel) (by intro p hp; simp only [List.mem_cons, List.not_mem_nil, or_false] at hp; rcases hp with rfl <;> first | exact ⟨by kernel_rfl, by simp, rfl⟩) rfl ?_
  conv => whnf
  refine VS.sparseR (ps := [(2, .int .i64 (-1))]) #[.slice none 0 0, .int .i64 0, .int .i64 (-1)] Try.underlying42 eStep (by decide +kernel) (by intro p hp; simp only [List.mem_cons, List.not_mem_nil, or_false] at hp; rcases hp with rfl <;> first | exact ⟨by kernel_rfl, by simp, rfl⟩) rfl ?_
  conv => whnf
  refine VE.litI [0] Try.underlying25 eInt (by first | decide | simp) fun d5 w77 E77 D5 _ => ?_
  replace D5 := D5 0 (Nat.zero_le _)
  replace EE := EE.ext E77
  replace H1 := H1.ext E77
  replace HG := HG.ext E77
  replace HX := HX.ext E77
  replace HS := HS.ext E77
  replace ER := ER.ext E77
  conv => whnf
  refine VS.sparseR (ps := [(0, d5), (1, .int .i64 (-1))]) #[d5, .int .i64 (-1), .int .i64 0] Try.underlying42 eStep (by decide +kernel) (by intro p hp; simp only [List.mem_cons, List.not_mem_nil, or_false] at hp; rcases hp with rfl | rfl <;> first | exact ⟨by kernel_rfl, by simp, rfl⟩ | exact ⟨by kernel_rfl, by simp, (Sl.cells (Own.sl D5)).1⟩) rfl ?_
  conv => whnf
  refine VE.litI [0, 1] Try.underlying25 eInt (by first | decide | simp) fun d6 w78 E78 D6 _ => ?_
  replace D6 := D6 0 (Nat.zero_le _)
  replace EE := EE.ext E78
  replace H1 := H1.ext E78
  replace HG := HG.ext E78
  replace HX := HX.ext E78
  replace HS := HS.ext E78
  replace ER := ER.ext E78
  replace D5 := D5.ext E78
  conv => whnf
  refine VS.sparseR (ps := [(0, d6), (2, .int .i64 (-1))]) #[d6, .int .i64 0, .int .i64 (-1)] Try.underlying42 eStep (by decide +kernel) (by intro p hp; simp only [List.mem_cons, List.not_mem_nil, or_false] at hp; rcases hp with rfl | rfl <;> first | exact ⟨by kernel_rfl, by simp, rfl⟩ | exact ⟨by kernel_rfl, by simp, (Sl.cells (Own.sl D6)).1⟩) rfl ?_
  conv => whnf
  refine VE.litI [0, 0] Try.underlying25 eInt (by first | decide | simp) fun d7 w79 E79 D7 _ => ?_
  replace D7 := D7 0 (Nat.zero_le _)
  replace EE := EE.ext E79
  replace H1 := H1.ext E79
  replace HG := HG.ext E79
  replace HX := HX.ext E79
  replace HS := HS.ext E79
  replace ER := ER.ext E79
  replace D5 := D5.ext E79
  replace D6 := D6.ext E79
  conv => whnf
  refine VS.sparseR (ps := [(0, d7), (1, .int .i64 (-1)), (2, .int .i64 (-1))]) #[d7, .int .i64 (-1), .int .i64 (-1)] Try.underlying42 eStep (by decide +kernel) (by intro p hp; simp only [List.mem_cons, List.not_mem_nil, or_false] at hp; rcases hp with rfl | rfl | rfl <;> first | exact ⟨by kernel_rfl, by simp, rfl⟩ | exact ⟨by kernel_rfl, by simp, (Sl.cells (Own.sl D7)).1⟩) rfl ?_
  conv => whnf
  refine VE.litI [0, 2] Try.underlying25 eInt (by first | decide | simp) fun d8 w80 E80 D8 _ => ?_
  replace D8 := D8 0 (Nat.zero_le _)
  replace EE := EE.ext E80
  replace H1 := H1.ext E80
  replace HG := HG.ext E80
  replace HX := HX.ext E80
  replace HS := HS.ext E80
  replace ER := ER.ext E80
  replace D5 := D5.ext E80
  replace D6 := D6.ext E80
  replace D7 := D7.ext E80
  conv => whnf
  refine VS.sparseR (ps := [(0, d8), (1, .int .i64 (-1)), (2, .int .i64 (-1))]) #[d8, .int .i64 (-1), .int .i64 (-1)] Try.underlying42 eStep (by decide +kernel) (by intro p hp; simp only [List.mem_cons, List.not_mem_nil, or_false] at hp; rcases hp with rfl | rfl | rfl <;> first | exact ⟨by kernel_rfl, by simp, rfl⟩ | exact ⟨by kernel_rfl, by simp, (Sl.cells (Own.sl D8)).1⟩) rfl ?_
  conv => whnf
  refine VE.litA [[.slice none 0 0, i64v 2, i64v 0], [.slice none 0 0, i64v (-1), i64v 0], [.slice none 0 0, i64v 0, i64v 3], [.slice none 0 0, i64v 0, i64v (-1)], [d5, i64v (-1), i64v 0], [d6, i64v 0, i64v (-1)], [d7, i64v (-1), i64v (-1)], [d8, i64v (-1), i64v (-1)]] Try.underlying34 eStep (by simp) (by simp) (by simp) fun bv w81 E81 HB _ => ?_
  replace EE := EE.ext E81
  replace H1 := H1.ext E81
  replace HG := HG.ext E81
  replace HX := HX.ext E81
  replace HS := HS.ext E81
  replace ER := ER.ext E81
  replace D5 := D5.ext E81
  replace D6 := D6.ext E81
  replace D7 := D7.ext E81
  replace D8 := D8.ext E81
  replace HB : Sps w81 bv [((.slice none 0 0 : Value), (2 : Int), (0 : Int)), ((.slice none 0 0 : Value), ((-1) : Int), (0 : Int)), ((.slice none 0 0 : Value), (0 : Int), (3 : Int)), ((.slice none 0 0 : Value), (0 : Int), ((-1) : Int)), ((d5 : Value), ((-1) : Int), (0 : Int)), ((d6 : Value), (0 : Int), ((-1) : Int)), ((d7 : Value), ((-1) : Int), ((-1) : Int)), ((d8 : Value), ((-1) : Int), ((-1) : Int))] [(([] : List Int), (2 : Int), (0 : Int)), (([] : List Int), ((-1) : Int), (0 : Int)), (([] : List Int), (0 : Int), (3 : Int)), (([] : List Int), (0 : Int), ((-1) : Int)), (([0] : List Int), ((-1) : Int), (0 : Int)), (([0, 1] : List Int), (0 : Int), ((-1) : Int)), (([0, 0] : List Int), ((-1) : Int), ((-1) : Int)), (([0, 2] : List Int), ((-1) : Int), ((-1) : Int))] := ⟨Own.sl (HB 0 (Nat.zero_le _)), ((((((((Rws.nil).snoc (nil_ints2)).snoc (nil_ints2)).snoc (nil_ints2)).snoc (nil_ints2)).snoc (Own.sl D5)).snoc (Own.sl D6)).snoc (Own.sl D7)).snoc (Own.sl D8)⟩
  replace HB : Sps w81 bv _ badS := HB
  have hbl : badS.length = 8 := rfl
  repeat' ((conv => whnf); first | (refine Dr.quiet tyOk (by kernel_rfl) ?_) | (refine Rng.mk (by omega) ?_) | (refine Split.pos (by omega) ?_) | (refine Split.neg (by omega) ?_) | (refine Split.mk (fun h => ?_) (fun h => ?_)) | (refine Need.mk (by omega) ?_) | (refine Ints.ln (by assumption) ?_) | (refine Mat.ln (by assumption) ?_) | (refine Ints.ln (Mat.row (by assumption) _ (by omega)) ?_) | (refine Ints.ix (by assumption) (by omega) ?_) | (refine Mat.ix (by assumption) (by omega) ?_) | (refine Ints.ix (Mat.row (by assumption) _ (by omega)) (by omega) ?_) | (refine Ints.ix (c := 0) (by assumption) (by omega) ?_) | (refine Mat.ix (c := 0) (by assumption) (by omega) ?_) | (refine Ints.ix (c := 0) (Mat.row (by assumption) _ (by omega)) (by omega) ?_) | (refine Ints.ixI (by assumption) (by omega) ?_) | (refine Mat.ixI (by assumption) (by omega) ?_) | (refine Ints.ixI (Mat.row (by assumption) _ (by omega)) (by omega) ?_) | (refine Ints.ld (by assumption) (by omega) ?_) | (refine Mat.ld (by assumption) (by omega) ?_) | (refine Ints.ld (Mat.row (by assumption) _ (by omega)) (by omega) ?_) | (refine At.ld (by assumption) rfl ?_) | (refine At.ldN (by assumption) rfl ?_) | (refine Prs.ln (by assumption) ?_) | (refine Trs.ln (by assumption) ?_) | (refine Prs.ix (by assumption) (by omega) ?_) | (refine Trs.ix (by assumption) (by omega) ?_) | (refine Prs.ldN (by assumption) (by omega) ?_) | (refine Trs.ldN (by assumption) (by omega) ?_) | (refine At.ldN (Blk.at (by assumption)) rfl ?_) | (refine At.ld (Blk.at (by assumption)) rfl ?_) | (refine IxA.mk (by omega) ?_) | (refine Sl.ln (Own.sl (by assumption)) ?_) | (refine Ints.ix (Own.sl (by assumption)) (by omega) ?_) | (refine Ints.ixI (Own.sl (by assumption)) (by omega) ?_) | (refine Ints.ld (Own.sl (by assumption)) (by omega) ?_))
  have EE__1 := EE
  have H1__1 := H1
  have HG__1 := HG
  have HX__1 := HX
  have HS__1 := HS
  have HB__1 := HB
  have hz1 := Nat.le_trans E1.size EE.size
  refine Lp.mk tyOk [true, false, false, false, false, false, false, false, false, false, false, false, false, false, false, false, false, false, false, false, false, false, false, true, true, true, false, false, false, false, false, false, false, false, false, false, false, false, false, false, false, false, false, false, false, false, false, false, false, false, false, false, false, false, false, false, false, false, false, false, false, false, false, false, false, false, false, false, false, false, false, false, false, false, false, false, false, false, false, false, false, false, false, false, false, false, false, false, false, false, false, false, false, false, false, false, false, false, false, false, false, false, true, true, true, true, true, true, true, true, true, true, true, true, true, true, true, true, true, true] (fun m fr wr => getK fr 23 fun i => ∃ c : Nat, c ≤ 8 ∧ m = 8 - c ∧ i = .int .i64 (c : Int) ∧ Ext w81 wr) (8) ?_ ?_
  · exact ⟨0, Nat.zero_le _, rfl, rfl, Ext.refl _⟩
  · intro m w82 u0 u23 u24 u25 u102 u103 u104 u105 u106 u107 u108 u109 u110 u111 u112 u113 u114 u115 u116 u117 u118 u119 hR
    obtain ⟨c, hc, rfl, rfl, EL1⟩ := hR
    replace EE := EE__1.ext EL1
    replace H1 := H1__1.ext EL1
    replace HG := HG__1.ext EL1
    replace HX := HX__1.ext EL1
    replace HS := HS__1.ext EL1
    replace HB := HB__1.ext EL1
    by_cases hcl : c < 8
    · have e1 := badS_rp c hcl
      repeat' ((conv => whnf); first | (refine Dr.plan 84 [2] (.e 0 (.e 1 (.e 2 (.q 3 (.q 4 (.q 5 (.q 6 (.q 7 .nil))))) .nil) .nil) (.e 1 (.e 0 (.e 2 (.q 3 (.q 4 (.q 5 (.q 6 (.q 7 .nil))))) .nil) .nil) .nil)) tyOk rfl (by kernel_rfl) ?_) | (refine Dr.plan 109 [6] (.q 1 (.q 2 (.q 3 (.q 4 (.q 5 (.e 0 (.e 6 (.q 7 (.q 8 (.q 9 (.q 10 (.q 11 .nil))))) .nil) .nil)))))) tyOk rfl (by kernel_rfl) ?_) | (refine Dr.quiet tyOk (by kernel_rfl) ?_) | (refine Sps.ln HB ?_) | (refine VS.cutLH (l := c) (h := c + 1) Try.underlying34 (by kernel_rfl) (by decide) HB.top (by omega) (by omega) ?_) | (refine Rng.mk (by omega) ?_) | (refine Split.pos (by omega) ?_) | (refine Split.neg (by omega) ?_) | (refine Split.mk (fun h => ?_) (fun h => ?_)) | (refine Need.mk (by omega) ?_) | (refine Ints.ln (by assumption) ?_) | (refine Mat.ln (by assumption) ?_) | (refine Ints.ln (Mat.row (by assumption) _ (by omega)) ?_) | (refine Ints.ix (by assumption) (by omega) ?_) | (refine Mat.ix (by assumption) (by omega) ?_) | (refine Ints.ix (Mat.row (by assumption) _ (by omega)) (by omega) ?_) | (refine Ints.ix (c := 0) (by assumption) (by omega) ?_) | (refine Mat.ix (c := 0) (by assumption) (by omega) ?_) | (refine Ints.ix (c := 0) (Mat.row (by assumption) _ (by omega)) (by omega) ?_) | (refine Ints.ixI (by assumption) (by omega) ?_) | (refine Mat.ixI (by assumption) (by omega) ?_) | (refine Ints.ixI (Mat.row (by assumption) _ (by omega)) (by omega) ?_) | (refine Ints.ld (by assumption) (by omega) ?_) | (refine Mat.ld (by assumption) (by omega) ?_) | (refine Ints.ld (Mat.row (by assumption) _ (by omega)) (by omega) ?_) | (refine At.ld (by assumption) rfl ?_) | (refine At.ldN (by assumption) rfl ?_) | (refine Prs.ln (by assumption) ?_) | (refine Trs.ln (by assumption) ?_) | (refine Prs.ix (by assumption) (by omega) ?_) | (refine Trs.ix (by assumption) (by omega) ?_) | (refine Prs.ldN (by assumption) (by omega) ?_) | (refine Trs.ldN (by assumption) (by omega) ?_) | (refine At.ldN (Blk.at (by assumption)) rfl ?_) | (refine At.ld (Blk.at (by assumption)) rfl ?_) | (refine IxA.mk (by omega) ?_) | (refine Sl.ln (Own.sl (by assumption)) ?_) | (refine Ints.ix (Own.sl (by assumption)) (by omega) ?_) | (refine Ints.ixI (Own.sl (by assumption)) (by omega) ?_) | (refine Ints.ld (Own.sl (by assumption)) (by omega) ?_))
      conv => whnf
      refine VCX.rc (given19_rc) ?_
      rintro _ w83 E83 ⟨g1, _, rfl, HG⟩
      replace EE := EE.ext E83
      replace H1 := H1.ext E83
      replace HX := HX.ext E83
      replace HS := HS.ext E83
      replace HB := HB.ext E83
      replace EL1 := EL1.ext E83
      conv => whnf
      conv => whnf
      refine VC.rc (replay_rc HG.mat (Sps.view HB (l := c) (h := c + 1) (by omega) (by omega))) ?_
      rintro _ w84 E84 ⟨av, rfl, hr3, hr4⟩
      replace EE := EE.ext E84
      replace H1 := H1.ext E84
      replace HX := HX.ext E84
      replace HS := HS.ext E84
      replace HB := HB.ext E84
      replace EL1 := EL1.ext E84
      replace HG := HG.ext E84
      rw [e1]
      repeat' ((conv => whnf); first | (refine Dr.quiet tyOk (by kernel_rfl) ?_) | (refine Rng.mk (by omega) ?_) | (refine Split.pos (by omega) ?_) | (refine Split.neg (by omega) ?_) | (refine Split.mk (fun h => ?_) (fun h => ?_)) | (refine Need.mk (by omega) ?_) | (refine Ints.ln (by assumption) ?_) | (refine Mat.ln (by assumption) ?_) | (refine Ints.ln (Mat.row (by assumption) _ (by omega)) ?_) | (refine Ints.ix (by assumption) (by omega) ?_) | (refine Mat.ix (by assumption) (by omega) ?_) | (refine Ints.ix (Mat.row (by assumption) _ (by omega)) (by omega) ?_) | (refine Ints.ix (c := 0) (by assumption) (by omega) ?_) | (refine Mat.ix (c := 0) (by assumption) (by omega) ?_) | (refine Ints.ix (c := 0) (Mat.row (by assumption) _ (by omega)) (by omega) ?_) | (refine Ints.ixI (by assumption) (by omega) ?_) | (refine Mat.ixI (by assumption) (by omega) ?_) | (refine Ints.ixI (Mat.row (by assumption) _ (by omega)) (by omega) ?_) | (refine Ints.ld (by assumption) (by omega) ?_) | (refine Mat.ld (by assumption) (by omega) ?_) | (refine Ints.ld (Mat.row (by assumption) _ (by omega)) (by omega) ?_) | (refine At.ld (by assumption) rfl ?_) | (refine At.ldN (by assumption) rfl ?_) | (refine Prs.ln (by assumption) ?_) | (refine Trs.ln (by assumption) ?_) | (refine Prs.ix (by assumption) (by omega) ?_) | (refine Trs.ix (by assumption) (by omega) ?_) | (refine Prs.ldN (by assumption) (by omega) ?_) | (refine Trs.ldN (by assumption) (by omega) ?_) | (refine At.ldN (Blk.at (by assumption)) rfl ?_) | (refine At.ld (Blk.at (by assumption)) rfl ?_) | (refine IxA.mk (by omega) ?_) | (refine Sl.ln (Own.sl (by assumption)) ?_) | (refine Ints.ix (Own.sl (by assumption)) (by omega) ?_) | (refine Ints.ixI (Own.sl (by assumption)) (by omega) ?_) | (refine Ints.ld (Own.sl (by assumption)) (by omega) ?_))
      refine ⟨_, (by omega : 8 - (c + 1) < 8 - c), rfl, c + 1, by omega, rfl, rfl, EL1⟩
    · obtain rfl : c = 8 := by omega
      repeat' ((conv => whnf); first | (refine Dr.quiet tyOk (by kernel_rfl) ?_) | (refine Sps.ln HB ?_) | (refine Rng.mk (by omega) ?_) | (refine Split.pos (by omega) ?_) | (refine Split.neg (by omega) ?_) | (refine Split.mk (fun h => ?_) (fun h => ?_)) | (refine Need.mk (by omega) ?_) | (refine Ints.ln (by assumption) ?_) | (refine Mat.ln (by assumption) ?_) | (refine Ints.ln (Mat.row (by assumption) _ (by omega)) ?_) | (refine Ints.ix (by assumption) (by omega) ?_) | (refine Mat.ix (by assumption) (by omega) ?_) | (refine Ints.ix (Mat.row (by assumption) _ (by omega)) (by omega) ?_) | (refine Ints.ix (c := 0) (by assumption) (by omega) ?_) | (refine Mat.ix (c := 0) (by assumption) (by omega) ?_) | (refine Ints.ix (c := 0) (Mat.row (by assumption) _ (by omega)) (by omega) ?_) | (refine Ints.ixI (by assumption) (by omega) ?_) | (refine Mat.ixI (by assumption) (by omega) ?_) | (refine Ints.ixI (Mat.row (by assumption) _ (by omega)) (by omega) ?_) | (refine Ints.ld (by assumption) (by omega) ?_) | (refine Mat.ld (by assumption) (by omega) ?_) | (refine Ints.ld (Mat.row (by assumption) _ (by omega)) (by omega) ?_) | (refine At.ld (by assumption) rfl ?_) | (refine At.ldN (by assumption) rfl ?_) | (refine Prs.ln (by assumption) ?_) | (refine Trs.ln (by assumption) ?_) | (refine Prs.ix (by assumption) (by omega) ?_) | (refine Trs.ix (by assumption) (by omega) ?_) | (refine Prs.ldN (by assumption) (by omega) ?_) | (refine Trs.ldN (by assumption) (by omega) ?_) | (refine At.ldN (Blk.at (by assumption)) rfl ?_) | (refine At.ld (Blk.at (by assumption)) rfl ?_) | (refine IxA.mk (by omega) ?_) | (refine Sl.ln (Own.sl (by assumption)) ?_) | (refine Ints.ix (Own.sl (by assumption)) (by omega) ?_) | (refine Ints.ixI (Own.sl (by assumption)) (by omega) ?_) | (refine Ints.ld (Own.sl (by assumption)) (by omega) ?_))
      conv => whnf
      refine VC.rc (given19_rc) ?_
      rintro _ w85 E85 ⟨g1, _, rfl, HG⟩
      replace EE := EE.ext E85
      replace H1 := H1.ext E85
      replace HX := HX.ext E85
      replace HS := HS.ext E85
      replace HB := HB.ext E85
      replace EL1 := EL1.ext E85
      conv => whnf
      refine VS.sparseR (ps := [(1, .int .i64 1), (2, .int .i64 0)]) #[.slice none 0 0, .int .i64 1, .int .i64 0] Try.underlying42 eStep (by decide +kernel) (by intro p hp; simp only [List.mem_cons, List.not_mem_nil, or_false] at hp; rcases hp with rfl | rfl <;> first | exact ⟨by kernel_rfl, by simp, rfl⟩) rfl ?_
      conv => whnf
      refine VS.sparseR (ps := [(1, .int .i64 0), (2, .int .i64 1)]) #[.slice none 0 0, .int .i64 0, .int .i64 1] Try.underlying42 eStep (by decide +kernel) (by intro p hp; simp only [List.mem_cons, List.not_mem_nil, or_false] at hp; rcases hp with rfl | rfl <;> first | exact ⟨by kernel_rfl, by simp, rfl⟩) rfl ?_
      conv => whnf
      refine VS.sparseR (ps := [(1, .int .i64 0), (2, .int .i64 1)]) #[.slice none 0 0, .int .i64 0, .int .i64 1] Try.underlying42 eStep (by decide +kernel) (by intro p hp; simp only [List.mem_cons, List.not_mem_nil, or_false] at hp; rcases hp with rfl | rfl <;> first | exact ⟨by kernel_rfl, by simp, rfl⟩) rfl ?_
      conv => whnf
      refine VE.litI [0, 1] Try.underlying25 eInt (by first | decide | simp) fun d5 w86 E86 D5 _ => ?_
      replace D5 := D5 0 (Nat.zero_le _)
      replace EE := EE.ext E86
      replace H1 := H1.ext E86
      replace HX := HX.ext E86
      replace HS := HS.ext E86
      replace HB := HB.ext E86
      replace EL1 := EL1.ext E86
      replace HG := HG.ext E86
      conv => whnf
      refine VS.sparseR (ps := [(0, d5), (1, .int .i64 (-1)), (2, .int .i64 (-1))]) #[d5, .int .i64 (-1), .int .i64 (-1)] Try.underlying42 eStep (by decide +kernel) (by intro p hp; simp only [List.mem_cons, List.not_mem_nil, or_false] at hp; rcases hp with rfl | rfl | rfl <;> first | exact ⟨by kernel_rfl, by simp, rfl⟩ | exact ⟨by kernel_rfl, by simp, (Sl.cells (Own.sl D5)).1⟩) rfl ?_
      conv => whnf
      refine VE.litA [[.slice none 0 0, i64v 1, i64v 0], [.slice none 0 0, i64v 0, i64v 1], [.slice none 0 0, i64v 0, i64v 1], [d5, i64v (-1), i64v (-1)]] Try.underlying34 eStep (by simp) (by simp) (by simp) fun bv2 w87 E87 HB2 _ => ?_
      replace EE := EE.ext E87
      replace H1 := H1.ext E87
      replace HX := HX.ext E87
      replace HS := HS.ext E87
      replace HB := HB.ext E87
      replace EL1 := EL1.ext E87
      replace HG := HG.ext E87
      replace D5 := D5.ext E87
      replace HB2 : Sps w87 bv2 [((.slice none 0 0 : Value), (1 : Int), (0 : Int)), ((.slice none 0 0 : Value), (0 : Int), (1 : Int)), ((.slice none 0 0 : Value), (0 : Int), (1 : Int)), ((d5 : Value), ((-1) : Int), ((-1) : Int))] [(([] : List Int), (1 : Int), (0 : Int)), (([] : List Int), (0 : Int), (1 : Int)), (([] : List Int), (0 : Int), (1 : Int)), (([0, 1] : List Int), ((-1) : Int), ((-1) : Int))] := ⟨Own.sl (HB2 0 (Nat.zero_le _)), ((((Rws.nil).snoc (nil_ints2)).snoc (nil_ints2)).snoc (nil_ints2)).snoc (Own.sl D5)⟩
      conv => whnf
      refine VC.rc (replay_rc HG.mat HB2) ?_
      rintro _ w88 E88 hr6
      replace EE := EE.ext E88
      replace H1 := H1.ext E88
      replace HX := HX.ext E88
      replace HS := HS.ext E88
      replace HB := HB.ext E88
      replace EL1 := EL1.ext E88
      replace HG := HG.ext E88
      replace D5 := D5.ext E88
      replace HB2 := HB2.ext E88
      obtain ⟨yv, rfl, HY⟩ := rpA_read hr6
      replace HY : Ints w88 yv (rpL gvn okS) := HY
      rw [okS_rp.2] at HY
      rw [show rpE gvn [([], 1, 0), ([], 0, 1), ([], 0, 1), ([0, 1], -1, -1)] = 0 from okS_rp.1]
      repeat' ((conv => whnf); first | (refine Dr.quiet tyOk (by kernel_rfl) ?_) | (refine Rng.mk (by omega) ?_) | (refine Split.pos (by omega) ?_) | (refine Split.neg (by omega) ?_) | (refine Split.mk (fun h => ?_) (fun h => ?_)) | (refine Need.mk (by omega) ?_) | (refine Ints.ln (by assumption) ?_) | (refine Mat.ln (by assumption) ?_) | (refine Ints.ln (Mat.row (by assumption) _ (by omega)) ?_) | (refine Ints.ix (by assumption) (by omega) ?_) | (refine Mat.ix (by assumption) (by omega) ?_) | (refine Ints.ix (Mat.row (by assumption) _ (by omega)) (by omega) ?_) | (refine Ints.ix (c := 0) (by assumption) (by omega) ?_) | (refine Mat.ix (c := 0) (by assumption) (by omega) ?_) | (refine Ints.ix (c := 0) (Mat.row (by assumption) _ (by omega)) (by omega) ?_) | (refine Ints.ixI (by assumption) (by omega) ?_) | (refine Mat.ixI (by assumption) (by omega) ?_) | (refine Ints.ixI (Mat.row (by assumption) _ (by omega)) (by omega) ?_) | (refine Ints.ld (by assumption) (by omega) ?_) | (refine Mat.ld (by assumption) (by omega) ?_) | (refine Ints.ld (Mat.row (by assumption) _ (by omega)) (by omega) ?_) | (refine At.ld (by assumption) rfl ?_) | (refine At.ldN (by assumption) rfl ?_) | (refine Prs.ln (by assumption) ?_) | (refine Trs.ln (by assumption) ?_) | (refine Prs.ix (by assumption) (by omega) ?_) | (refine Trs.ix (by assumption) (by omega) ?_) | (refine Prs.ldN (by assumption) (by omega) ?_) | (refine Trs.ldN (by assumption) (by omega) ?_) | (refine At.ldN (Blk.at (by assumption)) rfl ?_) | (refine At.ld (Blk.at (by assumption)) rfl ?_) | (refine IxA.mk (by omega) ?_) | (refine Sl.ln (Own.sl (by assumption)) ?_) | (refine Ints.ix (Own.sl (by assumption)) (by omega) ?_) | (refine Ints.ixI (Own.sl (by assumption)) (by omega) ?_) | (refine Ints.ld (Own.sl (by assumption)) (by omega) ?_))
      conv => whnf
      refine VE.litI [0, 1, 0] Try.underlying25 eInt (by decide) fun tv_0 w89 E89 HT_0 _ => ?_
      replace HT_0 := HT_0 0 (Nat.zero_le _)
      replace EE := EE.ext E89
      replace H1 := H1.ext E89
      replace HX := HX.ext E89
      replace HS := HS.ext E89
      replace EL1 := EL1.ext E89
      replace HG := HG.ext E89
      replace HY := HY.ext E89
      conv => whnf
      refine VE.litI [0, 0, 1] Try.underlying25 eInt (by decide) fun tv_1 w90 E90 HT_1 _ => ?_
      replace HT_1 := HT_1 0 (Nat.zero_le _)
      replace EE := EE.ext E90
      replace H1 := H1.ext E90
      replace HX := HX.ext E90
      replace HS := HS.ext E90
      replace EL1 := EL1.ext E90
      replace HG := HG.ext E90
      replace HY := HY.ext E90
      replace HT_0 := HT_0.ext E90
      conv => whnf
      refine VE.litI [1, 0, 0] Try.underlying25 eInt (by decide) fun tv_2 w91 E91 HT_2 _ => ?_
      replace HT_2 := HT_2 0 (Nat.zero_le _)
      replace EE := EE.ext E91
      replace H1 := H1.ext E91
      replace HX := HX.ext E91
      replace HS := HS.ext E91
      replace EL1 := EL1.ext E91
      replace HG := HG.ext E91
      replace HY := HY.ext E91
      replace HT_0 := HT_0.ext E91
      replace HT_1 := HT_1.ext E91
      conv => whnf
      refine VE.litV [tv_0, tv_1, tv_2] Try.underlying22 eRow (by intro v hv; simp at hv; rcases hv with rfl | rfl | rfl <;> first | exact (Sl.cells (Own.sl HT_0)).1 | exact (Sl.cells (Own.sl HT_1)).1 | exact (Sl.cells (Own.sl HT_2)).1) (by simp) fun tv w92 E92 HT _ => ?_
      replace EE := EE.ext E92
      replace H1 := H1.ext E92
      replace HX := HX.ext E92
      replace HS := HS.ext E92
      replace EL1 := EL1.ext E92
      replace HG := HG.ext E92
      replace HY := HY.ext E92
      replace HT_0 := HT_0.ext E92
      replace HT_1 := HT_1.ext E92
      replace HT_2 := HT_2.ext E92
      replace HT : OM 0 w92 tv [tv_0, tv_1, tv_2] [[0, 1, 0], [0, 0, 1], [1, 0, 0]] := by
        refine ⟨HT _ (Nat.zero_le _), fun i hi => ?_⟩
        match i, hi with
        | 0, _ => exact HT_0
        | 1, _ => exact HT_1
        | 2, _ => exact HT_2
      conv => whnf
      refine VS.field1 Try.underlying24 eGoods (by kernel_rfl) rfl (Sl.cells (Own.sl HT.top)).1 ?_
      have EE__2 := EE
      have H1__2 := H1
      have HX__2 := HX
      have HS__2 := HS
      have EL1__2 := EL1
      have HG__2 := HG
      have HY__2 := HY
      have HT__2 := HT
      conv => whnf
      refine VE.alloc eGoods fun tb w93 E93 hb_tb HTb => ?_
      replace EE := EE.ext E93
      replace H1 := H1.ext E93
      replace HX := HX.ext E93
      replace HS := HS.ext E93
      replace EL1 := EL1.ext E93
      replace HG := HG.ext E93
      replace HY := HY.ext E93
      replace HT := HT.ext E93
      have EL2 := E93
      conv => whnf
      refine Blk.all HTb (by kernel_rfl) (by decide) rfl rfl (by intro v hv; simp at hv; subst hv; exact (Sl.cells (Own.sl HT.top)).2) fun w94 G94 HTb' => ?_
      have E94 : Ext w92 w94 := EL2.new G94 fun i hi hk => by omega
      replace HTb := HTb'.at
      replace EE := EE__2.ext E94
      replace H1 := H1__2.ext E94
      replace HX := HX__2.ext E94
      replace HS := HS__2.ext E94
      replace EL1 := EL1__2.ext E94
      replace HG := HG__2.ext E94
      replace HY := HY__2.ext E94
      replace HT := HT__2.ext E94
      replace EL2 := E94
      repeat' ((conv => whnf); first | (refine Dr.quiet tyOk (by kernel_rfl) ?_) | (refine Rng.mk (by omega) ?_) | (refine Split.pos (by omega) ?_) | (refine Split.neg (by omega) ?_) | (refine Split.mk (fun h => ?_) (fun h => ?_)) | (refine Need.mk (by omega) ?_) | (refine Ints.ln (by assumption) ?_) | (refine Mat.ln (by assumption) ?_) | (refine Ints.ln (Mat.row (by assumption) _ (by omega)) ?_) | (refine Ints.ix (by assumption) (by omega) ?_) | (refine Mat.ix (by assumption) (by omega) ?_) | (refine Ints.ix (Mat.row (by assumption) _ (by omega)) (by omega) ?_) | (refine Ints.ix (c := 0) (by assumption) (by omega) ?_) | (refine Mat.ix (c := 0) (by assumption) (by omega) ?_) | (refine Ints.ix (c := 0) (Mat.row (by assumption) _ (by omega)) (by omega) ?_) | (refine Ints.ixI (by assumption) (by omega) ?_) | (refine Mat.ixI (by assumption) (by omega) ?_) | (refine Ints.ixI (Mat.row (by assumption) _ (by omega)) (by omega) ?_) | (refine Ints.ld (by assumption) (by omega) ?_) | (refine Mat.ld (by assumption) (by omega) ?_) | (refine Ints.ld (Mat.row (by assumption) _ (by omega)) (by omega) ?_) | (refine At.ld (by assumption) rfl ?_) | (refine At.ldN (by assumption) rfl ?_) | (refine Prs.ln (by assumption) ?_) | (refine Trs.ln (by assumption) ?_) | (refine Prs.ix (by assumption) (by omega) ?_) | (refine Trs.ix (by assumption) (by omega) ?_) | (refine Prs.ldN (by assumption) (by omega) ?_) | (refine Trs.ldN (by assumption) (by omega) ?_) | (refine At.ldN (Blk.at (by assumption)) rfl ?_) | (refine At.ld (Blk.at (by assumption)) rfl ?_) | (refine IxA.mk (by omega) ?_) | (refine Sl.ln (Own.sl (by assumption)) ?_) | (refine Ints.ix (Own.sl (by assumption)) (by omega) ?_) | (refine Ints.ixI (Own.sl (by assumption)) (by omega) ?_) | (refine Ints.ld (Own.sl (by assumption)) (by omega) ?_))
      conv => whnf
      refine VE.litI [0, 1, 2] Try.underlying25 eInt (by first | decide | simp) fun l1 w95 E95 H1 _ => ?_
      replace H1 := H1 0 (Nat.zero_le _)
      replace EE := EE.ext E95
      replace HX := HX.ext E95
      replace HS := HS.ext E95
      replace EL1 := EL1.ext E95
      replace HG := HG.ext E95
      replace HY := HY.ext E95
      replace HT := HT.ext E95
      replace EL2 := EL2.ext E95
      replace HTb := HTb.ext E95
      conv => whnf
      refine VC.rc (Circle_rc HT.mat (Own.sl H1)) ?_
      rintro _ w96 E96 ⟨zv, rfl, hc1, hc2⟩
      replace EE := EE.ext E96
      replace HX := HX.ext E96
      replace HS := HS.ext E96
      replace EL1 := EL1.ext E96
      replace HG := HG.ext E96
      replace HY := HY.ext E96
      replace HT := HT.ext E96
      replace EL2 := EL2.ext E96
      replace HTb := HTb.ext E96
      replace H1 := H1.ext E96
      have HZ := cir_is (rr := gthree) hc1 vd3 three_circ
      rw [show vld [[0, 1, 0], [0, 0, 1], [1, 0, 0]] [0, 1, 2] = 0 from vd3]
      repeat' ((conv => whnf); first | (refine Dr.quiet tyOk (by kernel_rfl) ?_) | (refine Rng.mk (by omega) ?_) | (refine Split.pos (by omega) ?_) | (refine Split.neg (by omega) ?_) | (refine Split.mk (fun h => ?_) (fun h => ?_)) | (refine Need.mk (by omega) ?_) | (refine Ints.ln (by assumption) ?_) | (refine Mat.ln (by assumption) ?_) | (refine Ints.ln (Mat.row (by assumption) _ (by omega)) ?_) | (refine Ints.ix (by assumption) (by omega) ?_) | (refine Mat.ix (by assumption) (by omega) ?_) | (refine Ints.ix (Mat.row (by assumption) _ (by omega)) (by omega) ?_) | (refine Ints.ix (c := 0) (by assumption) (by omega) ?_) | (refine Mat.ix (c := 0) (by assumption) (by omega) ?_) | (refine Ints.ix (c := 0) (Mat.row (by assumption) _ (by omega)) (by omega) ?_) | (refine Ints.ixI (by assumption) (by omega) ?_) | (refine Mat.ixI (by assumption) (by omega) ?_) | (refine Ints.ixI (Mat.row (by assumption) _ (by omega)) (by omega) ?_) | (refine Ints.ld (by assumption) (by omega) ?_) | (refine Mat.ld (by assumption) (by omega) ?_) | (refine Ints.ld (Mat.row (by assumption) _ (by omega)) (by omega) ?_) | (refine At.ld (by assumption) rfl ?_) | (refine At.ldN (by assumption) rfl ?_) | (refine Prs.ln (by assumption) ?_) | (refine Trs.ln (by assumption) ?_) | (refine Prs.ix (by assumption) (by omega) ?_) | (refine Trs.ix (by assumption) (by omega) ?_) | (refine Prs.ldN (by assumption) (by omega) ?_) | (refine Trs.ldN (by assumption) (by omega) ?_) | (refine At.ldN (Blk.at (by assumption)) rfl ?_) | (refine At.ld (Blk.at (by assumption)) rfl ?_) | (refine IxA.mk (by omega) ?_) | (refine Sl.ln (Own.sl (by assumption)) ?_) | (refine Ints.ix (Own.sl (by assumption)) (by omega) ?_) | (refine Ints.ixI (Own.sl (by assumption)) (by omega) ?_) | (refine Ints.ld (Own.sl (by assumption)) (by omega) ?_))
      conv => whnf
      refine VE.litI [0, 1, 2] Try.underlying25 eInt (by first | decide | simp) fun l2 w97 E97 H2 _ => ?_
      replace H2 := H2 0 (Nat.zero_le _)
      replace EE := EE.ext E97
      replace HX := HX.ext E97
      replace HS := HS.ext E97
      replace EL1 := EL1.ext E97
      replace HG := HG.ext E97
      replace HY := HY.ext E97
      replace HT := HT.ext E97
      replace EL2 := EL2.ext E97
      replace HTb := HTb.ext E97
      replace H1 := H1.ext E97
      replace HZ := HZ.ext E97
      conv => whnf
      refine VC.rc (Undo_rc HT.mat (Own.sl H2)) ?_
      rintro _ w98 E98 ⟨uv, rfl, hu1, hu2⟩
      replace EE := EE.ext E98
      replace HX := HX.ext E98
      replace HS := HS.ext E98
      replace EL1 := EL1.ext E98
      replace HG := HG.ext E98
      replace HY := HY.ext E98
      replace HT := HT.ext E98
      replace EL2 := EL2.ext E98
      replace HTb := HTb.ext E98
      replace H1 := H1.ext E98
      replace HZ := HZ.ext E98
      replace H2 := H2.ext E98
      have HU : Ints w98 uv [2, 0, 1] := by
        obtain ⟨b, h1, h2⟩ := hu1 vd3
        rw [h1.one three_und] at h2
        exact Own.sl h2
      rw [show vld [[0, 1, 0], [0, 0, 1], [1, 0, 0]] [0, 1, 2] = 0 from vd3]
      repeat' ((conv => whnf); first | (refine Dr.quiet tyOk (by kernel_rfl) ?_) | (refine Rng.mk (by omega) ?_) | (refine Split.pos (by omega) ?_) | (refine Split.neg (by omega) ?_) | (refine Split.mk (fun h => ?_) (fun h => ?_)) | (refine Need.mk (by omega) ?_) | (refine Ints.ln (by assumption) ?_) | (refine Mat.ln (by assumption) ?_) | (refine Ints.ln (Mat.row (by assumption) _ (by omega)) ?_) | (refine Ints.ix (by assumption) (by omega) ?_) | (refine Mat.ix (by assumption) (by omega) ?_) | (refine Ints.ix (Mat.row (by assumption) _ (by omega)) (by omega) ?_) | (refine Ints.ix (c := 0) (by assumption) (by omega) ?_) | (refine Mat.ix (c := 0) (by assumption) (by omega) ?_) | (refine Ints.ix (c := 0) (Mat.row (by assumption) _ (by omega)) (by omega) ?_) | (refine Ints.ixI (by assumption) (by omega) ?_) | (refine Mat.ixI (by assumption) (by omega) ?_) | (refine Ints.ixI (Mat.row (by assumption) _ (by omega)) (by omega) ?_) | (refine Ints.ld (by assumption) (by omega) ?_) | (refine Mat.ld (by assumption) (by omega) ?_) | (refine Ints.ld (Mat.row (by assumption) _ (by omega)) (by omega) ?_) | (refine At.ld (by assumption) rfl ?_) | (refine At.ldN (by assumption) rfl ?_) | (refine Prs.ln (by assumption) ?_) | (refine Trs.ln (by assumption) ?_) | (refine Prs.ix (by assumption) (by omega) ?_) | (refine Trs.ix (by assumption) (by omega) ?_) | (refine Prs.ldN (by assumption) (by omega) ?_) | (refine Trs.ldN (by assumption) (by omega) ?_) | (refine At.ldN (Blk.at (by assumption)) rfl ?_) | (refine At.ld (Blk.at (by assumption)) rfl ?_) | (refine IxA.mk (by omega) ?_) | (refine Sl.ln (Own.sl (by assumption)) ?_) | (refine Ints.ix (Own.sl (by assumption)) (by omega) ?_) | (refine Ints.ixI (Own.sl (by assumption)) (by omega) ?_) | (refine Ints.ld (Own.sl (by assumption)) (by omega) ?_))
      conv => whnf
      refine VE.litI [0, 1, 0, 0] Try.underlying25 eInt (by decide) fun fv_0 w99 E99 HF_0 _ => ?_
      replace HF_0 := HF_0 0 (Nat.zero_le _)
      replace EE := EE.ext E99
      replace HX := HX.ext E99
      replace HS := HS.ext E99
      replace EL1 := EL1.ext E99
      replace HG := HG.ext E99
      replace HY := HY.ext E99
      replace HT := HT.ext E99
      replace EL2 := EL2.ext E99
      replace HTb := HTb.ext E99
      replace H1 := H1.ext E99
      replace HZ := HZ.ext E99
      replace H2 := H2.ext E99
      replace HU := HU.ext E99
      conv => whnf
      refine VE.litI [0, 0, 1, 0] Try.underlying25 eInt (by decide) fun fv_1 w100 E100 HF_1 _ => ?_
      replace HF_1 := HF_1 0 (Nat.zero_le _)
      replace EE := EE.ext E100
      replace HX := HX.ext E100
      replace HS := HS.ext E100
      replace EL1 := EL1.ext E100
      replace HG := HG.ext E100
      replace HY := HY.ext E100
      replace HT := HT.ext E100
      replace EL2 := EL2.ext E100
      replace HTb := HTb.ext E100
      replace H1 := H1.ext E100
      replace HZ := HZ.ext E100
      replace H2 := H2.ext E100
      replace HU := HU.ext E100
      replace HF_0 := HF_0.ext E100
      conv => whnf
      refine VE.litI [0, 0, 0, 1] Try.underlying25 eInt (by decide) fun fv_2 w101 E101 HF_2 _ => ?_
      replace HF_2 := HF_2 0 (Nat.zero_le _)
      replace EE := EE.ext E101
      replace HX := HX.ext E101
      replace HS := HS.ext E101
      replace EL1 := EL1.ext E101
      replace HG := HG.ext E101
      replace HY := HY.ext E101
      replace HT := HT.ext E101
      replace EL2 := EL2.ext E101
      replace HTb := HTb.ext E101
      replace H1 := H1.ext E101
      replace HZ := HZ.ext E101
      replace H2 := H2.ext E101
      replace HU := HU.ext E101
      replace HF_0 := HF_0.ext E101
      replace HF_1 := HF_1.ext E101
      conv => whnf
      refine VE.litI [1, 0, 1, 0] Try.underlying25 eInt (by decide) fun fv_3 w102 E102 HF_3 _ => ?_
      replace HF_3 := HF_3 0 (Nat.zero_le _)
      replace EE := EE.ext E102
      replace HX := HX.ext E102
      replace HS := HS.ext E102
      replace EL1 := EL1.ext E102
      replace HG := HG.ext E102
      replace HY := HY.ext E102
      replace HT := HT.ext E102
      replace EL2 := EL2.ext E102
      replace HTb := HTb.ext E102
      replace H1 := H1.ext E102
      replace HZ := HZ.ext E102
      replace H2 := H2.ext E102
      replace HU := HU.ext E102
      replace HF_0 := HF_0.ext E102
      replace HF_1 := HF_1.ext E102
      replace HF_2 := HF_2.ext E102
      conv => whnf
      refine VE.litV [fv_0, fv_1, fv_2, fv_3] Try.underlying22 eRow (by intro v hv; simp at hv; rcases hv with rfl | rfl | rfl | rfl <;> first | exact (Sl.cells (Own.sl HF_0)).1 | exact (Sl.cells (Own.sl HF_1)).1 | exact (Sl.cells (Own.sl HF_2)).1 | exact (Sl.cells (Own.sl HF_3)).1) (by simp) fun fv w103 E103 HF _ => ?_
      replace EE := EE.ext E103
      replace HX := HX.ext E103
      replace HS := HS.ext E103
      replace EL1 := EL1.ext E103
      replace HG := HG.ext E103
      replace HY := HY.ext E103
      replace HT := HT.ext E103
      replace EL2 := EL2.ext E103
      replace HTb := HTb.ext E103
      replace H1 := H1.ext E103
      replace HZ := HZ.ext E103
      replace H2 := H2.ext E103
      replace HU := HU.ext E103
      replace HF_0 := HF_0.ext E103
      replace HF_1 := HF_1.ext E103
      replace HF_2 := HF_2.ext E103
      replace HF_3 := HF_3.ext E103
      replace HF : OM 0 w103 fv [fv_0, fv_1, fv_2, fv_3] [[0, 1, 0, 0], [0, 0, 1, 0], [0, 0, 0, 1], [1, 0, 1, 0]] := by
        refine ⟨HF _ (Nat.zero_le _), fun i hi => ?_⟩
        match i, hi with
        | 0, _ => exact HF_0
        | 1, _ => exact HF_1
        | 2, _ => exact HF_2
        | 3, _ => exact HF_3
      conv => whnf
      refine VS.field1 Try.underlying24 eGoods (by kernel_rfl) rfl (Sl.cells (Own.sl HF.top)).1 ?_
      have EE__3 := EE
      have HX__3 := HX
      have HS__3 := HS
      have EL1__3 := EL1
      have HG__3 := HG
      have HY__3 := HY
      have HT__3 := HT
      have EL2__3 := EL2
      have HTb__3 := HTb
      have H1__3 := H1
      have HZ__3 := HZ
      have H2__3 := H2
      have HU__3 := HU
      have HF__3 := HF
      conv => whnf
      refine VE.alloc eGoods fun fb w104 E104 hb_fb HFb => ?_
      replace EE := EE.ext E104
      replace HX := HX.ext E104
      replace HS := HS.ext E104
      replace EL1 := EL1.ext E104
      replace HG := HG.ext E104
      replace HY := HY.ext E104
      replace HT := HT.ext E104
      replace EL2 := EL2.ext E104
      replace HTb := HTb.ext E104
      replace H1 := H1.ext E104
      replace HZ := HZ.ext E104
      replace H2 := H2.ext E104
      replace HU := HU.ext E104
      replace HF := HF.ext E104
      have EL3 := E104
      conv => whnf
      refine Blk.all HFb (by kernel_rfl) (by decide) rfl rfl (by intro v hv; simp at hv; subst hv; exact (Sl.cells (Own.sl HF.top)).2) fun w105 G105 HFb' => ?_
      have E105 : Ext w103 w105 := EL3.new G105 fun i hi hk => by omega
      replace HFb := HFb'.at
      replace EE := EE__3.ext E105
      replace HX := HX__3.ext E105
      replace HS := HS__3.ext E105
      replace EL1 := EL1__3.ext E105
      replace HG := HG__3.ext E105
      replace HY := HY__3.ext E105
      replace HT := HT__3.ext E105
      replace EL2 := EL2__3.ext E105
      replace HTb := HTb__3.ext E105
      replace H1 := H1__3.ext E105
      replace HZ := HZ__3.ext E105
      replace H2 := H2__3.ext E105
      replace HU := HU__3.ext E105
      replace HF := HF__3.ext E105
      replace EL3 := E105
      repeat' ((conv => whnf); first | (refine Dr.quiet tyOk (by kernel_rfl) ?_) | (refine Rng.mk (by omega) ?_) | (refine Split.pos (by omega) ?_) | (refine Split.neg (by omega) ?_) | (refine Split.mk (fun h => ?_) (fun h => ?_)) | (refine Need.mk (by omega) ?_) | (refine Ints.ln (by assumption) ?_) | (refine Mat.ln (by assumption) ?_) | (refine Ints.ln (Mat.row (by assumption) _ (by omega)) ?_) | (refine Ints.ix (by assumption) (by omega) ?_) | (refine Mat.ix (by assumption) (by omega) ?_) | (refine Ints.ix (Mat.row (by assumption) _ (by omega)) (by omega) ?_) | (refine Ints.ix (c := 0) (by assumption) (by omega) ?_) | (refine Mat.ix (c := 0) (by assumption) (by omega) ?_) | (refine Ints.ix (c := 0) (Mat.row (by assumption) _ (by omega)) (by omega) ?_) | (refine Ints.ixI (by assumption) (by omega) ?_) | (refine Mat.ixI (by assumption) (by omega) ?_) | (refine Ints.ixI (Mat.row (by assumption) _ (by omega)) (by omega) ?_) | (refine Ints.ld (by assumption) (by omega) ?_) | (refine Mat.ld (by assumption) (by omega) ?_) | (refine Ints.ld (Mat.row (by assumption) _ (by omega)) (by omega) ?_) | (refine At.ld (by assumption) rfl ?_) | (refine At.ldN (by assumption) rfl ?_) | (refine Prs.ln (by assumption) ?_) | (refine Trs.ln (by assumption) ?_) | (refine Prs.ix (by assumption) (by omega) ?_) | (refine Trs.ix (by assumption) (by omega) ?_) | (refine Prs.ldN (by assumption) (by omega) ?_) | (refine Trs.ldN (by assumption) (by omega) ?_) | (refine At.ldN (Blk.at (by assumption)) rfl ?_) | (refine At.ld (Blk.at (by assumption)) rfl ?_) | (refine IxA.mk (by omega) ?_) | (refine Sl.ln (Own.sl (by assumption)) ?_) | (refine Ints.ix (Own.sl (by assumption)) (by omega) ?_) | (refine Ints.ixI (Own.sl (by assumption)) (by omega) ?_) | (refine Ints.ld (Own.sl (by assumption)) (by omega) ?_))
      conv => whnf
      refine VE.litI [0, 1, 2, 3] Try.underlying25 eInt (by first | decide | simp) fun l3 w106 E106 H3 _ => ?_
      replace H3 := H3 0 (Nat.zero_le _)
      replace EE := EE.ext E106
      replace HX := HX.ext E106
      replace HS := HS.ext E106
      replace EL1 := EL1.ext E106
      replace HG := HG.ext E106
      replace HY := HY.ext E106
      replace HT := HT.ext E106
      replace EL2 := EL2.ext E106
      replace HTb := HTb.ext E106
      replace H1 := H1.ext E106
      replace HZ := HZ.ext E106
      replace H2 := H2.ext E106
      replace HU := HU.ext E106
      replace HF := HF.ext E106
      replace EL3 := EL3.ext E106
      replace HFb := HFb.ext E106
      conv => whnf
      refine VC.rc (Circle_rc HF.mat (Own.sl H3)) ?_
      rintro _ w107 E107 ⟨vv, rfl, hc5, hc6⟩
      replace EE := EE.ext E107
      replace HX := HX.ext E107
      replace HS := HS.ext E107
      replace EL1 := EL1.ext E107
      replace HG := HG.ext E107
      replace HY := HY.ext E107
      replace HT := HT.ext E107
      replace EL2 := EL2.ext E107
      replace HTb := HTb.ext E107
      replace H1 := H1.ext E107
      replace HZ := HZ.ext E107
      replace H2 := H2.ext E107
      replace HU := HU.ext E107
      replace HF := HF.ext E107
      replace EL3 := EL3.ext E107
      replace HFb := HFb.ext E107
      replace H3 := H3.ext E107
      have HV := cir_is (rr := gfour) hc5 vd4 four_circ
      rw [show vld [[0, 1, 0, 0], [0, 0, 1, 0], [0, 0, 0, 1], [1, 0, 1, 0]] [0, 1, 2, 3] = 0 from vd4]
      repeat' ((conv => whnf); first | (refine Dr.quiet tyOk (by kernel_rfl) ?_) | (refine Rng.mk (by omega) ?_) | (refine Split.pos (by omega) ?_) | (refine Split.neg (by omega) ?_) | (refine Split.mk (fun h => ?_) (fun h => ?_)) | (refine Need.mk (by omega) ?_) | (refine Ints.ln (by assumption) ?_) | (refine Mat.ln (by assumption) ?_) | (refine Ints.ln (Mat.row (by assumption) _ (by omega)) ?_) | (refine Ints.ix (by assumption) (by omega) ?_) | (refine Mat.ix (by assumption) (by omega) ?_) | (refine Ints.ix (Mat.row (by assumption) _ (by omega)) (by omega) ?_) | (refine Ints.ix (c := 0) (by assumption) (by omega) ?_) | (refine Mat.ix (c := 0) (by assumption) (by omega) ?_) | (refine Ints.ix (c := 0) (Mat.row (by assumption) _ (by omega)) (by omega) ?_) | (refine Ints.ixI (by assumption) (by omega) ?_) | (refine Mat.ixI (by assumption) (by omega) ?_) | (refine Ints.ixI (Mat.row (by assumption) _ (by omega)) (by omega) ?_) | (refine Ints.ld (by assumption) (by omega) ?_) | (refine Mat.ld (by assumption) (by omega) ?_) | (refine Ints.ld (Mat.row (by assumption) _ (by omega)) (by omega) ?_) | (refine At.ld (by assumption) rfl ?_) | (refine At.ldN (by assumption) rfl ?_) | (refine Prs.ln (by assumption) ?_) | (refine Trs.ln (by assumption) ?_) | (refine Prs.ix (by assumption) (by omega) ?_) | (refine Trs.ix (by assumption) (by omega) ?_) | (refine Prs.ldN (by assumption) (by omega) ?_) | (refine Trs.ldN (by assumption) (by omega) ?_) | (refine At.ldN (Blk.at (by assumption)) rfl ?_) | (refine At.ld (Blk.at (by assumption)) rfl ?_) | (refine IxA.mk (by omega) ?_) | (refine Sl.ln (Own.sl (by assumption)) ?_) | (refine Ints.ix (Own.sl (by assumption)) (by omega) ?_) | (refine Ints.ixI (Own.sl (by assumption)) (by omega) ?_) | (refine Ints.ld (Own.sl (by assumption)) (by omega) ?_))
      conv => whnf
      refine VE.litI [1] Try.underlying25 eInt (by decide) fun ov_0 w108 E108 HO_0 _ => ?_
      replace HO_0 := HO_0 0 (Nat.zero_le _)
      replace EE := EE.ext E108
      replace HX := HX.ext E108
      replace HS := HS.ext E108
      replace EL1 := EL1.ext E108
      replace HG := HG.ext E108
      replace HY := HY.ext E108
      replace HT := HT.ext E108
      replace EL2 := EL2.ext E108
      replace HTb := HTb.ext E108
      replace H1 := H1.ext E108
      replace HZ := HZ.ext E108
      replace H2 := H2.ext E108
      replace HU := HU.ext E108
      replace HF := HF.ext E108
      replace EL3 := EL3.ext E108
      replace HFb := HFb.ext E108
      replace H3 := H3.ext E108
      replace HV := HV.ext E108
      conv => whnf
      refine VE.litV [ov_0] Try.underlying22 eRow (by intro v hv; simp at hv; rcases hv with rfl <;> first | exact (Sl.cells (Own.sl HO_0)).1) (by simp) fun ov w109 E109 HO _ => ?_
      replace EE := EE.ext E109
      replace HX := HX.ext E109
      replace HS := HS.ext E109
      replace EL1 := EL1.ext E109
      replace HG := HG.ext E109
      replace HY := HY.ext E109
      replace HT := HT.ext E109
      replace EL2 := EL2.ext E109
      replace HTb := HTb.ext E109
      replace H1 := H1.ext E109
      replace HZ := HZ.ext E109
      replace H2 := H2.ext E109
      replace HU := HU.ext E109
      replace HF := HF.ext E109
      replace EL3 := EL3.ext E109
      replace HFb := HFb.ext E109
      replace H3 := H3.ext E109
      replace HV := HV.ext E109
      replace HO_0 := HO_0.ext E109
      replace HO : OM 0 w109 ov [ov_0] [[1]] := by
        refine ⟨HO _ (Nat.zero_le _), fun i hi => ?_⟩
        match i, hi with
        | 0, _ => exact HO_0
      conv => whnf
      refine VS.field1 Try.underlying24 eGoods (by kernel_rfl) rfl (Sl.cells (Own.sl HO.top)).1 ?_
      conv => whnf
      refine VE.litI [-1] Try.underlying25 eInt (by first | decide | simp) fun l4 w110 E110 H4 _ => ?_
      replace H4 := H4 0 (Nat.zero_le _)
      replace EE := EE.ext E110
      replace HX := HX.ext E110
      replace HS := HS.ext E110
      replace EL1 := EL1.ext E110
      replace HG := HG.ext E110
      replace HY := HY.ext E110
      replace HT := HT.ext E110
      replace EL2 := EL2.ext E110
      replace HTb := HTb.ext E110
      replace H1 := H1.ext E110
      replace HZ := HZ.ext E110
      replace H2 := H2.ext E110
      replace HU := HU.ext E110
      replace HF := HF.ext E110
      replace EL3 := EL3.ext E110
      replace HFb := HFb.ext E110
      replace H3 := H3.ext E110
      replace HV := HV.ext E110
      replace HO := HO.ext E110
      conv => whnf
      refine VC.rc (Circle_rc HO.mat (Own.sl H4)) ?_
      rintro _ w111 E111 ⟨nv, rfl, hc7, hc8⟩
      replace EE := EE.ext E111
      replace HX := HX.ext E111
      replace HS := HS.ext E111
      replace EL1 := EL1.ext E111
      replace HG := HG.ext E111
      replace HY := HY.ext E111
      replace HT := HT.ext E111
      replace EL2 := EL2.ext E111
      replace HTb := HTb.ext E111
      replace H1 := H1.ext E111
      replace HZ := HZ.ext E111
      replace H2 := H2.ext E111
      replace HU := HU.ext E111
      replace HF := HF.ext E111
      replace EL3 := EL3.ext E111
      replace HFb := HFb.ext E111
      replace H3 := H3.ext E111
      replace HV := HV.ext E111
      replace HO := HO.ext E111
      replace H4 := H4.ext E111
      have HN := cir_is hc7 vd1 one_circ
      rw [vd1]
      have hnl : ([] : List Int).length = 0 := rfl
      have hnl2 : ([] : List S3).length = 0 := rfl
      repeat' ((conv => whnf); first | (refine Dr.quiet tyOk (by kernel_rfl) ?_) | (refine VC.pure alive19_pc ?_) | (refine VCQ.pure alive19_pc ?_) | (refine Sps.ln HS ?_) | (refine Rng.mk (by omega) ?_) | (refine Split.pos (by omega) ?_) | (refine Split.neg (by omega) ?_) | (refine Split.mk (fun h => ?_) (fun h => ?_)) | (refine Need.mk (by omega) ?_) | (refine Ints.ln (by assumption) ?_) | (refine Mat.ln (by assumption) ?_) | (refine Ints.ln (Mat.row (by assumption) _ (by omega)) ?_) | (refine Ints.ix (by assumption) (by omega) ?_) | (refine Mat.ix (by assumption) (by omega) ?_) | (refine Ints.ix (Mat.row (by assumption) _ (by omega)) (by omega) ?_) | (refine Ints.ix (c := 0) (by assumption) (by omega) ?_) | (refine Mat.ix (c := 0) (by assumption) (by omega) ?_) | (refine Ints.ix (c := 0) (Mat.row (by assumption) _ (by omega)) (by omega) ?_) | (refine Ints.ixI (by assumption) (by omega) ?_) | (refine Mat.ixI (by assumption) (by omega) ?_) | (refine Ints.ixI (Mat.row (by assumption) _ (by omega)) (by omega) ?_) | (refine Ints.ld (by assumption) (by omega) ?_) | (refine Mat.ld (by assumption) (by omega) ?_) | (refine Ints.ld (Mat.row (by assumption) _ (by omega)) (by omega) ?_) | (refine At.ld (by assumption) rfl ?_) | (refine At.ldN (by assumption) rfl ?_) | (refine Prs.ln (by assumption) ?_) | (refine Trs.ln (by assumption) ?_) | (refine Prs.ix (by assumption) (by omega) ?_) | (refine Trs.ix (by assumption) (by omega) ?_) | (refine Prs.ldN (by assumption) (by omega) ?_) | (refine Trs.ldN (by assumption) (by omega) ?_) | (refine At.ldN (Blk.at (by assumption)) rfl ?_) | (refine At.ld (Blk.at (by assumption)) rfl ?_) | (refine IxA.mk (by omega) ?_) | (refine Sl.ln (Own.sl (by assumption)) ?_) | (refine Ints.ix (Own.sl (by assumption)) (by omega) ?_) | (refine Ints.ixI (Own.sl (by assumption)) (by omega) ?_) | (refine Ints.ld (Own.sl (by assumption)) (by omega) ?_))
      conv => whnf
      refine VE.litI [-1, -1, -1] Try.underlying25 eInt (by first | decide | simp) fun x1 w112 E112 X1 _ => ?_
      replace X1 := X1 0 (Nat.zero_le _)
      replace EE := EE.ext E112
      replace HX := HX.ext E112
      replace HS := HS.ext E112
      replace EL1 := EL1.ext E112
      replace HG := HG.ext E112
      replace HY := HY.ext E112
      replace HT := HT.ext E112
      replace EL2 := EL2.ext E112
      replace HTb := HTb.ext E112
      replace H1 := H1.ext E112
      replace HZ := HZ.ext E112
      replace H2 := H2.ext E112
      replace HU := HU.ext E112
      replace HF := HF.ext E112
      replace EL3 := EL3.ext E112
      replace HFb := HFb.ext E112
      replace H3 := H3.ext E112
      replace HV := HV.ext E112
      replace HO := HO.ext E112
      replace H4 := H4.ext E112
      replace HN := HN.ext E112
      have a1 := same_pc HX (Own.sl X1)
      rw [tf_t rfl] at a1
      conv => whnf
      refine VC.pure a1 ?_
      repeat' ((conv => whnf); first | (refine Dr.quiet tyOk (by kernel_rfl) ?_) | (refine Sps.ln HS ?_) | (refine Rng.mk (by omega) ?_) | (refine Split.pos (by omega) ?_) | (refine Split.neg (by omega) ?_) | (refine Split.mk (fun h => ?_) (fun h => ?_)) | (refine Need.mk (by omega) ?_) | (refine Ints.ln (by assumption) ?_) | (refine Mat.ln (by assumption) ?_) | (refine Ints.ln (Mat.row (by assumption) _ (by omega)) ?_) | (refine Ints.ix (by assumption) (by omega) ?_) | (refine Mat.ix (by assumption) (by omega) ?_) | (refine Ints.ix (Mat.row (by assumption) _ (by omega)) (by omega) ?_) | (refine Ints.ix (c := 0) (by assumption) (by omega) ?_) | (refine Mat.ix (c := 0) (by assumption) (by omega) ?_) | (refine Ints.ix (c := 0) (Mat.row (by assumption) _ (by omega)) (by omega) ?_) | (refine Ints.ixI (by assumption) (by omega) ?_) | (refine Mat.ixI (by assumption) (by omega) ?_) | (refine Ints.ixI (Mat.row (by assumption) _ (by omega)) (by omega) ?_) | (refine Ints.ld (by assumption) (by omega) ?_) | (refine Mat.ld (by assumption) (by omega) ?_) | (refine Ints.ld (Mat.row (by assumption) _ (by omega)) (by omega) ?_) | (refine At.ld (by assumption) rfl ?_) | (refine At.ldN (by assumption) rfl ?_) | (refine Prs.ln (by assumption) ?_) | (refine Trs.ln (by assumption) ?_) | (refine Prs.ix (by assumption) (by omega) ?_) | (refine Trs.ix (by assumption) (by omega) ?_) | (refine Prs.ldN (by assumption) (by omega) ?_) | (refine Trs.ldN (by assumption) (by omega) ?_) | (refine At.ldN (Blk.at (by assumption)) rfl ?_) | (refine At.ld (Blk.at (by assumption)) rfl ?_) | (refine IxA.mk (by omega) ?_) | (refine Sl.ln (Own.sl (by assumption)) ?_) | (refine Ints.ix (Own.sl (by assumption)) (by omega) ?_) | (refine Ints.ixI (Own.sl (by assumption)) (by omega) ?_) | (refine Ints.ld (Own.sl (by assumption)) (by omega) ?_))
      conv => whnf
      refine VE.litI [0, 1, -1] Try.underlying25 eInt (by first | decide | simp) fun x2 w113 E113 X2 _ => ?_
      replace X2 := X2 0 (Nat.zero_le _)
      replace EE := EE.ext E113
      replace HX := HX.ext E113
      replace HS := HS.ext E113
      replace EL1 := EL1.ext E113
      replace HG := HG.ext E113
      replace HY := HY.ext E113
      replace HT := HT.ext E113
      replace EL2 := EL2.ext E113
      replace HTb := HTb.ext E113
      replace H1 := H1.ext E113
      replace HZ := HZ.ext E113
      replace H2 := H2.ext E113
      replace HU := HU.ext E113
      replace HF := HF.ext E113
      replace EL3 := EL3.ext E113
      replace HFb := HFb.ext E113
      replace H3 := H3.ext E113
      replace HV := HV.ext E113
      replace HO := HO.ext E113
      replace H4 := H4.ext E113
      replace HN := HN.ext E113
      replace X1 := X1.ext E113
      have a2 := same_pc HY (Own.sl X2)
      rw [tf_t rfl] at a2
      conv => whnf
      refine VC.pure a2 ?_
      repeat' ((conv => whnf); first | (refine Dr.quiet tyOk (by kernel_rfl) ?_) | (refine Rng.mk (by omega) ?_) | (refine Split.pos (by omega) ?_) | (refine Split.neg (by omega) ?_) | (refine Split.mk (fun h => ?_) (fun h => ?_)) | (refine Need.mk (by omega) ?_) | (refine Ints.ln (by assumption) ?_) | (refine Mat.ln (by assumption) ?_) | (refine Ints.ln (Mat.row (by assumption) _ (by omega)) ?_) | (refine Ints.ix (by assumption) (by omega) ?_) | (refine Mat.ix (by assumption) (by omega) ?_) | (refine Ints.ix (Mat.row (by assumption) _ (by omega)) (by omega) ?_) | (refine Ints.ix (c := 0) (by assumption) (by omega) ?_) | (refine Mat.ix (c := 0) (by assumption) (by omega) ?_) | (refine Ints.ix (c := 0) (Mat.row (by assumption) _ (by omega)) (by omega) ?_) | (refine Ints.ixI (by assumption) (by omega) ?_) | (refine Mat.ixI (by assumption) (by omega) ?_) | (refine Ints.ixI (Mat.row (by assumption) _ (by omega)) (by omega) ?_) | (refine Ints.ld (by assumption) (by omega) ?_) | (refine Mat.ld (by assumption) (by omega) ?_) | (refine Ints.ld (Mat.row (by assumption) _ (by omega)) (by omega) ?_) | (refine At.ld (by assumption) rfl ?_) | (refine At.ldN (by assumption) rfl ?_) | (refine Prs.ln (by assumption) ?_) | (refine Trs.ln (by assumption) ?_) | (refine Prs.ix (by assumption) (by omega) ?_) | (refine Trs.ix (by assumption) (by omega) ?_) | (refine Prs.ldN (by assumption) (by omega) ?_) | (refine Trs.ldN (by assumption) (by omega) ?_) | (refine At.ldN (Blk.at (by assumption)) rfl ?_) | (refine At.ld (Blk.at (by assumption)) rfl ?_) | (refine IxA.mk (by omega) ?_) | (refine Sl.ln (Own.sl (by assumption)) ?_) | (refine Ints.ix (Own.sl (by assumption)) (by omega) ?_) | (refine Ints.ixI (Own.sl (by assumption)) (by omega) ?_) | (refine Ints.ld (Own.sl (by assumption)) (by omega) ?_))
      conv => whnf
      refine VE.litI [0, 1, 2] Try.underlying25 eInt (by first | decide | simp) fun x3 w114 E114 X3 _ => ?_
      replace X3 := X3 0 (Nat.zero_le _)
      replace EE := EE.ext E114
      replace HX := HX.ext E114
      replace HS := HS.ext E114
      replace EL1 := EL1.ext E114
      replace HG := HG.ext E114
      replace HY := HY.ext E114
      replace HT := HT.ext E114
      replace EL2 := EL2.ext E114
      replace HTb := HTb.ext E114
      replace H1 := H1.ext E114
      replace HZ := HZ.ext E114
      replace H2 := H2.ext E114
      replace HU := HU.ext E114
      replace HF := HF.ext E114
      replace EL3 := EL3.ext E114
      replace HFb := HFb.ext E114
      replace H3 := H3.ext E114
      replace HV := HV.ext E114
      replace HO := HO.ext E114
      replace H4 := H4.ext E114
      replace HN := HN.ext E114
      replace X1 := X1.ext E114
      replace X2 := X2.ext E114
      have a3 := same_pc HZ (Own.sl X3)
      rw [tf_t rfl] at a3
      conv => whnf
      refine VC.pure a3 ?_
      repeat' ((conv => whnf); first | (refine Dr.quiet tyOk (by kernel_rfl) ?_) | (refine Rng.mk (by omega) ?_) | (refine Split.pos (by omega) ?_) | (refine Split.neg (by omega) ?_) | (refine Split.mk (fun h => ?_) (fun h => ?_)) | (refine Need.mk (by omega) ?_) | (refine Ints.ln (by assumption) ?_) | (refine Mat.ln (by assumption) ?_) | (refine Ints.ln (Mat.row (by assumption) _ (by omega)) ?_) | (refine Ints.ix (by assumption) (by omega) ?_) | (refine Mat.ix (by assumption) (by omega) ?_) | (refine Ints.ix (Mat.row (by assumption) _ (by omega)) (by omega) ?_) | (refine Ints.ix (c := 0) (by assumption) (by omega) ?_) | (refine Mat.ix (c := 0) (by assumption) (by omega) ?_) | (refine Ints.ix (c := 0) (Mat.row (by assumption) _ (by omega)) (by omega) ?_) | (refine Ints.ixI (by assumption) (by omega) ?_) | (refine Mat.ixI (by assumption) (by omega) ?_) | (refine Ints.ixI (Mat.row (by assumption) _ (by omega)) (by omega) ?_) | (refine Ints.ld (by assumption) (by omega) ?_) | (refine Mat.ld (by assumption) (by omega) ?_) | (refine Ints.ld (Mat.row (by assumption) _ (by omega)) (by omega) ?_) | (refine At.ld (by assumption) rfl ?_) | (refine At.ldN (by assumption) rfl ?_) | (refine Prs.ln (by assumption) ?_) | (refine Trs.ln (by assumption) ?_) | (refine Prs.ix (by assumption) (by omega) ?_) | (refine Trs.ix (by assumption) (by omega) ?_) | (refine Prs.ldN (by assumption) (by omega) ?_) | (refine Trs.ldN (by assumption) (by omega) ?_) | (refine At.ldN (Blk.at (by assumption)) rfl ?_) | (refine At.ld (Blk.at (by assumption)) rfl ?_) | (refine IxA.mk (by omega) ?_) | (refine Sl.ln (Own.sl (by assumption)) ?_) | (refine Ints.ix (Own.sl (by assumption)) (by omega) ?_) | (refine Ints.ixI (Own.sl (by assumption)) (by omega) ?_) | (refine Ints.ld (Own.sl (by assumption)) (by omega) ?_))
      conv => whnf
      refine VE.litI [2, 0, 1] Try.underlying25 eInt (by first | decide | simp) fun x4 w115 E115 X4 _ => ?_
      replace X4 := X4 0 (Nat.zero_le _)
      replace EE := EE.ext E115
      replace HX := HX.ext E115
      replace HS := HS.ext E115
      replace EL1 := EL1.ext E115
      replace HG := HG.ext E115
      replace HY := HY.ext E115
      replace HT := HT.ext E115
      replace EL2 := EL2.ext E115
      replace HTb := HTb.ext E115
      replace H1 := H1.ext E115
      replace HZ := HZ.ext E115
      replace H2 := H2.ext E115
      replace HU := HU.ext E115
      replace HF := HF.ext E115
      replace EL3 := EL3.ext E115
      replace HFb := HFb.ext E115
      replace H3 := H3.ext E115
      replace HV := HV.ext E115
      replace HO := HO.ext E115
      replace H4 := H4.ext E115
      replace HN := HN.ext E115
      replace X1 := X1.ext E115
      replace X2 := X2.ext E115
      replace X3 := X3.ext E115
      have a4 := same_pc HU (Own.sl X4)
      rw [tf_t rfl] at a4
      conv => whnf
      refine VC.pure a4 ?_
      repeat' ((conv => whnf); first | (refine Dr.quiet tyOk (by kernel_rfl) ?_) | (refine Rng.mk (by omega) ?_) | (refine Split.pos (by omega) ?_) | (refine Split.neg (by omega) ?_) | (refine Split.mk (fun h => ?_) (fun h => ?_)) | (refine Need.mk (by omega) ?_) | (refine Ints.ln (by assumption) ?_) | (refine Mat.ln (by assumption) ?_) | (refine Ints.ln (Mat.row (by assumption) _ (by omega)) ?_) | (refine Ints.ix (by assumption) (by omega) ?_) | (refine Mat.ix (by assumption) (by omega) ?_) | (refine Ints.ix (Mat.row (by assumption) _ (by omega)) (by omega) ?_) | (refine Ints.ix (c := 0) (by assumption) (by omega) ?_) | (refine Mat.ix (c := 0) (by assumption) (by omega) ?_) | (refine Ints.ix (c := 0) (Mat.row (by assumption) _ (by omega)) (by omega) ?_) | (refine Ints.ixI (by assumption) (by omega) ?_) | (refine Mat.ixI (by assumption) (by omega) ?_) | (refine Ints.ixI (Mat.row (by assumption) _ (by omega)) (by omega) ?_) | (refine Ints.ld (by assumption) (by omega) ?_) | (refine Mat.ld (by assumption) (by omega) ?_) | (refine Ints.ld (Mat.row (by assumption) _ (by omega)) (by omega) ?_) | (refine At.ld (by assumption) rfl ?_) | (refine At.ldN (by assumption) rfl ?_) | (refine Prs.ln (by assumption) ?_) | (refine Trs.ln (by assumption) ?_) | (refine Prs.ix (by assumption) (by omega) ?_) | (refine Trs.ix (by assumption) (by omega) ?_) | (refine Prs.ldN (by assumption) (by omega) ?_) | (refine Trs.ldN (by assumption) (by omega) ?_) | (refine At.ldN (Blk.at (by assumption)) rfl ?_) | (refine At.ld (Blk.at (by assumption)) rfl ?_) | (refine IxA.mk (by omega) ?_) | (refine Sl.ln (Own.sl (by assumption)) ?_) | (refine Ints.ix (Own.sl (by assumption)) (by omega) ?_) | (refine Ints.ixI (Own.sl (by assumption)) (by omega) ?_) | (refine Ints.ld (Own.sl (by assumption)) (by omega) ?_))
      conv => whnf
      refine VE.litI [2, 3] Try.underlying25 eInt (by first | decide | simp) fun x5 w116 E116 X5 _ => ?_
      replace X5 := X5 0 (Nat.zero_le _)
      replace EE := EE.ext E116
      replace HX := HX.ext E116
      replace HS := HS.ext E116
      replace EL1 := EL1.ext E116
      replace HG := HG.ext E116
      replace HY := HY.ext E116
      replace HT := HT.ext E116
      replace EL2 := EL2.ext E116
      replace HTb := HTb.ext E116
      replace H1 := H1.ext E116
      replace HZ := HZ.ext E116
      replace H2 := H2.ext E116
      replace HU := HU.ext E116
      replace HF := HF.ext E116
      replace EL3 := EL3.ext E116
      replace HFb := HFb.ext E116
      replace H3 := H3.ext E116
      replace HV := HV.ext E116
      replace HO := HO.ext E116
      replace H4 := H4.ext E116
      replace HN := HN.ext E116
      replace X1 := X1.ext E116
      replace X2 := X2.ext E116
      replace X3 := X3.ext E116
      replace X4 := X4.ext E116
      have a5 := same_pc HV (Own.sl X5)
      rw [tf_t rfl] at a5
      conv => whnf
      refine VC.pure a5 ?_
      repeat' ((conv => whnf); first | (refine Dr.quiet tyOk (by kernel_rfl) ?_) | (refine Rng.mk (by omega) ?_) | (refine Split.pos (by omega) ?_) | (refine Split.neg (by omega) ?_) | (refine Split.mk (fun h => ?_) (fun h => ?_)) | (refine Need.mk (by omega) ?_) | (refine Ints.ln (by assumption) ?_) | (refine Mat.ln (by assumption) ?_) | (refine Ints.ln (Mat.row (by assumption) _ (by omega)) ?_) | (refine Ints.ix (by assumption) (by omega) ?_) | (refine Mat.ix (by assumption) (by omega) ?_) | (refine Ints.ix (Mat.row (by assumption) _ (by omega)) (by omega) ?_) | (refine Ints.ix (c := 0) (by assumption) (by omega) ?_) | (refine Mat.ix (c := 0) (by assumption) (by omega) ?_) | (refine Ints.ix (c := 0) (Mat.row (by assumption) _ (by omega)) (by omega) ?_) | (refine Ints.ixI (by assumption) (by omega) ?_) | (refine Mat.ixI (by assumption) (by omega) ?_) | (refine Ints.ixI (Mat.row (by assumption) _ (by omega)) (by omega) ?_) | (refine Ints.ld (by assumption) (by omega) ?_) | (refine Mat.ld (by assumption) (by omega) ?_) | (refine Ints.ld (Mat.row (by assumption) _ (by omega)) (by omega) ?_) | (refine At.ld (by assumption) rfl ?_) | (refine At.ldN (by assumption) rfl ?_) | (refine Prs.ln (by assumption) ?_) | (refine Trs.ln (by assumption) ?_) | (refine Prs.ix (by assumption) (by omega) ?_) | (refine Trs.ix (by assumption) (by omega) ?_) | (refine Prs.ldN (by assumption) (by omega) ?_) | (refine Trs.ldN (by assumption) (by omega) ?_) | (refine At.ldN (Blk.at (by assumption)) rfl ?_) | (refine At.ld (Blk.at (by assumption)) rfl ?_) | (refine IxA.mk (by omega) ?_) | (refine Sl.ln (Own.sl (by assumption)) ?_) | (refine Ints.ix (Own.sl (by assumption)) (by omega) ?_) | (refine Ints.ixI (Own.sl (by assumption)) (by omega) ?_) | (refine Ints.ld (Own.sl (by assumption)) (by omega) ?_))
      exact ⟨rfl, EE⟩

open Go.ChangeShapes Go.WideShapes Go.ChangeAt Go.RowKit Go.Eng in
theorem roundsNames_lifted (os : Os) (started : os.Started) (H : Type) (enc : TypeId × Value → H) :
    ReturnsInHanded {} Try.checked os 14 .any (Rows.roundsNamesSpec.pre6 enc Try.prog Try.f14 Rows.roundsNamesRow.domain false) (Rows.roundsNamesSpec.post enc Try.prog Try.f14 false true false false) := by
  refine returnsInHanded_of_change (C := Try.checked) own started (by kernel_rfl) Try.func14
    (ChangeSpec.witness6 (enc := enc) (C := Try.checked) false ⟨#[], #[], []⟩ 8 (by kernel_rfl) (by kernel_rfl) (by kernel_rfl) (by kernel_rfl)) ?_
  intro W base args ds gs before hval0 hW hcnd _
  have hval : ∀ (j : Nat) t v, Try.f14.params[j]? = some t → args[j]? = some v → Value.okWide Try.prog W .any base t v := hval0
  have hW' := hW
  obtain ⟨p, q, hA0, hV, e0, hfz, hnd⟩ := hW
  have hA : DataW.TrodAll enc Try.prog W 0 (fun _ => true) true Try.f14.params.toList args.toList ds p := hA0
  rw [Try.params14] at hA hval
  clear hfz hnd hV e0 hval0
  obtain ⟨ee, rfl, _⟩ := trodAll_nil hA
  obtain rfl : args = #[] := Array.toList_inj.1 (by simpa using ee)
  exact law_calls laidOut (by rw [Try.params14]; intro t ht; revert t; decide +kernel) rfl Try.underlying4 rfl ⟨rfl, rfl, rfl⟩ hW' (rnames_pc)

theorem roundsNames_holds : Rows.RoundsNamesSaid :=
  OpenClaim.holds_of_wide 14 Try.f14 rfl rfl rfl rfl rfl rfl rfl ⟨rfl, rfl, rfl, rfl, rfl⟩ rfl rfl rfl rfl rfl (by kernel_rfl) Try.func14 (by kernel_rfl)
    (of_decide_eq_true (by kernel_rfl)) (by unfold Func.isWrapper; first | (rw [if_pos (by decide +kernel)]; kernel_rfl) | (rw [if_neg (by decide +kernel)]; exact ⟨rfl, rfl⟩))
    (fun os started H enc _ => roundsNames_lifted os started H enc)
end Go.Proofs.Ytebklnmafjbhcaa
