/- Values of the errors at given goods, by evaluation; made matrices. -/
import Derived.Test.YtiahjkhfkbcjhaaL17a
import Derived.Test.YtiahjkhfkbcjhaaPlainN
import Derived.Test.YtiahjkhfkbcjhaaEngR
set_option linter.unusedVariables false
set_option linter.unusedSimpArgs false
namespace Go.Proofs.Ytiahjkhfkbcjhaa
open Go.Eng
set_option maxRecDepth 100000

def chkB (rr : List (List Int)) : Int :=
  if decide (6 < rr.length) || (List.range rr.length).any (fun i => decide (10 < (rr.getD i []).length)) then 4
  else if decide (rr.length = 0) || (List.range rr.length).any (fun i => !decide ((rr.getD i []).length = (rr.getD 0 []).length) || (List.range (rr.getD i []).length).any fun j => decide (val rr i j < 0) || decide (1000 < val rr i j)) then 8 else 0
theorem chk_eq (rr : List (List Int)) : chk rr = chkB rr := by
  have h1 : bigP rr ↔ (decide (6 < rr.length) || (List.range rr.length).any (fun i => decide (10 < (rr.getD i []).length))) = true := by
    unfold bigP; simp only [Bool.or_eq_true, decide_eq_true_eq, List.any_eq_true, List.mem_range]
  have h2 : badP rr ↔ (decide (rr.length = 0) || (List.range rr.length).any (fun i => !decide ((rr.getD i []).length = (rr.getD 0 []).length) || (List.range (rr.getD i []).length).any fun j => decide (val rr i j < 0) || decide (1000 < val rr i j))) = true := by
    unfold badP; simp only [Bool.or_eq_true, decide_eq_true_eq, List.any_eq_true, List.mem_range, Bool.not_eq_true', decide_eq_false_iff_not, ne_eq]
  unfold chkB
  by_cases p : bigP rr
  · rw [if_pos (h1.1 p)]; exact chk_big p
  · rw [if_neg (fun h => p (h1.2 h))]
    by_cases q : badP rr
    · rw [if_pos (h2.1 q)]; exact chk_bad p q
    · rw [if_neg (fun h => q (h2.2 h))]; exact chk_ok p q
def vldB (rr : List (List Int)) (a : List Int) : Int :=
  if chkB rr ≠ 0 then chkB rr else if !decide (a.length = (rr.getD 0 []).length) || (List.range a.length).any (fun k => decide (a.getD k 0 < -1) || decide ((rr.length : Int) ≤ a.getD k 0)) then 8 else 0
theorem vld_eq (rr : List (List Int)) (a : List Int) : vld rr a = vldB rr a := by
  have h1 : badA rr a ↔ (!decide (a.length = (rr.getD 0 []).length) || (List.range a.length).any (fun k => decide (a.getD k 0 < -1) || decide ((rr.length : Int) ≤ a.getD k 0))) = true := by
    unfold badA; simp only [Bool.or_eq_true, decide_eq_true_eq, List.any_eq_true, List.mem_range, Bool.not_eq_true', decide_eq_false_iff_not, ne_eq]
  unfold vldB
  by_cases c : chk rr = 0
  · rw [if_neg (by rw [← chk_eq]; omega)]
    by_cases q : badA rr a
    · rw [if_pos (h1.1 q)]; exact vld_bad c q
    · rw [if_neg (fun h => q (h1.2 h))]; exact vld_ok c q
  · rw [if_pos (by rw [← chk_eq]; exact c), ← chk_eq]; exact vld_chk c

theorem OM.made {B n : Nat} {w : World} {v : Value} (h : Own B 25 1 w v n (List.replicate n (.slice none 0 0))) : OM B w v (List.replicate n (.slice none 0 0)) (List.replicate n []) := by
  refine ⟨by rw [List.length_replicate]; exact h, fun i hi => ?_⟩
  rw [List.length_replicate] at hi
  have e1 : (List.replicate n (Value.slice none 0 0)).getD i undef = .slice none 0 0 := by simp [List.getD, hi]
  have e2 : (List.replicate n ([] : List Int)).getD i [] = [] := by simp [List.getD, hi]
  rw [e1, e2]
  exact Own.nil
theorem OI.made {n : Nat} {w : World} {v : Value} (h : Own 0 3 1 w v n (List.replicate n (.int .i64 0))) : OI w v (List.replicate n 0) := by
  have e : (List.replicate n (0 : Int)).map i64v = List.replicate n (.int .i64 0) := by simp [i64v]
  rw [← e] at h; exact OI.of h
/-- rows as they are, given one by one -/
theorem OM.push0 {w : World} {v : Value} {vs : List Value} {rr : List (List Int)} (h : Own 0 25 1 w v rr.length vs) (hr : ∀ i, i < rr.length → OI w (vs.getD i undef) (rr.getD i [])) : OM 0 w v vs rr := ⟨h, hr⟩
end Go.Proofs.Ytiahjkhfkbcjhaa
