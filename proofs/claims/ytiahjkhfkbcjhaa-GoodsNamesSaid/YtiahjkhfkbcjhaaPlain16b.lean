/- Plain laws of orders of agents: Assigned, the place of an agent in an order. No program. -/
import Derived.Test.YtiahjkhfkbcjhaaPlain16
set_option linter.unusedVariables false
set_option linter.unusedSimpArgs false
namespace Go.Proofs.Ytiahjkhfkbcjhaa
open Go.Eng

/-- how often j stands among the first c -/
def cntTo (o : List Int) (j : Int) : Nat → Int
  | 0 => 0
  | c + 1 => cntTo o j c + if o.getD c 0 = j then 1 else 0
/-- how many of the first c lie below n -/
def inTo (o : List Int) (n : Nat) : Nat → Int
  | 0 => 0
  | c + 1 => inTo o n c + if 0 ≤ o.getD c 0 ∧ o.getD c 0 < n then 1 else 0
theorem cntTo_bd (o : List Int) (j : Int) : ∀ c : Nat, 0 ≤ cntTo o j c ∧ cntTo o j c ≤ c
  | 0 => by simp [cntTo]
  | c + 1 => by have := cntTo_bd o j c; simp only [cntTo]; split <;> omega
theorem inTo_bd (o : List Int) (n : Nat) : ∀ c : Nat, 0 ≤ inTo o n c ∧ inTo o n c ≤ c
  | 0 => by simp [inTo]
  | c + 1 => by have := inTo_bd o n c; simp only [inTo]; split <;> omega
theorem sum_cnt (o : List Int) (n : Nat) : ∀ c : Nat, sumK (fun j : Nat => cntTo o j c) n = inTo o n c
  | 0 => by simp only [cntTo, inTo]; exact sumK_zero n
  | c + 1 => by simp only [cntTo, inTo]; rw [sumK_add, sum_cnt o n c, sumK_ind]
theorem inTo_all {o : List Int} {n : Nat} : ∀ {c : Nat}, inTo o n c = c → ∀ i, i < c → 0 ≤ o.getD i 0 ∧ o.getD i 0 < n
  | 0, _, i, hi => absurd hi (Nat.not_lt_zero _)
  | c + 1, h, i, hi => by
    have hb := inTo_bd o n c
    simp only [inTo] at h
    by_cases hc : 0 ≤ o.getD c 0 ∧ o.getD c 0 < n
    · rw [if_pos hc] at h
      by_cases e : i = c
      · subst e; exact hc
      · exact inTo_all (c := c) (by omega) i (by omega)
    · rw [if_neg hc] at h; omega
theorem cntTo_pos {o : List Int} {j : Int} : ∀ {c : Nat}, 1 ≤ cntTo o j c ↔ ∃ i, i < c ∧ o.getD i 0 = j
  | 0 => by simp [cntTo]
  | c + 1 => by
    have hb := cntTo_bd o j c
    simp only [cntTo]
    constructor
    · intro h
      by_cases e : o.getD c 0 = j
      · exact ⟨c, by omega, e⟩
      · rw [if_neg e] at h
        obtain ⟨i, hi, e2⟩ := (cntTo_pos (o := o) (j := j) (c := c)).1 (by omega)
        exact ⟨i, by omega, e2⟩
    · rintro ⟨i, hi, e⟩
      by_cases hic : i = c
      · subst hic; rw [if_pos e]; omega
      · have := (cntTo_pos (c := c)).2 ⟨i, by omega, e⟩
        split <;> omega
theorem sumK_ones {f : Nat → Int} : ∀ {n : Nat}, (∀ k, k < n → 1 ≤ f k) → (n : Int) ≤ sumK f n ∧ (sumK f n ≤ n → ∀ k, k < n → f k = 1)
  | 0, _ => ⟨by simp [sumK], fun _ k hk => absurd hk (Nat.not_lt_zero _)⟩
  | n + 1, h => by
    obtain ⟨h1, h2⟩ := sumK_ones (f := f) (n := n) (fun k hk => h k (by omega))
    have h3 := h n (by omega)
    refine ⟨by simp only [sumK]; omega, fun h4 k hk => ?_⟩
    simp only [sumK] at h4
    by_cases e : k = n
    · subst e; omega
    · exact h2 (by omega) k (by omega)

/-- An assignment of n agents. -/
def asg (o : List Int) (n : Nat) : Prop := o.length = n ∧ ∀ j : Nat, j < n → cntTo o j n = 1
theorem asg_iff {o : List Int} {n : Nat} (hl : o.length = n) : asg o n ↔ (∀ i, i < n → 0 ≤ o.getD i 0 ∧ o.getD i 0 < n) ∧ ∀ j : Nat, j < n → ∃ i, i < n ∧ o.getD i 0 = (j : Int) := by
  constructor
  · rintro ⟨_, h⟩
    have hs : sumK (fun j : Nat => cntTo o j n) n = n := by
      rw [sumK_congr (g := fun _ => (1 : Int)) h, sumK_const]; simp
    rw [sum_cnt] at hs
    exact ⟨inTo_all hs, fun j hj => cntTo_pos.1 (by rw [h j hj]; exact Int.le_refl _)⟩
  · rintro ⟨_, h2⟩
    refine ⟨hl, ?_⟩
    have h3 : ∀ k : Nat, k < n → 1 ≤ cntTo o k n := fun k hk => cntTo_pos.2 (h2 k hk)
    refine (sumK_ones (f := fun k : Nat => cntTo o k n) h3).2 ?_
    rw [sum_cnt]; exact (inTo_bd o n n).2

/-- the last place of x among the first c, or -1 -/
def lastTo (o : List Int) (x : Int) : Nat → Int
  | 0 => -1
  | c + 1 => if o.getD c 0 = x then (c : Int) else lastTo o x c
theorem lastTo_bd (o : List Int) (x : Int) : ∀ c : Nat, -1 ≤ lastTo o x c ∧ lastTo o x c < c
  | 0 => by simp [lastTo]
  | c + 1 => by have := lastTo_bd o x c; simp only [lastTo]; split <;> omega
theorem lastTo_neg {o : List Int} {x : Int} : ∀ {c : Nat}, lastTo o x c = -1 ↔ ∀ i, i < c → o.getD i 0 ≠ x
  | 0 => by simp [lastTo]
  | c + 1 => by
    simp only [lastTo]
    constructor
    · intro h i hi
      by_cases e : o.getD c 0 = x
      · rw [if_pos e] at h; omega
      · rw [if_neg e] at h
        by_cases hic : i = c
        · subst hic; exact e
        · exact (lastTo_neg (c := c)).1 h i (by omega)
    · intro h
      rw [if_neg (h c (by omega))]
      exact lastTo_neg.2 fun i hi => h i (by omega)
theorem lastTo_at {o : List Int} {x : Int} : ∀ {c : Nat}, lastTo o x c ≠ -1 → o.getD (lastTo o x c).toNat 0 = x
  | 0, h => absurd rfl h
  | c + 1, h => by
    simp only [lastTo] at h ⊢
    by_cases e : o.getD c 0 = x
    · rw [if_pos e]; simpa using e
    · rw [if_neg e] at h ⊢
      exact lastTo_at h

/-- what passing bundles gives -/
def passV (a o : List Int) : List Int := (List.range a.length).map fun k => lastTo o (a.getD k 0) o.length
open Classical in
noncomputable def passE (rr : List (List Int)) (a o : List Int) : Int := if vld rr a ≠ 0 then vld rr a else if asg o rr.length then 0 else 2
noncomputable def passR (rr : List (List Int)) (a o : List Int) : List Int := open Classical in if vld rr a = 0 ∧ asg o rr.length then passV a o else []

/-- what giving a good gives -/
def giveOk (rr : List (List Int)) (a : List Int) (good agent : Int) : Prop := 0 ≤ good ∧ good < a.length ∧ -1 ≤ agent ∧ agent < rr.length
open Classical in
noncomputable def giveE (rr : List (List Int)) (a : List Int) (good agent : Int) : Int := if vld rr a ≠ 0 then vld rr a else if giveOk rr a good agent then 0 else 2
noncomputable def giveR (rr : List (List Int)) (a : List Int) (good agent : Int) : List Int := open Classical in if vld rr a = 0 ∧ giveOk rr a good agent then a.set good.toNat agent else []
end Go.Proofs.Ytiahjkhfkbcjhaa
