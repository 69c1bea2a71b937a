/- Plain functions: what goods, allocations and values are. No program. -/
import Derived.Test.YtiahjkhfkbcjhaaEngH
set_option linter.unusedVariables false
set_option linter.unusedSimpArgs false
namespace Go.Proofs.Ytiahjkhfkbcjhaa
open Go.Eng

theorem getD_out {α : Type} {l : List α} {i : Nat} {d : α} (h : l.length ≤ i) : l.getD i d = d := by simp [List.getD, List.getElem?_eq_none h]

/-- agent i's value of good j -/
def val (rr : List (List Int)) (i j : Nat) : Int := (rr.getD i []).getD j 0

def bigP (rr : List (List Int)) : Prop := 6 < rr.length ∨ ∃ i, i < rr.length ∧ 10 < (rr.getD i []).length
def badP (rr : List (List Int)) : Prop := rr.length = 0 ∨ ∃ i, i < rr.length ∧ ((rr.getD i []).length ≠ (rr.getD 0 []).length ∨ ∃ j, j < (rr.getD i []).length ∧ (val rr i j < 0 ∨ 1000 < val rr i j))
open Classical in
noncomputable def chk (rr : List (List Int)) : Int := if bigP rr then 4 else if badP rr then 8 else 0

theorem chk_big {rr : List (List Int)} (h : bigP rr) : chk rr = 4 := by unfold chk; rw [if_pos h]
theorem chk_bad {rr : List (List Int)} (h1 : ¬ bigP rr) (h2 : badP rr) : chk rr = 8 := by unfold chk; rw [if_neg h1, if_pos h2]
theorem chk_ok {rr : List (List Int)} (h1 : ¬ bigP rr) (h2 : ¬ badP rr) : chk rr = 0 := by unfold chk; rw [if_neg h1, if_neg h2]
theorem chk_zero {rr : List (List Int)} (h : chk rr = 0) : ¬ bigP rr ∧ ¬ badP rr := by
  unfold chk at h
  split at h
  · omega
  · split at h
    · omega
    · exact ⟨‹_›, ‹_›⟩

/-- What valid goods are. -/
structure Gd (rr : List (List Int)) (n m : Nat) : Prop where
  hn : rr.length = n
  n1 : 1 ≤ n
  n6 : n ≤ 6
  m10 : m ≤ 10
  row : ∀ i, i < n → (rr.getD i []).length = m
  val : ∀ i j, 0 ≤ val rr i j ∧ val rr i j ≤ 1000

theorem gd_of_chk {rr : List (List Int)} (h : chk rr = 0) : Gd rr rr.length (rr.getD 0 []).length := by
  obtain ⟨h1, h2⟩ := chk_zero h
  have hn : rr.length ≠ 0 := fun e => h2 (.inl e)
  have hl : ∀ i, i < rr.length → (rr.getD i []).length = (rr.getD 0 []).length := fun i hi => Classical.byContradiction fun e => h2 (.inr ⟨i, hi, .inl e⟩)
  refine ⟨rfl, by omega, Classical.byContradiction fun e => h1 (.inl (by omega)), Classical.byContradiction fun e => h1 (.inr ⟨0, by omega, by omega⟩), hl, fun i j => ?_⟩
  by_cases hi : i < rr.length
  · by_cases hj : j < (rr.getD i []).length
    · refine ⟨Classical.byContradiction fun e => h2 (.inr ⟨i, hi, .inr ⟨j, hj, .inl (by omega)⟩⟩), Classical.byContradiction fun e => h2 (.inr ⟨i, hi, .inr ⟨j, hj, .inr (by omega)⟩⟩)⟩
    · have : val rr i j = 0 := by unfold val; rw [getD_out (by omega)]
      omega
  · have : val rr i j = 0 := by unfold val; rw [getD_out (l := rr) (by omega)]; simp
    omega

def badA (rr : List (List Int)) (a : List Int) : Prop := a.length ≠ (rr.getD 0 []).length ∨ ∃ k, k < a.length ∧ (a.getD k 0 < -1 ∨ (rr.length : Int) ≤ a.getD k 0)
open Classical in
noncomputable def vld (rr : List (List Int)) (a : List Int) : Int := if chk rr ≠ 0 then chk rr else if badA rr a then 8 else 0

theorem vld_chk {rr : List (List Int)} {a : List Int} (h : chk rr ≠ 0) : vld rr a = chk rr := by unfold vld; rw [if_pos h]
theorem vld_bad {rr : List (List Int)} {a : List Int} (h : chk rr = 0) (h2 : badA rr a) : vld rr a = 8 := by unfold vld; rw [if_neg (by omega), if_pos h2]
theorem vld_ok {rr : List (List Int)} {a : List Int} (h : chk rr = 0) (h2 : ¬ badA rr a) : vld rr a = 0 := by unfold vld; rw [if_neg (by omega), if_neg h2]
theorem vld_zero {rr : List (List Int)} {a : List Int} (h : vld rr a = 0) : chk rr = 0 ∧ ¬ badA rr a := by
  unfold vld at h
  split at h
  · exact absurd h ‹_›
  · split at h
    · omega
    · exact ⟨by omega, ‹_›⟩

/-- A valid allocation. -/
structure Al (rr : List (List Int)) (a : List Int) (n m : Nat) : Prop extends Gd rr n m where
  len : a.length = m
  rng : ∀ k, k < m → -1 ≤ a.getD k 0 ∧ a.getD k 0 < n

theorem al_of_vld {rr : List (List Int)} {a : List Int} (h : vld rr a = 0) : Al rr a rr.length (rr.getD 0 []).length := by
  obtain ⟨h1, h2⟩ := vld_zero h
  have hl : a.length = (rr.getD 0 []).length := Classical.byContradiction fun e => h2 (.inl e)
  exact ⟨gd_of_chk h1, hl, fun k hk => ⟨Classical.byContradiction fun e => h2 (.inr ⟨k, by omega, .inl (by omega)⟩), Classical.byContradiction fun e => h2 (.inr ⟨k, by omega, .inr (by omega)⟩)⟩⟩

/-- The worth of agent k's bundle by the row r, of the first c goods. -/
def worth (a r : List Int) (k : Int) : Nat → Int
  | 0 => 0
  | c + 1 => worth a r k c + if a.getD c 0 = k then r.getD c 0 else 0

theorem worth_bd {a r : List Int} {k : Int} (h : ∀ j, 0 ≤ r.getD j 0 ∧ r.getD j 0 ≤ 1000) : ∀ c : Nat, 0 ≤ worth a r k c ∧ worth a r k c ≤ 1000 * c
  | 0 => by simp [worth]
  | c + 1 => by have := worth_bd (a := a) (k := k) h c; have := h c; simp only [worth]; split <;> omega

/-- agent i's value of agent k's bundle -/
def wth (rr : List (List Int)) (a : List Int) (i : Nat) (k : Int) : Int := worth a (rr.getD i []) k a.length

theorem wth_bd {rr : List (List Int)} {a : List Int} {n m : Nat} (h : Gd rr n m) (i : Nat) (k : Int) : 0 ≤ wth rr a i k ∧ wth rr a i k ≤ 1000 * a.length :=
  worth_bd (fun j => h.val i j) _

/-- the sum of the first c numbers -/
def sumTo (r : List Int) : Nat → Int
  | 0 => 0
  | c + 1 => sumTo r c + r.getD c 0
theorem sumTo_bd {r : List Int} (h : ∀ j, 0 ≤ r.getD j 0 ∧ r.getD j 0 ≤ 1000) : ∀ c : Nat, 0 ≤ sumTo r c ∧ sumTo r c ≤ 1000 * c
  | 0 => by simp [sumTo]
  | c + 1 => by have := sumTo_bd h c; have := h c; simp only [sumTo]; omega
def allv (rr : List (List Int)) (i : Nat) : Int := sumTo (rr.getD i []) (rr.getD i []).length

/-- all values of bundles -/
def vals (rr : List (List Int)) (a : List Int) : List (List Int) := (List.range rr.length).map fun i => (List.range rr.length).map fun (k : Nat) => wth rr a i k
noncomputable def valsR (rr : List (List Int)) (a : List Int) : List (List Int) := if vld rr a = 0 then vals rr a else []

/-- who is envied by i among the first c, by a table f of values -/
def envRow (f : Nat → Int) (i : Nat) : Nat → List (Int × Int)
  | 0 => []
  | c + 1 => envRow f i c ++ if f i < f c then [((i : Int), (c : Int))] else []
def envTo (f : Nat → Nat → Int) (n : Nat) : Nat → List (Int × Int)
  | 0 => []
  | c + 1 => envTo f n c ++ envRow (f c) c n
def envs (rr : List (List Int)) (a : List Int) : List (Int × Int) := envTo (fun i (k : Nat) => wth rr a i k) rr.length rr.length
noncomputable def envsR (rr : List (List Int)) (a : List Int) : List (Int × Int) := if vld rr a = 0 then envs rr a else []
theorem envRow_len (f : Nat → Int) (i : Nat) : ∀ c, (envRow f i c).length ≤ c
  | 0 => Nat.le_refl _
  | c + 1 => by have := envRow_len f i c; simp only [envRow, List.length_append]; split <;> simp <;> omega
theorem envTo_len (f : Nat → Nat → Int) (n : Nat) : ∀ c, (envTo f n c).length ≤ c * n
  | 0 => by simp [envTo]
  | c + 1 => by have := envTo_len f n c; have := envRow_len (f c) c n; simp only [envTo, List.length_append, Nat.add_mul, Nat.one_mul]; omega

/-- the numbers below c with a property -/
def filt (p : Nat → Bool) : Nat → List Int
  | 0 => []
  | c + 1 => filt p c ++ if p c = true then [(c : Int)] else []
theorem filt_len (p : Nat → Bool) : ∀ c, (filt p c).length ≤ c
  | 0 => Nat.le_refl _
  | c + 1 => by have := filt_len p c; simp only [filt, List.length_append]; split <;> simp <;> omega
def isPoor (rr : List (List Int)) (a : List Int) (i : Nat) : Bool := decide ((rr.length : Int) * wth rr a i i < allv rr i)
def poor (rr : List (List Int)) (a : List Int) : List Int := filt (isPoor rr a) rr.length
noncomputable def poorR (rr : List (List Int)) (a : List Int) : List Int := if vld rr a = 0 then poor rr a else []

theorem mul_bd {n x N X : Int} (h0 : 0 ≤ n) (h1 : n ≤ N) (h2 : 0 ≤ x) (h3 : x ≤ X) : 0 ≤ n * x ∧ n * x ≤ N * X :=
  ⟨Int.mul_nonneg h0 h2, Int.mul_le_mul h1 h3 h2 (by omega)⟩

/-- A list made of its elements. -/
def mk {α : Type} (n : Nat) (f : Nat → α) : List α := (List.range n).map f
theorem mk_len {α : Type} (n : Nat) (f : Nat → α) : (mk n f).length = n := by simp [mk]
theorem mk_get {α : Type} {n : Nat} {f : Nat → α} {i : Nat} (d : α) (h : i < n) : (mk n f).getD i d = f i := by simp [mk, List.getD, h]
theorem mk_succ {α : Type} (n : Nat) (f : Nat → α) : mk (n + 1) f = mk n f ++ [f n] := by simp [mk, List.range_succ]
theorem mk_zero {α : Type} (f : Nat → α) : mk 0 f = [] := rfl
end Go.Proofs.Ytiahjkhfkbcjhaa
