/- Contract: near's envies. -/
import Derived.Test.YtkgogljfngplnaaJ1
import Derived.Test.YtkgogljfngplnaaChecked
set_option linter.unusedVariables false
set_option linter.unusedSimpArgs false
namespace Go.Proofs.Ytkgogljfngplnaa
open Go.Eng

/-- the sum of the first n values -/
def sumK (f : Nat → Int) : Nat → Int
  | 0 => 0
  | k + 1 => sumK f k + f k

theorem sumK_congr {f g : Nat → Int} : ∀ {n : Nat}, (∀ k, k < n → f k = g k) → sumK f n = sumK g n
  | 0, _ => rfl
  | n + 1, h => by simp only [sumK]; rw [sumK_congr (fun k hk => h k (by omega)), h n (by omega)]
theorem sumK_add (f g : Nat → Int) : ∀ n, sumK (fun k => f k + g k) n = sumK f n + sumK g n
  | 0 => rfl
  | n + 1 => by simp only [sumK, sumK_add f g n]; omega
theorem sumK_zero : ∀ n, sumK (fun _ => 0) n = 0
  | 0 => rfl
  | n + 1 => by simp only [sumK, sumK_zero n]; rfl
theorem sumK_le {f g : Nat → Int} : ∀ {n : Nat}, (∀ k, k < n → f k ≤ g k) → sumK f n ≤ sumK g n
  | 0, _ => Int.le_refl _
  | n + 1, h => by have := sumK_le (f := f) (g := g) (n := n) (fun k hk => h k (by omega)); have := h n (by omega); simp only [sumK]; omega
theorem sumK_const (x : Int) : ∀ n : Nat, sumK (fun _ => x) n = (n : Int) * x
  | 0 => by simp [sumK]
  | n + 1 => by simp only [sumK, sumK_const x n, Int.natCast_add, Int.add_mul]; simp
theorem sumK_ind (v x : Int) : ∀ n : Nat, sumK (fun k : Nat => if v = (k : Int) then x else 0) n = if 0 ≤ v ∧ v < n then x else 0
  | 0 => by simp only [sumK]; rw [if_neg (by omega)]
  | n + 1 => by
    simp only [sumK, sumK_ind v x n]
    by_cases h : v = (n : Int)
    · rw [if_pos h, if_neg (by omega), if_pos (by omega)]; omega
    · by_cases h2 : 0 ≤ v ∧ v < n
      · rw [if_neg h, if_pos h2, if_pos (by omega)]; omega
      · rw [if_neg h, if_neg h2, if_neg (by omega)]; omega

/-- the value by the row r of the goods, of the first c, that somebody gets -/
def someTo (a r : List Int) : Nat → Int
  | 0 => 0
  | c + 1 => someTo a r c + if 0 ≤ a.getD c 0 then r.getD c 0 else 0

theorem sumK_worth {a r : List Int} {n : Nat} : ∀ {c : Nat}, (∀ j, j < c → a.getD j 0 < n) → sumK (fun k : Nat => worth a r k c) n = someTo a r c
  | 0, _ => by simp only [worth, someTo]; exact sumK_zero n
  | c + 1, h => by
    simp only [worth, someTo]
    rw [sumK_add, sumK_worth (fun j hj => h j (by omega)), sumK_ind]
    have := h c (by omega)
    by_cases h0 : 0 ≤ a.getD c 0
    · rw [if_pos h0, if_pos ⟨h0, this⟩]
    · rw [if_neg h0, if_neg (by omega)]

theorem someTo_all {a r : List Int} : ∀ {c : Nat}, (∀ j, j < c → 0 ≤ a.getD j 0) → someTo a r c = sumTo r c
  | 0, _ => rfl
  | c + 1, h => by simp only [someTo, sumTo]; rw [someTo_all (fun j hj => h j (by omega)), if_pos (h c (by omega))]

theorem someTo_bd {a r : List Int} (h : ∀ j, 0 ≤ r.getD j 0 ∧ r.getD j 0 ≤ 1000) : ∀ c : Nat, 0 ≤ someTo a r c ∧ someTo a r c ≤ 1000 * c
  | 0 => by simp [someTo]
  | c + 1 => by have := someTo_bd (a := a) h c; have := h c; simp only [someTo]; split <;> omega

/-- The bundles' values of a valid allocation. -/
theorem sum_wth {rr : List (List Int)} {a : List Int} (h : vld rr a = 0) (i : Nat) : sumK (fun k : Nat => wth rr a i k) rr.length = someTo a (rr.getD i []) a.length := by
  have hal := al_of_vld h
  exact sumK_worth (fun j hj => (hal.rng j (by rw [← hal.len]; exact hj)).2)

theorem sum_wth_all {rr : List (List Int)} {a : List Int} (h : vld rr a = 0) (hc : ∀ k, k < a.length → 0 ≤ a.getD k 0) {i : Nat} (hi : i < rr.length) : sumK (fun k : Nat => wth rr a i k) rr.length = allv rr i := by
  have hal := al_of_vld h
  rw [sum_wth h, someTo_all hc, allv, hal.row i hi, hal.len]

/-! ### members -/
theorem mem_envRow {f : Nat → Int} {i : Nat} {p : Int × Int} : ∀ {c : Nat}, p ∈ envRow f i c ↔ ∃ k, k < c ∧ f i < f k ∧ p = ((i : Int), (k : Int))
  | 0 => by simp [envRow]
  | c + 1 => by
    simp only [envRow, List.mem_append, mem_envRow (c := c)]
    constructor
    · rintro (⟨k, h1, h2, h3⟩ | h)
      · exact ⟨k, by omega, h2, h3⟩
      · split at h
        · simp at h; exact ⟨c, by omega, by assumption, h⟩
        · simp at h
    · rintro ⟨k, h1, h2, h3⟩
      by_cases e : k = c
      · subst e; right; rw [if_pos h2, h3]; simp
      · left; exact ⟨k, by omega, h2, h3⟩
theorem mem_envTo {f : Nat → Nat → Int} {n : Nat} {p : Int × Int} : ∀ {c : Nat}, p ∈ envTo f n c ↔ ∃ i k, i < c ∧ k < n ∧ f i i < f i k ∧ p = ((i : Int), (k : Int))
  | 0 => by simp [envTo]
  | c + 1 => by
    simp only [envTo, List.mem_append, mem_envTo (c := c), mem_envRow]
    constructor
    · rintro (⟨i, k, h1, h2, h3, h4⟩ | ⟨k, h1, h2, h3⟩)
      · exact ⟨i, k, by omega, h2, h3, h4⟩
      · exact ⟨c, k, by omega, h1, h2, h3⟩
    · rintro ⟨i, k, h1, h2, h3, h4⟩
      by_cases e : i = c
      · subst e; right; exact ⟨k, h2, h3, h4⟩
      · left; exact ⟨i, k, by omega, h2, h3, h4⟩
theorem mem_filt {p : Nat → Bool} {x : Int} : ∀ {c : Nat}, x ∈ filt p c ↔ ∃ i, i < c ∧ p i = true ∧ x = (i : Int)
  | 0 => by simp [filt]
  | c + 1 => by
    simp only [filt, List.mem_append, mem_filt (c := c)]
    constructor
    · rintro (⟨i, h1, h2, h3⟩ | h)
      · exact ⟨i, by omega, h2, h3⟩
      · split at h
        · simp at h; exact ⟨c, by omega, by assumption, h⟩
        · simp at h
    · rintro ⟨i, h1, h2, h3⟩
      by_cases e : i = c
      · subst e; right; rw [if_pos h2, h3]; simp
      · left; exact ⟨i, by omega, h2, h3⟩

/-- Who is poor in a complete allocation envies somebody. -/
theorem poor_envies {rr : List (List Int)} {a : List Int} (h : vld rr a = 0) (hc : ∀ k, k < a.length → 0 ≤ a.getD k 0) {i : Nat} (hi : i < rr.length) (hp : isPoor rr a i = true) : ∃ k, k < rr.length ∧ wth rr a i i < wth rr a i k := by
  apply Classical.byContradiction
  intro hn
  have hle : ∀ k, k < rr.length → wth rr a i k ≤ wth rr a i i := fun k hk => by
    apply Classical.byContradiction; intro e; exact hn ⟨k, hk, by omega⟩
  have h1 := sumK_le (f := fun k : Nat => wth rr a i k) (g := fun _ => wth rr a i i) hle
  rw [sum_wth_all h hc hi, sumK_const] at h1
  simp only [isPoor, decide_eq_true_eq] at hp
  omega

theorem poor_found {rr : List (List Int)} {a : List Int} (h : vld rr a = 0) (hc : ∀ k, k < a.length → 0 ≤ a.getD k 0) {x : Int} (hx : x ∈ poor rr a) : ∃ y, (x, y) ∈ envs rr a := by
  obtain ⟨i, hi, hp, rfl⟩ := mem_filt.1 hx
  obtain ⟨k, hk, hl⟩ := poor_envies h hc hi hp
  exact ⟨(k : Int), mem_envTo.2 ⟨i, k, hi, hk, hl, rfl⟩⟩

/-- Two agents: who is not poor envies nobody. -/
theorem two_fair {rr : List (List Int)} {a : List Int} (h : vld rr a = 0) (hc : ∀ k, k < a.length → 0 ≤ a.getD k 0) (h2 : rr.length = 2) (hp : poor rr a = []) : envs rr a = [] := by
  apply List.eq_nil_iff_forall_not_mem.2
  intro p hpm
  obtain ⟨i, k, hi, hk, hl, rfl⟩ := mem_envTo.1 hpm
  have hnp : ¬ isPoor rr a i = true := fun hh => by
    have : (i : Int) ∈ poor rr a := mem_filt.2 ⟨i, hi, hh, rfl⟩
    rw [hp] at this; simp at this
  simp only [isPoor, decide_eq_true_eq] at hnp
  have hs := sum_wth_all h hc hi
  rw [h2] at hs hnp
  simp only [sumK] at hs
  have hi' : i = 0 ∨ i = 1 := by omega
  have hk' : k = 0 ∨ k = 1 := by omega
  rcases hi' with rfl | rfl <;> rcases hk' with rfl | rfl <;> simp at hs hnp hl ⊢ <;> omega

/-! ### places in the lists -/
theorem envRow_pre {f : Nat → Int} {i c : Nat} : ∀ {d : Nat}, c ≤ d → envRow f i c <+: envRow f i d
  | 0, h => by rw [Nat.le_zero.1 h]; exact List.prefix_refl _
  | d + 1, h => by
    by_cases e : c = d + 1
    · rw [e]; exact List.prefix_refl _
    · exact (envRow_pre (d := d) (by omega)).trans (by simp only [envRow]; exact List.prefix_append _ _)
theorem envTo_pre {f : Nat → Nat → Int} {n c : Nat} : ∀ {d : Nat}, c ≤ d → envTo f n c <+: envTo f n d
  | 0, h => by rw [Nat.le_zero.1 h]; exact List.prefix_refl _
  | d + 1, h => by
    by_cases e : c = d + 1
    · rw [e]; exact List.prefix_refl _
    · exact (envTo_pre (d := d) (by omega)).trans (by simp only [envTo]; exact List.prefix_append _ _)
theorem filt_pre {p : Nat → Bool} {c : Nat} : ∀ {d : Nat}, c ≤ d → filt p c <+: filt p d
  | 0, h => by rw [Nat.le_zero.1 h]; exact List.prefix_refl _
  | d + 1, h => by
    by_cases e : c = d + 1
    · rw [e]; exact List.prefix_refl _
    · exact (filt_pre (d := d) (by omega)).trans (by simp only [filt]; exact List.prefix_append _ _)
theorem pre_get {α : Type} {l m : List α} {x d : α} (h : l ++ [x] <+: m) : l.length < m.length ∧ m.getD l.length d = x := by
  obtain ⟨t, rfl⟩ := h
  constructor
  · simp
  · simp [List.getD]
theorem env_at {f : Nat → Nat → Int} {n c k : Nat} (hc : c < n) (hk : k < n) (hl : f c c < f c k) :
    (envTo f n c ++ envRow (f c) c k).length < (envTo f n n).length ∧ (envTo f n n).getD (envTo f n c ++ envRow (f c) c k).length (0, 0) = ((c : Int), (k : Int)) := by
  apply pre_get
  have h1 : envTo f n c ++ envRow (f c) c (k + 1) <+: envTo f n (c + 1) := by
    simp only [envTo]
    exact (List.prefix_append_right_inj _).2 (envRow_pre (by omega))
  have h2 : envTo f n c ++ envRow (f c) c k ++ [((c : Int), (k : Int))] = envTo f n c ++ envRow (f c) c (k + 1) := by simp only [envRow, if_pos hl, List.append_assoc]
  rw [h2]
  exact h1.trans (envTo_pre hc)
theorem filt_at {p : Nat → Bool} {n c : Nat} (hc : c < n) (hp : p c = true) : (filt p c).length < (filt p n).length ∧ (filt p n).getD (filt p c).length 0 = (c : Int) := by
  apply pre_get
  have h2 : filt p c ++ [(c : Int)] = filt p (c + 1) := by simp only [filt, if_pos hp]
  rw [h2]
  exact filt_pre hc
theorem sumK_bd {f : Nat → Int} {X : Int} (h : ∀ k, 0 ≤ f k ∧ f k ≤ X) : ∀ n : Nat, 0 ≤ sumK f n ∧ sumK f n ≤ X * n
  | 0 => by simp [sumK]
  | n + 1 => by
    have := sumK_bd h n; have h2 := h n
    simp only [sumK]
    have e : X * ((n + 1 : Nat) : Int) = X * n + X := by rw [Int.natCast_add, Int.mul_add]; simp
    omega
end Go.Proofs.Ytkgogljfngplnaa
set_option linter.unusedVariables false
set_option linter.unusedSimpArgs false
namespace Go.Proofs.Ytkgogljfngplnaa
open Go.Eng

/-- how often j stands among the first c -/
def cntTo (o : List Int) (j : Int) : Nat → Int
  | 0 => 0
  | c + 1 => cntTo o j c + if o.getD c 0 = j then 1 else 0
/-- how many of the first c lie below n -/
def inTo (o : List Int) (n : Nat) : Nat → Int
  | 0 => 0
  | c + 1 => inTo o n c + if 0 ≤ o.getD c 0 ∧ o.getD c 0 < n then 1 else 0
theorem cntTo_bd (o : List Int) (j : Int) : ∀ c : Nat, 0 ≤ cntTo o j c ∧ cntTo o j c ≤ c
  | 0 => by simp [cntTo]
  | c + 1 => by have := cntTo_bd o j c; simp only [cntTo]; split <;> omega
theorem inTo_bd (o : List Int) (n : Nat) : ∀ c : Nat, 0 ≤ inTo o n c ∧ inTo o n c ≤ c
  | 0 => by simp [inTo]
  | c + 1 => by have := inTo_bd o n c; simp only [inTo]; split <;> omega
theorem sum_cnt (o : List Int) (n : Nat) : ∀ c : Nat, sumK (fun j : Nat => cntTo o j c) n = inTo o n c
  | 0 => by simp only [cntTo, inTo]; exact sumK_zero n
  | c + 1 => by simp only [cntTo, inTo]; rw [sumK_add, sum_cnt o n c, sumK_ind]
theorem inTo_all {o : List Int} {n : Nat} : ∀ {c : Nat}, inTo o n c = c → ∀ i, i < c → 0 ≤ o.getD i 0 ∧ o.getD i 0 < n
  | 0, _, i, hi => absurd hi (Nat.not_lt_zero _)
  | c + 1, h, i, hi => by
    have hb := inTo_bd o n c
    simp only [inTo] at h
    by_cases hc : 0 ≤ o.getD c 0 ∧ o.getD c 0 < n
    · rw [if_pos hc] at h
      by_cases e : i = c
      · subst e; exact hc
      · exact inTo_all (c := c) (by omega) i (by omega)
    · rw [if_neg hc] at h; omega
theorem cntTo_pos {o : List Int} {j : Int} : ∀ {c : Nat}, 1 ≤ cntTo o j c ↔ ∃ i, i < c ∧ o.getD i 0 = j
  | 0 => by simp [cntTo]
  | c + 1 => by
    have hb := cntTo_bd o j c
    simp only [cntTo]
    constructor
    · intro h
      by_cases e : o.getD c 0 = j
      · exact ⟨c, by omega, e⟩
      · rw [if_neg e] at h
        obtain ⟨i, hi, e2⟩ := (cntTo_pos (o := o) (j := j) (c := c)).1 (by omega)
        exact ⟨i, by omega, e2⟩
    · rintro ⟨i, hi, e⟩
      by_cases hic : i = c
      · subst hic; rw [if_pos e]; omega
      · have := (cntTo_pos (c := c)).2 ⟨i, by omega, e⟩
        split <;> omega
theorem sumK_ones {f : Nat → Int} : ∀ {n : Nat}, (∀ k, k < n → 1 ≤ f k) → (n : Int) ≤ sumK f n ∧ (sumK f n ≤ n → ∀ k, k < n → f k = 1)
  | 0, _ => ⟨by simp [sumK], fun _ k hk => absurd hk (Nat.not_lt_zero _)⟩
  | n + 1, h => by
    obtain ⟨h1, h2⟩ := sumK_ones (f := f) (n := n) (fun k hk => h k (by omega))
    have h3 := h n (by omega)
    refine ⟨by simp only [sumK]; omega, fun h4 k hk => ?_⟩
    simp only [sumK] at h4
    by_cases e : k = n
    · subst e; omega
    · exact h2 (by omega) k (by omega)

/-- An assignment of n agents. -/
def asg (o : List Int) (n : Nat) : Prop := o.length = n ∧ ∀ j : Nat, j < n → cntTo o j n = 1
theorem asg_iff {o : List Int} {n : Nat} (hl : o.length = n) : asg o n ↔ (∀ i, i < n → 0 ≤ o.getD i 0 ∧ o.getD i 0 < n) ∧ ∀ j : Nat, j < n → ∃ i, i < n ∧ o.getD i 0 = (j : Int) := by
  constructor
  · rintro ⟨_, h⟩
    have hs : sumK (fun j : Nat => cntTo o j n) n = n := by
      rw [sumK_congr (g := fun _ => (1 : Int)) h, sumK_const]; simp
    rw [sum_cnt] at hs
    exact ⟨inTo_all hs, fun j hj => cntTo_pos.1 (by rw [h j hj]; exact Int.le_refl _)⟩
  · rintro ⟨_, h2⟩
    refine ⟨hl, ?_⟩
    have h3 : ∀ k : Nat, k < n → 1 ≤ cntTo o k n := fun k hk => cntTo_pos.2 (h2 k hk)
    refine (sumK_ones (f := fun k : Nat => cntTo o k n) h3).2 ?_
    rw [sum_cnt]; exact (inTo_bd o n n).2

/-- the last place of x among the first c, or -1 -/
def lastTo (o : List Int) (x : Int) : Nat → Int
  | 0 => -1
  | c + 1 => if o.getD c 0 = x then (c : Int) else lastTo o x c
theorem lastTo_bd (o : List Int) (x : Int) : ∀ c : Nat, -1 ≤ lastTo o x c ∧ lastTo o x c < c
  | 0 => by simp [lastTo]
  | c + 1 => by have := lastTo_bd o x c; simp only [lastTo]; split <;> omega
theorem lastTo_neg {o : List Int} {x : Int} : ∀ {c : Nat}, lastTo o x c = -1 ↔ ∀ i, i < c → o.getD i 0 ≠ x
  | 0 => by simp [lastTo]
  | c + 1 => by
    simp only [lastTo]
    constructor
    · intro h i hi
      by_cases e : o.getD c 0 = x
      · rw [if_pos e] at h; omega
      · rw [if_neg e] at h
        by_cases hic : i = c
        · subst hic; exact e
        · exact (lastTo_neg (c := c)).1 h i (by omega)
    · intro h
      rw [if_neg (h c (by omega))]
      exact lastTo_neg.2 fun i hi => h i (by omega)
theorem lastTo_at {o : List Int} {x : Int} : ∀ {c : Nat}, lastTo o x c ≠ -1 → o.getD (lastTo o x c).toNat 0 = x
  | 0, h => absurd rfl h
  | c + 1, h => by
    simp only [lastTo] at h ⊢
    by_cases e : o.getD c 0 = x
    · rw [if_pos e]; simpa using e
    · rw [if_neg e] at h ⊢
      exact lastTo_at h

/-- what passing bundles gives -/
def passV (a o : List Int) : List Int := (List.range a.length).map fun k => lastTo o (a.getD k 0) o.length
open Classical in
noncomputable def passE (rr : List (List Int)) (a o : List Int) : Int := if vld rr a ≠ 0 then vld rr a else if asg o rr.length then 0 else 2
noncomputable def passR (rr : List (List Int)) (a o : List Int) : List Int := open Classical in if vld rr a = 0 ∧ asg o rr.length then passV a o else []

/-- what giving a good gives -/
def giveOk (rr : List (List Int)) (a : List Int) (good agent : Int) : Prop := 0 ≤ good ∧ good < a.length ∧ -1 ≤ agent ∧ agent < rr.length
open Classical in
noncomputable def giveE (rr : List (List Int)) (a : List Int) (good agent : Int) : Int := if vld rr a ≠ 0 then vld rr a else if giveOk rr a good agent then 0 else 2
noncomputable def giveR (rr : List (List Int)) (a : List Int) (good agent : Int) : List Int := open Classical in if vld rr a = 0 ∧ giveOk rr a good agent then a.set good.toNat agent else []
end Go.Proofs.Ytkgogljfngplnaa
set_option linter.unusedVariables false
set_option linter.unusedSimpArgs false
namespace Go.Proofs.Ytkgogljfngplnaa
open Go.Eng

theorem vld_of {rr : List (List Int)} {a b : List Int} (h : vld rr a = 0) (hl : b.length = a.length) (hr : ∀ k, k < b.length → -1 ≤ b.getD k 0 ∧ b.getD k 0 < rr.length) : vld rr b = 0 := by
  obtain ⟨h1, h2⟩ := vld_zero h
  refine vld_ok h1 ?_
  rintro (h3 | ⟨k, hk, h3⟩)
  · exact h2 (.inl (by omega))
  · have := hr k hk; omega

theorem passV_len (a o : List Int) : (passV a o).length = a.length := by simp [passV]
theorem passV_get {a o : List Int} {k : Nat} (h : k < a.length) : (passV a o).getD k 0 = lastTo o (a.getD k 0) o.length := by simp [passV, List.getD, h]
theorem vld_pass {rr : List (List Int)} {a o : List Int} (h : vld rr a = 0) (ho : asg o rr.length) : vld rr (passV a o) = 0 := by
  refine vld_of h (passV_len a o) fun k hk => ?_
  rw [passV_len] at hk
  rw [passV_get hk]
  have := lastTo_bd o (a.getD k 0) o.length
  have := ho.1
  omega

theorem cntTo_two {o : List Int} {x : Int} {i k : Nat} (hik : i < k) (hi : o.getD i 0 = x) (hk : o.getD k 0 = x) : ∀ {c : Nat}, k < c → 2 ≤ cntTo o x c
  | 0, h => absurd h (Nat.not_lt_zero _)
  | c + 1, h => by
    simp only [cntTo]
    by_cases e : k = c
    · subst e
      have := (cntTo_pos (o := o) (j := x) (c := k)).2 ⟨i, hik, hi⟩
      rw [if_pos hk]; omega
    · have := cntTo_two hik hi hk (c := c) (by omega)
      split <;> omega
/-- In an assignment every agent has one place. -/
theorem asg_inj {o : List Int} {n : Nat} (ho : asg o n) {i k : Nat} (hi : i < n) (hk : k < n) (e : o.getD i 0 = o.getD k 0) : i = k := by
  have hr := ((asg_iff ho.1).1 ho).1
  have h1 : cntTo o (o.getD k 0) n = 1 := by
    have := ho.2 (o.getD k 0).toNat (by have := hr k hk; omega)
    rwa [Int.toNat_of_nonneg (hr k hk).1] at this
  rcases Nat.lt_trichotomy i k with h | h | h
  · have := cntTo_two h e rfl hk; omega
  · exact h
  · have := cntTo_two h rfl e (x := o.getD k 0) hi; omega
theorem last_is {o : List Int} {n : Nat} (ho : asg o n) {i : Nat} (hi : i < n) : lastTo o (o.getD i 0) n = (i : Int) := by
  have hne : lastTo o (o.getD i 0) n ≠ -1 := fun h => lastTo_neg.1 h i hi rfl
  have hb := lastTo_bd o (o.getD i 0) n
  have hat := lastTo_at hne
  have := asg_inj ho (i := (lastTo o (o.getD i 0) n).toNat) (k := i) (by omega) hi hat
  omega
theorem last_in {o : List Int} {n k : Nat} (ho : asg o n) (hk : k < n) : 0 ≤ lastTo o k n ∧ lastTo o k n < n ∧ o.getD (lastTo o k n).toNat 0 = (k : Int) := by
  obtain ⟨i, hi, e⟩ := ((asg_iff ho.1).1 ho).2 k hk
  rw [← e, last_is ho hi]
  exact ⟨by omega, by omega, by simp [e]⟩

/-- the inverse order -/
def backV (o : List Int) (n : Nat) : List Int := (List.range n).map fun k : Nat => lastTo o k n
theorem backV_len (o : List Int) (n : Nat) : (backV o n).length = n := by simp [backV]
theorem backV_get {o : List Int} {n k : Nat} (h : k < n) : (backV o n).getD k 0 = lastTo o k n := by simp [backV, List.getD, h]
theorem back_asg {o : List Int} {n : Nat} (ho : asg o n) : asg (backV o n) n := by
  refine (asg_iff (backV_len o n)).2 ⟨fun i hi => ?_, fun j hj => ?_⟩
  · rw [backV_get hi]; have := last_in ho hi; exact ⟨this.1, this.2.1⟩
  · have hr := ((asg_iff ho.1).1 ho).1 j hj
    refine ⟨(o.getD j 0).toNat, by omega, ?_⟩
    rw [backV_get (by omega), Int.toNat_of_nonneg hr.1, last_is ho hj]
theorem last_back {o : List Int} {n i : Nat} (ho : asg o n) (hi : i < n) : lastTo (backV o n) i n = o.getD i 0 := by
  have hr := ((asg_iff ho.1).1 ho).1 i hi
  have h1 := last_is (back_asg ho) (i := (o.getD i 0).toNat) (by omega)
  rw [backV_get (by omega), Int.toNat_of_nonneg hr.1, last_is ho hi] at h1
  exact h1
theorem lastTo_minus {o : List Int} {n : Nat} (ho : asg o n) {x : Int} (hx : x < 0) : lastTo o x n = -1 :=
  lastTo_neg.2 fun i hi e => by have := ((asg_iff ho.1).1 ho).1 i hi; omega
theorem pass_back {rr : List (List Int)} {a o : List Int} (h : vld rr a = 0) (ho : asg o rr.length) : passV (passV a o) (backV o rr.length) = a := by
  have hal := al_of_vld h
  apply ext_getD 0
  · rw [passV_len, passV_len]
  · intro k hk
    rw [passV_len, passV_len] at hk
    rw [passV_get (by rw [passV_len]; exact hk), passV_get hk, backV_len, ho.1]
    have hr := hal.rng k (by rw [← hal.len]; exact hk)
    by_cases h0 : 0 ≤ a.getD k 0
    · obtain ⟨h1, h2, h3⟩ := last_in ho (k := (a.getD k 0).toNat) (by omega)
      rw [Int.toNat_of_nonneg h0] at h1 h2 h3
      have := last_back ho (i := (lastTo o (a.getD k 0) rr.length).toNat) (by omega)
      rw [Int.toNat_of_nonneg h1, h3] at this
      exact this
    · rw [lastTo_minus ho (by omega), lastTo_minus (back_asg ho) (by omega)]; omega

/-- Each agent has the value that the other one's bundle had for it. -/
theorem worth_pass {rr : List (List Int)} {a o r : List Int} (h : vld rr a = 0) (ho : asg o rr.length) {m : Nat} (hm : m < rr.length) : ∀ c : Nat, c ≤ a.length → worth (passV a o) r m c = worth a r (o.getD m 0) c
  | 0, _ => rfl
  | c + 1, hc => by
    have hal := al_of_vld h
    simp only [worth]
    rw [worth_pass h ho hm c (by omega), passV_get (by omega), ho.1]
    have hr := hal.rng c (by rw [← hal.len]; omega)
    have hom := ((asg_iff ho.1).1 ho).1 m hm
    by_cases e : a.getD c 0 = o.getD m 0
    · rw [if_pos e, e, last_is ho hm, if_pos rfl]
    · rw [if_neg e, if_neg]
      intro e2
      by_cases h0 : 0 ≤ a.getD c 0
      · have h3 := (last_in ho (k := (a.getD c 0).toNat) (by omega)).2.2
        rw [Int.toNat_of_nonneg h0, e2] at h3
        exact e (by simpa using h3.symm)
      · rw [lastTo_minus ho (by omega)] at e2; omega
theorem wth_pass {rr : List (List Int)} {a o : List Int} (h : vld rr a = 0) (ho : asg o rr.length) {m : Nat} (hm : m < rr.length) : wth rr (passV a o) m m = wth rr a m (o.getD m 0) := by
  unfold wth; rw [passV_len]; exact worth_pass h ho hm _ (Nat.le_refl _)

/-! ### giving -/
theorem set_get {a : List Int} {x : Int} {i k : Nat} (hi : i < a.length) : (a.set i x).getD k 0 = if k = i then x else a.getD k 0 := by
  simp only [List.getD, List.getElem?_set]
  by_cases e : k = i
  · subst e; simp [hi]
  · rw [if_neg (fun h => e h.symm), if_neg e]
theorem vld_give {rr : List (List Int)} {a : List Int} {good agent : Int} (h : vld rr a = 0) (hg : giveOk rr a good agent) : vld rr (a.set good.toNat agent) = 0 := by
  have hal := al_of_vld h
  obtain ⟨h1, h2, h3, h4⟩ := hg
  refine vld_of h (by simp) fun k hk => ?_
  rw [set_get (by omega)]
  split
  · exact ⟨h3, h4⟩
  · exact hal.rng k (by rw [← hal.len]; simpa using hk)
theorem give_back {a : List Int} {x : Int} {i : Nat} (hi : i < a.length) : (a.set i x).set i (a.getD i 0) = a := by
  rw [List.set_set]
  apply ext_getD 0
  · simp
  · intro k _
    rw [set_get hi]; split
    · rename_i e; rw [e]
    · rfl
end Go.Proofs.Ytkgogljfngplnaa
set_option linter.unusedVariables false
set_option linter.unusedSimpArgs false
namespace Go.Proofs.Ytkgogljfngplnaa
open Go.Eng

/-- lists made row by row -/
def gRow {β : Type} (h : Nat → Nat → List β) (i : Nat) : Nat → List β
  | 0 => []
  | c + 1 => gRow h i c ++ h i c
def gTo {β : Type} (h : Nat → Nat → List β) (n : Nat) : Nat → List β
  | 0 => []
  | c + 1 => gTo h n c ++ gRow h c n
theorem gRow_len {β : Type} {h : Nat → Nat → List β} {i : Nat} (h1 : ∀ k, (h i k).length ≤ 1) : ∀ c, (gRow h i c).length ≤ c
  | 0 => Nat.le_refl _
  | c + 1 => by have := gRow_len h1 c; have := h1 c; simp only [gRow, List.length_append]; omega
theorem gTo_len {β : Type} {h : Nat → Nat → List β} {n : Nat} (h1 : ∀ i k, (h i k).length ≤ 1) : ∀ c, (gTo h n c).length ≤ c * n
  | 0 => by simp [gTo]
  | c + 1 => by have := gTo_len (n := n) h1 c; have := gRow_len (h1 c) n; simp only [gTo, List.length_append, Nat.add_mul, Nat.one_mul]; omega
theorem gRow_congr {β : Type} {h g : Nat → Nat → List β} {i : Nat} : ∀ {c : Nat}, (∀ k, k < c → h i k = g i k) → gRow h i c = gRow g i c
  | 0, _ => rfl
  | c + 1, e => by simp only [gRow]; rw [gRow_congr (fun k hk => e k (by omega)), e c (by omega)]
theorem gTo_congr {β : Type} {h g : Nat → Nat → List β} {n : Nat} : ∀ {c : Nat}, (∀ i k, i < c → k < n → h i k = g i k) → gTo h n c = gTo g n c
  | 0, _ => rfl
  | c + 1, e => by simp only [gTo]; rw [gTo_congr (fun i k hi hk => e i k (by omega) hk), gRow_congr (fun k hk => e c k (by omega) hk)]
theorem mem_gRow {β : Type} {h : Nat → Nat → List β} {i : Nat} {x : β} : ∀ {c : Nat}, x ∈ gRow h i c ↔ ∃ k, k < c ∧ x ∈ h i k
  | 0 => by simp [gRow]
  | c + 1 => by
    simp only [gRow, List.mem_append, mem_gRow (c := c)]
    constructor
    · rintro (⟨k, hk, hx⟩ | hx)
      · exact ⟨k, by omega, hx⟩
      · exact ⟨c, by omega, hx⟩
    · rintro ⟨k, hk, hx⟩
      by_cases e : k = c
      · subst e; exact .inr hx
      · exact .inl ⟨k, by omega, hx⟩
theorem mem_gTo {β : Type} {h : Nat → Nat → List β} {n : Nat} {x : β} : ∀ {c : Nat}, x ∈ gTo h n c ↔ ∃ i k, i < c ∧ k < n ∧ x ∈ h i k
  | 0 => by simp [gTo]
  | c + 1 => by
    simp only [gTo, List.mem_append, mem_gTo (c := c), mem_gRow]
    constructor
    · rintro (⟨i, k, hi, hk, hx⟩ | ⟨k, hk, hx⟩)
      · exact ⟨i, k, by omega, hk, hx⟩
      · exact ⟨c, k, by omega, hk, hx⟩
    · rintro ⟨i, k, hi, hk, hx⟩
      by_cases e : i = c
      · subst e; exact .inr ⟨k, hk, hx⟩
      · exact .inl ⟨i, k, by omega, hk, hx⟩

/-- A list over who envies whom. -/
theorem flat_envRow {β : Type} {f : Nat → Int} {i : Nat} {g : Int → Int → List β} : ∀ c : Nat, (envRow f i c).flatMap (fun p => g p.1 p.2) = gRow (fun (i k : Nat) => if f i < f k then g i k else []) i c
  | 0 => rfl
  | c + 1 => by
    simp only [envRow, gRow, List.flatMap_append, flat_envRow c]
    congr 1
    split <;> simp
theorem flat_envTo {β : Type} {f : Nat → Nat → Int} {n : Nat} {g : Int → Int → List β} : ∀ c : Nat, (envTo f n c).flatMap (fun p => g p.1 p.2) = gTo (fun (i k : Nat) => if f i i < f i k then g i k else []) n c
  | 0 => rfl
  | c + 1 => by
    simp only [envTo, gTo, List.flatMap_append, flat_envTo c, flat_envRow]
    congr 1
    exact gRow_congr fun k _ => rfl

/-- by how much agent k's bundle is worth more for agent i -/
def moreV (rr : List (List Int)) (a : List Int) (i k : Nat) : Int := wth rr a i k - wth rr a i i
/-- the first good of agent k's bundle whose value for agent i is at least x, or is not -/
def firstG (rr : List (List Int)) (a : List Int) (i k x : Int) (b : Bool) : Int := firstFrom (fun j => decide (a.getD j 0 = k) && (decide (x ≤ val rr i.toNat j) == b)) a.length 0
theorem firstG_bd (rr : List (List Int)) (a : List Int) (i k x : Int) (b : Bool) : -1 ≤ firstG rr a i k x b ∧ firstG rr a i k x b < a.length := by
  rcases firstFrom_spec (fun j => decide (a.getD j 0 = k) && (decide (x ≤ val rr i.toNat j) == b)) a.length 0 with ⟨j, _, h2, _, h4, _⟩ | ⟨h, _⟩
  · unfold firstG; rw [h4]; omega
  · unfold firstG; rw [h]; omega

/-- all envy -/
def evs (rr : List (List Int)) (a : List Int) : List T3 := (envs rr a).map fun p => (p.1, p.2, moreV rr a p.1.toNat p.2.toNat)
noncomputable def evsR (rr : List (List Int)) (a : List Int) : List T3 := if vld rr a = 0 then evs rr a else []
def markOf (rr : List (List Int)) (a : List Int) (b : Bool) (x : T3) : List T3 := if 0 ≤ firstG rr a x.1 x.2.1 x.2.2 b then [(x.1, x.2.1, firstG rr a x.1 x.2.1 x.2.2 b)] else []
def missOf (rr : List (List Int)) (a : List Int) (x : T3) : List (Int × Int) := if 0 ≤ firstG rr a x.1 x.2.1 x.2.2 true then [] else [(x.1, x.2.1)]
noncomputable def oneM (rr : List (List Int)) (a : List Int) : List T3 := (evsR rr a).flatMap (markOf rr a true)
noncomputable def oneX (rr : List (List Int)) (a : List Int) : List (Int × Int) := (evsR rr a).flatMap (missOf rr a)
noncomputable def anyM (rr : List (List Int)) (a : List Int) : List T3 := (evsR rr a).flatMap (markOf rr a false)

theorem evs_flat {β : Type} (rr : List (List Int)) (a : List Int) (g : T3 → List β) : (evs rr a).flatMap g = gTo (fun (i k : Nat) => if wth rr a i i < wth rr a i k then g (i, k, moreV rr a i k) else []) rr.length rr.length := by
  have h := flat_envTo (f := fun i (k : Nat) => wth rr a i k) (n := rr.length) (g := fun x y => g (x, y, moreV rr a x.toNat y.toNat)) rr.length
  unfold evs envs
  rw [List.flatMap_map]
  exact h

/-- Whether agent i does not envy agent k, if a good is left out (-1: none). -/
def content (rr : List (List Int)) (a : List Int) (i k : Nat) (good : Int) : Prop := wth rr a i k - (if 0 ≤ good ∧ a.getD good.toNat 0 = k then val rr i good.toNat else 0) ≤ wth rr a i i
end Go.Proofs.Ytkgogljfngplnaa
set_option linter.unusedVariables false
set_option linter.unusedSimpArgs false
namespace Go.Proofs.Ytkgogljfngplnaa
open Go.Eng
set_option maxRecDepth 100000

def tys : List Ty := [.no, .one, .i64, .i64, .bo, .one, .one, .st 4 [(0, none), (1, none), (2, none), (3, none)], .st 4 [(0, none), (1, none), (2, none), (3, none)], .one, .one, .one, .one, .st 2 [(0, none), (1, none)], .st 2 [(0, none), (1, none)], .one, .one, .one, .st 1 [(0, none)], .st 1 [(0, none)], .no, .one, .sl 1, .st 1 [(0, none)], .st 1 [(0, none)], .one, .one, .sl 1, .i64, .no, .one, .no, .one, .no, .one, .no, .one, .one, .one, .one, .st 3 [(0, none), (1, none), (2, none)], .st 3 [(0, none), (1, none), (2, none)], .no, .one, .no, .one, .one, .one, .one, .one, .one, .one, .one, .one, .no, .one, .no, .one, .one, .one, .one, .one, .one, .one, .one, .one, .one, .sl 3, .sl 2, .no, .one, .one, .one, .no, .st 2 [(0, none), (1, none)], .st 2 [(0, none), (1, none)], .one, .one, .no, .one, .one, .one, .one, .one, .one, .st 7 [(0, none), (1, none), (2, none), (3, none), (4, some 3)], .st 7 [(0, none), (1, none), (2, none), (3, none), (4, some 3)], .one, .one, .one, .one, .one, .st 3 [(0, none), (1, none), (2, none)], .st 3 [(0, none), (1, none), (2, none)], .one, .sl 3, .no, .one, .st 3 [(0, none), (1, none), (2, none)], .st 3 [(0, none), (1, none), (2, none)], .one, .st 3 [(0, none), (1, none), (2, none)], .st 3 [(0, none), (1, none), (2, none)], .ar 2 2 1, .one, .one, .one, .one, .one, .one, .one, .one, .no, .one, .one, .one, .ar 6 6 1, .one, .one, .st 4 [(0, none), (1, none), (2, none), (3, none)], .st 4 [(0, none), (1, none), (2, none), (3, none)], .no, .no, .no, .one, .one, .one, .one, .one, .one, .one, .one, .st 11 [(0, none), (1, none), (2, none), (3, none), (4, none), (5, none), (6, none), (7, none), (8, none), (9, none), (10, none)], .st 11 [(0, none), (1, none), (2, none), (3, none), (4, none), (5, none), (6, none), (7, none), (8, none), (9, none), (10, none)], .no]
theorem tyOk : TyOk Try.prog tys := ⟨by kernel_rfl, by kernel_rfl⟩

theorem worth_pc {w : World} {gv av : Value} {vs : List Value} {rr : List (List Int)} {a : List Int} {i : Nat} {k : Int} (Hg : Mat w gv vs rr) (Ha : Ints w av a) (hi : i < rr.length) (hr : a.length ≤ (rr.getD i []).length)
    (hb : ∀ i j, 0 ≤ val rr i j ∧ val rr i j ≤ 1000) (ha : a.length ≤ 10) :
    PC Try.prog 53 [.agg #[gv], av, .int .i64 (i : Int), .int .i64 k] w (.int .i64 (wth rr a i k)) := by
  refine PC.mk tyOk Try.func53 rfl (by kernel_rfl) fun w1 E1 => ?_
  replace Hg := Hg.ext E1
  replace Ha := Ha.ext E1
  refine Bx.agg fun b w2 E2 _ Hb _ => ?_
  replace Hg := Hg.ext E2
  replace Ha := Ha.ext E2
  refine Lp.mk tyOk [false, false, false, false, false, false, false, false, false, true, true, true, true, true, true, true, true, true, true, true, true, true, true, true, true, true, true, true, true, true, true, true, true] (fun m fr wr => getK fr 9 fun s => getK fr 10 fun j => ∃ c : Nat, c ≤ a.length ∧ m = a.length - c ∧ s = .int .i64 (worth a (rr.getD i []) k c) ∧ j = .int .i64 (c : Int) ∧ wr = w2) a.length ?_ ?_
  · exact ⟨0, Nat.zero_le _, rfl, rfl, rfl, rfl⟩
  · intro m w3 u9 u10 u11 u12 u13 u14 u15 u16 u17 u18 u19 u20 u21 u22 u23 u24 u25 u26 u27 u28 u29 u30 u31 u32 hR
    obtain ⟨c, hc, rfl, rfl, rfl, rfl⟩ := hR
    have hbd := worth_bd (a := a) (k := k) (hb i) c
    have hbc := hb i c
    unfold val at hbc
    repeat' (conv => whnf
             first
             | (refine Dr.quiet tyOk (by kernel_rfl) ?_)
             | (refine Rng.mk (by omega) ?_)
             | (refine Split.pos (by omega) ?_)
             | (refine Split.neg (by omega) ?_)
             | (refine Split.mk (fun h => ?_) (fun h => ?_))
             | (refine Need.mk (by omega) ?_)
             | (refine Ints.ln (by assumption) ?_)
             | (refine Mat.ln (by assumption) ?_)
             | (refine Ints.ln (Mat.row (by assumption) _ (by omega)) ?_)
             | (refine Ints.ix (by assumption) (by omega) ?_)
             | (refine Mat.ix (by assumption) (by omega) ?_)
             | (refine Ints.ix (Mat.row (by assumption) _ (by omega)) (by omega) ?_)
             | (refine Ints.ix (c := 0) (by assumption) (by omega) ?_)
             | (refine Mat.ix (c := 0) (by assumption) (by omega) ?_)
             | (refine Ints.ix (c := 0) (Mat.row (by assumption) _ (by omega)) (by omega) ?_)
             | (refine Ints.ixI (by assumption) (by omega) ?_)
             | (refine Mat.ixI (by assumption) (by omega) ?_)
             | (refine Ints.ixI (Mat.row (by assumption) _ (by omega)) (by omega) ?_)
             | (refine Ints.ld (by assumption) (by omega) ?_)
             | (refine Mat.ld (by assumption) (by omega) ?_)
             | (refine Ints.ld (Mat.row (by assumption) _ (by omega)) (by omega) ?_)
             | (refine At.ld (by assumption) rfl ?_)
             | (refine At.ldN (by assumption) rfl ?_))
    · refine ⟨_, (by omega : a.length - (c + 1) < a.length - c), rfl, c + 1, by omega, rfl, ?_, rfl, rfl⟩
      simp only [worth, if_pos ‹a.getD c 0 = k›]
    · refine ⟨_, (by omega : a.length - (c + 1) < a.length - c), rfl, c + 1, by omega, rfl, ?_, rfl, rfl⟩
      simp only [worth, if_neg ‹¬ a.getD c 0 = k›, Int.add_zero]
    · obtain rfl : c = a.length := by omega
      exact ⟨rfl, E2⟩

theorem rcheck_pc {w : World} {gv : Value} {vs : List Value} {rr : List (List Int)} (Hg : Mat w gv vs rr) :
    PC Try.prog 45 [.agg #[gv]] w (.int .i64 (chk rr)) := by
  refine PC.mk tyOk Try.func45 rfl (by kernel_rfl) fun w1 E1 => ?_
  replace Hg := Hg.ext E1
  have hle := Hg.top.le
  refine Bx.agg fun b w2 E2 _ Hb _ => ?_
  replace Hg := Hg.ext E2
  repeat' (conv => whnf
           first
           | (refine Dr.quiet tyOk (by kernel_rfl) ?_)
           | (refine Rng.mk (by omega) ?_)
           | (refine Split.pos (by omega) ?_)
           | (refine Split.neg (by omega) ?_)
           | (refine Split.mk (fun h => ?_) (fun h => ?_))
           | (refine Need.mk (by omega) ?_)
           | (refine Ints.ln (by assumption) ?_)
           | (refine Mat.ln (by assumption) ?_)
           | (refine Ints.ln (Mat.row (by assumption) _ (by omega)) ?_)
           | (refine Ints.ix (by assumption) (by omega) ?_)
           | (refine Mat.ix (by assumption) (by omega) ?_)
           | (refine Ints.ix (Mat.row (by assumption) _ (by omega)) (by omega) ?_)
           | (refine Ints.ix (c := 0) (by assumption) (by omega) ?_)
           | (refine Mat.ix (c := 0) (by assumption) (by omega) ?_)
           | (refine Ints.ix (c := 0) (Mat.row (by assumption) _ (by omega)) (by omega) ?_)
           | (refine Ints.ixI (by assumption) (by omega) ?_)
           | (refine Mat.ixI (by assumption) (by omega) ?_)
           | (refine Ints.ixI (Mat.row (by assumption) _ (by omega)) (by omega) ?_)
           | (refine Ints.ld (by assumption) (by omega) ?_)
           | (refine Mat.ld (by assumption) (by omega) ?_)
           | (refine Ints.ld (Mat.row (by assumption) _ (by omega)) (by omega) ?_)
           | (refine At.ld (by assumption) rfl ?_)
           | (refine At.ldN (by assumption) rfl ?_))
  · rw [chk_big (.inl (by omega))]; exact ⟨rfl, E2⟩
  refine Lp.mk tyOk [false, false, true, false, true, false, false, false, false, false, false, false, true, true, true, true, true, true, true, true, true, true, true, true] (fun m fr wr => getK fr 4 fun j => ∃ c : Nat, c ≤ rr.length ∧ m = rr.length - c ∧ j = .int .i64 (c : Int) ∧ (∀ i, i < c → (rr.getD i []).length ≤ 10) ∧ wr = w2) rr.length ?_ ?_
  · exact ⟨0, Nat.zero_le _, rfl, rfl, fun i hi => absurd hi (Nat.not_lt_zero _), rfl⟩
  · intro m w3 u2 u4 u12 u13 u14 u15 u16 u17 u18 u19 u20 u21 u22 u23 hR
    obtain ⟨c, hc, rfl, rfl, hlt, rfl⟩ := hR
    repeat' (conv => whnf
             first
             | (refine Dr.quiet tyOk (by kernel_rfl) ?_)
             | (refine Rng.mk (by omega) ?_)
             | (refine Split.pos (by omega) ?_)
             | (refine Split.neg (by omega) ?_)
             | (refine Split.mk (fun h => ?_) (fun h => ?_))
             | (refine Need.mk (by omega) ?_)
             | (refine Ints.ln (by assumption) ?_)
             | (refine Mat.ln (by assumption) ?_)
             | (refine Ints.ln (Mat.row (by assumption) _ (by omega)) ?_)
             | (refine Ints.ix (by assumption) (by omega) ?_)
             | (refine Mat.ix (by assumption) (by omega) ?_)
             | (refine Ints.ix (Mat.row (by assumption) _ (by omega)) (by omega) ?_)
             | (refine Ints.ix (c := 0) (by assumption) (by omega) ?_)
             | (refine Mat.ix (c := 0) (by assumption) (by omega) ?_)
             | (refine Ints.ix (c := 0) (Mat.row (by assumption) _ (by omega)) (by omega) ?_)
             | (refine Ints.ixI (by assumption) (by omega) ?_)
             | (refine Mat.ixI (by assumption) (by omega) ?_)
             | (refine Ints.ixI (Mat.row (by assumption) _ (by omega)) (by omega) ?_)
             | (refine Ints.ld (by assumption) (by omega) ?_)
             | (refine Mat.ld (by assumption) (by omega) ?_)
             | (refine Ints.ld (Mat.row (by assumption) _ (by omega)) (by omega) ?_)
             | (refine At.ld (by assumption) rfl ?_)
             | (refine At.ldN (by assumption) rfl ?_))
    · rw [chk_big (.inr ⟨c, by omega, by omega⟩)]; exact ⟨rfl, E2⟩
    · refine ⟨_, (by omega : rr.length - (c + 1) < rr.length - c), rfl, c + 1, by omega, rfl, rfl, fun i hi => ?_, rfl⟩
      by_cases e : i = c
      · subst e; omega
      · exact hlt i (by omega)
    · have hnb : ¬ bigP rr := by
        rintro (h1 | ⟨i, hi, h1⟩)
        · omega
        · have := hlt i (by omega); omega
      refine Lp.mk tyOk [false, false, true, false, false, true, true, false, false, false, false, false, false, false, false, false, false, false, false, false, false, false, false, false, true, true, true, true, true, true, true, true, true, true, true, true, true, true, true, true, true, true, true, true, true, true, true, true, true, true, true, true, true, true, true, true, true, true, true, true, true, true, true, true, true, true, true, true, true, true, true] (fun m fr wr => getK fr 5 fun j => ∃ c : Nat, c ≤ rr.length ∧ m = rr.length - c ∧ j = .int .i64 (c : Int) ∧ (∀ i, i < c → (rr.getD i []).length = (rr.getD 0 []).length ∧ ∀ j, j < (rr.getD i []).length → 0 ≤ val rr i j ∧ val rr i j ≤ 1000) ∧ wr = w3) rr.length ?_ ?_
      · exact ⟨0, Nat.zero_le _, rfl, rfl, fun i hi => absurd hi (Nat.not_lt_zero _), rfl⟩
      · intro m w4 u2 u5 u6 u24 u25 u26 u27 u28 u29 u30 u31 u32 u33 u34 u35 u36 u37 u38 u39 u40 u41 u42 u43 u44 u45 u46 u47 u48 u49 u50 u51 u52 u53 u54 u55 u56 u57 u58 u59 u60 u61 u62 u63 u64 u65 u66 u67 u68 u69 u70 hR
        obtain ⟨c2, hc2, rfl, rfl, hok, rfl⟩ := hR
        repeat' (conv => whnf
                 first
                 | (refine Dr.quiet tyOk (by kernel_rfl) ?_)
                 | (refine Rng.mk (by omega) ?_)
                 | (refine Split.pos (by omega) ?_)
                 | (refine Split.neg (by omega) ?_)
                 | (refine Split.mk (fun h => ?_) (fun h => ?_))
                 | (refine Need.mk (by omega) ?_)
                 | (refine Ints.ln (by assumption) ?_)
                 | (refine Mat.ln (by assumption) ?_)
                 | (refine Ints.ln (Mat.row (by assumption) _ (by omega)) ?_)
                 | (refine Ints.ix (by assumption) (by omega) ?_)
                 | (refine Mat.ix (by assumption) (by omega) ?_)
                 | (refine Ints.ix (Mat.row (by assumption) _ (by omega)) (by omega) ?_)
                 | (refine Ints.ix (c := 0) (by assumption) (by omega) ?_)
                 | (refine Mat.ix (c := 0) (by assumption) (by omega) ?_)
                 | (refine Ints.ix (c := 0) (Mat.row (by assumption) _ (by omega)) (by omega) ?_)
                 | (refine Ints.ixI (by assumption) (by omega) ?_)
                 | (refine Mat.ixI (by assumption) (by omega) ?_)
                 | (refine Ints.ixI (Mat.row (by assumption) _ (by omega)) (by omega) ?_)
                 | (refine Ints.ld (by assumption) (by omega) ?_)
                 | (refine Mat.ld (by assumption) (by omega) ?_)
                 | (refine Ints.ld (Mat.row (by assumption) _ (by omega)) (by omega) ?_)
                 | (refine At.ld (by assumption) rfl ?_)
                 | (refine At.ldN (by assumption) rfl ?_))
        · have hI := (Hg.row c2 (by omega)).le
          refine Lp.mk tyOk [false, false, true, false, false, false, true, false, false, false, false, false, false, false, false, false, false, false, false, false, false, false, false, false, false, false, false, false, false, false, false, false, false, false, false, false, false, false, false, false, false, true, true, true, true, true, true, true, true, true, true, true, true, true, true, true, true, true, true, true, true, true, true, true, true, true, true, true, true, true, true] (fun m fr wr => getK fr 6 fun j => ∃ c3 : Nat, c3 ≤ (rr.getD c2 []).length ∧ m = (rr.getD c2 []).length - c3 ∧ j = .int .i64 (c3 : Int) ∧ (∀ j, j < c3 → 0 ≤ val rr c2 j ∧ val rr c2 j ≤ 1000) ∧ wr = w4) (rr.getD c2 []).length ?_ ?_
          · exact ⟨0, Nat.zero_le _, rfl, rfl, fun i hi => absurd hi (Nat.not_lt_zero _), rfl⟩
          · intro m w5 u2 u6 u41 u42 u43 u44 u45 u46 u47 u48 u49 u50 u51 u52 u53 u54 u55 u56 u57 u58 u59 u60 u61 u62 u63 u64 u65 u66 u67 u68 u69 u70 hR
            obtain ⟨c3, hc3, rfl, rfl, hv, rfl⟩ := hR
            repeat' (conv => whnf
                     first
                     | (refine Dr.quiet tyOk (by kernel_rfl) ?_)
                     | (refine Rng.mk (by omega) ?_)
                     | (refine Split.pos (by omega) ?_)
                     | (refine Split.neg (by omega) ?_)
                     | (refine Split.mk (fun h => ?_) (fun h => ?_))
                     | (refine Need.mk (by omega) ?_)
                     | (refine Ints.ln (by assumption) ?_)
                     | (refine Mat.ln (by assumption) ?_)
                     | (refine Ints.ln (Mat.row (by assumption) _ (by omega)) ?_)
                     | (refine Ints.ix (by assumption) (by omega) ?_)
                     | (refine Mat.ix (by assumption) (by omega) ?_)
                     | (refine Ints.ix (Mat.row (by assumption) _ (by omega)) (by omega) ?_)
                     | (refine Ints.ix (c := 0) (by assumption) (by omega) ?_)
                     | (refine Mat.ix (c := 0) (by assumption) (by omega) ?_)
                     | (refine Ints.ix (c := 0) (Mat.row (by assumption) _ (by omega)) (by omega) ?_)
                     | (refine Ints.ixI (by assumption) (by omega) ?_)
                     | (refine Mat.ixI (by assumption) (by omega) ?_)
                     | (refine Ints.ixI (Mat.row (by assumption) _ (by omega)) (by omega) ?_)
                     | (refine Ints.ld (by assumption) (by omega) ?_)
                     | (refine Mat.ld (by assumption) (by omega) ?_)
                     | (refine Ints.ld (Mat.row (by assumption) _ (by omega)) (by omega) ?_)
                     | (refine At.ld (by assumption) rfl ?_)
                     | (refine At.ldN (by assumption) rfl ?_))
            · rw [chk_bad hnb (.inr ⟨c2, by omega, .inr ⟨c3, by omega, .inl (by unfold val; omega)⟩⟩)]; exact ⟨rfl, E2⟩
            · rw [chk_bad hnb (.inr ⟨c2, by omega, .inr ⟨c3, by omega, .inr (by unfold val; omega)⟩⟩)]; exact ⟨rfl, E2⟩
            · refine ⟨_, (by omega : (rr.getD c2 []).length - (c3 + 1) < (rr.getD c2 []).length - c3), rfl, c3 + 1, by omega, rfl, rfl, fun i hi => ?_, rfl⟩
              by_cases e : i = c3
              · subst e; unfold val; omega
              · exact hv i (by omega)
            · refine ⟨_, (by omega : rr.length - (c2 + 1) < rr.length - c2), rfl, c2 + 1, by omega, rfl, rfl, fun i hi => ?_, rfl⟩
              by_cases e : i = c2
              · subst e; exact ⟨by omega, fun j hj => hv j (by omega)⟩
              · exact hok i (by omega)
        · rw [chk_bad hnb (.inr ⟨c2, by omega, .inl (by omega)⟩)]; exact ⟨rfl, E2⟩
        · rw [chk_bad hnb (.inl (by omega))]; exact ⟨rfl, E2⟩
        · have hnb2 : ¬ badP rr := by
            rintro (h1 | ⟨i, hi, h1 | ⟨j, hj, h1⟩⟩)
            · omega
            · exact h1 (hok i (by omega)).1
            · have := (hok i (by omega)).2 j hj; omega
          rw [chk_ok hnb hnb2]; exact ⟨rfl, E2⟩

theorem rvalid_pc {w : World} {gv av : Value} {vs : List Value} {rr : List (List Int)} {a : List Int} (Hg : Mat w gv vs rr) (Ha : Ints w av a) :
    PC Try.prog 42 [.agg #[gv], av] w (.int .i64 (vld rr a)) := by
  refine PC.mk tyOk Try.func42 rfl (by kernel_rfl) fun w1 E1 => ?_
  replace Hg := Hg.ext E1
  replace Ha := Ha.ext E1
  have hle := Hg.top.le
  have hla := Ha.le
  refine Bx.agg fun b w2 E2 _ Hb _ => ?_
  replace Hg := Hg.ext E2
  replace Ha := Ha.ext E2
  by_cases hck : chk rr = 0
  · have hgd := gd_of_chk hck
    have hn1 := hgd.n1
    repeat' (conv => whnf
             first
             | (refine Dr.quiet tyOk (by kernel_rfl) ?_)
             | (refine VC.pure (rcheck_pc Hg) ?_)
             | (refine Rng.mk (by omega) ?_)
             | (refine Split.pos (by omega) ?_)
             | (refine Split.neg (by omega) ?_)
             | (refine Split.mk (fun h => ?_) (fun h => ?_))
             | (refine Need.mk (by omega) ?_)
             | (refine Ints.ln (by assumption) ?_)
             | (refine Mat.ln (by assumption) ?_)
             | (refine Ints.ln (Mat.row (by assumption) _ (by omega)) ?_)
             | (refine Ints.ix (by assumption) (by omega) ?_)
             | (refine Mat.ix (by assumption) (by omega) ?_)
             | (refine Ints.ix (Mat.row (by assumption) _ (by omega)) (by omega) ?_)
             | (refine Ints.ix (c := 0) (by assumption) (by omega) ?_)
             | (refine Mat.ix (c := 0) (by assumption) (by omega) ?_)
             | (refine Ints.ix (c := 0) (Mat.row (by assumption) _ (by omega)) (by omega) ?_)
             | (refine Ints.ixI (by assumption) (by omega) ?_)
             | (refine Mat.ixI (by assumption) (by omega) ?_)
             | (refine Ints.ixI (Mat.row (by assumption) _ (by omega)) (by omega) ?_)
             | (refine Ints.ld (by assumption) (by omega) ?_)
             | (refine Mat.ld (by assumption) (by omega) ?_)
             | (refine Ints.ld (Mat.row (by assumption) _ (by omega)) (by omega) ?_)
             | (refine At.ld (by assumption) rfl ?_)
             | (refine At.ldN (by assumption) rfl ?_))
    · refine Lp.mk tyOk [false, false, false, false, true, true, false, false, false, false, false, false, false, false, false, false, false, false, false, true, true, true, true, true, true, true, true, true, true, true, true, true, true, true, true, true, true, true, true, true] (fun m fr wr => getK fr 5 fun j => ∃ c : Nat, c ≤ a.length ∧ m = a.length - c ∧ j = .int .i64 (c : Int) ∧ (∀ i, i < c → -1 ≤ a.getD i 0 ∧ a.getD i 0 < rr.length) ∧ wr = w2) a.length ?_ ?_
      · exact ⟨0, Nat.zero_le _, rfl, rfl, fun i hi => absurd hi (Nat.not_lt_zero _), rfl⟩
      · intro m w3 u4 u5 u19 u20 u21 u22 u23 u24 u25 u26 u27 u28 u29 u30 u31 u32 u33 u34 u35 u36 u37 u38 u39 hR
        obtain ⟨c, hc, rfl, rfl, hv, rfl⟩ := hR
        repeat' (conv => whnf
                 first
                 | (refine Dr.quiet tyOk (by kernel_rfl) ?_)
                 | (refine Rng.mk (by omega) ?_)
                 | (refine Split.pos (by omega) ?_)
                 | (refine Split.neg (by omega) ?_)
                 | (refine Split.mk (fun h => ?_) (fun h => ?_))
                 | (refine Need.mk (by omega) ?_)
                 | (refine Ints.ln (by assumption) ?_)
                 | (refine Mat.ln (by assumption) ?_)
                 | (refine Ints.ln (Mat.row (by assumption) _ (by omega)) ?_)
                 | (refine Ints.ix (by assumption) (by omega) ?_)
                 | (refine Mat.ix (by assumption) (by omega) ?_)
                 | (refine Ints.ix (Mat.row (by assumption) _ (by omega)) (by omega) ?_)
                 | (refine Ints.ix (c := 0) (by assumption) (by omega) ?_)
                 | (refine Mat.ix (c := 0) (by assumption) (by omega) ?_)
                 | (refine Ints.ix (c := 0) (Mat.row (by assumption) _ (by omega)) (by omega) ?_)
                 | (refine Ints.ixI (by assumption) (by omega) ?_)
                 | (refine Mat.ixI (by assumption) (by omega) ?_)
                 | (refine Ints.ixI (Mat.row (by assumption) _ (by omega)) (by omega) ?_)
                 | (refine Ints.ld (by assumption) (by omega) ?_)
                 | (refine Mat.ld (by assumption) (by omega) ?_)
                 | (refine Ints.ld (Mat.row (by assumption) _ (by omega)) (by omega) ?_)
                 | (refine At.ld (by assumption) rfl ?_)
                 | (refine At.ldN (by assumption) rfl ?_))
        · rw [vld_bad hck (.inr ⟨c, by omega, .inl (by omega)⟩)]; exact ⟨rfl, E2⟩
        · rw [vld_bad hck (.inr ⟨c, by omega, .inr (by omega)⟩)]; exact ⟨rfl, E2⟩
        · refine ⟨_, (by omega : a.length - (c + 1) < a.length - c), rfl, c + 1, by omega, rfl, rfl, fun i hi => ?_, rfl⟩
          by_cases e : i = c
          · subst e; omega
          · exact hv i (by omega)
        · have hnb : ¬ badA rr a := by
            rintro (h1 | ⟨k, hk, h1⟩)
            · omega
            · have := hv k (by omega); omega
          rw [vld_ok hck hnb]; exact ⟨rfl, E2⟩
    · rw [vld_bad hck (.inl (by omega))]; exact ⟨rfl, E2⟩
  · repeat' (conv => whnf
             first
             | (refine Dr.quiet tyOk (by kernel_rfl) ?_)
             | (refine VC.pure (rcheck_pc Hg) ?_)
             | (refine Rng.mk (by omega) ?_)
             | (refine Split.pos (by omega) ?_)
             | (refine Split.neg (by omega) ?_)
             | (refine Split.mk (fun h => ?_) (fun h => ?_))
             | (refine Need.mk (by omega) ?_)
             | (refine Ints.ln (by assumption) ?_)
             | (refine Mat.ln (by assumption) ?_)
             | (refine Ints.ln (Mat.row (by assumption) _ (by omega)) ?_)
             | (refine Ints.ix (by assumption) (by omega) ?_)
             | (refine Mat.ix (by assumption) (by omega) ?_)
             | (refine Ints.ix (Mat.row (by assumption) _ (by omega)) (by omega) ?_)
             | (refine Ints.ix (c := 0) (by assumption) (by omega) ?_)
             | (refine Mat.ix (c := 0) (by assumption) (by omega) ?_)
             | (refine Ints.ix (c := 0) (Mat.row (by assumption) _ (by omega)) (by omega) ?_)
             | (refine Ints.ixI (by assumption) (by omega) ?_)
             | (refine Mat.ixI (by assumption) (by omega) ?_)
             | (refine Ints.ixI (Mat.row (by assumption) _ (by omega)) (by omega) ?_)
             | (refine Ints.ld (by assumption) (by omega) ?_)
             | (refine Mat.ld (by assumption) (by omega) ?_)
             | (refine Ints.ld (Mat.row (by assumption) _ (by omega)) (by omega) ?_)
             | (refine At.ld (by assumption) rfl ?_)
             | (refine At.ldN (by assumption) rfl ?_))
    rw [vld_chk hck]; exact ⟨rfl, E2⟩

theorem rall_pc {w : World} {gv : Value} {vs : List Value} {rr : List (List Int)} {i : Nat} (Hg : Mat w gv vs rr) (hi : i < rr.length) (hb : ∀ i j, 0 ≤ val rr i j ∧ val rr i j ≤ 1000) (hl : (rr.getD i []).length ≤ 10) :
    PC Try.prog 33 [.agg #[gv], .int .i64 (i : Int)] w (.int .i64 (allv rr i)) := by
  refine PC.mk tyOk Try.func33 rfl (by kernel_rfl) fun w1 E1 => ?_
  replace Hg := Hg.ext E1
  refine Bx.agg fun b w2 E2 _ Hb _ => ?_
  replace Hg := Hg.ext E2
  refine Lp.mk tyOk [false, false, false, false, false, true, true, true, true, true, true, true, true, true, true, true, true, true, true, true, true, true, true, true, true, true, true] (fun m fr wr => getK fr 5 fun s => getK fr 6 fun j => ∃ c : Nat, c ≤ (rr.getD i []).length ∧ m = (rr.getD i []).length - c ∧ s = .int .i64 (sumTo (rr.getD i []) c) ∧ j = .int .i64 (c : Int) ∧ wr = w2) (rr.getD i []).length ?_ ?_
  · exact ⟨0, Nat.zero_le _, rfl, rfl, rfl, rfl⟩
  · intro m w3 u5 u6 u7 u8 u9 u10 u11 u12 u13 u14 u15 u16 u17 u18 u19 u20 u21 u22 u23 u24 u25 u26 hR
    obtain ⟨c, hc, rfl, rfl, rfl, rfl⟩ := hR
    have hbd := sumTo_bd (hb i) c
    have hbc := hb i c
    unfold val at hbc
    repeat' (conv => whnf
             first
             | (refine Dr.quiet tyOk (by kernel_rfl) ?_)
             | (refine Rng.mk (by omega) ?_)
             | (refine Split.pos (by omega) ?_)
             | (refine Split.neg (by omega) ?_)
             | (refine Split.mk (fun h => ?_) (fun h => ?_))
             | (refine Need.mk (by omega) ?_)
             | (refine Ints.ln (by assumption) ?_)
             | (refine Mat.ln (by assumption) ?_)
             | (refine Ints.ln (Mat.row (by assumption) _ (by omega)) ?_)
             | (refine Ints.ix (by assumption) (by omega) ?_)
             | (refine Mat.ix (by assumption) (by omega) ?_)
             | (refine Ints.ix (Mat.row (by assumption) _ (by omega)) (by omega) ?_)
             | (refine Ints.ix (c := 0) (by assumption) (by omega) ?_)
             | (refine Mat.ix (c := 0) (by assumption) (by omega) ?_)
             | (refine Ints.ix (c := 0) (Mat.row (by assumption) _ (by omega)) (by omega) ?_)
             | (refine Ints.ixI (by assumption) (by omega) ?_)
             | (refine Mat.ixI (by assumption) (by omega) ?_)
             | (refine Ints.ixI (Mat.row (by assumption) _ (by omega)) (by omega) ?_)
             | (refine Ints.ld (by assumption) (by omega) ?_)
             | (refine Mat.ld (by assumption) (by omega) ?_)
             | (refine Ints.ld (Mat.row (by assumption) _ (by omega)) (by omega) ?_)
             | (refine At.ld (by assumption) rfl ?_)
             | (refine At.ldN (by assumption) rfl ?_))
    · exact ⟨_, (by omega : (rr.getD i []).length - (c + 1) < (rr.getD i []).length - c), rfl, c + 1, by omega, rfl, rfl, rfl, rfl⟩
    · obtain rfl : c = (rr.getD i []).length := by omega
      exact ⟨rfl, E2⟩

def compl (a : List Int) : Prop := ∀ k, k < a.length → 0 ≤ a.getD k 0
theorem complete_pc {w : World} {av : Value} {a : List Int} (Ha : Ints w av a) : PC Try.prog 43 [av] w (.bool (tf (compl a))) := by
  refine PC.mk tyOk Try.func43 rfl (by kernel_rfl) fun w1 E1 => ?_
  replace Ha := Ha.ext E1
  have hla := Ha.le
  refine Lp.mk tyOk [false, false, true, true, true, true, true, true, true, true, true, true, true, true, true] (fun m fr wr => getK fr 3 fun j => ∃ c : Nat, c ≤ a.length ∧ m = a.length - c ∧ j = .int .i64 (c : Int) ∧ (∀ k, k < c → 0 ≤ a.getD k 0) ∧ wr = w1) a.length ?_ ?_
  · exact ⟨0, Nat.zero_le _, rfl, rfl, fun i hi => absurd hi (Nat.not_lt_zero _), rfl⟩
  · intro m w3 u2 u3 u4 u5 u6 u7 u8 u9 u10 u11 u12 u13 u14 hR
    obtain ⟨c, hc, rfl, rfl, hv, rfl⟩ := hR
    repeat' (conv => whnf
             first
             | (refine Dr.quiet tyOk (by kernel_rfl) ?_)
             | (refine Rng.mk (by omega) ?_)
             | (refine Split.pos (by omega) ?_)
             | (refine Split.neg (by omega) ?_)
             | (refine Split.mk (fun h => ?_) (fun h => ?_))
             | (refine Need.mk (by omega) ?_)
             | (refine Ints.ln (by assumption) ?_)
             | (refine Mat.ln (by assumption) ?_)
             | (refine Ints.ln (Mat.row (by assumption) _ (by omega)) ?_)
             | (refine Ints.ix (by assumption) (by omega) ?_)
             | (refine Mat.ix (by assumption) (by omega) ?_)
             | (refine Ints.ix (Mat.row (by assumption) _ (by omega)) (by omega) ?_)
             | (refine Ints.ix (c := 0) (by assumption) (by omega) ?_)
             | (refine Mat.ix (c := 0) (by assumption) (by omega) ?_)
             | (refine Ints.ix (c := 0) (Mat.row (by assumption) _ (by omega)) (by omega) ?_)
             | (refine Ints.ixI (by assumption) (by omega) ?_)
             | (refine Mat.ixI (by assumption) (by omega) ?_)
             | (refine Ints.ixI (Mat.row (by assumption) _ (by omega)) (by omega) ?_)
             | (refine Ints.ld (by assumption) (by omega) ?_)
             | (refine Mat.ld (by assumption) (by omega) ?_)
             | (refine Ints.ld (Mat.row (by assumption) _ (by omega)) (by omega) ?_)
             | (refine At.ld (by assumption) rfl ?_)
             | (refine At.ldN (by assumption) rfl ?_))
    · rw [tf_f (p := compl a) (fun h => by have := h c (by omega); omega)]; exact ⟨rfl, Ext.refl _⟩
    · refine ⟨_, (by omega : a.length - (c + 1) < a.length - c), rfl, c + 1, by omega, rfl, rfl, fun i hi => ?_, rfl⟩
      by_cases e : i = c
      · subst e; omega
      · exact hv i (by omega)
    · rw [tf_t (p := compl a) (fun k hk => hv k (by omega))]; exact ⟨rfl, Ext.refl _⟩

def great (rr : List (List Int)) (a : List Int) : Prop := (∃ i, i < rr.length ∧ i < 20 ∧ 50 < (rr.getD i []).length) ∨ 20 < rr.length ∨ 50 < a.length
theorem great_pc {w : World} {gv av : Value} {vs : List Value} {rr : List (List Int)} {a : List Int} (Hg : Mat w gv vs rr) (Ha : Ints w av a) :
    PC Try.prog 24 [.agg #[gv], av] w (.bool (tf (great rr a))) := by
  refine PC.mk tyOk Try.func24 rfl (by kernel_rfl) fun w1 E1 => ?_
  replace Hg := Hg.ext E1
  replace Ha := Ha.ext E1
  have hle := Hg.top.le
  refine Bx.agg fun b w2 E2 _ Hb _ => ?_
  replace Hg := Hg.ext E2
  replace Ha := Ha.ext E2
  refine Lp.mk tyOk [false, false, false, false, true, true, true, true, true, true, true, true, true, true, true, true, true, true, true, true, true, true, true, true] (fun m fr wr => getK fr 5 fun j => ∃ c : Nat, c ≤ rr.length ∧ m = rr.length - c ∧ j = .int .i64 (c : Int) ∧ (∀ k, k < c → (rr.getD k []).length ≤ 50) ∧ wr = w2) rr.length ?_ ?_
  · exact ⟨0, Nat.zero_le _, rfl, rfl, fun i hi => absurd hi (Nat.not_lt_zero _), rfl⟩
  · intro m w3 u4 u5 u6 u7 u8 u9 u10 u11 u12 u13 u14 u15 u16 u17 u18 u19 u20 u21 u22 u23 hR
    obtain ⟨c, hc, rfl, rfl, hv, rfl⟩ := hR
    repeat' (conv => whnf
             first
             | (refine Dr.quiet tyOk (by kernel_rfl) ?_)
             | (refine Rng.mk (by omega) ?_)
             | (refine Split.pos (by omega) ?_)
             | (refine Split.neg (by omega) ?_)
             | (refine Split.mk (fun h => ?_) (fun h => ?_))
             | (refine Need.mk (by omega) ?_)
             | (refine Ints.ln (by assumption) ?_)
             | (refine Mat.ln (by assumption) ?_)
             | (refine Ints.ln (Mat.row (by assumption) _ (by omega)) ?_)
             | (refine Ints.ix (by assumption) (by omega) ?_)
             | (refine Mat.ix (by assumption) (by omega) ?_)
             | (refine Ints.ix (Mat.row (by assumption) _ (by omega)) (by omega) ?_)
             | (refine Ints.ix (c := 0) (by assumption) (by omega) ?_)
             | (refine Mat.ix (c := 0) (by assumption) (by omega) ?_)
             | (refine Ints.ix (c := 0) (Mat.row (by assumption) _ (by omega)) (by omega) ?_)
             | (refine Ints.ixI (by assumption) (by omega) ?_)
             | (refine Mat.ixI (by assumption) (by omega) ?_)
             | (refine Ints.ixI (Mat.row (by assumption) _ (by omega)) (by omega) ?_)
             | (refine Ints.ld (by assumption) (by omega) ?_)
             | (refine Mat.ld (by assumption) (by omega) ?_)
             | (refine Ints.ld (Mat.row (by assumption) _ (by omega)) (by omega) ?_)
             | (refine At.ld (by assumption) rfl ?_)
             | (refine At.ldN (by assumption) rfl ?_))
    · rw [tf_t (p := great rr a) (.inl ⟨c, by omega, by omega, by omega⟩)]; exact ⟨rfl, E2⟩
    · refine ⟨_, (by omega : rr.length - (c + 1) < rr.length - c), rfl, c + 1, by omega, rfl, rfl, fun i hi => ?_, rfl⟩
      by_cases e : i = c
      · subst e; omega
      · exact hv i (by omega)
    · rw [tf_t (p := great rr a) (.inr (.inl (by omega)))]; exact ⟨rfl, E2⟩
    · rw [tf_t (p := great rr a) (.inr (.inl (by omega)))]; exact ⟨rfl, E2⟩
    · rw [tf_t (p := great rr a) (.inr (.inr (by omega)))]; exact ⟨rfl, E2⟩
    · rw [tf_f (p := great rr a) (by
        rintro (⟨i, h1, h2, h3⟩ | h1 | h1)
        · have := hv i (by omega); omega
        · omega
        · omega)]; exact ⟨rfl, E2⟩
end Go.Proofs.Ytkgogljfngplnaa
set_option linter.unusedVariables false
set_option linter.unusedSimpArgs false
namespace Go.Proofs.Ytkgogljfngplnaa
open Go.Eng
set_option maxRecDepth 100000

theorem eInt : Elem Try.prog 3 (.int .i64 0) 1 8 := by unfold Elem; kernel_rfl
theorem eRow : Elem Try.prog 27 (.slice none 0 0) 1 24 := by unfold Elem; kernel_rfl
theorem ePair : Elem Try.prog 103 (.agg #[.int .i64 0, .int .i64 0]) 2 16 := by unfold Elem; kernel_rfl

/-- A row of ints, and a matrix, that the call has made. -/
abbrev OI (w : World) (v : Value) (l : List Int) : Prop := Own 0 3 1 w v l.length (l.map i64v)
theorem OI.of {B n : Nat} {w : World} {v : Value} {l : List Int} (h : Own B 3 1 w v n (l.map i64v)) : OI w v l := by
  have e : n = l.length := by have := Own.len h; simpa using this.symm
  subst e; exact Own.base h (Nat.zero_le _)
structure OM (B : Nat) (w : World) (v : Value) (vs : List Value) (rr : List (List Int)) : Prop where
  top : Own B 27 1 w v rr.length vs
  row : ∀ i, i < rr.length → OI w (vs.getD i undef) (rr.getD i [])
theorem OM.mat {B : Nat} {w : World} {v : Value} {vs : List Value} {rr : List (List Int)} (h : OM B w v vs rr) : Mat w v vs rr := ⟨h.top.sl, fun i hi => (h.row i hi).sl⟩
theorem OM.ext {B : Nat} {w w' : World} {v : Value} {vs : List Value} {rr : List (List Int)} (h : OM B w v vs rr) (hg : Ext w w') : OM B w' v vs rr := ⟨Own.ext h.top hg, fun i hi => Own.ext (h.row i hi) hg⟩
theorem OM.base {B B' : Nat} {w : World} {v : Value} {vs : List Value} {rr : List (List Int)} (h : OM B w v vs rr) (hB : B' ≤ B) : OM B' w v vs rr := ⟨Own.base h.top hB, h.row⟩
theorem OM.nil {B : Nat} {w : World} : OM B w (.slice none 0 0) [] [] := ⟨Own.nil, fun _ hi => absurd hi (Nat.not_lt_zero _)⟩
theorem OM.push {B B' : Nat} {w w' : World} {v v' x : Value} {vs : List Value} {rr : List (List Int)} {l : List Int} (h : OM B w v vs rr) (hr : OI w x l) (hg : Gr (fun k => v.ownBlock = some k) w w') (ho : Own B' 27 1 w' v' (rr.length + 1) (vs ++ [x])) :
    OM B' w' v' (vs ++ [x]) (rr ++ [l]) := by
  have hl : vs.length = rr.length := by have := h.top.len; omega
  refine ⟨by simpa using ho, fun i hi => ?_⟩
  have keep : ∀ {y : Value} {m : List Int}, OI w y m → OI w' y m := fun {y m} hy => Own.gr hy hg fun k hk hk' => Own.ne hy h.top (by decide) k hk hk'
  by_cases e : i < rr.length
  · have := keep (h.row i e)
    simpa [List.getD, List.getElem?_append_left, hl, e] using this
  · have e2 : i = rr.length := by simp at hi; omega
    subst e2
    have := keep hr
    simpa [List.getD, hl] using this

theorem same_pc {w : World} {av bv : Value} {a b : List Int} (Ha : Ints w av a) (Hb : Ints w bv b) : PC Try.prog 22 [av, bv] w (.bool (tf (a = b))) := by
  refine PC.mk tyOk Try.func22 rfl (by kernel_rfl) fun w1 E1 => ?_
  replace Ha := Ha.ext E1
  replace Hb := Hb.ext E1
  have hla := Ha.le
  repeat' (conv => whnf
           first
           | (refine Dr.quiet tyOk (by kernel_rfl) ?_)
           | (refine Rng.mk (by omega) ?_)
           | (refine Split.pos (by omega) ?_)
           | (refine Split.neg (by omega) ?_)
           | (refine Split.mk (fun h => ?_) (fun h => ?_))
           | (refine Need.mk (by omega) ?_)
           | (refine Ints.ln (by assumption) ?_)
           | (refine Mat.ln (by assumption) ?_)
           | (refine Ints.ln (Mat.row (by assumption) _ (by omega)) ?_)
           | (refine Ints.ix (by assumption) (by omega) ?_)
           | (refine Mat.ix (by assumption) (by omega) ?_)
           | (refine Ints.ix (Mat.row (by assumption) _ (by omega)) (by omega) ?_)
           | (refine Ints.ix (c := 0) (by assumption) (by omega) ?_)
           | (refine Mat.ix (c := 0) (by assumption) (by omega) ?_)
           | (refine Ints.ix (c := 0) (Mat.row (by assumption) _ (by omega)) (by omega) ?_)
           | (refine Ints.ixI (by assumption) (by omega) ?_)
           | (refine Mat.ixI (by assumption) (by omega) ?_)
           | (refine Ints.ixI (Mat.row (by assumption) _ (by omega)) (by omega) ?_)
           | (refine Ints.ld (by assumption) (by omega) ?_)
           | (refine Mat.ld (by assumption) (by omega) ?_)
           | (refine Ints.ld (Mat.row (by assumption) _ (by omega)) (by omega) ?_)
           | (refine At.ld (by assumption) rfl ?_)
           | (refine At.ldN (by assumption) rfl ?_))
  · refine Lp.mk tyOk [false, false, false, false, true, true, false, false, false, false, false, true, true, true, true, true, true, true, true, true, true, true, true, true, true, true] (fun m fr wr => getK fr 5 fun j => ∃ c : Nat, c ≤ a.length ∧ m = a.length - c ∧ j = .int .i64 (c : Int) ∧ (∀ k, k < c → a.getD k 0 = b.getD k 0) ∧ wr = w1) a.length ?_ ?_
    · exact ⟨0, Nat.zero_le _, rfl, rfl, fun i hi => absurd hi (Nat.not_lt_zero _), rfl⟩
    · intro m w3 u4 u5 u11 u12 u13 u14 u15 u16 u17 u18 u19 u20 u21 u22 u23 u24 u25 hR
      obtain ⟨c, hc, rfl, rfl, hv, rfl⟩ := hR
      repeat' (conv => whnf
               first
               | (refine Dr.quiet tyOk (by kernel_rfl) ?_)
               | (refine Rng.mk (by omega) ?_)
               | (refine Split.pos (by omega) ?_)
               | (refine Split.neg (by omega) ?_)
               | (refine Split.mk (fun h => ?_) (fun h => ?_))
               | (refine Need.mk (by omega) ?_)
               | (refine Ints.ln (by assumption) ?_)
               | (refine Mat.ln (by assumption) ?_)
               | (refine Ints.ln (Mat.row (by assumption) _ (by omega)) ?_)
               | (refine Ints.ix (by assumption) (by omega) ?_)
               | (refine Mat.ix (by assumption) (by omega) ?_)
               | (refine Ints.ix (Mat.row (by assumption) _ (by omega)) (by omega) ?_)
               | (refine Ints.ix (c := 0) (by assumption) (by omega) ?_)
               | (refine Mat.ix (c := 0) (by assumption) (by omega) ?_)
               | (refine Ints.ix (c := 0) (Mat.row (by assumption) _ (by omega)) (by omega) ?_)
               | (refine Ints.ixI (by assumption) (by omega) ?_)
               | (refine Mat.ixI (by assumption) (by omega) ?_)
               | (refine Ints.ixI (Mat.row (by assumption) _ (by omega)) (by omega) ?_)
               | (refine Ints.ld (by assumption) (by omega) ?_)
               | (refine Mat.ld (by assumption) (by omega) ?_)
               | (refine Ints.ld (Mat.row (by assumption) _ (by omega)) (by omega) ?_)
               | (refine At.ld (by assumption) rfl ?_)
               | (refine At.ldN (by assumption) rfl ?_))
      · refine ⟨_, (by omega : a.length - (c + 1) < a.length - c), rfl, c + 1, by omega, rfl, rfl, fun i hi => ?_, rfl⟩
        by_cases e : i = c
        · subst e; assumption
        · exact hv i (by omega)
      · rw [tf_f (p := a = b) (by rintro rfl; exact absurd rfl ‹_›)]; exact ⟨rfl, Ext.refl _⟩
      · rw [tf_t (p := a = b) (ext_getD 0 (by omega) fun i hi => hv i (by omega))]; exact ⟨rfl, Ext.refl _⟩
  · rw [tf_f (p := a = b) (by rintro rfl; omega)]; exact ⟨rfl, Ext.refl _⟩

theorem samelists_pc {w : World} {av bv : Value} {vs us : List Value} {a b : List (List Int)} (Ha : Mat w av vs a) (Hb : Mat w bv us b) : PC Try.prog 23 [av, bv] w (.bool (tf (a = b))) := by
  refine PC.mk tyOk Try.func23 rfl (by kernel_rfl) fun w1 E1 => ?_
  replace Ha := Ha.ext E1
  replace Hb := Hb.ext E1
  have hla := Ha.top.le
  repeat' (conv => whnf
           first
           | (refine Dr.quiet tyOk (by kernel_rfl) ?_)
           | (refine Rng.mk (by omega) ?_)
           | (refine Split.pos (by omega) ?_)
           | (refine Split.neg (by omega) ?_)
           | (refine Split.mk (fun h => ?_) (fun h => ?_))
           | (refine Need.mk (by omega) ?_)
           | (refine Ints.ln (by assumption) ?_)
           | (refine Mat.ln (by assumption) ?_)
           | (refine Ints.ln (Mat.row (by assumption) _ (by omega)) ?_)
           | (refine Ints.ix (by assumption) (by omega) ?_)
           | (refine Mat.ix (by assumption) (by omega) ?_)
           | (refine Ints.ix (Mat.row (by assumption) _ (by omega)) (by omega) ?_)
           | (refine Ints.ix (c := 0) (by assumption) (by omega) ?_)
           | (refine Mat.ix (c := 0) (by assumption) (by omega) ?_)
           | (refine Ints.ix (c := 0) (Mat.row (by assumption) _ (by omega)) (by omega) ?_)
           | (refine Ints.ixI (by assumption) (by omega) ?_)
           | (refine Mat.ixI (by assumption) (by omega) ?_)
           | (refine Ints.ixI (Mat.row (by assumption) _ (by omega)) (by omega) ?_)
           | (refine Ints.ld (by assumption) (by omega) ?_)
           | (refine Mat.ld (by assumption) (by omega) ?_)
           | (refine Ints.ld (Mat.row (by assumption) _ (by omega)) (by omega) ?_)
           | (refine At.ld (by assumption) rfl ?_)
           | (refine At.ldN (by assumption) rfl ?_))
  · refine Lp.mk tyOk [false, false, false, false, true, true, false, false, false, false, false, true, true, true, true, true, true, true, true, true, true, true, true, true, true, true, true] (fun m fr wr => getK fr 5 fun j => ∃ c : Nat, c ≤ a.length ∧ m = a.length - c ∧ j = .int .i64 (c : Int) ∧ (∀ k, k < c → a.getD k [] = b.getD k []) ∧ wr = w1) a.length ?_ ?_
    · exact ⟨0, Nat.zero_le _, rfl, rfl, fun i hi => absurd hi (Nat.not_lt_zero _), rfl⟩
    · intro m w3 u4 u5 u11 u12 u13 u14 u15 u16 u17 u18 u19 u20 u21 u22 u23 u24 u25 u26 hR
      obtain ⟨c, hc, rfl, rfl, hv, rfl⟩ := hR
      by_cases he : a.getD c [] = b.getD c []
      · have ht : tf (a.getD c [] = b.getD c []) = true := tf_t he
        repeat' (conv => whnf
                 first
                 | (refine Dr.quiet tyOk (by kernel_rfl) ?_)
                 | (refine VCQ.pure (ht ▸ same_pc (Ha.row c (by omega)) (Hb.row c (by omega))) ?_)
                 | (refine Rng.mk (by omega) ?_)
                 | (refine Split.pos (by omega) ?_)
                 | (refine Split.neg (by omega) ?_)
                 | (refine Split.mk (fun h => ?_) (fun h => ?_))
                 | (refine Need.mk (by omega) ?_)
                 | (refine Ints.ln (by assumption) ?_)
                 | (refine Mat.ln (by assumption) ?_)
                 | (refine Ints.ln (Mat.row (by assumption) _ (by omega)) ?_)
                 | (refine Ints.ix (by assumption) (by omega) ?_)
                 | (refine Mat.ix (by assumption) (by omega) ?_)
                 | (refine Ints.ix (Mat.row (by assumption) _ (by omega)) (by omega) ?_)
                 | (refine Ints.ix (c := 0) (by assumption) (by omega) ?_)
                 | (refine Mat.ix (c := 0) (by assumption) (by omega) ?_)
                 | (refine Ints.ix (c := 0) (Mat.row (by assumption) _ (by omega)) (by omega) ?_)
                 | (refine Ints.ixI (by assumption) (by omega) ?_)
                 | (refine Mat.ixI (by assumption) (by omega) ?_)
                 | (refine Ints.ixI (Mat.row (by assumption) _ (by omega)) (by omega) ?_)
                 | (refine Ints.ld (by assumption) (by omega) ?_)
                 | (refine Mat.ld (by assumption) (by omega) ?_)
                 | (refine Ints.ld (Mat.row (by assumption) _ (by omega)) (by omega) ?_)
                 | (refine At.ld (by assumption) rfl ?_)
                 | (refine At.ldN (by assumption) rfl ?_))
        · refine ⟨_, (by omega : a.length - (c + 1) < a.length - c), rfl, c + 1, by omega, rfl, rfl, fun i hi => ?_, rfl⟩
          by_cases e : i = c
          · subst e; assumption
          · exact hv i (by omega)
        · rw [tf_t (p := a = b) (ext_getD [] (by omega) fun i hi => hv i (by omega))]; exact ⟨rfl, Ext.refl _⟩
      · have ht : tf (a.getD c [] = b.getD c []) = false := tf_f he
        repeat' (conv => whnf
                 first
                 | (refine Dr.quiet tyOk (by kernel_rfl) ?_)
                 | (refine VCQ.pure (ht ▸ same_pc (Ha.row c (by omega)) (Hb.row c (by omega))) ?_)
                 | (refine Rng.mk (by omega) ?_)
                 | (refine Split.pos (by omega) ?_)
                 | (refine Split.neg (by omega) ?_)
                 | (refine Split.mk (fun h => ?_) (fun h => ?_))
                 | (refine Need.mk (by omega) ?_)
                 | (refine Ints.ln (by assumption) ?_)
                 | (refine Mat.ln (by assumption) ?_)
                 | (refine Ints.ln (Mat.row (by assumption) _ (by omega)) ?_)
                 | (refine Ints.ix (by assumption) (by omega) ?_)
                 | (refine Mat.ix (by assumption) (by omega) ?_)
                 | (refine Ints.ix (Mat.row (by assumption) _ (by omega)) (by omega) ?_)
                 | (refine Ints.ix (c := 0) (by assumption) (by omega) ?_)
                 | (refine Mat.ix (c := 0) (by assumption) (by omega) ?_)
                 | (refine Ints.ix (c := 0) (Mat.row (by assumption) _ (by omega)) (by omega) ?_)
                 | (refine Ints.ixI (by assumption) (by omega) ?_)
                 | (refine Mat.ixI (by assumption) (by omega) ?_)
                 | (refine Ints.ixI (Mat.row (by assumption) _ (by omega)) (by omega) ?_)
                 | (refine Ints.ld (by assumption) (by omega) ?_)
                 | (refine Mat.ld (by assumption) (by omega) ?_)
                 | (refine Ints.ld (Mat.row (by assumption) _ (by omega)) (by omega) ?_)
                 | (refine At.ld (by assumption) rfl ?_)
                 | (refine At.ldN (by assumption) rfl ?_))
        · rw [tf_f (p := a = b) (by rintro rfl; exact absurd rfl he)]; exact ⟨rfl, Ext.refl _⟩
        · rw [tf_t (p := a = b) (ext_getD [] (by omega) fun i hi => hv i (by omega))]; exact ⟨rfl, Ext.refl _⟩
  · rw [tf_f (p := a = b) (by rintro rfl; omega)]; exact ⟨rfl, Ext.refl _⟩
end Go.Proofs.Ytkgogljfngplnaa
set_option linter.unusedVariables false
set_option linter.unusedSimpArgs false
namespace Go.Proofs.Ytkgogljfngplnaa
open Go.Eng
set_option maxRecDepth 100000

theorem guard2 : Try.prog.eqGuardType Try.prog.depth 103 = false := by kernel_rfl
theorem cells3 : Try.prog.cellsOf 3 = 1 := by kernel_rfl

theorem take_snoc {α : Type} (d : α) (l : List α) (c : Nat) (h : c < l.length) : l.take (c + 1) = l.take c ++ [l.getD c d] := by
  rw [List.take_succ_eq_append_getElem h]
  simp [List.getD, h]

theorem twin_rc {w : World} {gv : Value} {vs : List Value} {rr : List (List Int)} (Hg : Mat w gv vs rr) (hle : rr.length ≤ 100) (hrow : ∀ i, i < rr.length → (rr.getD i []).length ≤ 100) :
    RC Try.prog 17 [gv] w NoB (fun u w' => ∃ us, OM w.heap.size w' u us rr) := by
  refine RC.mk tyOk Try.func17 rfl (by kernel_rfl) fun w1 E1 => ?_
  replace Hg := Hg.ext E1
  refine Lp.mk tyOk [false, false, false, true, true, true, true, true, true, true, true, true, true, true, true, true, true, true, true, true] (fun m fr wr => getK fr 3 fun v => getK fr 4 fun j => ∃ (c : Nat) (us : List Value), c ≤ rr.length ∧ m = rr.length - c ∧ j = .int .i64 (c : Int) ∧ Ext w1 wr ∧ OM w1.heap.size wr v us (rr.take c)) rr.length ?_ ?_
  · exact ⟨0, [], Nat.zero_le _, rfl, rfl, Ext.refl _, OM.nil⟩
  · intro m w3 u3 u4 u5 u6 u7 u8 u9 u10 u11 u12 u13 u14 u15 u16 u17 u18 u19 hR
    obtain ⟨c, us, hc, rfl, rfl, EE, Ho⟩ := hR
    replace Hg := Hg.ext EE
    repeat' (conv => whnf
             first
             | (refine Dr.quiet tyOk (by kernel_rfl) ?_)
             | (refine Rng.mk (by omega) ?_)
             | (refine Split.pos (by omega) ?_)
             | (refine Split.neg (by omega) ?_)
             | (refine Split.mk (fun h => ?_) (fun h => ?_))
             | (refine Need.mk (by omega) ?_)
             | (refine Ints.ln (by assumption) ?_)
             | (refine Mat.ln (by assumption) ?_)
             | (refine Ints.ln (Mat.row (by assumption) _ (by omega)) ?_)
             | (refine Ints.ix (by assumption) (by omega) ?_)
             | (refine Mat.ix (by assumption) (by omega) ?_)
             | (refine Ints.ix (Mat.row (by assumption) _ (by omega)) (by omega) ?_)
             | (refine Ints.ix (c := 0) (by assumption) (by omega) ?_)
             | (refine Mat.ix (c := 0) (by assumption) (by omega) ?_)
             | (refine Ints.ix (c := 0) (Mat.row (by assumption) _ (by omega)) (by omega) ?_)
             | (refine Ints.ixI (by assumption) (by omega) ?_)
             | (refine Mat.ixI (by assumption) (by omega) ?_)
             | (refine Ints.ixI (Mat.row (by assumption) _ (by omega)) (by omega) ?_)
             | (refine Ints.ld (by assumption) (by omega) ?_)
             | (refine Mat.ld (by assumption) (by omega) ?_)
             | (refine Ints.ld (Mat.row (by assumption) _ (by omega)) (by omega) ?_)
             | (refine At.ld (by assumption) rfl ?_)
             | (refine At.ldN (by assumption) rfl ?_))
    · have hrc := hrow c (by omega)
      have htk : (rr.take c).length = c := by simp; omega
      refine VE.lit0 Try.underlying27 eInt fun ev w4 E4 He => ?_
      replace Hg := Hg.ext E4
      repeat' (conv => whnf
               first
               | (refine Dr.quiet tyOk (by kernel_rfl) ?_)
               | (refine Rng.mk (by omega) ?_)
               | (refine Split.pos (by omega) ?_)
               | (refine Split.neg (by omega) ?_)
               | (refine Split.mk (fun h => ?_) (fun h => ?_))
               | (refine Need.mk (by omega) ?_)
               | (refine Ints.ln (by assumption) ?_)
               | (refine Mat.ln (by assumption) ?_)
               | (refine Ints.ln (Mat.row (by assumption) _ (by omega)) ?_)
               | (refine Ints.ix (by assumption) (by omega) ?_)
               | (refine Mat.ix (by assumption) (by omega) ?_)
               | (refine Ints.ix (Mat.row (by assumption) _ (by omega)) (by omega) ?_)
               | (refine Ints.ix (c := 0) (by assumption) (by omega) ?_)
               | (refine Mat.ix (c := 0) (by assumption) (by omega) ?_)
               | (refine Ints.ix (c := 0) (Mat.row (by assumption) _ (by omega)) (by omega) ?_)
               | (refine Ints.ixI (by assumption) (by omega) ?_)
               | (refine Mat.ixI (by assumption) (by omega) ?_)
               | (refine Ints.ixI (Mat.row (by assumption) _ (by omega)) (by omega) ?_)
               | (refine Ints.ld (by assumption) (by omega) ?_)
               | (refine Mat.ld (by assumption) (by omega) ?_)
               | (refine Ints.ld (Mat.row (by assumption) _ (by omega)) (by omega) ?_)
               | (refine At.ld (by assumption) rfl ?_)
               | (refine At.ldN (by assumption) rfl ?_))
      refine VE.app Try.underlying27 eInt rfl (by omega) (He _ (Nat.le_refl _)) E4 rfl (Hg.row c (by omega)) (by intro u hu; simp only [List.mem_map] at hu; obtain ⟨x, _, rfl⟩ := hu; rfl) (by first | omega | (simp only [List.length_map, List.length_range]; omega)) (by first | omega | (simp only [List.length_map, List.length_range]; omega)) fun rv w5 E5 G5 Hr => ?_
      have Hr0 : OI w5 rv (rr.getD c []) := by simpa using Own.base Hr (Nat.zero_le _)
      replace Ho := Ho.ext E5
      repeat' (conv => whnf
               first
               | (refine Dr.quiet tyOk (by kernel_rfl) ?_)
               | (refine Rng.mk (by omega) ?_)
               | (refine Split.pos (by omega) ?_)
               | (refine Split.neg (by omega) ?_)
               | (refine Split.mk (fun h => ?_) (fun h => ?_))
               | (refine Need.mk (by omega) ?_)
               | (refine Ints.ln (by assumption) ?_)
               | (refine Mat.ln (by assumption) ?_)
               | (refine Ints.ln (Mat.row (by assumption) _ (by omega)) ?_)
               | (refine Ints.ix (by assumption) (by omega) ?_)
               | (refine Mat.ix (by assumption) (by omega) ?_)
               | (refine Ints.ix (Mat.row (by assumption) _ (by omega)) (by omega) ?_)
               | (refine Ints.ix (c := 0) (by assumption) (by omega) ?_)
               | (refine Mat.ix (c := 0) (by assumption) (by omega) ?_)
               | (refine Ints.ix (c := 0) (Mat.row (by assumption) _ (by omega)) (by omega) ?_)
               | (refine Ints.ixI (by assumption) (by omega) ?_)
               | (refine Mat.ixI (by assumption) (by omega) ?_)
               | (refine Ints.ixI (Mat.row (by assumption) _ (by omega)) (by omega) ?_)
               | (refine Ints.ld (by assumption) (by omega) ?_)
               | (refine Mat.ld (by assumption) (by omega) ?_)
               | (refine Ints.ld (Mat.row (by assumption) _ (by omega)) (by omega) ?_)
               | (refine At.ld (by assumption) rfl ?_)
               | (refine At.ldN (by assumption) rfl ?_))
      refine VE.lit1 Try.underlying22 eRow ((Sl.cells (Own.sl Hr0)).1) fun lv w6 E6 Hl => ?_
      replace Ho := Ho.ext E6
      replace Hr0 := Hr0.ext E6
      conv => whnf
      refine VE.app Try.underlying22 eRow rfl (by omega) Ho.top (EE.trans (E5.trans E6)) rfl Hl (by intro u hu; simp only [List.mem_singleton] at hu; subst hu; exact (Sl.cells (Own.sl Hr0)).2) (by first | omega | (simp only [List.length_map, List.length_range]; omega)) (by first | omega | (simp only [List.length_map, List.length_range]; omega)) fun v7 w7 E7 G7 H7 => ?_
      repeat' (conv => whnf
               first
               | (refine Dr.quiet tyOk (by kernel_rfl) ?_)
               | (refine Rng.mk (by omega) ?_)
               | (refine Split.pos (by omega) ?_)
               | (refine Split.neg (by omega) ?_)
               | (refine Split.mk (fun h => ?_) (fun h => ?_))
               | (refine Need.mk (by omega) ?_)
               | (refine Ints.ln (by assumption) ?_)
               | (refine Mat.ln (by assumption) ?_)
               | (refine Ints.ln (Mat.row (by assumption) _ (by omega)) ?_)
               | (refine Ints.ix (by assumption) (by omega) ?_)
               | (refine Mat.ix (by assumption) (by omega) ?_)
               | (refine Ints.ix (Mat.row (by assumption) _ (by omega)) (by omega) ?_)
               | (refine Ints.ix (c := 0) (by assumption) (by omega) ?_)
               | (refine Mat.ix (c := 0) (by assumption) (by omega) ?_)
               | (refine Ints.ix (c := 0) (Mat.row (by assumption) _ (by omega)) (by omega) ?_)
               | (refine Ints.ixI (by assumption) (by omega) ?_)
               | (refine Mat.ixI (by assumption) (by omega) ?_)
               | (refine Ints.ixI (Mat.row (by assumption) _ (by omega)) (by omega) ?_)
               | (refine Ints.ld (by assumption) (by omega) ?_)
               | (refine Mat.ld (by assumption) (by omega) ?_)
               | (refine Ints.ld (Mat.row (by assumption) _ (by omega)) (by omega) ?_)
               | (refine At.ld (by assumption) rfl ?_)
               | (refine At.ldN (by assumption) rfl ?_))
      refine ⟨_, (by omega : rr.length - (c + 1) < rr.length - c), rfl, c + 1, us ++ [rv], by omega, rfl, rfl, E7, ?_⟩
      rw [take_snoc [] rr c (by omega)]
      exact Ho.push Hr0 G7 H7
    · obtain rfl : c = rr.length := by omega
      rw [List.take_length] at Ho
      exact ⟨EE, us, Ho.base E1.size⟩
end Go.Proofs.Ytkgogljfngplnaa
set_option linter.unusedVariables false
set_option linter.unusedSimpArgs false
namespace Go.Proofs.Ytkgogljfngplnaa
open Go.Eng
set_option maxRecDepth 100000

theorem map_range_succ {α : Type} (f : Nat → α) (c : Nat) : (List.range (c + 1)).map f = (List.range c).map f ++ [f c] := by simp [List.range_succ]

theorem flatP_snoc (l : List (Int × Int)) (x y : Int) : flatP l ++ [.int .i64 x, .int .i64 y] = flatP (l ++ [(x, y)]) := by rw [flatP_app]; rfl

/-- A row of pairs that the call has made. -/
abbrev OP (B : Nat) (w : World) (v : Value) (l : List (Int × Int)) : Prop := Own B 103 2 w v l.length (flatP l)

theorem OP.of {B n : Nat} {w : World} {v : Value} {l : List (Int × Int)} (h : Own B 103 2 w v n (flatP l)) : OP B w v l := by
  have e : n = l.length := by have := Own.len h; rw [flatP_len] at this; omega
  subst e; exact h

end Go.Proofs.Ytkgogljfngplnaa
set_option linter.unusedVariables false
set_option linter.unusedSimpArgs false
namespace Go.Proofs.Ytkgogljfngplnaa
open Go.Eng
set_option maxRecDepth 100000
set_option maxHeartbeats 4000000

theorem VS.conv {src dst : TypeId} {d : TypeDesc} {k q : IntKind} {n : Int} {w : World} {K : Value → Prop} (hs : Try.prog.underlying src = some d) (hd : Try.prog.underlying dst = some (.int k)) (hn : k.wrap n = n) (hk : K (.int k n)) : VS Try.prog (convert src dst (.int q n)) w K :=
  VS.mk (fun w1 _ => by
    simp only [convert, Sem.run_bind, run_underlying hs, run_underlying hd, Result.andThen_ok]
    show Result.ok (Value.int k (k.wrap n)) w1 = _
    rw [hn]) hk

theorem VS.gtr {T : TypeId} {x y : Operand} {k : IntKind} {a b : Int} {w : World} {K : Value → Prop} (h : Split (b < a) (K (.bool true)) (K (.bool false))) : VS Try.prog (binSem .gtr T x y (.int k a) (.int k b)) w K := by
  simp only [Split] at h
  have hg : eqGuard .gtr T x y (.int k a) (.int k b) = pure () := rfl
  have hb : binSem .gtr T x y (.int k a) (.int k b) = binOp .gtr T (.int k a) (.int k b) := by unfold binSem; rw [hg]; rfl
  by_cases hab : b < a
  · exact VS.mk (v := .bool true) (fun w1 _ => by rw [hb]; simp [binOp, Op.intCmp, hab]) (h.1 hab)
  · exact VS.mk (v := .bool false) (fun w1 _ => by rw [hb]; simp [binOp, Op.intCmp, hab]) (h.2 hab)

theorem wrap64 {n : Int} (h : 0 ≤ n ∧ n ≤ 1000) : IntKind.u64.wrap n = n := by
  simp only [IntKind.wrap, IntKind.signed, IntKind.bits]
  simp; omega
theorem wrapI {n : Int} (h : 0 ≤ n ∧ n ≤ 1000) : IntKind.i64.wrap n = n := IntWalk.i64_in _ (by omega)

theorem repl_step {c d e : Nat} (he : e = min d (c - d)) (_hd : d ≤ c) : (List.replicate d (i64v (-1)) ++ List.replicate (c - d) (i64v 0)).take d ++ (List.replicate d (i64v (-1))).take e ++ (List.replicate d (i64v (-1)) ++ List.replicate (c - d) (i64v 0)).drop (d + e) = List.replicate (d + e) (i64v (-1)) ++ List.replicate (c - (d + e)) (i64v 0) := by
  have h1 : (List.replicate d (i64v (-1)) ++ List.replicate (c - d) (i64v 0)).take d = List.replicate d (i64v (-1)) := by rw [List.take_append]; simp
  have h2 : (List.replicate d (i64v (-1))).take e = List.replicate e (i64v (-1)) := by rw [List.take_replicate]; congr 1; omega
  have h3 : (List.replicate d (i64v (-1)) ++ List.replicate (c - d) (i64v 0)).drop (d + e) = List.replicate (c - (d + e)) (i64v 0) := by
    rw [List.drop_append]; simp; omega
  rw [h1, h2, h3, List.replicate_append_replicate]

end Go.Proofs.Ytkgogljfngplnaa
set_option linter.unusedVariables false
set_option linter.unusedSimpArgs false
namespace Go.Proofs.Ytkgogljfngplnaa
open Go.Eng
set_option maxRecDepth 100000
set_option maxHeartbeats 4000000

theorem mem_getD {l : List Int} {x : Int} : x ∈ l ↔ ∃ i, i < l.length ∧ l.getD i 0 = x := by
  constructor
  · intro h
    obtain ⟨i, hi, e⟩ := List.getElem_of_mem h
    exact ⟨i, hi, by rw [List.getD, List.getElem?_eq_getElem hi]; exact e⟩
  · rintro ⟨i, hi, rfl⟩
    rw [List.getD, List.getElem?_eq_getElem hi]; exact List.getElem_mem hi

theorem clone_rc {w : World} {sv : Value} {l : List Int} (Hs : Ints w sv l) (hl : l.length ≤ 1000) : RC Try.prog 64 [sv] w NoB (fun u w' => OI w' u l ∧ Go.Eng.Own w.heap.size 3 1 w' u l.length (l.map i64v)) := by
  obtain ⟨a, cap, rfl, h1, h2, h3, h4⟩ := id Hs
  cases a with
  | none =>
    have hl0 : l = [] := by
      rcases h4 with h4 | ⟨p, h4, _⟩
      · exact List.length_eq_zero_iff.1 h4
      · cases h4
    subst hl0
    refine RC.mk tyOk Try.func64 rfl (by kernel_rfl) fun w1 E1 => ?_
    replace Hs := Hs.ext E1
    repeat' (conv => whnf
             first
             | (refine Dr.quiet tyOk (by kernel_rfl) ?_)
             | (refine VS.mk (v := .bool true) (fun _ _ => rfl) ?_)
             | (refine Rng.mk (by omega) ?_)
             | (refine Split.pos (by omega) ?_)
             | (refine Split.neg (by omega) ?_)
             | (refine Split.mk (fun h => ?_) (fun h => ?_))
             | (refine Need.mk (by omega) ?_)
             | (refine Ints.ln (by assumption) ?_)
             | (refine Mat.ln (by assumption) ?_)
             | (refine Ints.ln (Mat.row (by assumption) _ (by omega)) ?_)
             | (refine Ints.ix (by assumption) (by omega) ?_)
             | (refine Mat.ix (by assumption) (by omega) ?_)
             | (refine Ints.ix (Mat.row (by assumption) _ (by omega)) (by omega) ?_)
             | (refine Ints.ix (c := 0) (by assumption) (by omega) ?_)
             | (refine Mat.ix (c := 0) (by assumption) (by omega) ?_)
             | (refine Ints.ix (c := 0) (Mat.row (by assumption) _ (by omega)) (by omega) ?_)
             | (refine Ints.ixI (by assumption) (by omega) ?_)
             | (refine Mat.ixI (by assumption) (by omega) ?_)
             | (refine Ints.ixI (Mat.row (by assumption) _ (by omega)) (by omega) ?_)
             | (refine Ints.ld (by assumption) (by omega) ?_)
             | (refine Mat.ld (by assumption) (by omega) ?_)
             | (refine Ints.ld (Mat.row (by assumption) _ (by omega)) (by omega) ?_)
             | (refine At.ld (by assumption) rfl ?_)
             | (refine At.ldN (by assumption) rfl ?_))
    exact ⟨Ext.refl _, Own.nil, Own.nil⟩
  | some p =>
    refine RC.mk tyOk Try.func64 rfl (by kernel_rfl) fun w1 E1 => ?_
    replace Hs := Hs.ext E1
    repeat' (conv => whnf
             first
             | (refine Dr.quiet tyOk (by kernel_rfl) ?_)
             | (refine VS.mk (v := .bool false) (fun _ _ => rfl) ?_)
             | (refine Rng.mk (by omega) ?_)
             | (refine Split.pos (by omega) ?_)
             | (refine Split.neg (by omega) ?_)
             | (refine Split.mk (fun h => ?_) (fun h => ?_))
             | (refine Need.mk (by omega) ?_)
             | (refine Ints.ln (by assumption) ?_)
             | (refine Mat.ln (by assumption) ?_)
             | (refine Ints.ln (Mat.row (by assumption) _ (by omega)) ?_)
             | (refine Ints.ix (by assumption) (by omega) ?_)
             | (refine Mat.ix (by assumption) (by omega) ?_)
             | (refine Ints.ix (Mat.row (by assumption) _ (by omega)) (by omega) ?_)
             | (refine Ints.ix (c := 0) (by assumption) (by omega) ?_)
             | (refine Mat.ix (c := 0) (by assumption) (by omega) ?_)
             | (refine Ints.ix (c := 0) (Mat.row (by assumption) _ (by omega)) (by omega) ?_)
             | (refine Ints.ixI (by assumption) (by omega) ?_)
             | (refine Mat.ixI (by assumption) (by omega) ?_)
             | (refine Ints.ixI (Mat.row (by assumption) _ (by omega)) (by omega) ?_)
             | (refine Ints.ld (by assumption) (by omega) ?_)
             | (refine Mat.ld (by assumption) (by omega) ?_)
             | (refine Ints.ld (Mat.row (by assumption) _ (by omega)) (by omega) ?_)
             | (refine At.ld (by assumption) rfl ?_)
             | (refine At.ldN (by assumption) rfl ?_))
    refine VE.lit0 Try.underlying27 eInt fun l0 w4 E4 Hl0 => ?_
    have Ha4 := Hs.ext E4
    conv => whnf
    refine VE.app Try.underlying27 eInt rfl (by omega) (Hl0 _ (Nat.le_refl _)) E4 rfl Ha4 (one_ints l) (by first | omega | (simp only [List.length_map, List.length_range]; omega)) (by first | omega | (simp only [List.length_map, List.length_range]; omega)) fun v5 w5 E5 G5 H5 => ?_
    repeat' (conv => whnf
             first
             | (refine Dr.quiet tyOk (by kernel_rfl) ?_)
             | (refine Rng.mk (by omega) ?_)
             | (refine Split.pos (by omega) ?_)
             | (refine Split.neg (by omega) ?_)
             | (refine Split.mk (fun h => ?_) (fun h => ?_))
             | (refine Need.mk (by omega) ?_)
             | (refine Ints.ln (by assumption) ?_)
             | (refine Mat.ln (by assumption) ?_)
             | (refine Ints.ln (Mat.row (by assumption) _ (by omega)) ?_)
             | (refine Ints.ix (by assumption) (by omega) ?_)
             | (refine Mat.ix (by assumption) (by omega) ?_)
             | (refine Ints.ix (Mat.row (by assumption) _ (by omega)) (by omega) ?_)
             | (refine Ints.ix (c := 0) (by assumption) (by omega) ?_)
             | (refine Mat.ix (c := 0) (by assumption) (by omega) ?_)
             | (refine Ints.ix (c := 0) (Mat.row (by assumption) _ (by omega)) (by omega) ?_)
             | (refine Ints.ixI (by assumption) (by omega) ?_)
             | (refine Mat.ixI (by assumption) (by omega) ?_)
             | (refine Ints.ixI (Mat.row (by assumption) _ (by omega)) (by omega) ?_)
             | (refine Ints.ld (by assumption) (by omega) ?_)
             | (refine Mat.ld (by assumption) (by omega) ?_)
             | (refine Ints.ld (Mat.row (by assumption) _ (by omega)) (by omega) ?_)
             | (refine At.ld (by assumption) rfl ?_)
             | (refine At.ldN (by assumption) rfl ?_))
    have e0 : 0 + l.length = l.length := by omega
    rw [e0, List.nil_append] at H5
    exact ⟨E5, OI.of H5, Own.base H5 E1.size⟩
end Go.Proofs.Ytkgogljfngplnaa
set_option linter.unusedVariables false
set_option linter.unusedSimpArgs false
namespace Go.Proofs.Ytkgogljfngplnaa
open Go.Eng
set_option maxRecDepth 100000

theorem indexfuncR_pc {w : World} {sv : Value} {n : Nat} {xs : List Value} {g : FuncId} {cap : List Value} {p : Nat → Bool} (Hs : Sl 1 w sv n xs) (hf : ∀ i, i < n → PC Try.prog g (xs.getD i undef :: cap) w (.bool (p i))) :
    PC Try.prog 83 [sv, .func (.func g) #[] cap.toArray] w (.int .i64 (firstFrom p n 0)) := by
  refine PC.mk tyOk Try.func83 rfl (by kernel_rfl) fun w1 E1 => ?_
  replace Hs := Hs.ext E1
  replace hf := fun i hi => (hf i hi).ext E1
  have hle := Hs.le
  repeat' (conv => whnf
           first
           | (refine Dr.quiet tyOk (by kernel_rfl) ?_)
           | (refine Sl.ln (by assumption) ?_)
           | (refine Rng.mk (by omega) ?_)
           | (refine Split.pos (by omega) ?_)
           | (refine Split.neg (by omega) ?_)
           | (refine Split.mk (fun h => ?_) (fun h => ?_))
           | (refine Need.mk (by omega) ?_)
           | (refine Ints.ln (by assumption) ?_)
           | (refine Mat.ln (by assumption) ?_)
           | (refine Ints.ln (Mat.row (by assumption) _ (by omega)) ?_)
           | (refine Ints.ix (by assumption) (by omega) ?_)
           | (refine Mat.ix (by assumption) (by omega) ?_)
           | (refine Ints.ix (Mat.row (by assumption) _ (by omega)) (by omega) ?_)
           | (refine Ints.ix (c := 0) (by assumption) (by omega) ?_)
           | (refine Mat.ix (c := 0) (by assumption) (by omega) ?_)
           | (refine Ints.ix (c := 0) (Mat.row (by assumption) _ (by omega)) (by omega) ?_)
           | (refine Ints.ixI (by assumption) (by omega) ?_)
           | (refine Mat.ixI (by assumption) (by omega) ?_)
           | (refine Ints.ixI (Mat.row (by assumption) _ (by omega)) (by omega) ?_)
           | (refine Ints.ld (by assumption) (by omega) ?_)
           | (refine Mat.ld (by assumption) (by omega) ?_)
           | (refine Ints.ld (Mat.row (by assumption) _ (by omega)) (by omega) ?_)
           | (refine At.ld (by assumption) rfl ?_)
           | (refine At.ldN (by assumption) rfl ?_))
  refine Lp.mk tyOk [false, false, false, false, true, true, false, false, true, true, true, true, true, true, true, true, true, true, true] (fun m fr wr => getK fr 8 fun j => ∃ c : Nat, c ≤ n ∧ m = n - c ∧ j = .int .i64 (c : Int) ∧ firstFrom p n 0 = firstFrom p (n - c) c ∧ wr = w1) n ?_ ?_
  · exact ⟨0, Nat.zero_le _, rfl, rfl, rfl, rfl⟩
  · intro m w3 u4 u5 u8 u9 u10 u11 u12 u13 u14 u15 u16 u17 u18 hR
    obtain ⟨c, hc, rfl, rfl, he, rfl⟩ := hR
    by_cases hlt : c < n
    · have hs : firstFrom p (n - c) c = if p c = true then (c : Int) else firstFrom p (n - (c + 1)) (c + 1) := by rw [show n - c = (n - (c + 1)) + 1 by omega]; rfl
      have hfc := hf c hlt
      cases hp : p c with
      | true =>
        rw [hp] at hfc hs
        repeat' (conv => whnf
                 first
                 | (refine Dr.quiet tyOk (by kernel_rfl) ?_)
                 | (refine Sl.ix (by assumption) (by omega) ?_)
                 | (refine Sl.ld1 (by assumption) (by omega) ?_)
                 | (refine VC.pure hfc ?_)
                 | (refine Rng.mk (by omega) ?_)
                 | (refine Split.pos (by omega) ?_)
                 | (refine Split.neg (by omega) ?_)
                 | (refine Split.mk (fun h => ?_) (fun h => ?_))
                 | (refine Need.mk (by omega) ?_)
                 | (refine Ints.ln (by assumption) ?_)
                 | (refine Mat.ln (by assumption) ?_)
                 | (refine Ints.ln (Mat.row (by assumption) _ (by omega)) ?_)
                 | (refine Ints.ix (by assumption) (by omega) ?_)
                 | (refine Mat.ix (by assumption) (by omega) ?_)
                 | (refine Ints.ix (Mat.row (by assumption) _ (by omega)) (by omega) ?_)
                 | (refine Ints.ix (c := 0) (by assumption) (by omega) ?_)
                 | (refine Mat.ix (c := 0) (by assumption) (by omega) ?_)
                 | (refine Ints.ix (c := 0) (Mat.row (by assumption) _ (by omega)) (by omega) ?_)
                 | (refine Ints.ixI (by assumption) (by omega) ?_)
                 | (refine Mat.ixI (by assumption) (by omega) ?_)
                 | (refine Ints.ixI (Mat.row (by assumption) _ (by omega)) (by omega) ?_)
                 | (refine Ints.ld (by assumption) (by omega) ?_)
                 | (refine Mat.ld (by assumption) (by omega) ?_)
                 | (refine Ints.ld (Mat.row (by assumption) _ (by omega)) (by omega) ?_)
                 | (refine At.ld (by assumption) rfl ?_)
                 | (refine At.ldN (by assumption) rfl ?_))
        rw [he, hs]; exact ⟨rfl, Ext.refl _⟩
      | false =>
        rw [hp] at hfc hs
        repeat' (conv => whnf
                 first
                 | (refine Dr.quiet tyOk (by kernel_rfl) ?_)
                 | (refine Sl.ix (by assumption) (by omega) ?_)
                 | (refine Sl.ld1 (by assumption) (by omega) ?_)
                 | (refine VC.pure hfc ?_)
                 | (refine Rng.mk (by omega) ?_)
                 | (refine Split.pos (by omega) ?_)
                 | (refine Split.neg (by omega) ?_)
                 | (refine Split.mk (fun h => ?_) (fun h => ?_))
                 | (refine Need.mk (by omega) ?_)
                 | (refine Ints.ln (by assumption) ?_)
                 | (refine Mat.ln (by assumption) ?_)
                 | (refine Ints.ln (Mat.row (by assumption) _ (by omega)) ?_)
                 | (refine Ints.ix (by assumption) (by omega) ?_)
                 | (refine Mat.ix (by assumption) (by omega) ?_)
                 | (refine Ints.ix (Mat.row (by assumption) _ (by omega)) (by omega) ?_)
                 | (refine Ints.ix (c := 0) (by assumption) (by omega) ?_)
                 | (refine Mat.ix (c := 0) (by assumption) (by omega) ?_)
                 | (refine Ints.ix (c := 0) (Mat.row (by assumption) _ (by omega)) (by omega) ?_)
                 | (refine Ints.ixI (by assumption) (by omega) ?_)
                 | (refine Mat.ixI (by assumption) (by omega) ?_)
                 | (refine Ints.ixI (Mat.row (by assumption) _ (by omega)) (by omega) ?_)
                 | (refine Ints.ld (by assumption) (by omega) ?_)
                 | (refine Mat.ld (by assumption) (by omega) ?_)
                 | (refine Ints.ld (Mat.row (by assumption) _ (by omega)) (by omega) ?_)
                 | (refine At.ld (by assumption) rfl ?_)
                 | (refine At.ldN (by assumption) rfl ?_))
        exact ⟨_, (by omega : n - (c + 1) < n - c), rfl, c + 1, by omega, rfl, rfl, by rw [he, hs]; rfl, rfl⟩
    · obtain rfl : c = n := by omega
      repeat' (conv => whnf
               first
               | (refine Dr.quiet tyOk (by kernel_rfl) ?_)
               | (refine Rng.mk (by omega) ?_)
               | (refine Split.pos (by omega) ?_)
               | (refine Split.neg (by omega) ?_)
               | (refine Split.mk (fun h => ?_) (fun h => ?_))
               | (refine Need.mk (by omega) ?_)
               | (refine Ints.ln (by assumption) ?_)
               | (refine Mat.ln (by assumption) ?_)
               | (refine Ints.ln (Mat.row (by assumption) _ (by omega)) ?_)
               | (refine Ints.ix (by assumption) (by omega) ?_)
               | (refine Mat.ix (by assumption) (by omega) ?_)
               | (refine Ints.ix (Mat.row (by assumption) _ (by omega)) (by omega) ?_)
               | (refine Ints.ix (c := 0) (by assumption) (by omega) ?_)
               | (refine Mat.ix (c := 0) (by assumption) (by omega) ?_)
               | (refine Ints.ix (c := 0) (Mat.row (by assumption) _ (by omega)) (by omega) ?_)
               | (refine Ints.ixI (by assumption) (by omega) ?_)
               | (refine Mat.ixI (by assumption) (by omega) ?_)
               | (refine Ints.ixI (Mat.row (by assumption) _ (by omega)) (by omega) ?_)
               | (refine Ints.ld (by assumption) (by omega) ?_)
               | (refine Mat.ld (by assumption) (by omega) ?_)
               | (refine Ints.ld (Mat.row (by assumption) _ (by omega)) (by omega) ?_)
               | (refine At.ld (by assumption) rfl ?_)
               | (refine At.ldN (by assumption) rfl ?_))
      rw [he, Nat.sub_self]; exact ⟨rfl, Ext.refl _⟩

theorem containsfuncR_pc {w : World} {sv : Value} {n : Nat} {xs : List Value} {g : FuncId} {cap : List Value} {p : Nat → Bool} (Hs : Sl 1 w sv n xs) (hf : ∀ i, i < n → PC Try.prog g (xs.getD i undef :: cap) w (.bool (p i))) :
    PC Try.prog 71 [sv, .func (.func g) #[] cap.toArray] w (.bool (tf (∃ i, i < n ∧ p i = true))) := by
  refine PC.mk tyOk Try.func71 rfl (by kernel_rfl) fun w1 E1 => ?_
  replace Hs := Hs.ext E1
  replace hf := fun i hi => (hf i hi).ext E1
  have hs := firstFrom_spec p n 0
  repeat' (conv => whnf
           first
           | (refine Dr.quiet tyOk (by kernel_rfl) ?_)
           | (refine VC.pure (indexfuncR_pc Hs hf) ?_)
           | (refine Rng.mk (by omega) ?_)
           | (refine Split.pos (by omega) ?_)
           | (refine Split.neg (by omega) ?_)
           | (refine Split.mk (fun h => ?_) (fun h => ?_))
           | (refine Need.mk (by omega) ?_)
           | (refine Ints.ln (by assumption) ?_)
           | (refine Mat.ln (by assumption) ?_)
           | (refine Ints.ln (Mat.row (by assumption) _ (by omega)) ?_)
           | (refine Ints.ix (by assumption) (by omega) ?_)
           | (refine Mat.ix (by assumption) (by omega) ?_)
           | (refine Ints.ix (Mat.row (by assumption) _ (by omega)) (by omega) ?_)
           | (refine Ints.ix (c := 0) (by assumption) (by omega) ?_)
           | (refine Mat.ix (c := 0) (by assumption) (by omega) ?_)
           | (refine Ints.ix (c := 0) (Mat.row (by assumption) _ (by omega)) (by omega) ?_)
           | (refine Ints.ixI (by assumption) (by omega) ?_)
           | (refine Mat.ixI (by assumption) (by omega) ?_)
           | (refine Ints.ixI (Mat.row (by assumption) _ (by omega)) (by omega) ?_)
           | (refine Ints.ld (by assumption) (by omega) ?_)
           | (refine Mat.ld (by assumption) (by omega) ?_)
           | (refine Ints.ld (Mat.row (by assumption) _ (by omega)) (by omega) ?_)
           | (refine At.ld (by assumption) rfl ?_)
           | (refine At.ldN (by assumption) rfl ?_))
  · rw [tf_t (p := ∃ i, i < n ∧ p i = true) (by
      rcases hs with ⟨j, h1, h2, h3, _⟩ | ⟨h1, _⟩
      · exact ⟨j, by omega, h3⟩
      · omega)]; exact ⟨rfl, Ext.refl _⟩
  · rw [tf_f (p := ∃ i, i < n ∧ p i = true) (by
      rintro ⟨i, hi, hp⟩
      rcases hs with ⟨j, h1, h2, h3, h4, _⟩ | ⟨_, h2⟩
      · omega
      · have := h2 i (by omega) (by omega); rw [hp] at this; cases this)]; exact ⟨rfl, Ext.refl _⟩
theorem indexfuncI_pc {w : World} {sv : Value} {n : Nat} {xs : List Value} {g : FuncId} {cap : List Value} {p : Nat → Bool} (Hs : Sl 1 w sv n xs) (hf : ∀ i, i < n → PC Try.prog g (xs.getD i undef :: cap) w (.bool (p i))) :
    PC Try.prog 84 [sv, .func (.func g) #[] cap.toArray] w (.int .i64 (firstFrom p n 0)) := by
  refine PC.mk tyOk Try.func84 rfl (by kernel_rfl) fun w1 E1 => ?_
  replace Hs := Hs.ext E1
  replace hf := fun i hi => (hf i hi).ext E1
  have hle := Hs.le
  repeat' (conv => whnf
           first
           | (refine Dr.quiet tyOk (by kernel_rfl) ?_)
           | (refine Sl.ln (by assumption) ?_)
           | (refine Rng.mk (by omega) ?_)
           | (refine Split.pos (by omega) ?_)
           | (refine Split.neg (by omega) ?_)
           | (refine Split.mk (fun h => ?_) (fun h => ?_))
           | (refine Need.mk (by omega) ?_)
           | (refine Ints.ln (by assumption) ?_)
           | (refine Mat.ln (by assumption) ?_)
           | (refine Ints.ln (Mat.row (by assumption) _ (by omega)) ?_)
           | (refine Ints.ix (by assumption) (by omega) ?_)
           | (refine Mat.ix (by assumption) (by omega) ?_)
           | (refine Ints.ix (Mat.row (by assumption) _ (by omega)) (by omega) ?_)
           | (refine Ints.ix (c := 0) (by assumption) (by omega) ?_)
           | (refine Mat.ix (c := 0) (by assumption) (by omega) ?_)
           | (refine Ints.ix (c := 0) (Mat.row (by assumption) _ (by omega)) (by omega) ?_)
           | (refine Ints.ixI (by assumption) (by omega) ?_)
           | (refine Mat.ixI (by assumption) (by omega) ?_)
           | (refine Ints.ixI (Mat.row (by assumption) _ (by omega)) (by omega) ?_)
           | (refine Ints.ld (by assumption) (by omega) ?_)
           | (refine Mat.ld (by assumption) (by omega) ?_)
           | (refine Ints.ld (Mat.row (by assumption) _ (by omega)) (by omega) ?_)
           | (refine At.ld (by assumption) rfl ?_)
           | (refine At.ldN (by assumption) rfl ?_))
  refine Lp.mk tyOk [false, false, false, false, true, true, false, false, true, true, true, true, true, true, true, true, true, true, true] (fun m fr wr => getK fr 8 fun j => ∃ c : Nat, c ≤ n ∧ m = n - c ∧ j = .int .i64 (c : Int) ∧ firstFrom p n 0 = firstFrom p (n - c) c ∧ wr = w1) n ?_ ?_
  · exact ⟨0, Nat.zero_le _, rfl, rfl, rfl, rfl⟩
  · intro m w3 u4 u5 u8 u9 u10 u11 u12 u13 u14 u15 u16 u17 u18 hR
    obtain ⟨c, hc, rfl, rfl, he, rfl⟩ := hR
    by_cases hlt : c < n
    · have hs : firstFrom p (n - c) c = if p c = true then (c : Int) else firstFrom p (n - (c + 1)) (c + 1) := by rw [show n - c = (n - (c + 1)) + 1 by omega]; rfl
      have hfc := hf c hlt
      cases hp : p c with
      | true =>
        rw [hp] at hfc hs
        repeat' (conv => whnf
                 first
                 | (refine Dr.quiet tyOk (by kernel_rfl) ?_)
                 | (refine Sl.ix (by assumption) (by omega) ?_)
                 | (refine Sl.ld1 (by assumption) (by omega) ?_)
                 | (refine VC.pure hfc ?_)
                 | (refine Rng.mk (by omega) ?_)
                 | (refine Split.pos (by omega) ?_)
                 | (refine Split.neg (by omega) ?_)
                 | (refine Split.mk (fun h => ?_) (fun h => ?_))
                 | (refine Need.mk (by omega) ?_)
                 | (refine Ints.ln (by assumption) ?_)
                 | (refine Mat.ln (by assumption) ?_)
                 | (refine Ints.ln (Mat.row (by assumption) _ (by omega)) ?_)
                 | (refine Ints.ix (by assumption) (by omega) ?_)
                 | (refine Mat.ix (by assumption) (by omega) ?_)
                 | (refine Ints.ix (Mat.row (by assumption) _ (by omega)) (by omega) ?_)
                 | (refine Ints.ix (c := 0) (by assumption) (by omega) ?_)
                 | (refine Mat.ix (c := 0) (by assumption) (by omega) ?_)
                 | (refine Ints.ix (c := 0) (Mat.row (by assumption) _ (by omega)) (by omega) ?_)
                 | (refine Ints.ixI (by assumption) (by omega) ?_)
                 | (refine Mat.ixI (by assumption) (by omega) ?_)
                 | (refine Ints.ixI (Mat.row (by assumption) _ (by omega)) (by omega) ?_)
                 | (refine Ints.ld (by assumption) (by omega) ?_)
                 | (refine Mat.ld (by assumption) (by omega) ?_)
                 | (refine Ints.ld (Mat.row (by assumption) _ (by omega)) (by omega) ?_)
                 | (refine At.ld (by assumption) rfl ?_)
                 | (refine At.ldN (by assumption) rfl ?_))
        rw [he, hs]; exact ⟨rfl, Ext.refl _⟩
      | false =>
        rw [hp] at hfc hs
        repeat' (conv => whnf
                 first
                 | (refine Dr.quiet tyOk (by kernel_rfl) ?_)
                 | (refine Sl.ix (by assumption) (by omega) ?_)
                 | (refine Sl.ld1 (by assumption) (by omega) ?_)
                 | (refine VC.pure hfc ?_)
                 | (refine Rng.mk (by omega) ?_)
                 | (refine Split.pos (by omega) ?_)
                 | (refine Split.neg (by omega) ?_)
                 | (refine Split.mk (fun h => ?_) (fun h => ?_))
                 | (refine Need.mk (by omega) ?_)
                 | (refine Ints.ln (by assumption) ?_)
                 | (refine Mat.ln (by assumption) ?_)
                 | (refine Ints.ln (Mat.row (by assumption) _ (by omega)) ?_)
                 | (refine Ints.ix (by assumption) (by omega) ?_)
                 | (refine Mat.ix (by assumption) (by omega) ?_)
                 | (refine Ints.ix (Mat.row (by assumption) _ (by omega)) (by omega) ?_)
                 | (refine Ints.ix (c := 0) (by assumption) (by omega) ?_)
                 | (refine Mat.ix (c := 0) (by assumption) (by omega) ?_)
                 | (refine Ints.ix (c := 0) (Mat.row (by assumption) _ (by omega)) (by omega) ?_)
                 | (refine Ints.ixI (by assumption) (by omega) ?_)
                 | (refine Mat.ixI (by assumption) (by omega) ?_)
                 | (refine Ints.ixI (Mat.row (by assumption) _ (by omega)) (by omega) ?_)
                 | (refine Ints.ld (by assumption) (by omega) ?_)
                 | (refine Mat.ld (by assumption) (by omega) ?_)
                 | (refine Ints.ld (Mat.row (by assumption) _ (by omega)) (by omega) ?_)
                 | (refine At.ld (by assumption) rfl ?_)
                 | (refine At.ldN (by assumption) rfl ?_))
        exact ⟨_, (by omega : n - (c + 1) < n - c), rfl, c + 1, by omega, rfl, rfl, by rw [he, hs]; rfl, rfl⟩
    · obtain rfl : c = n := by omega
      repeat' (conv => whnf
               first
               | (refine Dr.quiet tyOk (by kernel_rfl) ?_)
               | (refine Rng.mk (by omega) ?_)
               | (refine Split.pos (by omega) ?_)
               | (refine Split.neg (by omega) ?_)
               | (refine Split.mk (fun h => ?_) (fun h => ?_))
               | (refine Need.mk (by omega) ?_)
               | (refine Ints.ln (by assumption) ?_)
               | (refine Mat.ln (by assumption) ?_)
               | (refine Ints.ln (Mat.row (by assumption) _ (by omega)) ?_)
               | (refine Ints.ix (by assumption) (by omega) ?_)
               | (refine Mat.ix (by assumption) (by omega) ?_)
               | (refine Ints.ix (Mat.row (by assumption) _ (by omega)) (by omega) ?_)
               | (refine Ints.ix (c := 0) (by assumption) (by omega) ?_)
               | (refine Mat.ix (c := 0) (by assumption) (by omega) ?_)
               | (refine Ints.ix (c := 0) (Mat.row (by assumption) _ (by omega)) (by omega) ?_)
               | (refine Ints.ixI (by assumption) (by omega) ?_)
               | (refine Mat.ixI (by assumption) (by omega) ?_)
               | (refine Ints.ixI (Mat.row (by assumption) _ (by omega)) (by omega) ?_)
               | (refine Ints.ld (by assumption) (by omega) ?_)
               | (refine Mat.ld (by assumption) (by omega) ?_)
               | (refine Ints.ld (Mat.row (by assumption) _ (by omega)) (by omega) ?_)
               | (refine At.ld (by assumption) rfl ?_)
               | (refine At.ldN (by assumption) rfl ?_))
      rw [he, Nat.sub_self]; exact ⟨rfl, Ext.refl _⟩

theorem containsfuncI_pc {w : World} {sv : Value} {n : Nat} {xs : List Value} {g : FuncId} {cap : List Value} {p : Nat → Bool} (Hs : Sl 1 w sv n xs) (hf : ∀ i, i < n → PC Try.prog g (xs.getD i undef :: cap) w (.bool (p i))) :
    PC Try.prog 74 [sv, .func (.func g) #[] cap.toArray] w (.bool (tf (∃ i, i < n ∧ p i = true))) := by
  refine PC.mk tyOk Try.func74 rfl (by kernel_rfl) fun w1 E1 => ?_
  replace Hs := Hs.ext E1
  replace hf := fun i hi => (hf i hi).ext E1
  have hs := firstFrom_spec p n 0
  repeat' (conv => whnf
           first
           | (refine Dr.quiet tyOk (by kernel_rfl) ?_)
           | (refine VC.pure (indexfuncI_pc Hs hf) ?_)
           | (refine Rng.mk (by omega) ?_)
           | (refine Split.pos (by omega) ?_)
           | (refine Split.neg (by omega) ?_)
           | (refine Split.mk (fun h => ?_) (fun h => ?_))
           | (refine Need.mk (by omega) ?_)
           | (refine Ints.ln (by assumption) ?_)
           | (refine Mat.ln (by assumption) ?_)
           | (refine Ints.ln (Mat.row (by assumption) _ (by omega)) ?_)
           | (refine Ints.ix (by assumption) (by omega) ?_)
           | (refine Mat.ix (by assumption) (by omega) ?_)
           | (refine Ints.ix (Mat.row (by assumption) _ (by omega)) (by omega) ?_)
           | (refine Ints.ix (c := 0) (by assumption) (by omega) ?_)
           | (refine Mat.ix (c := 0) (by assumption) (by omega) ?_)
           | (refine Ints.ix (c := 0) (Mat.row (by assumption) _ (by omega)) (by omega) ?_)
           | (refine Ints.ixI (by assumption) (by omega) ?_)
           | (refine Mat.ixI (by assumption) (by omega) ?_)
           | (refine Ints.ixI (Mat.row (by assumption) _ (by omega)) (by omega) ?_)
           | (refine Ints.ld (by assumption) (by omega) ?_)
           | (refine Mat.ld (by assumption) (by omega) ?_)
           | (refine Ints.ld (Mat.row (by assumption) _ (by omega)) (by omega) ?_)
           | (refine At.ld (by assumption) rfl ?_)
           | (refine At.ldN (by assumption) rfl ?_))
  · rw [tf_t (p := ∃ i, i < n ∧ p i = true) (by
      rcases hs with ⟨j, h1, h2, h3, _⟩ | ⟨h1, _⟩
      · exact ⟨j, by omega, h3⟩
      · omega)]; exact ⟨rfl, Ext.refl _⟩
  · rw [tf_f (p := ∃ i, i < n ∧ p i = true) (by
      rintro ⟨i, hi, hp⟩
      rcases hs with ⟨j, h1, h2, h3, h4, _⟩ | ⟨_, h2⟩
      · omega
      · have := h2 i (by omega) (by omega); rw [hp] at this; cases this)]; exact ⟨rfl, Ext.refl _⟩

theorem check1_pc {w : World} {rv : Value} {l : List Int} (Hr : Ints w rv l) : PC Try.prog 72 [rv] w (.bool (decide (10 < l.length))) := by
  refine PC.mk tyOk Try.func72 rfl (by kernel_rfl) fun w1 E1 => ?_
  replace Hr := Hr.ext E1
  repeat' (conv => whnf
           first
           | (refine Dr.quiet tyOk (by kernel_rfl) ?_)
           | (refine Rng.mk (by omega) ?_)
           | (refine Split.pos (by omega) ?_)
           | (refine Split.neg (by omega) ?_)
           | (refine Split.mk (fun h => ?_) (fun h => ?_))
           | (refine Need.mk (by omega) ?_)
           | (refine Ints.ln (by assumption) ?_)
           | (refine Mat.ln (by assumption) ?_)
           | (refine Ints.ln (Mat.row (by assumption) _ (by omega)) ?_)
           | (refine Ints.ix (by assumption) (by omega) ?_)
           | (refine Mat.ix (by assumption) (by omega) ?_)
           | (refine Ints.ix (Mat.row (by assumption) _ (by omega)) (by omega) ?_)
           | (refine Ints.ix (c := 0) (by assumption) (by omega) ?_)
           | (refine Mat.ix (c := 0) (by assumption) (by omega) ?_)
           | (refine Ints.ix (c := 0) (Mat.row (by assumption) _ (by omega)) (by omega) ?_)
           | (refine Ints.ixI (by assumption) (by omega) ?_)
           | (refine Mat.ixI (by assumption) (by omega) ?_)
           | (refine Ints.ixI (Mat.row (by assumption) _ (by omega)) (by omega) ?_)
           | (refine Ints.ld (by assumption) (by omega) ?_)
           | (refine Mat.ld (by assumption) (by omega) ?_)
           | (refine Ints.ld (Mat.row (by assumption) _ (by omega)) (by omega) ?_)
           | (refine At.ld (by assumption) rfl ?_)
           | (refine At.ldN (by assumption) rfl ?_))
  · rw [decide_eq_true (by omega)]; exact ⟨rfl, Ext.refl _⟩
  · rw [decide_eq_false (by omega)]; exact ⟨rfl, Ext.refl _⟩

def odd (x : Int) : Bool := decide (x < 0) || decide (1000 < x)
theorem check2_pc {w : World} {x : Int} : PC Try.prog 73 [.int .i64 x] w (.bool (odd x)) := by
  refine PC.mk tyOk Try.func73 rfl (by kernel_rfl) fun w1 E1 => ?_
  unfold odd
  repeat' (conv => whnf
           first
           | (refine Dr.quiet tyOk (by kernel_rfl) ?_)
           | (refine Rng.mk (by omega) ?_)
           | (refine Split.pos (by omega) ?_)
           | (refine Split.neg (by omega) ?_)
           | (refine Split.mk (fun h => ?_) (fun h => ?_))
           | (refine Need.mk (by omega) ?_)
           | (refine Ints.ln (by assumption) ?_)
           | (refine Mat.ln (by assumption) ?_)
           | (refine Ints.ln (Mat.row (by assumption) _ (by omega)) ?_)
           | (refine Ints.ix (by assumption) (by omega) ?_)
           | (refine Mat.ix (by assumption) (by omega) ?_)
           | (refine Ints.ix (Mat.row (by assumption) _ (by omega)) (by omega) ?_)
           | (refine Ints.ix (c := 0) (by assumption) (by omega) ?_)
           | (refine Mat.ix (c := 0) (by assumption) (by omega) ?_)
           | (refine Ints.ix (c := 0) (Mat.row (by assumption) _ (by omega)) (by omega) ?_)
           | (refine Ints.ixI (by assumption) (by omega) ?_)
           | (refine Mat.ixI (by assumption) (by omega) ?_)
           | (refine Ints.ixI (Mat.row (by assumption) _ (by omega)) (by omega) ?_)
           | (refine Ints.ld (by assumption) (by omega) ?_)
           | (refine Mat.ld (by assumption) (by omega) ?_)
           | (refine Ints.ld (Mat.row (by assumption) _ (by omega)) (by omega) ?_)
           | (refine At.ld (by assumption) rfl ?_)
           | (refine At.ldN (by assumption) rfl ?_))
  · rw [decide_eq_true (by omega)]; exact ⟨rfl, Ext.refl _⟩
  · rw [decide_eq_false (by omega), decide_eq_true (by omega)]; exact ⟨rfl, Ext.refl _⟩
  · rw [decide_eq_false (by omega), decide_eq_false (by omega)]; exact ⟨rfl, Ext.refl _⟩

theorem Ints.elem {w : World} {v : Value} {l : List Int} {i : Nat} (h : i < l.length) : (l.map i64v).getD i undef = .int .i64 (l.getD i 0) := by simp [List.getD, h, i64v]

theorem gcheck_pc {w : World} {gv : Value} {vs : List Value} {rr : List (List Int)} (Hg : Mat w gv vs rr) :
    PC Try.prog 55 [.agg #[gv]] w (.int .i64 (chk rr)) := by
  refine PC.mk tyOk Try.func55 rfl (by kernel_rfl) fun w1 E1 => ?_
  replace Hg := Hg.ext E1
  have hle := Hg.top.le
  refine Bx.agg fun b w2 E2 _ Hb _ => ?_
  replace Hg := Hg.ext E2
  have hbig := containsfuncR_pc (g := 72) (cap := []) (p := fun i => decide (10 < (rr.getD i []).length)) Hg.top (fun i hi => check1_pc (Hg.row i hi))
  by_cases h6 : 6 < rr.length
  · repeat' (conv => whnf
             first
             | (refine Dr.quiet tyOk (by kernel_rfl) ?_)
             | (refine Rng.mk (by omega) ?_)
             | (refine Split.pos (by omega) ?_)
             | (refine Split.neg (by omega) ?_)
             | (refine Split.mk (fun h => ?_) (fun h => ?_))
             | (refine Need.mk (by omega) ?_)
             | (refine Ints.ln (by assumption) ?_)
             | (refine Mat.ln (by assumption) ?_)
             | (refine Ints.ln (Mat.row (by assumption) _ (by omega)) ?_)
             | (refine Ints.ix (by assumption) (by omega) ?_)
             | (refine Mat.ix (by assumption) (by omega) ?_)
             | (refine Ints.ix (Mat.row (by assumption) _ (by omega)) (by omega) ?_)
             | (refine Ints.ix (c := 0) (by assumption) (by omega) ?_)
             | (refine Mat.ix (c := 0) (by assumption) (by omega) ?_)
             | (refine Ints.ix (c := 0) (Mat.row (by assumption) _ (by omega)) (by omega) ?_)
             | (refine Ints.ixI (by assumption) (by omega) ?_)
             | (refine Mat.ixI (by assumption) (by omega) ?_)
             | (refine Ints.ixI (Mat.row (by assumption) _ (by omega)) (by omega) ?_)
             | (refine Ints.ld (by assumption) (by omega) ?_)
             | (refine Mat.ld (by assumption) (by omega) ?_)
             | (refine Ints.ld (Mat.row (by assumption) _ (by omega)) (by omega) ?_)
             | (refine At.ld (by assumption) rfl ?_)
             | (refine At.ldN (by assumption) rfl ?_))
    rw [chk_big (.inl h6)]; exact ⟨rfl, E2⟩
  · by_cases h10 : ∃ i, i < rr.length ∧ decide (10 < (rr.getD i []).length) = true
    · rw [tf_t h10] at hbig
      repeat' (conv => whnf
               first
               | (refine Dr.quiet tyOk (by kernel_rfl) ?_)
               | (refine VC.pure hbig ?_)
               | (refine Rng.mk (by omega) ?_)
               | (refine Split.pos (by omega) ?_)
               | (refine Split.neg (by omega) ?_)
               | (refine Split.mk (fun h => ?_) (fun h => ?_))
               | (refine Need.mk (by omega) ?_)
               | (refine Ints.ln (by assumption) ?_)
               | (refine Mat.ln (by assumption) ?_)
               | (refine Ints.ln (Mat.row (by assumption) _ (by omega)) ?_)
               | (refine Ints.ix (by assumption) (by omega) ?_)
               | (refine Mat.ix (by assumption) (by omega) ?_)
               | (refine Ints.ix (Mat.row (by assumption) _ (by omega)) (by omega) ?_)
               | (refine Ints.ix (c := 0) (by assumption) (by omega) ?_)
               | (refine Mat.ix (c := 0) (by assumption) (by omega) ?_)
               | (refine Ints.ix (c := 0) (Mat.row (by assumption) _ (by omega)) (by omega) ?_)
               | (refine Ints.ixI (by assumption) (by omega) ?_)
               | (refine Mat.ixI (by assumption) (by omega) ?_)
               | (refine Ints.ixI (Mat.row (by assumption) _ (by omega)) (by omega) ?_)
               | (refine Ints.ld (by assumption) (by omega) ?_)
               | (refine Mat.ld (by assumption) (by omega) ?_)
               | (refine Ints.ld (Mat.row (by assumption) _ (by omega)) (by omega) ?_)
               | (refine At.ld (by assumption) rfl ?_)
               | (refine At.ldN (by assumption) rfl ?_))
      obtain ⟨i, hi, hh⟩ := h10
      rw [chk_big (.inr ⟨i, hi, by simpa using hh⟩)]; exact ⟨rfl, E2⟩
    · rw [tf_f h10] at hbig
      have hnb : ¬ bigP rr := by
        rintro (h1 | ⟨i, hi, h1⟩)
        · omega
        · exact h10 ⟨i, hi, by simpa using h1⟩
      repeat' (conv => whnf
               first
               | (refine Dr.quiet tyOk (by kernel_rfl) ?_)
               | (refine VC.pure hbig ?_)
               | (refine Rng.mk (by omega) ?_)
               | (refine Split.pos (by omega) ?_)
               | (refine Split.neg (by omega) ?_)
               | (refine Split.mk (fun h => ?_) (fun h => ?_))
               | (refine Need.mk (by omega) ?_)
               | (refine Ints.ln (by assumption) ?_)
               | (refine Mat.ln (by assumption) ?_)
               | (refine Ints.ln (Mat.row (by assumption) _ (by omega)) ?_)
               | (refine Ints.ix (by assumption) (by omega) ?_)
               | (refine Mat.ix (by assumption) (by omega) ?_)
               | (refine Ints.ix (Mat.row (by assumption) _ (by omega)) (by omega) ?_)
               | (refine Ints.ix (c := 0) (by assumption) (by omega) ?_)
               | (refine Mat.ix (c := 0) (by assumption) (by omega) ?_)
               | (refine Ints.ix (c := 0) (Mat.row (by assumption) _ (by omega)) (by omega) ?_)
               | (refine Ints.ixI (by assumption) (by omega) ?_)
               | (refine Mat.ixI (by assumption) (by omega) ?_)
               | (refine Ints.ixI (Mat.row (by assumption) _ (by omega)) (by omega) ?_)
               | (refine Ints.ld (by assumption) (by omega) ?_)
               | (refine Mat.ld (by assumption) (by omega) ?_)
               | (refine Ints.ld (Mat.row (by assumption) _ (by omega)) (by omega) ?_)
               | (refine At.ld (by assumption) rfl ?_)
               | (refine At.ldN (by assumption) rfl ?_))
      · rw [chk_bad hnb (.inl (by omega))]; exact ⟨rfl, E2⟩
      · refine Lp.mk tyOk [false, false, true, false, false, true, false, false, false, false, false, false, false, false, false, false, false, false, false, false, false, false, true, true, true, true, true, true, true, true, true, true, true, true, true, true, true, true, true, true] (fun m fr wr => getK fr 22 fun j => ∃ c : Nat, c ≤ rr.length ∧ m = rr.length - c ∧ j = .int .i64 (c : Int) ∧ (∀ i, i < c → (rr.getD i []).length = (rr.getD 0 []).length ∧ ∀ j, j < (rr.getD i []).length → 0 ≤ val rr i j ∧ val rr i j ≤ 1000) ∧ wr = w2) rr.length ?_ ?_
        · exact ⟨0, Nat.zero_le _, rfl, rfl, fun i hi => absurd hi (Nat.not_lt_zero _), rfl⟩
        · intro m w3 u2 u5 u22 u23 u24 u25 u26 u27 u28 u29 u30 u31 u32 u33 u34 u35 u36 u37 u38 u39 hR
          obtain ⟨c, hc, rfl, rfl, hok, rfl⟩ := hR
          by_cases hlt : c < rr.length
          · have hodd := containsfuncI_pc (g := 73) (cap := []) (p := fun j => odd (val rr c j)) (Hg.row c hlt) (fun j hj => by rw [Ints.elem (w := w3) (v := gv) hj]; exact check2_pc)
            by_cases ho : ∃ j, j < (rr.getD c []).length ∧ odd (val rr c j) = true
            · rw [tf_t ho] at hodd
              repeat' (conv => whnf
                       first
                       | (refine Dr.quiet tyOk (by kernel_rfl) ?_)
                       | (refine VC.pure hodd ?_)
                       | (refine Rng.mk (by omega) ?_)
                       | (refine Split.pos (by omega) ?_)
                       | (refine Split.neg (by omega) ?_)
                       | (refine Split.mk (fun h => ?_) (fun h => ?_))
                       | (refine Need.mk (by omega) ?_)
                       | (refine Ints.ln (by assumption) ?_)
                       | (refine Mat.ln (by assumption) ?_)
                       | (refine Ints.ln (Mat.row (by assumption) _ (by omega)) ?_)
                       | (refine Ints.ix (by assumption) (by omega) ?_)
                       | (refine Mat.ix (by assumption) (by omega) ?_)
                       | (refine Ints.ix (Mat.row (by assumption) _ (by omega)) (by omega) ?_)
                       | (refine Ints.ix (c := 0) (by assumption) (by omega) ?_)
                       | (refine Mat.ix (c := 0) (by assumption) (by omega) ?_)
                       | (refine Ints.ix (c := 0) (Mat.row (by assumption) _ (by omega)) (by omega) ?_)
                       | (refine Ints.ixI (by assumption) (by omega) ?_)
                       | (refine Mat.ixI (by assumption) (by omega) ?_)
                       | (refine Ints.ixI (Mat.row (by assumption) _ (by omega)) (by omega) ?_)
                       | (refine Ints.ld (by assumption) (by omega) ?_)
                       | (refine Mat.ld (by assumption) (by omega) ?_)
                       | (refine Ints.ld (Mat.row (by assumption) _ (by omega)) (by omega) ?_)
                       | (refine At.ld (by assumption) rfl ?_)
                       | (refine At.ldN (by assumption) rfl ?_))
              · obtain ⟨j, hj, hh⟩ := ho
                simp only [odd, Bool.or_eq_true, decide_eq_true_eq] at hh
                rw [chk_bad hnb (.inr ⟨c, hlt, .inr ⟨j, hj, hh⟩⟩)]; exact ⟨rfl, E2⟩
              · rw [chk_bad hnb (.inr ⟨c, hlt, .inl (by omega)⟩)]; exact ⟨rfl, E2⟩
            · rw [tf_f ho] at hodd
              repeat' (conv => whnf
                       first
                       | (refine Dr.quiet tyOk (by kernel_rfl) ?_)
                       | (refine VC.pure hodd ?_)
                       | (refine Rng.mk (by omega) ?_)
                       | (refine Split.pos (by omega) ?_)
                       | (refine Split.neg (by omega) ?_)
                       | (refine Split.mk (fun h => ?_) (fun h => ?_))
                       | (refine Need.mk (by omega) ?_)
                       | (refine Ints.ln (by assumption) ?_)
                       | (refine Mat.ln (by assumption) ?_)
                       | (refine Ints.ln (Mat.row (by assumption) _ (by omega)) ?_)
                       | (refine Ints.ix (by assumption) (by omega) ?_)
                       | (refine Mat.ix (by assumption) (by omega) ?_)
                       | (refine Ints.ix (Mat.row (by assumption) _ (by omega)) (by omega) ?_)
                       | (refine Ints.ix (c := 0) (by assumption) (by omega) ?_)
                       | (refine Mat.ix (c := 0) (by assumption) (by omega) ?_)
                       | (refine Ints.ix (c := 0) (Mat.row (by assumption) _ (by omega)) (by omega) ?_)
                       | (refine Ints.ixI (by assumption) (by omega) ?_)
                       | (refine Mat.ixI (by assumption) (by omega) ?_)
                       | (refine Ints.ixI (Mat.row (by assumption) _ (by omega)) (by omega) ?_)
                       | (refine Ints.ld (by assumption) (by omega) ?_)
                       | (refine Mat.ld (by assumption) (by omega) ?_)
                       | (refine Ints.ld (Mat.row (by assumption) _ (by omega)) (by omega) ?_)
                       | (refine At.ld (by assumption) rfl ?_)
                       | (refine At.ldN (by assumption) rfl ?_))
              · refine ⟨_, (by omega : rr.length - (c + 1) < rr.length - c), rfl, c + 1, by omega, rfl, rfl, fun i hi => ?_, rfl⟩
                by_cases e : i = c
                · subst e
                  refine ⟨by omega, fun j hj => ?_⟩
                  have hh : ¬ odd (val rr i j) = true := fun hh => ho ⟨j, hj, hh⟩
                  simp only [odd, Bool.or_eq_true, decide_eq_true_eq] at hh
                  omega
                · exact hok i (by omega)
              · rw [chk_bad hnb (.inr ⟨c, hlt, .inl (by omega)⟩)]; exact ⟨rfl, E2⟩
          · repeat' (conv => whnf
                     first
                     | (refine Dr.quiet tyOk (by kernel_rfl) ?_)
                     | (refine Rng.mk (by omega) ?_)
                     | (refine Split.pos (by omega) ?_)
                     | (refine Split.neg (by omega) ?_)
                     | (refine Split.mk (fun h => ?_) (fun h => ?_))
                     | (refine Need.mk (by omega) ?_)
                     | (refine Ints.ln (by assumption) ?_)
                     | (refine Mat.ln (by assumption) ?_)
                     | (refine Ints.ln (Mat.row (by assumption) _ (by omega)) ?_)
                     | (refine Ints.ix (by assumption) (by omega) ?_)
                     | (refine Mat.ix (by assumption) (by omega) ?_)
                     | (refine Ints.ix (Mat.row (by assumption) _ (by omega)) (by omega) ?_)
                     | (refine Ints.ix (c := 0) (by assumption) (by omega) ?_)
                     | (refine Mat.ix (c := 0) (by assumption) (by omega) ?_)
                     | (refine Ints.ix (c := 0) (Mat.row (by assumption) _ (by omega)) (by omega) ?_)
                     | (refine Ints.ixI (by assumption) (by omega) ?_)
                     | (refine Mat.ixI (by assumption) (by omega) ?_)
                     | (refine Ints.ixI (Mat.row (by assumption) _ (by omega)) (by omega) ?_)
                     | (refine Ints.ld (by assumption) (by omega) ?_)
                     | (refine Mat.ld (by assumption) (by omega) ?_)
                     | (refine Ints.ld (Mat.row (by assumption) _ (by omega)) (by omega) ?_)
                     | (refine At.ld (by assumption) rfl ?_)
                     | (refine At.ldN (by assumption) rfl ?_))
            have hnb2 : ¬ badP rr := by
              rintro (h1 | ⟨i, hi, h1 | ⟨j, hj, h1⟩⟩)
              · omega
              · exact h1 (hok i (by omega)).1
              · have := (hok i (by omega)).2 j hj; omega
            rw [chk_ok hnb hnb2]; exact ⟨rfl, E2⟩

theorem within1_pc {w : World} {b1 b2 : Nat} {lo hi x : Int} (H1 : At w ⟨b1, 0, none⟩ [.int .i64 lo]) (H2 : At w ⟨b2, 0, none⟩ [.int .i64 hi]) :
    PC Try.prog 89 [.int .i64 x, .pointer (some ⟨b1, 0, none⟩), .pointer (some ⟨b2, 0, none⟩)] w (.bool (decide (x < lo) || decide (hi ≤ x))) := by
  refine PC.mk tyOk Try.func89 rfl (by kernel_rfl) fun w1 E1 => ?_
  replace H1 := H1.ext E1
  replace H2 := H2.ext E1
  repeat' (conv => whnf
           first
           | (refine Dr.quiet tyOk (by kernel_rfl) ?_)
           | (refine At.ld (i := 0) H1 rfl ?_)
           | (refine At.ld (i := 0) H2 rfl ?_)
           | (refine Rng.mk (by omega) ?_)
           | (refine Split.pos (by omega) ?_)
           | (refine Split.neg (by omega) ?_)
           | (refine Split.mk (fun h => ?_) (fun h => ?_))
           | (refine Need.mk (by omega) ?_)
           | (refine Ints.ln (by assumption) ?_)
           | (refine Mat.ln (by assumption) ?_)
           | (refine Ints.ln (Mat.row (by assumption) _ (by omega)) ?_)
           | (refine Ints.ix (by assumption) (by omega) ?_)
           | (refine Mat.ix (by assumption) (by omega) ?_)
           | (refine Ints.ix (Mat.row (by assumption) _ (by omega)) (by omega) ?_)
           | (refine Ints.ix (c := 0) (by assumption) (by omega) ?_)
           | (refine Mat.ix (c := 0) (by assumption) (by omega) ?_)
           | (refine Ints.ix (c := 0) (Mat.row (by assumption) _ (by omega)) (by omega) ?_)
           | (refine Ints.ixI (by assumption) (by omega) ?_)
           | (refine Mat.ixI (by assumption) (by omega) ?_)
           | (refine Ints.ixI (Mat.row (by assumption) _ (by omega)) (by omega) ?_)
           | (refine Ints.ld (by assumption) (by omega) ?_)
           | (refine Mat.ld (by assumption) (by omega) ?_)
           | (refine Ints.ld (Mat.row (by assumption) _ (by omega)) (by omega) ?_)
           | (refine At.ld (by assumption) rfl ?_)
           | (refine At.ldN (by assumption) rfl ?_))
  · rw [decide_eq_true (by omega)]; exact ⟨rfl, Ext.refl _⟩
  · rw [decide_eq_false (by omega), decide_eq_true (by omega)]; exact ⟨rfl, Ext.refl _⟩
  · rw [decide_eq_false (by omega), decide_eq_false (by omega)]; exact ⟨rfl, Ext.refl _⟩

theorem within_pc {w : World} {sv : Value} {l : List Int} {lo hi : Int} (Hs : Ints w sv l) :
    PC Try.prog 88 [.int .i64 lo, .int .i64 hi, sv] w (.bool (tf (∀ i, i < l.length → lo ≤ l.getD i 0 ∧ l.getD i 0 < hi))) := by
  refine PC.mk tyOk Try.func88 rfl (by kernel_rfl) fun w1 E1 => ?_
  replace Hs := Hs.ext E1
  refine Bx.one rfl fun b1 w2 E2 _ H1 _ => ?_
  replace Hs := Hs.ext E2
  refine Bx.one rfl fun b2 w3 E3 _ H2 _ => ?_
  replace Hs := Hs.ext E3
  replace H1 := H1.ext E3
  have hc := containsfuncI_pc (g := 89) (cap := [.pointer (some ⟨b1, 0, none⟩), .pointer (some ⟨b2, 0, none⟩)]) (p := fun j => decide (l.getD j 0 < lo) || decide (hi ≤ l.getD j 0)) Hs (fun j hj => by rw [Ints.elem (w := w3) (v := sv) hj]; exact within1_pc H1 H2)
  by_cases ho : ∃ j, j < l.length ∧ (decide (l.getD j 0 < lo) || decide (hi ≤ l.getD j 0)) = true
  · rw [tf_t ho] at hc
    repeat' (conv => whnf
             first
             | (refine Dr.quiet tyOk (by kernel_rfl) ?_)
             | (refine VC.pure hc ?_)
             | (refine Rng.mk (by omega) ?_)
             | (refine Split.pos (by omega) ?_)
             | (refine Split.neg (by omega) ?_)
             | (refine Split.mk (fun h => ?_) (fun h => ?_))
             | (refine Need.mk (by omega) ?_)
             | (refine Ints.ln (by assumption) ?_)
             | (refine Mat.ln (by assumption) ?_)
             | (refine Ints.ln (Mat.row (by assumption) _ (by omega)) ?_)
             | (refine Ints.ix (by assumption) (by omega) ?_)
             | (refine Mat.ix (by assumption) (by omega) ?_)
             | (refine Ints.ix (Mat.row (by assumption) _ (by omega)) (by omega) ?_)
             | (refine Ints.ix (c := 0) (by assumption) (by omega) ?_)
             | (refine Mat.ix (c := 0) (by assumption) (by omega) ?_)
             | (refine Ints.ix (c := 0) (Mat.row (by assumption) _ (by omega)) (by omega) ?_)
             | (refine Ints.ixI (by assumption) (by omega) ?_)
             | (refine Mat.ixI (by assumption) (by omega) ?_)
             | (refine Ints.ixI (Mat.row (by assumption) _ (by omega)) (by omega) ?_)
             | (refine Ints.ld (by assumption) (by omega) ?_)
             | (refine Mat.ld (by assumption) (by omega) ?_)
             | (refine Ints.ld (Mat.row (by assumption) _ (by omega)) (by omega) ?_)
             | (refine At.ld (by assumption) rfl ?_)
             | (refine At.ldN (by assumption) rfl ?_))
    rw [tf_f (p := ∀ i, i < l.length → lo ≤ l.getD i 0 ∧ l.getD i 0 < hi) (fun h => by
      obtain ⟨j, hj, hh⟩ := ho
      have := h j hj
      simp only [Bool.or_eq_true, decide_eq_true_eq] at hh
      omega)]
    exact ⟨rfl, E2.trans E3⟩
  · rw [tf_f ho] at hc
    repeat' (conv => whnf
             first
             | (refine Dr.quiet tyOk (by kernel_rfl) ?_)
             | (refine VC.pure hc ?_)
             | (refine Rng.mk (by omega) ?_)
             | (refine Split.pos (by omega) ?_)
             | (refine Split.neg (by omega) ?_)
             | (refine Split.mk (fun h => ?_) (fun h => ?_))
             | (refine Need.mk (by omega) ?_)
             | (refine Ints.ln (by assumption) ?_)
             | (refine Mat.ln (by assumption) ?_)
             | (refine Ints.ln (Mat.row (by assumption) _ (by omega)) ?_)
             | (refine Ints.ix (by assumption) (by omega) ?_)
             | (refine Mat.ix (by assumption) (by omega) ?_)
             | (refine Ints.ix (Mat.row (by assumption) _ (by omega)) (by omega) ?_)
             | (refine Ints.ix (c := 0) (by assumption) (by omega) ?_)
             | (refine Mat.ix (c := 0) (by assumption) (by omega) ?_)
             | (refine Ints.ix (c := 0) (Mat.row (by assumption) _ (by omega)) (by omega) ?_)
             | (refine Ints.ixI (by assumption) (by omega) ?_)
             | (refine Mat.ixI (by assumption) (by omega) ?_)
             | (refine Ints.ixI (Mat.row (by assumption) _ (by omega)) (by omega) ?_)
             | (refine Ints.ld (by assumption) (by omega) ?_)
             | (refine Mat.ld (by assumption) (by omega) ?_)
             | (refine Ints.ld (Mat.row (by assumption) _ (by omega)) (by omega) ?_)
             | (refine At.ld (by assumption) rfl ?_)
             | (refine At.ldN (by assumption) rfl ?_))
    rw [tf_t (p := ∀ i, i < l.length → lo ≤ l.getD i 0 ∧ l.getD i 0 < hi) (fun i hi' => by
      have hh : ¬ (decide (l.getD i 0 < lo) || decide (hi ≤ l.getD i 0)) = true := fun hh => ho ⟨i, hi', hh⟩
      simp only [Bool.or_eq_true, decide_eq_true_eq] at hh
      omega)]
    exact ⟨rfl, E2.trans E3⟩

theorem gvalid_pc {w : World} {gv av : Value} {vs : List Value} {rr : List (List Int)} {a : List Int} (Hg : Mat w gv vs rr) (Ha : Ints w av a) :
    PC Try.prog 77 [.agg #[gv], av] w (.int .i64 (vld rr a)) := by
  refine PC.mk tyOk Try.func77 rfl (by kernel_rfl) fun w1 E1 => ?_
  replace Hg := Hg.ext E1
  replace Ha := Ha.ext E1
  have hle := Hg.top.le
  refine Bx.agg fun b w2 E2 _ Hb _ => ?_
  replace Hg := Hg.ext E2
  replace Ha := Ha.ext E2
  have hw := within_pc (lo := -1) (hi := (rr.length : Int)) Ha
  by_cases hck : chk rr = 0
  · have hgd := gd_of_chk hck
    have hn1 := hgd.n1
    by_cases hin : ∀ i, i < a.length → -1 ≤ a.getD i 0 ∧ a.getD i 0 < rr.length
    · rw [tf_t hin] at hw
      repeat' (conv => whnf
               first
               | (refine Dr.quiet tyOk (by kernel_rfl) ?_)
               | (refine VC.pure (gcheck_pc Hg) ?_)
               | (refine VC.pure hw ?_)
               | (refine Rng.mk (by omega) ?_)
               | (refine Split.pos (by omega) ?_)
               | (refine Split.neg (by omega) ?_)
               | (refine Split.mk (fun h => ?_) (fun h => ?_))
               | (refine Need.mk (by omega) ?_)
               | (refine Ints.ln (by assumption) ?_)
               | (refine Mat.ln (by assumption) ?_)
               | (refine Ints.ln (Mat.row (by assumption) _ (by omega)) ?_)
               | (refine Ints.ix (by assumption) (by omega) ?_)
               | (refine Mat.ix (by assumption) (by omega) ?_)
               | (refine Ints.ix (Mat.row (by assumption) _ (by omega)) (by omega) ?_)
               | (refine Ints.ix (c := 0) (by assumption) (by omega) ?_)
               | (refine Mat.ix (c := 0) (by assumption) (by omega) ?_)
               | (refine Ints.ix (c := 0) (Mat.row (by assumption) _ (by omega)) (by omega) ?_)
               | (refine Ints.ixI (by assumption) (by omega) ?_)
               | (refine Mat.ixI (by assumption) (by omega) ?_)
               | (refine Ints.ixI (Mat.row (by assumption) _ (by omega)) (by omega) ?_)
               | (refine Ints.ld (by assumption) (by omega) ?_)
               | (refine Mat.ld (by assumption) (by omega) ?_)
               | (refine Ints.ld (Mat.row (by assumption) _ (by omega)) (by omega) ?_)
               | (refine At.ld (by assumption) rfl ?_)
               | (refine At.ldN (by assumption) rfl ?_))
      · have hnb : ¬ badA rr a := by
          rintro (h1 | ⟨k, hk, h1⟩)
          · omega
          · have := hin k hk; omega
        rw [vld_ok hck hnb]; exact ⟨rfl, E2⟩
      · rw [vld_bad hck (.inl (by omega))]; exact ⟨rfl, E2⟩
    · rw [tf_f hin] at hw
      repeat' (conv => whnf
               first
               | (refine Dr.quiet tyOk (by kernel_rfl) ?_)
               | (refine VC.pure (gcheck_pc Hg) ?_)
               | (refine VC.pure hw ?_)
               | (refine Rng.mk (by omega) ?_)
               | (refine Split.pos (by omega) ?_)
               | (refine Split.neg (by omega) ?_)
               | (refine Split.mk (fun h => ?_) (fun h => ?_))
               | (refine Need.mk (by omega) ?_)
               | (refine Ints.ln (by assumption) ?_)
               | (refine Mat.ln (by assumption) ?_)
               | (refine Ints.ln (Mat.row (by assumption) _ (by omega)) ?_)
               | (refine Ints.ix (by assumption) (by omega) ?_)
               | (refine Mat.ix (by assumption) (by omega) ?_)
               | (refine Ints.ix (Mat.row (by assumption) _ (by omega)) (by omega) ?_)
               | (refine Ints.ix (c := 0) (by assumption) (by omega) ?_)
               | (refine Mat.ix (c := 0) (by assumption) (by omega) ?_)
               | (refine Ints.ix (c := 0) (Mat.row (by assumption) _ (by omega)) (by omega) ?_)
               | (refine Ints.ixI (by assumption) (by omega) ?_)
               | (refine Mat.ixI (by assumption) (by omega) ?_)
               | (refine Ints.ixI (Mat.row (by assumption) _ (by omega)) (by omega) ?_)
               | (refine Ints.ld (by assumption) (by omega) ?_)
               | (refine Mat.ld (by assumption) (by omega) ?_)
               | (refine Ints.ld (Mat.row (by assumption) _ (by omega)) (by omega) ?_)
               | (refine At.ld (by assumption) rfl ?_)
               | (refine At.ldN (by assumption) rfl ?_))
      · have hbd : badA rr a := Classical.byContradiction fun h => hin fun i hi => ⟨Classical.byContradiction fun h1 => h (.inr ⟨i, hi, .inl (by omega)⟩), Classical.byContradiction fun h1 => h (.inr ⟨i, hi, .inr (by omega)⟩)⟩
        rw [vld_bad hck hbd]; exact ⟨rfl, E2⟩
      · rw [vld_bad hck (.inl (by omega))]; exact ⟨rfl, E2⟩
  · repeat' (conv => whnf
             first
             | (refine Dr.quiet tyOk (by kernel_rfl) ?_)
             | (refine VC.pure (gcheck_pc Hg) ?_)
             | (refine Rng.mk (by omega) ?_)
             | (refine Split.pos (by omega) ?_)
             | (refine Split.neg (by omega) ?_)
             | (refine Split.mk (fun h => ?_) (fun h => ?_))
             | (refine Need.mk (by omega) ?_)
             | (refine Ints.ln (by assumption) ?_)
             | (refine Mat.ln (by assumption) ?_)
             | (refine Ints.ln (Mat.row (by assumption) _ (by omega)) ?_)
             | (refine Ints.ix (by assumption) (by omega) ?_)
             | (refine Mat.ix (by assumption) (by omega) ?_)
             | (refine Ints.ix (Mat.row (by assumption) _ (by omega)) (by omega) ?_)
             | (refine Ints.ix (c := 0) (by assumption) (by omega) ?_)
             | (refine Mat.ix (c := 0) (by assumption) (by omega) ?_)
             | (refine Ints.ix (c := 0) (Mat.row (by assumption) _ (by omega)) (by omega) ?_)
             | (refine Ints.ixI (by assumption) (by omega) ?_)
             | (refine Mat.ixI (by assumption) (by omega) ?_)
             | (refine Ints.ixI (Mat.row (by assumption) _ (by omega)) (by omega) ?_)
             | (refine Ints.ld (by assumption) (by omega) ?_)
             | (refine Mat.ld (by assumption) (by omega) ?_)
             | (refine Ints.ld (Mat.row (by assumption) _ (by omega)) (by omega) ?_)
             | (refine At.ld (by assumption) rfl ?_)
             | (refine At.ldN (by assumption) rfl ?_))
    rw [vld_chk hck]; exact ⟨rfl, E2⟩
end Go.Proofs.Ytkgogljfngplnaa
set_option linter.unusedVariables false
set_option linter.unusedSimpArgs false
namespace Go.Proofs.Ytkgogljfngplnaa
open Go.Eng
set_option maxRecDepth 100000

theorem sum_pc {w : World} {sv : Value} {l : List Int} (Hs : Ints w sv l) (hb : ∀ j, 0 ≤ l.getD j 0 ∧ l.getD j 0 ≤ 1000) (hl : l.length ≤ 10) : PC Try.prog 70 [sv] w (.int .i64 (sumTo l l.length)) := by
  refine PC.mk tyOk Try.func70 rfl (by kernel_rfl) fun w1 E1 => ?_
  replace Hs := Hs.ext E1
  repeat' (conv => whnf
           first
           | (refine Dr.quiet tyOk (by kernel_rfl) ?_)
           | (refine Rng.mk (by omega) ?_)
           | (refine Split.pos (by omega) ?_)
           | (refine Split.neg (by omega) ?_)
           | (refine Split.mk (fun h => ?_) (fun h => ?_))
           | (refine Need.mk (by omega) ?_)
           | (refine Ints.ln (by assumption) ?_)
           | (refine Mat.ln (by assumption) ?_)
           | (refine Ints.ln (Mat.row (by assumption) _ (by omega)) ?_)
           | (refine Ints.ix (by assumption) (by omega) ?_)
           | (refine Mat.ix (by assumption) (by omega) ?_)
           | (refine Ints.ix (Mat.row (by assumption) _ (by omega)) (by omega) ?_)
           | (refine Ints.ix (c := 0) (by assumption) (by omega) ?_)
           | (refine Mat.ix (c := 0) (by assumption) (by omega) ?_)
           | (refine Ints.ix (c := 0) (Mat.row (by assumption) _ (by omega)) (by omega) ?_)
           | (refine Ints.ixI (by assumption) (by omega) ?_)
           | (refine Mat.ixI (by assumption) (by omega) ?_)
           | (refine Ints.ixI (Mat.row (by assumption) _ (by omega)) (by omega) ?_)
           | (refine Ints.ld (by assumption) (by omega) ?_)
           | (refine Mat.ld (by assumption) (by omega) ?_)
           | (refine Ints.ld (Mat.row (by assumption) _ (by omega)) (by omega) ?_)
           | (refine At.ld (by assumption) rfl ?_)
           | (refine At.ldN (by assumption) rfl ?_))
  refine Lp.mk tyOk [false, false, false, true, false, true, false, false, true, true, true, true, true, true, true, true] (fun m fr wr => getK fr 3 fun s => getK fr 8 fun j => ∃ c : Nat, c ≤ l.length ∧ m = l.length - c ∧ s = .int .i64 (sumTo l c) ∧ j = .int .i64 (c : Int) ∧ wr = w1) l.length ?_ ?_
  · exact ⟨0, Nat.zero_le _, rfl, rfl, rfl, rfl⟩
  · intro m w3 u3 u5 u8 u9 u10 u11 u12 u13 u14 u15 hR
    obtain ⟨c, hc, rfl, rfl, rfl, rfl⟩ := hR
    have hbd := sumTo_bd hb c
    have hbc := hb c
    repeat' (conv => whnf
             first
             | (refine Dr.quiet tyOk (by kernel_rfl) ?_)
             | (refine Rng.mk (by omega) ?_)
             | (refine Split.pos (by omega) ?_)
             | (refine Split.neg (by omega) ?_)
             | (refine Split.mk (fun h => ?_) (fun h => ?_))
             | (refine Need.mk (by omega) ?_)
             | (refine Ints.ln (by assumption) ?_)
             | (refine Mat.ln (by assumption) ?_)
             | (refine Ints.ln (Mat.row (by assumption) _ (by omega)) ?_)
             | (refine Ints.ix (by assumption) (by omega) ?_)
             | (refine Mat.ix (by assumption) (by omega) ?_)
             | (refine Ints.ix (Mat.row (by assumption) _ (by omega)) (by omega) ?_)
             | (refine Ints.ix (c := 0) (by assumption) (by omega) ?_)
             | (refine Mat.ix (c := 0) (by assumption) (by omega) ?_)
             | (refine Ints.ix (c := 0) (Mat.row (by assumption) _ (by omega)) (by omega) ?_)
             | (refine Ints.ixI (by assumption) (by omega) ?_)
             | (refine Mat.ixI (by assumption) (by omega) ?_)
             | (refine Ints.ixI (Mat.row (by assumption) _ (by omega)) (by omega) ?_)
             | (refine Ints.ld (by assumption) (by omega) ?_)
             | (refine Mat.ld (by assumption) (by omega) ?_)
             | (refine Ints.ld (Mat.row (by assumption) _ (by omega)) (by omega) ?_)
             | (refine At.ld (by assumption) rfl ?_)
             | (refine At.ldN (by assumption) rfl ?_))
    · exact ⟨_, (by omega : l.length - (c + 1) < l.length - c), rfl, c + 1, by omega, rfl, rfl, rfl, rfl⟩
    · obtain rfl : c = l.length := by omega
      exact ⟨rfl, Ext.refl _⟩

/-- the row of values when c goods are counted -/
def rowTo (a r : List Int) (n c : Nat) : List Int := (List.range n).map fun (k : Nat) => worth a r k c
theorem rowTo_len (a r : List Int) (n c : Nat) : (rowTo a r n c).length = n := by simp [rowTo]
theorem rowTo_get {a r : List Int} {n c k : Nat} (h : k < n) : (rowTo a r n c).getD k 0 = worth a r k c := by simp [rowTo, List.getD, h]
theorem rowTo_set {a r : List Int} {n c : Nat} {k : Int} (hk : a.getD c 0 = k) (h0 : 0 ≤ k) (h : k < n) : (rowTo a r n c).set k.toNat ((rowTo a r n c).getD k.toNat 0 + r.getD c 0) = rowTo a r n (c + 1) := by
  apply ext_getD 0
  · simp [rowTo]
  · intro i hi
    have hi' : i < n := by simpa [rowTo] using hi
    rw [rowTo_get hi', rowTo_get (by omega : k.toNat < n)]
    by_cases e : i = k.toNat
    · subst e
      have e2 : ((k.toNat : Nat) : Int) = k := by omega
      rw [List.getD, List.getElem?_set_self (by rw [rowTo_len]; exact hi')]
      simp only [Option.getD_some, worth, e2, if_pos hk]
    · rw [List.getD, List.getElem?_set_ne (fun h => e h.symm)]
      have : (rowTo a r n c)[i]?.getD 0 = worth a r i c := by have := rowTo_get (a := a) (r := r) (c := c) hi'; simpa [List.getD] using this
      rw [this]
      simp only [worth]
      rw [if_neg (by omega)]; omega
theorem rowTo_skip {a r : List Int} {n c : Nat} (h : a.getD c 0 < 0) : rowTo a r n (c + 1) = rowTo a r n c := by
  apply ext_getD 0
  · simp [rowTo]
  · intro i hi
    have hi' : i < n := by simpa [rowTo] using hi
    rw [rowTo_get hi', rowTo_get hi']
    simp only [worth]
    rw [if_neg (by omega)]; omega
theorem rowTo_zero (a r : List Int) (n : Nat) : (rowTo a r n 0).map i64v = List.replicate n (.int .i64 0) := by
  rw [List.eq_replicate_iff]; simp [rowTo, worth, i64v]

theorem set_map (l : List Int) (k : Nat) (x : Int) : (l.map i64v).set k (.int .i64 x) = (l.set k x).map i64v := by rw [List.map_set]; rfl

theorem gvalues_rc {w : World} {gv av : Value} {vs : List Value} {rr : List (List Int)} {a : List Int} (Hg : Mat w gv vs rr) (Ha : Ints w av a) :
    RC Try.prog 58 [.agg #[gv], av] w NoB (fun u w' => ∃ v us, u = .tuple #[v, .int .i64 (vld rr a)] ∧ OM w.heap.size w' v us (valsR rr a)) := by
  refine RC.mk tyOk Try.func58 rfl (by kernel_rfl) fun w1 E1 => ?_
  replace Hg := Hg.ext E1
  replace Ha := Ha.ext E1
  refine Bx.agg fun b w2 E2 _ Hb _ => ?_
  replace Hg := Hg.ext E2
  replace Ha := Ha.ext E2
  by_cases hv : vld rr a = 0
  · have hal := al_of_vld hv
    have hn := hal.n6
    have hm := hal.m10
    have hlen := hal.len
    repeat' (conv => whnf
             first
             | (refine Dr.quiet tyOk (by kernel_rfl) ?_)
             | (refine VC.pure (gvalid_pc Hg Ha) ?_)
             | (refine Rng.mk (by omega) ?_)
             | (refine Split.pos (by omega) ?_)
             | (refine Split.neg (by omega) ?_)
             | (refine Split.mk (fun h => ?_) (fun h => ?_))
             | (refine Need.mk (by omega) ?_)
             | (refine Ints.ln (by assumption) ?_)
             | (refine Mat.ln (by assumption) ?_)
             | (refine Ints.ln (Mat.row (by assumption) _ (by omega)) ?_)
             | (refine Ints.ix (by assumption) (by omega) ?_)
             | (refine Mat.ix (by assumption) (by omega) ?_)
             | (refine Ints.ix (Mat.row (by assumption) _ (by omega)) (by omega) ?_)
             | (refine Ints.ix (c := 0) (by assumption) (by omega) ?_)
             | (refine Mat.ix (c := 0) (by assumption) (by omega) ?_)
             | (refine Ints.ix (c := 0) (Mat.row (by assumption) _ (by omega)) (by omega) ?_)
             | (refine Ints.ixI (by assumption) (by omega) ?_)
             | (refine Mat.ixI (by assumption) (by omega) ?_)
             | (refine Ints.ixI (Mat.row (by assumption) _ (by omega)) (by omega) ?_)
             | (refine Ints.ld (by assumption) (by omega) ?_)
             | (refine Mat.ld (by assumption) (by omega) ?_)
             | (refine Ints.ld (Mat.row (by assumption) _ (by omega)) (by omega) ?_)
             | (refine At.ld (by assumption) rfl ?_)
             | (refine At.ldN (by assumption) rfl ?_))
    refine Lp.mk tyOk [false, false, false, false, false, false, false, true, false, true, true, true, true, false, false, false, false, false, false, false, false, false, true, true, true, true, true, true, true, true, true, true, true, true, true, true, true, true, true, true, true, true, true, true, true, true, true, true, true, true, true, true, true, true, true] (fun m fr wr => getK fr 7 fun v => getK fr 22 fun j => ∃ (c : Nat) (us : List Value), c ≤ rr.length ∧ m = rr.length - c ∧ j = .int .i64 (c : Int) ∧ Ext w2 wr ∧ OM w2.heap.size wr v us ((List.range c).map fun i => (List.range rr.length).map fun (k : Nat) => wth rr a i k)) rr.length ?_ ?_
    · exact ⟨0, [], Nat.zero_le _, rfl, rfl, Ext.refl _, OM.nil⟩
    · intro m w3 u7 u9 u10 u11 u12 u22 u23 u24 u25 u26 u27 u28 u29 u30 u31 u32 u33 u34 u35 u36 u37 u38 u39 u40 u41 u42 u43 u44 u45 u46 u47 u48 u49 u50 u51 u52 u53 u54 hR
      obtain ⟨c, us, hc, rfl, rfl, EE, Ho⟩ := hR
      replace Hg := Hg.ext EE
      replace Ha := Ha.ext EE
      replace Hb := Hb.ext EE
      repeat' (conv => whnf
               first
               | (refine Dr.quiet tyOk (by kernel_rfl) ?_)
               | (refine Rng.mk (by omega) ?_)
               | (refine Split.pos (by omega) ?_)
               | (refine Split.neg (by omega) ?_)
               | (refine Split.mk (fun h => ?_) (fun h => ?_))
               | (refine Need.mk (by omega) ?_)
               | (refine Ints.ln (by assumption) ?_)
               | (refine Mat.ln (by assumption) ?_)
               | (refine Ints.ln (Mat.row (by assumption) _ (by omega)) ?_)
               | (refine Ints.ix (by assumption) (by omega) ?_)
               | (refine Mat.ix (by assumption) (by omega) ?_)
               | (refine Ints.ix (Mat.row (by assumption) _ (by omega)) (by omega) ?_)
               | (refine Ints.ix (c := 0) (by assumption) (by omega) ?_)
               | (refine Mat.ix (c := 0) (by assumption) (by omega) ?_)
               | (refine Ints.ix (c := 0) (Mat.row (by assumption) _ (by omega)) (by omega) ?_)
               | (refine Ints.ixI (by assumption) (by omega) ?_)
               | (refine Mat.ixI (by assumption) (by omega) ?_)
               | (refine Ints.ixI (Mat.row (by assumption) _ (by omega)) (by omega) ?_)
               | (refine Ints.ld (by assumption) (by omega) ?_)
               | (refine Mat.ld (by assumption) (by omega) ?_)
               | (refine Ints.ld (Mat.row (by assumption) _ (by omega)) (by omega) ?_)
               | (refine At.ld (by assumption) rfl ?_)
               | (refine At.ldN (by assumption) rfl ?_))
      · have hrc := hal.row c (by omega)
        refine VE.made Try.underlying27 eInt rfl (by omega) (by omega) fun rv w4 E4 Hmk _ => ?_
        have Hr0 := Hmk _ (Nat.le_refl _)
        rw [← rowTo_zero a (rr.getD c [])] at Hr0
        have Hg3 := Hg
        have Ha3 := Ha
        have Hb3 := Hb
        have Ho3 := Ho
        repeat' (conv => whnf
                 first
                 | (refine Dr.quiet tyOk (by kernel_rfl) ?_)
                 | (refine Rng.mk (by omega) ?_)
                 | (refine Split.pos (by omega) ?_)
                 | (refine Split.neg (by omega) ?_)
                 | (refine Split.mk (fun h => ?_) (fun h => ?_))
                 | (refine Need.mk (by omega) ?_)
                 | (refine Ints.ln (by assumption) ?_)
                 | (refine Mat.ln (by assumption) ?_)
                 | (refine Ints.ln (Mat.row (by assumption) _ (by omega)) ?_)
                 | (refine Ints.ix (by assumption) (by omega) ?_)
                 | (refine Mat.ix (by assumption) (by omega) ?_)
                 | (refine Ints.ix (Mat.row (by assumption) _ (by omega)) (by omega) ?_)
                 | (refine Ints.ix (c := 0) (by assumption) (by omega) ?_)
                 | (refine Mat.ix (c := 0) (by assumption) (by omega) ?_)
                 | (refine Ints.ix (c := 0) (Mat.row (by assumption) _ (by omega)) (by omega) ?_)
                 | (refine Ints.ixI (by assumption) (by omega) ?_)
                 | (refine Mat.ixI (by assumption) (by omega) ?_)
                 | (refine Ints.ixI (Mat.row (by assumption) _ (by omega)) (by omega) ?_)
                 | (refine Ints.ld (by assumption) (by omega) ?_)
                 | (refine Mat.ld (by assumption) (by omega) ?_)
                 | (refine Ints.ld (Mat.row (by assumption) _ (by omega)) (by omega) ?_)
                 | (refine At.ld (by assumption) rfl ?_)
                 | (refine At.ldN (by assumption) rfl ?_))
        refine Lp.mk tyOk [false, false, false, false, false, false, false, false, false, false, false, true, true, false, false, false, false, false, false, false, false, false, false, false, false, false, false, false, false, false, false, false, true, true, true, true, true, true, true, true, true, true, true, true, true, true, true, true, true, true] (fun m fr wr => getK fr 32 fun j => ∃ c2 : Nat, c2 ≤ a.length ∧ m = a.length - c2 ∧ j = .int .i64 (c2 : Int) ∧ Ext w3 wr ∧ Go.Eng.Own w3.heap.size 3 1 wr rv rr.length ((rowTo a (rr.getD c []) rr.length c2).map i64v)) a.length ?_ ?_
        · exact ⟨0, Nat.zero_le _, rfl, rfl, E4, Hr0⟩
        · intro m w4 u11 u12 u32 u33 u34 u35 u36 u37 u38 u39 u40 u41 u42 u43 u44 u45 u46 u47 u48 u49 hR
          obtain ⟨c2, hc2, rfl, rfl, E5, Hr⟩ := hR
          have hchk := hal.rng c2
          have hrc := hal.row c (by omega)
          have hval := hal.val c c2
          have hrl := rowTo_len a (rr.getD c []) rr.length c2
          replace Hg := Hg3.ext E5
          replace Ha := Ha3.ext E5
          replace Hb := Hb3.ext E5
          replace Ho := Ho3.ext E5
          have HrI : Ints w4 rv (rowTo a (rr.getD c []) rr.length c2) := by
            have := Own.sl Hr
            unfold Ints; rw [rowTo_len]; exact this
          have hbv : c2 < a.length → 0 ≤ a.getD c2 0 → 0 ≤ (rowTo a (rr.getD c []) rr.length c2).getD (a.getD c2 0).toNat 0 ∧ (rowTo a (rr.getD c []) rr.length c2).getD (a.getD c2 0).toNat 0 ≤ 10000 := by
            intro h1 h2
            rw [rowTo_get (by omega)]
            have := worth_bd (a := a) (k := ((a.getD c2 0).toNat : Int)) (fun j => hal.val c j) c2
            omega
          have hvd : (rr.getD c []).getD c2 0 = val rr c c2 := rfl
          repeat' (conv => whnf
                   first
                   | (refine Dr.tail 10 tyOk (by kernel_rfl) ?_)
                   | (refine Rng.mk (by omega) ?_)
                   | (refine Split.pos (by omega) ?_)
                   | (refine Split.neg (by omega) ?_)
                   | (refine Split.mk (fun h => ?_) (fun h => ?_))
                   | (refine Need.mk (by omega) ?_)
                   | (refine Ints.ln (by assumption) ?_)
                   | (refine Mat.ln (by assumption) ?_)
                   | (refine Ints.ln (Mat.row (by assumption) _ (by omega)) ?_)
                   | (refine Ints.ix (by assumption) (by omega) ?_)
                   | (refine Mat.ix (by assumption) (by omega) ?_)
                   | (refine Ints.ix (Mat.row (by assumption) _ (by omega)) (by omega) ?_)
                   | (refine Ints.ix (c := 0) (by assumption) (by omega) ?_)
                   | (refine Mat.ix (c := 0) (by assumption) (by omega) ?_)
                   | (refine Ints.ix (c := 0) (Mat.row (by assumption) _ (by omega)) (by omega) ?_)
                   | (refine Ints.ixI (by assumption) (by omega) ?_)
                   | (refine Mat.ixI (by assumption) (by omega) ?_)
                   | (refine Ints.ixI (Mat.row (by assumption) _ (by omega)) (by omega) ?_)
                   | (refine Ints.ld (by assumption) (by omega) ?_)
                   | (refine Mat.ld (by assumption) (by omega) ?_)
                   | (refine Ints.ld (Mat.row (by assumption) _ (by omega)) (by omega) ?_)
                   | (refine At.ld (by assumption) rfl ?_)
                   | (refine At.ldN (by assumption) rfl ?_))
          · refine Own.set Hr (by rw [List.length_map, hrl]; omega) rfl fun w5 G5 H5 => ?_
            repeat' (conv => whnf
                     first
                     | (refine Dr.quiet tyOk (by kernel_rfl) ?_)
                     | (refine Rng.mk (by omega) ?_)
                     | (refine Split.pos (by omega) ?_)
                     | (refine Split.neg (by omega) ?_)
                     | (refine Split.mk (fun h => ?_) (fun h => ?_))
                     | (refine Need.mk (by omega) ?_)
                     | (refine Ints.ln (by assumption) ?_)
                     | (refine Mat.ln (by assumption) ?_)
                     | (refine Ints.ln (Mat.row (by assumption) _ (by omega)) ?_)
                     | (refine Ints.ix (by assumption) (by omega) ?_)
                     | (refine Mat.ix (by assumption) (by omega) ?_)
                     | (refine Ints.ix (Mat.row (by assumption) _ (by omega)) (by omega) ?_)
                     | (refine Ints.ix (c := 0) (by assumption) (by omega) ?_)
                     | (refine Mat.ix (c := 0) (by assumption) (by omega) ?_)
                     | (refine Ints.ix (c := 0) (Mat.row (by assumption) _ (by omega)) (by omega) ?_)
                     | (refine Ints.ixI (by assumption) (by omega) ?_)
                     | (refine Mat.ixI (by assumption) (by omega) ?_)
                     | (refine Ints.ixI (Mat.row (by assumption) _ (by omega)) (by omega) ?_)
                     | (refine Ints.ld (by assumption) (by omega) ?_)
                     | (refine Mat.ld (by assumption) (by omega) ?_)
                     | (refine Ints.ld (Mat.row (by assumption) _ (by omega)) (by omega) ?_)
                     | (refine At.ld (by assumption) rfl ?_)
                     | (refine At.ldN (by assumption) rfl ?_))
            refine ⟨_, (by omega : a.length - (c2 + 1) < a.length - c2), rfl, c2 + 1, by omega, rfl, rfl, ?_, ?_⟩
            · exact Own.keep Hr E5 (Nat.le_refl _) G5
            · rw [set_map, rowTo_set rfl (by omega) (by omega)] at H5
              exact H5
          · refine ⟨_, (by omega : a.length - (c2 + 1) < a.length - c2), rfl, c2 + 1, by omega, rfl, rfl, E5, ?_⟩
            rw [rowTo_skip (by omega)]
            exact Hr
          · obtain rfl : c2 = a.length := by omega
            have Hr0 : OI w4 rv ((List.range rr.length).map fun (k : Nat) => wth rr a c k) := OI.of Hr
            refine VE.lit1 Try.underlying22 eRow ((Sl.cells (Own.sl Hr0)).1) fun lv w5 E6 Hl => ?_
            replace Ho := Ho.ext E6
            replace Hr0 := Hr0.ext E6
            conv => whnf
            refine VE.app Try.underlying22 eRow rfl (by omega) Ho.top (EE.trans (E5.trans E6)) rfl Hl (by intro u hu; simp only [List.mem_singleton] at hu; subst hu; exact (Sl.cells (Own.sl Hr0)).2) (by first | omega | (simp only [List.length_map, List.length_range]; omega)) (by first | omega | (simp only [List.length_map, List.length_range]; omega)) fun v6 w6 E7 G7 H7 => ?_
            repeat' (conv => whnf
                     first
                     | (refine Dr.quiet tyOk (by kernel_rfl) ?_)
                     | (refine Rng.mk (by omega) ?_)
                     | (refine Split.pos (by omega) ?_)
                     | (refine Split.neg (by omega) ?_)
                     | (refine Split.mk (fun h => ?_) (fun h => ?_))
                     | (refine Need.mk (by omega) ?_)
                     | (refine Ints.ln (by assumption) ?_)
                     | (refine Mat.ln (by assumption) ?_)
                     | (refine Ints.ln (Mat.row (by assumption) _ (by omega)) ?_)
                     | (refine Ints.ix (by assumption) (by omega) ?_)
                     | (refine Mat.ix (by assumption) (by omega) ?_)
                     | (refine Ints.ix (Mat.row (by assumption) _ (by omega)) (by omega) ?_)
                     | (refine Ints.ix (c := 0) (by assumption) (by omega) ?_)
                     | (refine Mat.ix (c := 0) (by assumption) (by omega) ?_)
                     | (refine Ints.ix (c := 0) (Mat.row (by assumption) _ (by omega)) (by omega) ?_)
                     | (refine Ints.ixI (by assumption) (by omega) ?_)
                     | (refine Mat.ixI (by assumption) (by omega) ?_)
                     | (refine Ints.ixI (Mat.row (by assumption) _ (by omega)) (by omega) ?_)
                     | (refine Ints.ld (by assumption) (by omega) ?_)
                     | (refine Mat.ld (by assumption) (by omega) ?_)
                     | (refine Ints.ld (Mat.row (by assumption) _ (by omega)) (by omega) ?_)
                     | (refine At.ld (by assumption) rfl ?_)
                     | (refine At.ldN (by assumption) rfl ?_))
            refine ⟨_, (by omega : rr.length - (c + 1) < rr.length - c), rfl, c + 1, us ++ [rv], by omega, rfl, rfl, E7, ?_⟩
            rw [map_range_succ]
            exact Ho.push Hr0 G7 H7
      · obtain rfl : c = rr.length := by omega
        refine ⟨E2.trans EE, _, us, by rw [hv], ?_⟩
        rw [valsR, if_pos hv]
        exact Ho.base (Nat.le_trans E1.size E2.size)
  · repeat' (conv => whnf
             first
             | (refine Dr.quiet tyOk (by kernel_rfl) ?_)
             | (refine VC.pure (gvalid_pc Hg Ha) ?_)
             | (refine Rng.mk (by omega) ?_)
             | (refine Split.pos (by omega) ?_)
             | (refine Split.neg (by omega) ?_)
             | (refine Split.mk (fun h => ?_) (fun h => ?_))
             | (refine Need.mk (by omega) ?_)
             | (refine Ints.ln (by assumption) ?_)
             | (refine Mat.ln (by assumption) ?_)
             | (refine Ints.ln (Mat.row (by assumption) _ (by omega)) ?_)
             | (refine Ints.ix (by assumption) (by omega) ?_)
             | (refine Mat.ix (by assumption) (by omega) ?_)
             | (refine Ints.ix (Mat.row (by assumption) _ (by omega)) (by omega) ?_)
             | (refine Ints.ix (c := 0) (by assumption) (by omega) ?_)
             | (refine Mat.ix (c := 0) (by assumption) (by omega) ?_)
             | (refine Ints.ix (c := 0) (Mat.row (by assumption) _ (by omega)) (by omega) ?_)
             | (refine Ints.ixI (by assumption) (by omega) ?_)
             | (refine Mat.ixI (by assumption) (by omega) ?_)
             | (refine Ints.ixI (Mat.row (by assumption) _ (by omega)) (by omega) ?_)
             | (refine Ints.ld (by assumption) (by omega) ?_)
             | (refine Mat.ld (by assumption) (by omega) ?_)
             | (refine Ints.ld (Mat.row (by assumption) _ (by omega)) (by omega) ?_)
             | (refine At.ld (by assumption) rfl ?_)
             | (refine At.ldN (by assumption) rfl ?_))
    refine ⟨E2, _, [], rfl, ?_⟩
    rw [valsR, if_neg hv]
    exact OM.nil

theorem vals_len (rr : List (List Int)) (a : List Int) : (vals rr a).length = rr.length := by simp [vals]
theorem vals_row {rr : List (List Int)} {a : List Int} {i : Nat} (h : i < rr.length) : (vals rr a).getD i [] = (List.range rr.length).map fun (k : Nat) => wth rr a i k := by simp [vals, List.getD, h]
theorem vals_rlen {rr : List (List Int)} {a : List Int} {i : Nat} (h : i < rr.length) : ((vals rr a).getD i []).length = rr.length := by rw [vals_row h]; simp
theorem vals_get {rr : List (List Int)} {a : List Int} {i k : Nat} (h : i < rr.length) (hk : k < rr.length) : ((vals rr a).getD i []).getD k 0 = wth rr a i k := by rw [vals_row h]; simp [List.getD, hk]

theorem genvies_rc {w : World} {gv av : Value} {vs : List Value} {rr : List (List Int)} {a : List Int} (Hg : Mat w gv vs rr) (Ha : Ints w av a) :
    RC Try.prog 82 [.agg #[gv], av] w NoB (fun u w' => ∃ v, u = .tuple #[v, .int .i64 (vld rr a)] ∧ OP w.heap.size w' v (envsR rr a)) := by
  refine RC.mk tyOk Try.func82 rfl (by kernel_rfl) fun w1 E1 => ?_
  replace Hg := Hg.ext E1
  replace Ha := Ha.ext E1
  refine Bx.agg fun b w2 E2 _ Hb _ => ?_
  replace Hg := Hg.ext E2
  replace Ha := Ha.ext E2
  by_cases hv : vld rr a = 0
  · have hal := al_of_vld hv
    have hn := hal.n6
    have hm := hal.m10
    have hlen := hal.len
    conv => whnf
    refine At.ldN Hb rfl ?_
    conv => whnf
    refine VC.rc (gvalues_rc Hg Ha) ?_
    rintro _ w3 E3 ⟨v, us, rfl, HO⟩
    rw [valsR, if_pos hv] at HO
    have HV := HO.mat
    have hvl := vals_len rr a
    replace Hg := Hg.ext E3
    replace Ha := Ha.ext E3
    replace Hb := Hb.ext E3
    repeat' (conv => whnf
             first
             | (refine Dr.quiet tyOk (by kernel_rfl) ?_)
             | (refine Rng.mk (by omega) ?_)
             | (refine Split.pos (by omega) ?_)
             | (refine Split.neg (by omega) ?_)
             | (refine Split.mk (fun h => ?_) (fun h => ?_))
             | (refine Need.mk (by omega) ?_)
             | (refine Ints.ln (by assumption) ?_)
             | (refine Mat.ln (by assumption) ?_)
             | (refine Ints.ln (Mat.row (by assumption) _ (by omega)) ?_)
             | (refine Ints.ix (by assumption) (by omega) ?_)
             | (refine Mat.ix (by assumption) (by omega) ?_)
             | (refine Ints.ix (Mat.row (by assumption) _ (by omega)) (by omega) ?_)
             | (refine Ints.ix (c := 0) (by assumption) (by omega) ?_)
             | (refine Mat.ix (c := 0) (by assumption) (by omega) ?_)
             | (refine Ints.ix (c := 0) (Mat.row (by assumption) _ (by omega)) (by omega) ?_)
             | (refine Ints.ixI (by assumption) (by omega) ?_)
             | (refine Mat.ixI (by assumption) (by omega) ?_)
             | (refine Ints.ixI (Mat.row (by assumption) _ (by omega)) (by omega) ?_)
             | (refine Ints.ld (by assumption) (by omega) ?_)
             | (refine Mat.ld (by assumption) (by omega) ?_)
             | (refine Ints.ld (Mat.row (by assumption) _ (by omega)) (by omega) ?_)
             | (refine At.ld (by assumption) rfl ?_)
             | (refine At.ldN (by assumption) rfl ?_))
    refine Lp.mk tyOk [false, false, false, false, false, false, false, false, true, true, true, true, true, false, false, false, false, false, false, false, false, false, false, false, true, true, true, true, true, true, true, true, true, true, true, true, true, true, true, true, true, true, true, true, true, true, true, true, true, true] (fun m fr wr => getK fr 8 fun v => getK fr 24 fun j => ∃ (c : Nat), c ≤ rr.length ∧ m = rr.length - c ∧ j = .int .i64 (c : Int) ∧ Ext w3 wr ∧ OP w3.heap.size wr v (envTo (fun i (k : Nat) => wth rr a i k) rr.length c)) rr.length ?_ ?_
    · exact ⟨0, Nat.zero_le _, rfl, rfl, Ext.refl _, Own.nil⟩
    · intro m w4 u8 u9 u10 u11 u12 u24 u25 u26 u27 u28 u29 u30 u31 u32 u33 u34 u35 u36 u37 u38 u39 u40 u41 u42 u43 u44 u45 u46 u47 u48 u49 hR
      obtain ⟨c, hc, rfl, rfl, EE, Ho⟩ := hR
      have hT := envTo_len (fun i (k : Nat) => wth rr a i k) rr.length c
      have hTc := Nat.mul_le_mul hc hn
      have HV3 := HV
      have hrl := vals_rlen (rr := rr) (a := a) (i := c)
      replace HV := HV.ext EE
      repeat' (conv => whnf
               first
               | (refine Dr.quiet tyOk (by kernel_rfl) ?_)
               | (refine Rng.mk (by omega) ?_)
               | (refine Split.pos (by omega) ?_)
               | (refine Split.neg (by omega) ?_)
               | (refine Split.mk (fun h => ?_) (fun h => ?_))
               | (refine Need.mk (by omega) ?_)
               | (refine Ints.ln (by assumption) ?_)
               | (refine Mat.ln (by assumption) ?_)
               | (refine Ints.ln (Mat.row (by assumption) _ (by omega)) ?_)
               | (refine Ints.ix (by assumption) (by omega) ?_)
               | (refine Mat.ix (by assumption) (by omega) ?_)
               | (refine Ints.ix (Mat.row (by assumption) _ (by omega)) (by omega) ?_)
               | (refine Ints.ix (c := 0) (by assumption) (by omega) ?_)
               | (refine Mat.ix (c := 0) (by assumption) (by omega) ?_)
               | (refine Ints.ix (c := 0) (Mat.row (by assumption) _ (by omega)) (by omega) ?_)
               | (refine Ints.ixI (by assumption) (by omega) ?_)
               | (refine Mat.ixI (by assumption) (by omega) ?_)
               | (refine Ints.ixI (Mat.row (by assumption) _ (by omega)) (by omega) ?_)
               | (refine Ints.ld (by assumption) (by omega) ?_)
               | (refine Mat.ld (by assumption) (by omega) ?_)
               | (refine Ints.ld (Mat.row (by assumption) _ (by omega)) (by omega) ?_)
               | (refine At.ld (by assumption) rfl ?_)
               | (refine At.ldN (by assumption) rfl ?_))
      · refine Lp.mk tyOk [false, false, false, false, false, false, false, false, true, false, false, true, true, false, false, false, false, false, false, false, false, false, false, false, false, false, false, false, false, false, false, true, true, true, true, true, true, true, true, true, true, true, true, true, true, true, true, true, true] (fun m fr wr => getK fr 8 fun v => getK fr 31 fun j => ∃ c2 : Nat, c2 ≤ rr.length ∧ m = rr.length - c2 ∧ j = .int .i64 (c2 : Int) ∧ Ext w3 wr ∧ OP w3.heap.size wr v (envTo (fun i (k : Nat) => wth rr a i k) rr.length c ++ envRow (fun (k : Nat) => wth rr a c k) c c2)) rr.length ?_ ?_
        · exact ⟨0, Nat.zero_le _, rfl, rfl, EE, by simpa [envRow] using Ho⟩
        · intro m w5 u8 u11 u12 u31 u32 u33 u34 u35 u36 u37 u38 u39 u40 u41 u42 u43 u44 u45 u46 u47 u48 hR
          obtain ⟨c2, hc2, rfl, rfl, E4, Hr⟩ := hR
          have hL := envRow_len (fun (k : Nat) => wth rr a c k) c c2
          have hLA : (envTo (fun i (k : Nat) => wth rr a i k) rr.length c ++ envRow (fun (k : Nat) => wth rr a c k) c c2).length = (envTo (fun i (k : Nat) => wth rr a i k) rr.length c).length + (envRow (fun (k : Nat) => wth rr a c k) c c2).length := List.length_append
          replace HV := HV3.ext E4
          have e1 := vals_get (rr := rr) (a := a) (i := c) (k := c2)
          have e2 := vals_get (rr := rr) (a := a) (i := c) (k := c)
          repeat' (conv => whnf
                   first
                   | (refine Dr.quiet tyOk (by kernel_rfl) ?_)
                   | (refine Rng.mk (by omega) ?_)
                   | (refine Split.pos (by omega) ?_)
                   | (refine Split.neg (by omega) ?_)
                   | (refine Split.mk (fun h => ?_) (fun h => ?_))
                   | (refine Need.mk (by omega) ?_)
                   | (refine Ints.ln (by assumption) ?_)
                   | (refine Mat.ln (by assumption) ?_)
                   | (refine Ints.ln (Mat.row (by assumption) _ (by omega)) ?_)
                   | (refine Ints.ix (by assumption) (by omega) ?_)
                   | (refine Mat.ix (by assumption) (by omega) ?_)
                   | (refine Ints.ix (Mat.row (by assumption) _ (by omega)) (by omega) ?_)
                   | (refine Ints.ix (c := 0) (by assumption) (by omega) ?_)
                   | (refine Mat.ix (c := 0) (by assumption) (by omega) ?_)
                   | (refine Ints.ix (c := 0) (Mat.row (by assumption) _ (by omega)) (by omega) ?_)
                   | (refine Ints.ixI (by assumption) (by omega) ?_)
                   | (refine Mat.ixI (by assumption) (by omega) ?_)
                   | (refine Ints.ixI (Mat.row (by assumption) _ (by omega)) (by omega) ?_)
                   | (refine Ints.ld (by assumption) (by omega) ?_)
                   | (refine Mat.ld (by assumption) (by omega) ?_)
                   | (refine Ints.ld (Mat.row (by assumption) _ (by omega)) (by omega) ?_)
                   | (refine At.ld (by assumption) rfl ?_)
                   | (refine At.ldN (by assumption) rfl ?_))
          · refine VS.arr2 Try.underlying103 ePair cells3 ?_
            repeat' (conv => whnf
                     first
                     | (refine Dr.quiet tyOk (by kernel_rfl) ?_)
                     | (refine Rng.mk (by omega) ?_)
                     | (refine Split.pos (by omega) ?_)
                     | (refine Split.neg (by omega) ?_)
                     | (refine Split.mk (fun h => ?_) (fun h => ?_))
                     | (refine Need.mk (by omega) ?_)
                     | (refine Ints.ln (by assumption) ?_)
                     | (refine Mat.ln (by assumption) ?_)
                     | (refine Ints.ln (Mat.row (by assumption) _ (by omega)) ?_)
                     | (refine Ints.ix (by assumption) (by omega) ?_)
                     | (refine Mat.ix (by assumption) (by omega) ?_)
                     | (refine Ints.ix (Mat.row (by assumption) _ (by omega)) (by omega) ?_)
                     | (refine Ints.ix (c := 0) (by assumption) (by omega) ?_)
                     | (refine Mat.ix (c := 0) (by assumption) (by omega) ?_)
                     | (refine Ints.ix (c := 0) (Mat.row (by assumption) _ (by omega)) (by omega) ?_)
                     | (refine Ints.ixI (by assumption) (by omega) ?_)
                     | (refine Mat.ixI (by assumption) (by omega) ?_)
                     | (refine Ints.ixI (Mat.row (by assumption) _ (by omega)) (by omega) ?_)
                     | (refine Ints.ld (by assumption) (by omega) ?_)
                     | (refine Mat.ld (by assumption) (by omega) ?_)
                     | (refine Ints.ld (Mat.row (by assumption) _ (by omega)) (by omega) ?_)
                     | (refine At.ld (by assumption) rfl ?_)
                     | (refine At.ldN (by assumption) rfl ?_))
            refine VE.lit1A Try.underlying68 ePair rfl (by decide) fun lv w6 E5 Hl => ?_
            replace Hr := Hr.ext E5
            conv => whnf
            refine VE.app Try.underlying68 ePair rfl (by omega) Hr (E4.trans E5) rfl Hl (by simp [Value.oneCell']) (by first | omega | (simp only [List.length_map, List.length_range]; omega)) (by first | omega | (simp only [List.length_map, List.length_range]; omega)) fun v6 w7 E6 G6 H6 => ?_
            repeat' (conv => whnf
                     first
                     | (refine Dr.quiet tyOk (by kernel_rfl) ?_)
                     | (refine Rng.mk (by omega) ?_)
                     | (refine Split.pos (by omega) ?_)
                     | (refine Split.neg (by omega) ?_)
                     | (refine Split.mk (fun h => ?_) (fun h => ?_))
                     | (refine Need.mk (by omega) ?_)
                     | (refine Ints.ln (by assumption) ?_)
                     | (refine Mat.ln (by assumption) ?_)
                     | (refine Ints.ln (Mat.row (by assumption) _ (by omega)) ?_)
                     | (refine Ints.ix (by assumption) (by omega) ?_)
                     | (refine Mat.ix (by assumption) (by omega) ?_)
                     | (refine Ints.ix (Mat.row (by assumption) _ (by omega)) (by omega) ?_)
                     | (refine Ints.ix (c := 0) (by assumption) (by omega) ?_)
                     | (refine Mat.ix (c := 0) (by assumption) (by omega) ?_)
                     | (refine Ints.ix (c := 0) (Mat.row (by assumption) _ (by omega)) (by omega) ?_)
                     | (refine Ints.ixI (by assumption) (by omega) ?_)
                     | (refine Mat.ixI (by assumption) (by omega) ?_)
                     | (refine Ints.ixI (Mat.row (by assumption) _ (by omega)) (by omega) ?_)
                     | (refine Ints.ld (by assumption) (by omega) ?_)
                     | (refine Mat.ld (by assumption) (by omega) ?_)
                     | (refine Ints.ld (Mat.row (by assumption) _ (by omega)) (by omega) ?_)
                     | (refine At.ld (by assumption) rfl ?_)
                     | (refine At.ldN (by assumption) rfl ?_))
            refine ⟨_, (by omega : rr.length - (c2 + 1) < rr.length - c2), rfl, c2 + 1, by omega, rfl, rfl, E6, ?_⟩
            rw [flatP_snoc] at H6
            simp only [envRow, if_pos (by omega : wth rr a c c < wth rr a c c2), ← List.append_assoc]
            exact OP.of H6
          · refine ⟨_, (by omega : rr.length - (c2 + 1) < rr.length - c2), rfl, c2 + 1, by omega, rfl, rfl, E4, ?_⟩
            simp only [envRow, if_neg (by omega : ¬ wth rr a c c < wth rr a c c2), List.append_nil]
            exact Hr
          · obtain rfl : c2 = rr.length := by omega
            exact ⟨_, (by omega : rr.length - (c + 1) < rr.length - c), rfl, c + 1, by omega, rfl, rfl, E4, Hr⟩
      · obtain rfl : c = rr.length := by omega
        refine ⟨(E2.trans E3).trans EE, _, by rw [hv], ?_⟩
        rw [envsR, if_pos hv]
        exact Own.base Ho (Nat.le_trans (Nat.le_trans E1.size E2.size) E3.size)
  · conv => whnf
    refine At.ldN Hb rfl ?_
    conv => whnf
    refine VC.rc (gvalues_rc Hg Ha) ?_
    rintro _ w3 E3 ⟨v, us, rfl, HO⟩
    repeat' (conv => whnf
             first
             | (refine Dr.quiet tyOk (by kernel_rfl) ?_)
             | (refine Rng.mk (by omega) ?_)
             | (refine Split.pos (by omega) ?_)
             | (refine Split.neg (by omega) ?_)
             | (refine Split.mk (fun h => ?_) (fun h => ?_))
             | (refine Need.mk (by omega) ?_)
             | (refine Ints.ln (by assumption) ?_)
             | (refine Mat.ln (by assumption) ?_)
             | (refine Ints.ln (Mat.row (by assumption) _ (by omega)) ?_)
             | (refine Ints.ix (by assumption) (by omega) ?_)
             | (refine Mat.ix (by assumption) (by omega) ?_)
             | (refine Ints.ix (Mat.row (by assumption) _ (by omega)) (by omega) ?_)
             | (refine Ints.ix (c := 0) (by assumption) (by omega) ?_)
             | (refine Mat.ix (c := 0) (by assumption) (by omega) ?_)
             | (refine Ints.ix (c := 0) (Mat.row (by assumption) _ (by omega)) (by omega) ?_)
             | (refine Ints.ixI (by assumption) (by omega) ?_)
             | (refine Mat.ixI (by assumption) (by omega) ?_)
             | (refine Ints.ixI (Mat.row (by assumption) _ (by omega)) (by omega) ?_)
             | (refine Ints.ld (by assumption) (by omega) ?_)
             | (refine Mat.ld (by assumption) (by omega) ?_)
             | (refine Ints.ld (Mat.row (by assumption) _ (by omega)) (by omega) ?_)
             | (refine At.ld (by assumption) rfl ?_)
             | (refine At.ldN (by assumption) rfl ?_))
    refine ⟨E2.trans E3, _, rfl, ?_⟩
    rw [envsR, if_neg hv]
    exact Own.nil

theorem gpoor_rc {w : World} {gv av : Value} {vs : List Value} {rr : List (List Int)} {a : List Int} (Hg : Mat w gv vs rr) (Ha : Ints w av a) :
    RC Try.prog 54 [.agg #[gv], av] w NoB (fun u w' => ∃ v, u = .tuple #[v, .int .i64 (vld rr a)] ∧ OI w' v (poorR rr a)) := by
  refine RC.mk tyOk Try.func54 rfl (by kernel_rfl) fun w1 E1 => ?_
  replace Hg := Hg.ext E1
  replace Ha := Ha.ext E1
  refine Bx.agg fun b w2 E2 _ Hb _ => ?_
  replace Hg := Hg.ext E2
  replace Ha := Ha.ext E2
  by_cases hv : vld rr a = 0
  · have hal := al_of_vld hv
    have hn := hal.n6
    have hm := hal.m10
    have hlen := hal.len
    conv => whnf
    refine At.ldN Hb rfl ?_
    conv => whnf
    refine VC.rc (gvalues_rc Hg Ha) ?_
    rintro _ w3 E3 ⟨v, us, rfl, HO⟩
    rw [valsR, if_pos hv] at HO
    have HV := HO.mat
    have hvl := vals_len rr a
    replace Hg := Hg.ext E3
    replace Ha := Ha.ext E3
    replace Hb := Hb.ext E3
    repeat' (conv => whnf
             first
             | (refine Dr.quiet tyOk (by kernel_rfl) ?_)
             | (refine Rng.mk (by omega) ?_)
             | (refine Split.pos (by omega) ?_)
             | (refine Split.neg (by omega) ?_)
             | (refine Split.mk (fun h => ?_) (fun h => ?_))
             | (refine Need.mk (by omega) ?_)
             | (refine Ints.ln (by assumption) ?_)
             | (refine Mat.ln (by assumption) ?_)
             | (refine Ints.ln (Mat.row (by assumption) _ (by omega)) ?_)
             | (refine Ints.ix (by assumption) (by omega) ?_)
             | (refine Mat.ix (by assumption) (by omega) ?_)
             | (refine Ints.ix (Mat.row (by assumption) _ (by omega)) (by omega) ?_)
             | (refine Ints.ix (c := 0) (by assumption) (by omega) ?_)
             | (refine Mat.ix (c := 0) (by assumption) (by omega) ?_)
             | (refine Ints.ix (c := 0) (Mat.row (by assumption) _ (by omega)) (by omega) ?_)
             | (refine Ints.ixI (by assumption) (by omega) ?_)
             | (refine Mat.ixI (by assumption) (by omega) ?_)
             | (refine Ints.ixI (Mat.row (by assumption) _ (by omega)) (by omega) ?_)
             | (refine Ints.ld (by assumption) (by omega) ?_)
             | (refine Mat.ld (by assumption) (by omega) ?_)
             | (refine Ints.ld (Mat.row (by assumption) _ (by omega)) (by omega) ?_)
             | (refine At.ld (by assumption) rfl ?_)
             | (refine At.ldN (by assumption) rfl ?_))
    refine Lp.mk tyOk [false, false, false, false, false, false, false, false, true, true, true, false, false, false, false, false, false, false, false, false, false, false, true, true, true, true, true, true, true, true, true, true, true, true, true, true, true, true, true, true, true, true, true, true, true, true] (fun m fr wr => getK fr 8 fun v => getK fr 22 fun j => ∃ (c : Nat), c ≤ rr.length ∧ m = rr.length - c ∧ j = .int .i64 (c : Int) ∧ Ext w3 wr ∧ Go.Eng.Own w3.heap.size 3 1 wr v (filt (isPoor rr a) c).length ((filt (isPoor rr a) c).map i64v)) rr.length ?_ ?_
    · exact ⟨0, Nat.zero_le _, rfl, rfl, Ext.refl _, Own.nil⟩
    · intro m w4 u8 u9 u10 u22 u23 u24 u25 u26 u27 u28 u29 u30 u31 u32 u33 u34 u35 u36 u37 u38 u39 u40 u41 u42 u43 u44 u45 hR
      obtain ⟨c, hc, rfl, rfl, EE, Ho⟩ := hR
      have hT := filt_len (isPoor rr a) c
      have hrl := vals_rlen (rr := rr) (a := a) (i := c)
      have e2 := vals_get (rr := rr) (a := a) (i := c) (k := c)
      replace Hg := Hg.ext EE
      replace Ha := Ha.ext EE
      replace Hb := Hb.ext EE
      replace HV := HV.ext EE
      have hw := wth_bd (a := a) hal.toGd c c
      have hmul := mul_bd (n := (rr.length : Int)) (N := 6) (X := 10000) (by omega) (by omega) hw.1 (by omega)
      have hrow := hal.row c
      have hsum : c < rr.length → PC Try.prog 70 [vs.getD c undef] w4 (.int .i64 (sumTo (rr.getD c []) (rr.getD c []).length)) := fun h => sum_pc (Hg.row c h) (fun j => hal.val c j) (by have := hrow h; omega)
      have hsb := sumTo_bd (fun j => hal.val c j) (rr.getD c []).length
      have hmv : c < rr.length → (0 ≤ ((vals rr a).getD c []).getD c 0 * ((vals rr a).length : Int) ∧ ((vals rr a).getD c []).getD c 0 * ((vals rr a).length : Int) ≤ 60000) ∧ (isPoor rr a c = true ↔ ((vals rr a).getD c []).getD c 0 * ((vals rr a).length : Int) < sumTo (rr.getD c []) (rr.getD c []).length) := by
        intro h
        rw [e2 h h, hvl, Int.mul_comm]
        refine ⟨⟨hmul.1, by omega⟩, ?_⟩
        simp [isPoor, allv]
      by_cases hp : isPoor rr a c = true
      · have hq := fun h => (hmv h).2.1 hp
        repeat' (conv => whnf
                 first
                 | (refine Dr.quiet tyOk (by kernel_rfl) ?_)
                 | (refine VCQ.pure (hsum (by omega)) ?_)
                 | (refine Rng.mk (by omega) ?_)
                 | (refine Split.pos (by omega) ?_)
                 | (refine Split.neg (by omega) ?_)
                 | (refine Split.mk (fun h => ?_) (fun h => ?_))
                 | (refine Need.mk (by omega) ?_)
                 | (refine Ints.ln (by assumption) ?_)
                 | (refine Mat.ln (by assumption) ?_)
                 | (refine Ints.ln (Mat.row (by assumption) _ (by omega)) ?_)
                 | (refine Ints.ix (by assumption) (by omega) ?_)
                 | (refine Mat.ix (by assumption) (by omega) ?_)
                 | (refine Ints.ix (Mat.row (by assumption) _ (by omega)) (by omega) ?_)
                 | (refine Ints.ix (c := 0) (by assumption) (by omega) ?_)
                 | (refine Mat.ix (c := 0) (by assumption) (by omega) ?_)
                 | (refine Ints.ix (c := 0) (Mat.row (by assumption) _ (by omega)) (by omega) ?_)
                 | (refine Ints.ixI (by assumption) (by omega) ?_)
                 | (refine Mat.ixI (by assumption) (by omega) ?_)
                 | (refine Ints.ixI (Mat.row (by assumption) _ (by omega)) (by omega) ?_)
                 | (refine Ints.ld (by assumption) (by omega) ?_)
                 | (refine Mat.ld (by assumption) (by omega) ?_)
                 | (refine Ints.ld (Mat.row (by assumption) _ (by omega)) (by omega) ?_)
                 | (refine At.ld (by assumption) rfl ?_)
                 | (refine At.ldN (by assumption) rfl ?_))
        · refine VE.lit1 Try.underlying27 eInt (rfl) fun lv w5 E5 Hl => ?_
          replace Ho := Ho.ext E5
          conv => whnf
          refine VE.app Try.underlying27 eInt rfl (by omega) Ho (EE.trans E5) rfl Hl (by simp [Value.oneCell']) (by first | omega | (simp only [List.length_map, List.length_range]; omega)) (by first | omega | (simp only [List.length_map, List.length_range]; omega)) fun v6 w6 E6 G6 H6 => ?_
          repeat' (conv => whnf
                   first
                   | (refine Dr.quiet tyOk (by kernel_rfl) ?_)
                   | (refine Rng.mk (by omega) ?_)
                   | (refine Split.pos (by omega) ?_)
                   | (refine Split.neg (by omega) ?_)
                   | (refine Split.mk (fun h => ?_) (fun h => ?_))
                   | (refine Need.mk (by omega) ?_)
                   | (refine Ints.ln (by assumption) ?_)
                   | (refine Mat.ln (by assumption) ?_)
                   | (refine Ints.ln (Mat.row (by assumption) _ (by omega)) ?_)
                   | (refine Ints.ix (by assumption) (by omega) ?_)
                   | (refine Mat.ix (by assumption) (by omega) ?_)
                   | (refine Ints.ix (Mat.row (by assumption) _ (by omega)) (by omega) ?_)
                   | (refine Ints.ix (c := 0) (by assumption) (by omega) ?_)
                   | (refine Mat.ix (c := 0) (by assumption) (by omega) ?_)
                   | (refine Ints.ix (c := 0) (Mat.row (by assumption) _ (by omega)) (by omega) ?_)
                   | (refine Ints.ixI (by assumption) (by omega) ?_)
                   | (refine Mat.ixI (by assumption) (by omega) ?_)
                   | (refine Ints.ixI (Mat.row (by assumption) _ (by omega)) (by omega) ?_)
                   | (refine Ints.ld (by assumption) (by omega) ?_)
                   | (refine Mat.ld (by assumption) (by omega) ?_)
                   | (refine Ints.ld (Mat.row (by assumption) _ (by omega)) (by omega) ?_)
                   | (refine At.ld (by assumption) rfl ?_)
                   | (refine At.ldN (by assumption) rfl ?_))
          refine ⟨_, (by omega : rr.length - (c + 1) < rr.length - c), rfl, c + 1, by omega, rfl, rfl, E6, ?_⟩
          simp only [filt, if_pos hp, List.map_append, List.length_append]
          exact H6
        · obtain rfl : c = rr.length := by omega
          refine ⟨(E2.trans E3).trans EE, _, by rw [hv], ?_⟩
          rw [poorR, if_pos hv]
          exact OI.of Ho
      · have hq := fun h => mt (hmv h).2.2 hp
        repeat' (conv => whnf
                 first
                 | (refine Dr.quiet tyOk (by kernel_rfl) ?_)
                 | (refine VCQ.pure (hsum (by omega)) ?_)
                 | (refine Rng.mk (by omega) ?_)
                 | (refine Split.pos (by omega) ?_)
                 | (refine Split.neg (by omega) ?_)
                 | (refine Split.mk (fun h => ?_) (fun h => ?_))
                 | (refine Need.mk (by omega) ?_)
                 | (refine Ints.ln (by assumption) ?_)
                 | (refine Mat.ln (by assumption) ?_)
                 | (refine Ints.ln (Mat.row (by assumption) _ (by omega)) ?_)
                 | (refine Ints.ix (by assumption) (by omega) ?_)
                 | (refine Mat.ix (by assumption) (by omega) ?_)
                 | (refine Ints.ix (Mat.row (by assumption) _ (by omega)) (by omega) ?_)
                 | (refine Ints.ix (c := 0) (by assumption) (by omega) ?_)
                 | (refine Mat.ix (c := 0) (by assumption) (by omega) ?_)
                 | (refine Ints.ix (c := 0) (Mat.row (by assumption) _ (by omega)) (by omega) ?_)
                 | (refine Ints.ixI (by assumption) (by omega) ?_)
                 | (refine Mat.ixI (by assumption) (by omega) ?_)
                 | (refine Ints.ixI (Mat.row (by assumption) _ (by omega)) (by omega) ?_)
                 | (refine Ints.ld (by assumption) (by omega) ?_)
                 | (refine Mat.ld (by assumption) (by omega) ?_)
                 | (refine Ints.ld (Mat.row (by assumption) _ (by omega)) (by omega) ?_)
                 | (refine At.ld (by assumption) rfl ?_)
                 | (refine At.ldN (by assumption) rfl ?_))
        · refine ⟨_, (by omega : rr.length - (c + 1) < rr.length - c), rfl, c + 1, by omega, rfl, rfl, EE, ?_⟩
          simp only [filt, if_neg hp, List.append_nil]
          exact Ho
        · obtain rfl : c = rr.length := by omega
          refine ⟨(E2.trans E3).trans EE, _, by rw [hv], ?_⟩
          rw [poorR, if_pos hv]
          exact OI.of Ho
  · conv => whnf
    refine At.ldN Hb rfl ?_
    conv => whnf
    refine VC.rc (gvalues_rc Hg Ha) ?_
    rintro _ w3 E3 ⟨v, us, rfl, HO⟩
    repeat' (conv => whnf
             first
             | (refine Dr.quiet tyOk (by kernel_rfl) ?_)
             | (refine Rng.mk (by omega) ?_)
             | (refine Split.pos (by omega) ?_)
             | (refine Split.neg (by omega) ?_)
             | (refine Split.mk (fun h => ?_) (fun h => ?_))
             | (refine Need.mk (by omega) ?_)
             | (refine Ints.ln (by assumption) ?_)
             | (refine Mat.ln (by assumption) ?_)
             | (refine Ints.ln (Mat.row (by assumption) _ (by omega)) ?_)
             | (refine Ints.ix (by assumption) (by omega) ?_)
             | (refine Mat.ix (by assumption) (by omega) ?_)
             | (refine Ints.ix (Mat.row (by assumption) _ (by omega)) (by omega) ?_)
             | (refine Ints.ix (c := 0) (by assumption) (by omega) ?_)
             | (refine Mat.ix (c := 0) (by assumption) (by omega) ?_)
             | (refine Ints.ix (c := 0) (Mat.row (by assumption) _ (by omega)) (by omega) ?_)
             | (refine Ints.ixI (by assumption) (by omega) ?_)
             | (refine Mat.ixI (by assumption) (by omega) ?_)
             | (refine Ints.ixI (Mat.row (by assumption) _ (by omega)) (by omega) ?_)
             | (refine Ints.ld (by assumption) (by omega) ?_)
             | (refine Mat.ld (by assumption) (by omega) ?_)
             | (refine Ints.ld (Mat.row (by assumption) _ (by omega)) (by omega) ?_)
             | (refine At.ld (by assumption) rfl ?_)
             | (refine At.ldN (by assumption) rfl ?_))
    refine ⟨E2.trans E3, _, rfl, ?_⟩
    rw [poorR, if_neg hv]
    exact Own.nil
end Go.Proofs.Ytkgogljfngplnaa
set_option linter.unusedVariables false
set_option linter.unusedSimpArgs false
namespace Go.Proofs.Ytkgogljfngplnaa
open Go.Eng
set_option maxRecDepth 100000
set_option maxHeartbeats 4000000

/-- a list of m numbers of which the first c are laid -/
def resTo (f : Nat → Int) (m c : Nat) : List Int := (List.range m).map fun k => if k < c then f k else 0
theorem resTo_len (f : Nat → Int) (m c : Nat) : (resTo f m c).length = m := by simp [resTo]
theorem resTo_zero (f : Nat → Int) (m : Nat) : (resTo f m 0).map i64v = List.replicate m (.int .i64 0) := by rw [List.eq_replicate_iff]; simp [resTo, i64v]
theorem resTo_all (f : Nat → Int) (m : Nat) : resTo f m m = (List.range m).map f := by
  apply List.map_congr_left
  intro k hk
  rw [if_pos (List.mem_range.1 hk)]
theorem resTo_set (f : Nat → Int) {m c : Nat} (h : c < m) : (resTo f m c).set c (f c) = resTo f m (c + 1) := by
  apply List.ext_getElem
  · simp [resTo]
  · intro i h1 h2
    rw [List.getElem_set]
    split
    · rename_i e; subst e; simp [resTo]
    · simp only [resTo, List.getElem_map, List.getElem_range]
      by_cases hi : i < c
      · rw [if_pos hi, if_pos (by omega)]
      · rw [if_neg hi, if_neg (by omega)]

end Go.Proofs.Ytkgogljfngplnaa
set_option linter.unusedVariables false
set_option linter.unusedSimpArgs false
namespace Go.Proofs.Ytkgogljfngplnaa
open Go.Eng
set_option maxRecDepth 100000
set_option maxHeartbeats 4000000

theorem give_list {a : List Int} {good agent : Int} (h0 : 0 ≤ good) : (List.range a.length).map (fun k : Nat => if (k : Int) = good then agent else a.getD k 0) = a.set good.toNat agent := by
  apply List.ext_getElem
  · simp
  · intro i h1 h2
    rw [List.getElem_set]
    simp only [List.getElem_map, List.getElem_range]
    have hi : i < a.length := by simpa using h1
    by_cases e : (i : Int) = good
    · rw [if_pos e, if_pos (by omega)]
    · rw [if_neg e, if_neg (by omega)]; simp [List.getD, hi]

theorem within_one {w : World} {x lo hi : Int} : ∀ {sv : Value}, Ints w sv [x] → PC Try.prog 88 [.int .i64 lo, .int .i64 hi, sv] w (.bool (tf (lo ≤ x ∧ x < hi))) := by
  intro sv Hs
  have h := within_pc (lo := lo) (hi := hi) Hs
  by_cases hx : lo ≤ x ∧ x < hi
  · rw [tf_t hx]
    rw [tf_t (by intro i hi; match i, hi with | 0, _ => exact hx)] at h
    exact h
  · rw [tf_f hx]
    rw [tf_f (fun hh => hx (hh 0 (by simp)))] at h
    exact h

end Go.Proofs.Ytkgogljfngplnaa
set_option linter.unusedVariables false
set_option linter.unusedSimpArgs false
namespace Go.Proofs.Ytkgogljfngplnaa
open Go.Eng
set_option maxRecDepth 100000
set_option maxHeartbeats 4000000

/-- the places of the agents in the first c of an order -/
def toTo (o : List Int) (n c : Nat) : List Int := (List.range n).map fun k : Nat => lastTo o k c
theorem toTo_len (o : List Int) (n c : Nat) : (toTo o n c).length = n := by simp [toTo]
theorem toTo_zero (o : List Int) (n : Nat) : toTo o n 0 = List.replicate n (-1) := by rw [List.eq_replicate_iff]; simp [toTo, lastTo]
theorem toTo_get {o : List Int} {n c k : Nat} (h : k < n) : (toTo o n c).getD k 0 = lastTo o k c := by simp [toTo, List.getD, h]
theorem toTo_set {o : List Int} {n c : Nat} (h0 : 0 ≤ o.getD c 0) : (toTo o n c).set (o.getD c 0).toNat (c : Int) = toTo o n (c + 1) := by
  apply List.ext_getElem
  · simp [toTo]
  · intro i h1 h2
    rw [List.getElem_set]
    simp only [toTo, List.getElem_map, List.getElem_range, lastTo]
    by_cases e : o.getD c 0 = (i : Int)
    · rw [if_pos e, if_pos (by omega)]
    · rw [if_neg e, if_neg (by omega)]
theorem asg_to {o : List Int} {n : Nat} (hl : o.length = n) (hw : ∀ i, i < o.length → 0 ≤ o.getD i 0 ∧ o.getD i 0 < n) : asg o n ↔ ¬ (-1 : Int) ∈ toTo o n o.length := by
  rw [asg_iff hl, mem_getD]
  constructor
  · rintro ⟨_, h2⟩ ⟨k, hk, e⟩
    rw [toTo_len] at hk
    rw [toTo_get hk, lastTo_neg] at e
    obtain ⟨i, hi, e2⟩ := h2 k hk
    exact e i (by omega) e2
  · intro h
    refine ⟨fun i hi => hw i (by omega), fun j hj => Classical.byContradiction fun hn => h ⟨j, by rw [toTo_len]; exact hj, ?_⟩⟩
    rw [toTo_get hj, lastTo_neg]
    exact fun i hi e => hn ⟨i, by omega, e⟩

end Go.Proofs.Ytkgogljfngplnaa
set_option linter.unusedVariables false
set_option linter.unusedSimpArgs false
namespace Go.Proofs.Ytkgogljfngplnaa
open Go.Eng
set_option maxRecDepth 100000

theorem eGoods : Elem Try.prog 24 (.agg #[.slice none 0 0]) 1 24 := by unfold Elem; kernel_rfl

theorem own : ownKnob Try.prog.godebug = none := by kernel_rfl
theorem laidOut : laidOutB Try.prog = true := by kernel_rfl
end Go.Proofs.Ytkgogljfngplnaa
set_option linter.unusedVariables false
set_option linter.unusedSimpArgs false
namespace Go.Proofs.Ytkgogljfngplnaa
open Go.Eng
set_option maxRecDepth 100000

def gvn : List (List Int) := [[5, 3, 1], [2, 2, 2]]

theorem gvn_chk : chk gvn = 0 := by
  refine chk_ok ?_ ?_
  · rintro (h | ⟨i, hi, h⟩)
    · exact absurd h (by decide)
    · match i, hi with
      | 0, _ => exact absurd h (by decide)
      | 1, _ => exact absurd h (by decide)
  · rintro (h | ⟨i, hi, h | ⟨j, hj, h⟩⟩)
    · exact absurd h (by decide)
    · match i, hi with
      | 0, _ => exact absurd h (by decide)
      | 1, _ => exact absurd h (by decide)
    · match i, hi, j, hj with
      | 0, _, 0, _ => exact absurd h (by decide)
      | 0, _, 1, _ => exact absurd h (by decide)
      | 0, _, 2, _ => exact absurd h (by decide)
      | 1, _, 0, _ => exact absurd h (by decide)
      | 1, _, 1, _ => exact absurd h (by decide)
      | 1, _, 2, _ => exact absurd h (by decide)
theorem gvn_vld {x y z : Int} (hx : -1 ≤ x ∧ x < 2) (hy : -1 ≤ y ∧ y < 2) (hz : -1 ≤ z ∧ z < 2) : vld gvn [x, y, z] = 0 := by
  refine vld_ok gvn_chk ?_
  rintro (h | ⟨k, hk, h⟩)
  · exact absurd rfl h
  · match k, hk with
    | 0, _ => simp [gvn] at h; omega
    | 1, _ => simp [gvn] at h; omega
    | 2, _ => simp [gvn] at h; omega

end Go.Proofs.Ytkgogljfngplnaa
set_option linter.unusedVariables false
set_option linter.unusedSimpArgs false
namespace Go.Eng
theorem Gr.ext {a b c : World} (h : Ext a b) (k : Ext b c) : Ext a c := Gr.trans h k
theorem all_succ {p : Nat → Prop} {c : Nat} (h : ∀ i, i < c → p i) (h1 : p c) : ∀ i, i < c + 1 → p i := fun i hi => by
  by_cases e : i = c
  · subst e; exact h1
  · exact h i (by omega)
theorem VS.b3 {P : Program} {w : World} {t : TypeId} {f0 f1 f2 : Field} {N b : Nat} {z0 z1 z2 : Value} {x y z : Int} {K : Value → Prop} (ht : P.underlying t = some (.struct #[f0, f1, f2])) (hz : Elem P t (.agg #[z0, z1, z2]) N b)
    (hg : P.cellsOf f0.type = 1 ∧ P.cellsOf f1.type = 1 ∧ P.cellsOf f2.type = 1) (ho : f0.offset = 0 ∧ f1.offset = 1 ∧ f2.offset = 2) (hk : K (.agg #[.int .i64 x, .int .i64 y, .int .i64 z])) :
    VS P (Instr.build t [(0, .int .i64 x), (1, .int .i64 y), (2, .int .i64 z)].toArray) w K :=
  VS.fields (l := [f0, f1, f2]) (ps := [(0, .int .i64 x), (1, .int .i64 y), (2, .int .i64 z)]) ht hz (by simp [hg.1, hg.2.1, hg.2.2]) (by simp [ho.1, ho.2.1, ho.2.2, List.range, List.range.loop]) rfl rfl rfl (by simp [Value.cells]) hk
end Go.Eng
namespace Go.Proofs.Ytkgogljfngplnaa
open Go.Eng
theorem eMark : Elem Try.prog 102 (.agg #[.int .i64 0, .int .i64 0, .int .i64 0]) 3 24 := by unfold Elem; kernel_rfl
theorem eEnvy : Elem Try.prog 99 (.agg #[.int .i64 0, .int .i64 0, .int .i64 0]) 3 24 := by unfold Elem; kernel_rfl
theorem guard3 : Try.prog.eqGuardType Try.prog.depth 102 = false := by kernel_rfl
/-- A list of records that the call has made. -/
abbrev OT (B : Nat) (w : World) (v : Value) (l : List T3) : Prop := Own B 102 3 w v l.length (flat3 l)
theorem OT.of {B n : Nat} {w : World} {v : Value} {l : List T3} (h : Own B 102 3 w v n (flat3 l)) : OT B w v l := by
  have e := Own.len h
  rw [flat3_len] at e
  have : n = l.length := by omega
  subst this; exact h
abbrev OE (B : Nat) (w : World) (v : Value) (l : List T3) : Prop := Own B 99 3 w v l.length (flat3 l)
theorem OE.of {B n : Nat} {w : World} {v : Value} {l : List T3} (h : Own B 99 3 w v n (flat3 l)) : OE B w v l := by
  have e := Own.len h
  rw [flat3_len] at e
  have : n = l.length := by omega
  subst this; exact h
end Go.Proofs.Ytkgogljfngplnaa
set_option linter.unusedVariables false
set_option linter.unusedSimpArgs false
namespace Go.Proofs.Ytkgogljfngplnaa
open Go.Eng
set_option maxRecDepth 100000
set_option maxHeartbeats 4000000

def enough (rr : List (List Int)) (a : List Int) (i : Nat) (good : Int) : Prop := allv rr i ≤ (rr.length : Int) * (wth rr a i i + if 0 ≤ good then val rr i good.toNat else 0)
end Go.Proofs.Ytkgogljfngplnaa
set_option linter.unusedVariables false
set_option linter.unusedSimpArgs false
namespace Go.Proofs.Ytkgogljfngplnaa
open Go.Eng
set_option maxRecDepth 100000
set_option maxHeartbeats 4000000

theorem first_at {p : Nat → Bool} {n c : Nat} (h : ∀ k, k < c → p k = false) (hc : c < n) (hp : p c = true) : firstFrom p n 0 = c := by
  rcases firstFrom_spec p n 0 with ⟨j, _, h2, h3, h4, h5⟩ | ⟨_, h2⟩
  · rw [h4]
    by_cases e : j = c
    · rw [e]
    · exfalso
      by_cases e2 : j < c
      · rw [h j e2] at h3; cases h3
      · rw [h5 c (Nat.zero_le _) (by omega)] at hp; cases hp
  · rw [h2 c (Nat.zero_le _) (by omega)] at hp; cases hp
theorem first_no {p : Nat → Bool} {n : Nat} (h : ∀ k, k < n → p k = false) : firstFrom p n 0 = -1 := by
  rcases firstFrom_spec p n 0 with ⟨j, _, h2, h3, h4, h5⟩ | ⟨h1, _⟩
  · rw [h j (by omega)] at h3; cases h3
  · exact h1

def gP (rr : List (List Int)) (a : List Int) (i : Nat) (k x : Int) (b : Bool) (j : Nat) : Bool := decide (a.getD j 0 = k) && (decide (x ≤ val rr i j) == b)
theorem firstG_eq (rr : List (List Int)) (a : List Int) (i : Nat) (k x : Int) (b : Bool) : firstG rr a i k x b = firstFrom (gP rr a i k x b) a.length 0 := by unfold firstG; simp only [Int.toNat_natCast]; rfl
theorem gP_f {rr : List (List Int)} {a : List Int} {i : Nat} {k x : Int} {j : Nat} : gP rr a i k x false j = true ↔ a.getD j 0 = k ∧ val rr i j < x := by
  unfold gP
  simp only [Bool.and_eq_true, decide_eq_true_eq, beq_iff_eq, decide_eq_false_iff_not, Int.not_le]
theorem gP_t {rr : List (List Int)} {a : List Int} {i : Nat} {k x : Int} {j : Nat} : gP rr a i k x true j = true ↔ a.getD j 0 = k ∧ x ≤ val rr i j := by
  unfold gP
  simp only [Bool.and_eq_true, decide_eq_true_eq, beq_iff_eq]
theorem boolF {b : Bool} (h : ¬ b = true) : b = false := by cases b <;> simp_all

theorem nfirst_pc {w : World} {gv av : Value} {vs : List Value} {rr : List (List Int)} {a : List Int} {i : Nat} {k x : Int} {b : Bool} (Hg : Mat w gv vs rr) (Ha : Ints w av a) (hi : i < rr.length) (hrow : (rr.getD i []).length = a.length) :
    PC Try.prog 69 [.agg #[.int .i64 i, .int .i64 k, .int .i64 x], .agg #[gv], av, .bool b] w (.int .i64 (firstG rr a i k x b)) := by
  rw [firstG_eq]
  refine PC.mk tyOk Try.func69 rfl (by kernel_rfl) fun w1 E1 => ?_
  replace Hg := Hg.ext E1
  replace Ha := Ha.ext E1
  have EE := Ext.refl w1
  have hle := Ha.le
  refine Bx.agg fun b2 w2 E2 hb2 He _ => ?_
  replace Hg := Hg.ext E2
  replace Ha := Ha.ext E2
  replace EE := EE.ext E2
  refine Bx.agg fun b3 w3 E3 hb3 Hb _ => ?_
  replace Hg := Hg.ext E3
  replace Ha := Ha.ext E3
  replace EE := EE.ext E3
  replace He := He.ext E3
  repeat' (conv => whnf
           first
           | (refine Dr.quiet tyOk (by kernel_rfl) ?_)
           | (refine Rng.mk (by omega) ?_)
           | (refine Split.pos (by omega) ?_)
           | (refine Split.neg (by omega) ?_)
           | (refine Split.mk (fun h => ?_) (fun h => ?_))
           | (refine Need.mk (by omega) ?_)
           | (refine Ints.ln (by assumption) ?_)
           | (refine Mat.ln (by assumption) ?_)
           | (refine Ints.ln (Mat.row (by assumption) _ (by omega)) ?_)
           | (refine Ints.ix (by assumption) (by omega) ?_)
           | (refine Mat.ix (by assumption) (by omega) ?_)
           | (refine Ints.ix (Mat.row (by assumption) _ (by omega)) (by omega) ?_)
           | (refine Ints.ix (c := 0) (by assumption) (by omega) ?_)
           | (refine Mat.ix (c := 0) (by assumption) (by omega) ?_)
           | (refine Ints.ix (c := 0) (Mat.row (by assumption) _ (by omega)) (by omega) ?_)
           | (refine Ints.ixI (by assumption) (by omega) ?_)
           | (refine Mat.ixI (by assumption) (by omega) ?_)
           | (refine Ints.ixI (Mat.row (by assumption) _ (by omega)) (by omega) ?_)
           | (refine Ints.ld (by assumption) (by omega) ?_)
           | (refine Mat.ld (by assumption) (by omega) ?_)
           | (refine Ints.ld (Mat.row (by assumption) _ (by omega)) (by omega) ?_)
           | (refine At.ld (by assumption) rfl ?_)
           | (refine At.ldN (by assumption) rfl ?_))
  refine Lp.mk tyOk [false, false, false, false, false, false, false, false, true, true, true, false, false, true, true, true, true, true, true, true, true, true, true, true, true, true, true, true, true, true, true, true, true, true, true, true, true, true, true, true] (fun m fr wr => getK fr 13 fun j => ∃ c : Nat, c ≤ a.length ∧ m = a.length - c ∧ j = .int .i64 (c : Int) ∧ (∀ j, j < c → gP rr a i k x b j = false) ∧ wr = w3) (a.length) ?_ ?_
  · exact ⟨0, Nat.zero_le _, rfl, rfl, (by first | exact fun _ hi => absurd hi (Nat.not_lt_zero _) | exact fun _ _ hi => absurd hi (Nat.not_lt_zero _) | assumption | exact Own.nil | omega | simp), rfl⟩
  · intro m w4 u8 u9 u10 u13 u14 u15 u16 u17 u18 u19 u20 u21 u22 u23 u24 u25 u26 u27 u28 u29 u30 u31 u32 u33 u34 u35 u36 u37 u38 u39 hR
    obtain ⟨c, hc, rfl, rfl, hv, rfl⟩ := hR
    have hvd : (rr.getD i []).getD c 0 = val rr i c := rfl
    cases b
    · repeat' (conv => whnf
               first
               | (refine Dr.quiet tyOk (by kernel_rfl) ?_)
               | (refine Rng.mk (by omega) ?_)
               | (refine Split.pos (by omega) ?_)
               | (refine Split.neg (by omega) ?_)
               | (refine Split.mk (fun h => ?_) (fun h => ?_))
               | (refine Need.mk (by omega) ?_)
               | (refine Ints.ln (by assumption) ?_)
               | (refine Mat.ln (by assumption) ?_)
               | (refine Ints.ln (Mat.row (by assumption) _ (by omega)) ?_)
               | (refine Ints.ix (by assumption) (by omega) ?_)
               | (refine Mat.ix (by assumption) (by omega) ?_)
               | (refine Ints.ix (Mat.row (by assumption) _ (by omega)) (by omega) ?_)
               | (refine Ints.ix (c := 0) (by assumption) (by omega) ?_)
               | (refine Mat.ix (c := 0) (by assumption) (by omega) ?_)
               | (refine Ints.ix (c := 0) (Mat.row (by assumption) _ (by omega)) (by omega) ?_)
               | (refine Ints.ixI (by assumption) (by omega) ?_)
               | (refine Mat.ixI (by assumption) (by omega) ?_)
               | (refine Ints.ixI (Mat.row (by assumption) _ (by omega)) (by omega) ?_)
               | (refine Ints.ld (by assumption) (by omega) ?_)
               | (refine Mat.ld (by assumption) (by omega) ?_)
               | (refine Ints.ld (Mat.row (by assumption) _ (by omega)) (by omega) ?_)
               | (refine At.ld (by assumption) rfl ?_)
               | (refine At.ldN (by assumption) rfl ?_))
      all_goals first
        | (rw [first_at hv (by omega) (gP_f.2 ⟨by omega, by omega⟩)]; exact ⟨rfl, EE⟩)
        | (refine ⟨_, (by omega : a.length - (c + 1) < a.length - c), rfl, c + 1, by omega, rfl, rfl, all_succ hv (boolF (fun h => by have := gP_f.1 h; omega)), rfl⟩)
        | (obtain rfl : c = a.length := by omega
           rw [first_no hv]; exact ⟨rfl, EE⟩)
    · repeat' (conv => whnf
               first
               | (refine Dr.quiet tyOk (by kernel_rfl) ?_)
               | (refine Rng.mk (by omega) ?_)
               | (refine Split.pos (by omega) ?_)
               | (refine Split.neg (by omega) ?_)
               | (refine Split.mk (fun h => ?_) (fun h => ?_))
               | (refine Need.mk (by omega) ?_)
               | (refine Ints.ln (by assumption) ?_)
               | (refine Mat.ln (by assumption) ?_)
               | (refine Ints.ln (Mat.row (by assumption) _ (by omega)) ?_)
               | (refine Ints.ix (by assumption) (by omega) ?_)
               | (refine Mat.ix (by assumption) (by omega) ?_)
               | (refine Ints.ix (Mat.row (by assumption) _ (by omega)) (by omega) ?_)
               | (refine Ints.ix (c := 0) (by assumption) (by omega) ?_)
               | (refine Mat.ix (c := 0) (by assumption) (by omega) ?_)
               | (refine Ints.ix (c := 0) (Mat.row (by assumption) _ (by omega)) (by omega) ?_)
               | (refine Ints.ixI (by assumption) (by omega) ?_)
               | (refine Mat.ixI (by assumption) (by omega) ?_)
               | (refine Ints.ixI (Mat.row (by assumption) _ (by omega)) (by omega) ?_)
               | (refine Ints.ld (by assumption) (by omega) ?_)
               | (refine Mat.ld (by assumption) (by omega) ?_)
               | (refine Ints.ld (Mat.row (by assumption) _ (by omega)) (by omega) ?_)
               | (refine At.ld (by assumption) rfl ?_)
               | (refine At.ldN (by assumption) rfl ?_))
      all_goals first
        | (rw [first_at hv (by omega) (gP_t.2 ⟨by omega, by omega⟩)]; exact ⟨rfl, EE⟩)
        | (refine ⟨_, (by omega : a.length - (c + 1) < a.length - c), rfl, c + 1, by omega, rfl, rfl, all_succ hv (boolF (fun h => by have := gP_t.1 h; omega)), rfl⟩)
        | (obtain rfl : c = a.length := by omega
           rw [first_no hv]; exact ⟨rfl, EE⟩)
end Go.Proofs.Ytkgogljfngplnaa
set_option linter.unusedVariables false
set_option linter.unusedSimpArgs false
namespace Go.Proofs.Ytkgogljfngplnaa
open Go.Eng
set_option maxRecDepth 100000
set_option maxHeartbeats 4000000

theorem evs_len (rr : List (List Int)) (a : List Int) : (evs rr a).length = (envs rr a).length := by simp [evs]
theorem evs_get {rr : List (List Int)} {a : List Int} {c : Nat} (h : c < (envs rr a).length) : (evs rr a).getD c (0, 0, 0) = (((envs rr a).getD c (0, 0)).1, ((envs rr a).getD c (0, 0)).2, moreV rr a ((envs rr a).getD c (0, 0)).1.toNat ((envs rr a).getD c (0, 0)).2.toNat) := by
  simp [evs, List.getD, h]
theorem envs_in {rr : List (List Int)} {a : List Int} {c : Nat} (h : c < (envs rr a).length) : ∃ i k : Nat, i < rr.length ∧ k < rr.length ∧ wth rr a i i < wth rr a i k ∧ (envs rr a).getD c (0, 0) = ((i : Int), (k : Int)) := by
  have hm : (envs rr a).getD c (0, 0) ∈ envs rr a := by rw [List.getD, List.getElem?_eq_getElem h]; exact List.getElem_mem h
  obtain ⟨i, k, hi, hk, hl, e⟩ := mem_envTo.1 hm
  exact ⟨i, k, hi, hk, hl, e⟩
theorem envs_le {rr : List (List Int)} {a : List Int} (h : rr.length ≤ 6) : (envs rr a).length ≤ 36 := by
  have := envTo_len (fun i (k : Nat) => wth rr a i k) rr.length rr.length
  have h2 := Nat.mul_le_mul h h
  unfold envs; omega

theorem nenvies_rc {w : World} {gv av : Value} {vs : List Value} {rr : List (List Int)} {a : List Int} (Hg : Mat w gv vs rr) (Ha : Ints w av a) :
    RC Try.prog 68 [.agg #[gv], av] w NoB (fun u w' => ∃ v, u = .tuple #[v, .int .i64 (vld rr a)] ∧ OE w.heap.size w' v (evsR rr a)) := by
  refine RC.mk tyOk Try.func68 rfl (by kernel_rfl) fun w1 E1 => ?_
  replace Hg := Hg.ext E1
  replace Ha := Ha.ext E1
  have EE := Ext.refl w1
  refine Bx.agg fun b2 w2 E2 hb2 Hb _ => ?_
  replace Hg := Hg.ext E2
  replace Ha := Ha.ext E2
  replace EE := EE.ext E2
  conv => whnf
  refine At.ldN Hb rfl ?_
  conv => whnf
  refine VC.rc (gvalues_rc Hg Ha) ?_
  rintro _ w3 E3 ⟨v, us, rfl, HO⟩
  replace Hg := Hg.ext E3
  replace Ha := Ha.ext E3
  replace EE := EE.ext E3
  replace Hb := Hb.ext E3
  by_cases hv : vld rr a = 0
  · have hal := al_of_vld hv
    have hn := hal.n6
    have hm := hal.m10
    have hlen := hal.len
    rw [valsR, if_pos hv] at HO
    have HV := HO.mat
    have hvl := vals_len rr a
    repeat' (conv => whnf
             first
             | (refine Dr.quiet tyOk (by kernel_rfl) ?_)
             | (refine Rng.mk (by omega) ?_)
             | (refine Split.pos (by omega) ?_)
             | (refine Split.neg (by omega) ?_)
             | (refine Split.mk (fun h => ?_) (fun h => ?_))
             | (refine Need.mk (by omega) ?_)
             | (refine Ints.ln (by assumption) ?_)
             | (refine Mat.ln (by assumption) ?_)
             | (refine Ints.ln (Mat.row (by assumption) _ (by omega)) ?_)
             | (refine Ints.ix (by assumption) (by omega) ?_)
             | (refine Mat.ix (by assumption) (by omega) ?_)
             | (refine Ints.ix (Mat.row (by assumption) _ (by omega)) (by omega) ?_)
             | (refine Ints.ix (c := 0) (by assumption) (by omega) ?_)
             | (refine Mat.ix (c := 0) (by assumption) (by omega) ?_)
             | (refine Ints.ix (c := 0) (Mat.row (by assumption) _ (by omega)) (by omega) ?_)
             | (refine Ints.ixI (by assumption) (by omega) ?_)
             | (refine Mat.ixI (by assumption) (by omega) ?_)
             | (refine Ints.ixI (Mat.row (by assumption) _ (by omega)) (by omega) ?_)
             | (refine Ints.ld (by assumption) (by omega) ?_)
             | (refine Mat.ld (by assumption) (by omega) ?_)
             | (refine Ints.ld (Mat.row (by assumption) _ (by omega)) (by omega) ?_)
             | (refine At.ld (by assumption) rfl ?_)
             | (refine At.ldN (by assumption) rfl ?_))
    conv => whnf
    refine VC.rc (genvies_rc Hg Ha) ?_
    rintro _ w4 E4 ⟨pv, rfl, HP⟩
    replace Hg := Hg.ext E4
    replace Ha := Ha.ext E4
    replace EE := EE.ext E4
    replace Hb := Hb.ext E4
    replace HV := HV.ext E4
    rw [envsR, if_pos hv] at HP
    have HPs : Prs _ pv _ := Own.sl HP
    have hel := envs_le (a := a) hn
    repeat' (conv => whnf
             first
             | (refine Dr.quiet tyOk (by kernel_rfl) ?_)
             | (refine Rng.mk (by omega) ?_)
             | (refine Split.pos (by omega) ?_)
             | (refine Split.neg (by omega) ?_)
             | (refine Split.mk (fun h => ?_) (fun h => ?_))
             | (refine Need.mk (by omega) ?_)
             | (refine Ints.ln (by assumption) ?_)
             | (refine Mat.ln (by assumption) ?_)
             | (refine Ints.ln (Mat.row (by assumption) _ (by omega)) ?_)
             | (refine Ints.ix (by assumption) (by omega) ?_)
             | (refine Mat.ix (by assumption) (by omega) ?_)
             | (refine Ints.ix (Mat.row (by assumption) _ (by omega)) (by omega) ?_)
             | (refine Ints.ix (c := 0) (by assumption) (by omega) ?_)
             | (refine Mat.ix (c := 0) (by assumption) (by omega) ?_)
             | (refine Ints.ix (c := 0) (Mat.row (by assumption) _ (by omega)) (by omega) ?_)
             | (refine Ints.ixI (by assumption) (by omega) ?_)
             | (refine Mat.ixI (by assumption) (by omega) ?_)
             | (refine Ints.ixI (Mat.row (by assumption) _ (by omega)) (by omega) ?_)
             | (refine Ints.ld (by assumption) (by omega) ?_)
             | (refine Mat.ld (by assumption) (by omega) ?_)
             | (refine Ints.ld (Mat.row (by assumption) _ (by omega)) (by omega) ?_)
             | (refine At.ld (by assumption) rfl ?_)
             | (refine At.ldN (by assumption) rfl ?_)
             | (refine Prs.ln (by assumption) ?_)
             | (refine Trs.ln (by assumption) ?_)
             | (refine Prs.ix (by assumption) (by omega) ?_)
             | (refine Trs.ix (by assumption) (by omega) ?_)
             | (refine Prs.ldN (by assumption) (by omega) ?_)
             | (refine Trs.ldN (by assumption) (by omega) ?_)
             | (refine At.ldN (Blk.at (by assumption)) rfl ?_)
             | (refine At.ld (Blk.at (by assumption)) rfl ?_)
             | (refine IxA.mk (by omega) ?_)
             | (refine Sl.ln (Own.sl (by assumption)) ?_)
             | (refine Ints.ix (Own.sl (by assumption)) (by omega) ?_)
             | (refine Ints.ixI (Own.sl (by assumption)) (by omega) ?_)
             | (refine Ints.ld (Own.sl (by assumption)) (by omega) ?_))
    have Hg__1 := Hg
    have Ha__1 := Ha
    have EE__1 := EE
    have Hb__1 := Hb
    have HV__1 := HV
    have HPs__1 := HPs
    have hz1 := Nat.le_trans E1.size EE.size
    refine Lp.mk tyOk [false, false, false, false, false, false, false, false, false, false, true, false, true, false, false, false, false, false, false, false, false, false, false, false, false, false, false, false, false, false, true, true, true, true, true, true, true, true, true, true, true, true, true, true, true, true, true, true, true, true, true, true, true, true, true, true, true, true, true, true, true, true] (fun m fr wr => getK fr 10 fun ov => getK fr 30 fun j => ∃ c : Nat, c ≤ (envs rr a).length ∧ m = (envs rr a).length - c ∧ j = .int .i64 (c : Int) ∧ (OE w4.heap.size wr ov ((evs rr a).take c)) ∧ Ext w4 wr) ((envs rr a).length) ?_ ?_
    · exact ⟨0, Nat.zero_le _, rfl, rfl, Own.nil, Ext.refl _⟩
    · intro m w5 u10 u12 u30 u31 u32 u33 u34 u35 u36 u37 u38 u39 u40 u41 u42 u43 u44 u45 u46 u47 u48 u49 u50 u51 u52 u53 u54 u55 u56 u57 u58 u59 u60 u61 hR
      obtain ⟨c, hc, rfl, rfl, Ho, EL1⟩ := hR
      replace Hg := Hg__1.ext EL1
      replace Ha := Ha__1.ext EL1
      replace EE := EE__1.ext EL1
      replace Hb := Hb__1.ext EL1
      replace HV := HV__1.ext EL1
      replace HPs := HPs__1.ext EL1
      have htk : ((evs rr a).take c).length = c := by rw [List.length_take, evs_len]; omega
      repeat' (conv => whnf
               first
               | (refine Dr.quiet tyOk (by kernel_rfl) ?_)
               | (refine Rng.mk (by omega) ?_)
               | (refine Split.pos (by omega) ?_)
               | (refine Split.neg (by omega) ?_)
               | (refine Split.mk (fun h => ?_) (fun h => ?_))
               | (refine Need.mk (by omega) ?_)
               | (refine Ints.ln (by assumption) ?_)
               | (refine Mat.ln (by assumption) ?_)
               | (refine Ints.ln (Mat.row (by assumption) _ (by omega)) ?_)
               | (refine Ints.ix (by assumption) (by omega) ?_)
               | (refine Mat.ix (by assumption) (by omega) ?_)
               | (refine Ints.ix (Mat.row (by assumption) _ (by omega)) (by omega) ?_)
               | (refine Ints.ix (c := 0) (by assumption) (by omega) ?_)
               | (refine Mat.ix (c := 0) (by assumption) (by omega) ?_)
               | (refine Ints.ix (c := 0) (Mat.row (by assumption) _ (by omega)) (by omega) ?_)
               | (refine Ints.ixI (by assumption) (by omega) ?_)
               | (refine Mat.ixI (by assumption) (by omega) ?_)
               | (refine Ints.ixI (Mat.row (by assumption) _ (by omega)) (by omega) ?_)
               | (refine Ints.ld (by assumption) (by omega) ?_)
               | (refine Mat.ld (by assumption) (by omega) ?_)
               | (refine Ints.ld (Mat.row (by assumption) _ (by omega)) (by omega) ?_)
               | (refine At.ld (by assumption) rfl ?_)
               | (refine At.ldN (by assumption) rfl ?_)
               | (refine Prs.ln (by assumption) ?_)
               | (refine Trs.ln (by assumption) ?_)
               | (refine Prs.ix (by assumption) (by omega) ?_)
               | (refine Trs.ix (by assumption) (by omega) ?_)
               | (refine Prs.ldN (by assumption) (by omega) ?_)
               | (refine Trs.ldN (by assumption) (by omega) ?_)
               | (refine At.ldN (Blk.at (by assumption)) rfl ?_)
               | (refine At.ld (Blk.at (by assumption)) rfl ?_)
               | (refine IxA.mk (by omega) ?_)
               | (refine Sl.ln (Own.sl (by assumption)) ?_)
               | (refine Ints.ix (Own.sl (by assumption)) (by omega) ?_)
               | (refine Ints.ixI (Own.sl (by assumption)) (by omega) ?_)
               | (refine Ints.ld (Own.sl (by assumption)) (by omega) ?_))
      · obtain ⟨i, k, hi, hk, hlt, hik⟩ := envs_in (rr := rr) (a := a) (c := c) (by omega)
        have e1 := vals_get (rr := rr) (a := a) hi hk
        have e2 := vals_get (rr := rr) (a := a) hi hi
        have hl1 := vals_rlen (rr := rr) (a := a) hi
        have hw1 := wth_bd (a := a) hal.toGd i k
        have hw2 := wth_bd (a := a) hal.toGd i i
        rw [hik]
        have Hg__2 := Hg
        have Ha__2 := Ha
        have EE__2 := EE
        have Hb__2 := Hb
        have HV__2 := HV
        have HPs__2 := HPs
        have EL1__2 := EL1
        have Ho__2 := Ho
        conv => whnf
        refine VE.alloc ePair fun pb w6 E6 hb_pb Hk => ?_
        replace Hg := Hg.ext E6
        replace Ha := Ha.ext E6
        replace EE := EE.ext E6
        replace Hb := Hb.ext E6
        replace HV := HV.ext E6
        replace HPs := HPs.ext E6
        replace EL1 := EL1.ext E6
        replace Ho := Ho.ext E6
        have EL2 := E6
        conv => whnf
        refine Blk.all Hk (by kernel_rfl) (by first | decide | simp) rfl rfl (by intro v hv; simp at hv; rcases hv with rfl | rfl | rfl | rfl | rfl <;> rfl) fun w7 G7 Hk' => ?_
        have E7 : Ext w5 w7 := EL2.new G7 fun i hi hk => by omega
        replace Hk := Hk'
        replace Hg := Hg__2.ext E7
        replace Ha := Ha__2.ext E7
        replace EE := EE__2.ext E7
        replace Hb := Hb__2.ext E7
        replace HV := HV__2.ext E7
        replace HPs := HPs__2.ext E7
        replace EL1 := EL1__2.ext E7
        replace Ho := Ho__2.ext E7
        replace EL2 := E7
        repeat' (conv => whnf
                 first
                 | (refine Dr.plan 34 [26] (.q 0 (.q 1 (.q 2 (.q 3 (.q 4 (.q 5 (.q 6 (.q 7 (.q 8 (.q 9 (.q 10 (.q 11 (.q 12 (.q 13 (.q 14 (.q 15 (.q 16 (.q 17 (.q 18 (.q 19 (.q 20 (.q 21 (.q 22 (.q 23 (.q 24 (.e 25 (.e 26 (.q 27 .nil) .nil) .nil)))))))))))))))))))))))))) tyOk rfl (by kernel_rfl) ?_)
                 | (refine Dr.quiet tyOk (by kernel_rfl) ?_)
                 | (refine VS.b3 Try.underlying99 eEnvy (by decide +kernel) ⟨rfl, rfl, rfl⟩ ?_)
                 | (refine Rng.mk (by omega) ?_)
                 | (refine Split.pos (by omega) ?_)
                 | (refine Split.neg (by omega) ?_)
                 | (refine Split.mk (fun h => ?_) (fun h => ?_))
                 | (refine Need.mk (by omega) ?_)
                 | (refine Ints.ln (by assumption) ?_)
                 | (refine Mat.ln (by assumption) ?_)
                 | (refine Ints.ln (Mat.row (by assumption) _ (by omega)) ?_)
                 | (refine Ints.ix (by assumption) (by omega) ?_)
                 | (refine Mat.ix (by assumption) (by omega) ?_)
                 | (refine Ints.ix (Mat.row (by assumption) _ (by omega)) (by omega) ?_)
                 | (refine Ints.ix (c := 0) (by assumption) (by omega) ?_)
                 | (refine Mat.ix (c := 0) (by assumption) (by omega) ?_)
                 | (refine Ints.ix (c := 0) (Mat.row (by assumption) _ (by omega)) (by omega) ?_)
                 | (refine Ints.ixI (by assumption) (by omega) ?_)
                 | (refine Mat.ixI (by assumption) (by omega) ?_)
                 | (refine Ints.ixI (Mat.row (by assumption) _ (by omega)) (by omega) ?_)
                 | (refine Ints.ld (by assumption) (by omega) ?_)
                 | (refine Mat.ld (by assumption) (by omega) ?_)
                 | (refine Ints.ld (Mat.row (by assumption) _ (by omega)) (by omega) ?_)
                 | (refine At.ld (by assumption) rfl ?_)
                 | (refine At.ldN (by assumption) rfl ?_)
                 | (refine Prs.ln (by assumption) ?_)
                 | (refine Trs.ln (by assumption) ?_)
                 | (refine Prs.ix (by assumption) (by omega) ?_)
                 | (refine Trs.ix (by assumption) (by omega) ?_)
                 | (refine Prs.ldN (by assumption) (by omega) ?_)
                 | (refine Trs.ldN (by assumption) (by omega) ?_)
                 | (refine At.ldN (Blk.at (by assumption)) rfl ?_)
                 | (refine At.ld (Blk.at (by assumption)) rfl ?_)
                 | (refine IxA.mk (by omega) ?_)
                 | (refine Sl.ln (Own.sl (by assumption)) ?_)
                 | (refine Ints.ix (Own.sl (by assumption)) (by omega) ?_)
                 | (refine Ints.ixI (Own.sl (by assumption)) (by omega) ?_)
                 | (refine Ints.ld (Own.sl (by assumption)) (by omega) ?_))
        refine VX.lit1A Try.underlying95 eEnvy rfl (by decide) fun lv w8 E8 Hl => ?_
        replace Hg := Hg.ext E8
        replace Ha := Ha.ext E8
        replace EE := EE.ext E8
        replace Hb := Hb.ext E8
        replace HV := HV.ext E8
        replace HPs := HPs.ext E8
        replace EL1 := EL1.ext E8
        replace Ho := Ho.ext E8
        replace EL2 := EL2.ext E8
        replace Hk := Hk.ext E8
        conv => whnf
        refine VE.app Try.underlying95 eEnvy rfl (by omega) Ho EL1 rfl Hl (by simp [Value.oneCell']) (by first | omega | (simp only [List.length_map, List.length_range]; omega) | (simp; omega)) (by first | omega | (simp only [List.length_map, List.length_range]; omega) | (simp; omega)) fun v8 w9 E9 G9 H8 => ?_
        replace Hg := Hg__1.ext E9
        replace Ha := Ha__1.ext E9
        replace EE := EE__1.ext E9
        replace Hb := Hb__1.ext E9
        replace HV := HV__1.ext E9
        replace HPs := HPs__1.ext E9
        replace EL1 := E9
        repeat' (conv => whnf
                 first
                 | (refine Dr.quiet tyOk (by kernel_rfl) ?_)
                 | (refine Rng.mk (by omega) ?_)
                 | (refine Split.pos (by omega) ?_)
                 | (refine Split.neg (by omega) ?_)
                 | (refine Split.mk (fun h => ?_) (fun h => ?_))
                 | (refine Need.mk (by omega) ?_)
                 | (refine Ints.ln (by assumption) ?_)
                 | (refine Mat.ln (by assumption) ?_)
                 | (refine Ints.ln (Mat.row (by assumption) _ (by omega)) ?_)
                 | (refine Ints.ix (by assumption) (by omega) ?_)
                 | (refine Mat.ix (by assumption) (by omega) ?_)
                 | (refine Ints.ix (Mat.row (by assumption) _ (by omega)) (by omega) ?_)
                 | (refine Ints.ix (c := 0) (by assumption) (by omega) ?_)
                 | (refine Mat.ix (c := 0) (by assumption) (by omega) ?_)
                 | (refine Ints.ix (c := 0) (Mat.row (by assumption) _ (by omega)) (by omega) ?_)
                 | (refine Ints.ixI (by assumption) (by omega) ?_)
                 | (refine Mat.ixI (by assumption) (by omega) ?_)
                 | (refine Ints.ixI (Mat.row (by assumption) _ (by omega)) (by omega) ?_)
                 | (refine Ints.ld (by assumption) (by omega) ?_)
                 | (refine Mat.ld (by assumption) (by omega) ?_)
                 | (refine Ints.ld (Mat.row (by assumption) _ (by omega)) (by omega) ?_)
                 | (refine At.ld (by assumption) rfl ?_)
                 | (refine At.ldN (by assumption) rfl ?_)
                 | (refine Prs.ln (by assumption) ?_)
                 | (refine Trs.ln (by assumption) ?_)
                 | (refine Prs.ix (by assumption) (by omega) ?_)
                 | (refine Trs.ix (by assumption) (by omega) ?_)
                 | (refine Prs.ldN (by assumption) (by omega) ?_)
                 | (refine Trs.ldN (by assumption) (by omega) ?_)
                 | (refine At.ldN (Blk.at (by assumption)) rfl ?_)
                 | (refine At.ld (Blk.at (by assumption)) rfl ?_)
                 | (refine IxA.mk (by omega) ?_)
                 | (refine Sl.ln (Own.sl (by assumption)) ?_)
                 | (refine Ints.ix (Own.sl (by assumption)) (by omega) ?_)
                 | (refine Ints.ixI (Own.sl (by assumption)) (by omega) ?_)
                 | (refine Ints.ld (Own.sl (by assumption)) (by omega) ?_))
        refine ⟨_, (by omega : (envs rr a).length - (c + 1) < (envs rr a).length - c), rfl, c + 1, by omega, rfl, rfl, ?_, EL1⟩
        rw [take_snoc (0, 0, 0) _ _ (by rw [evs_len]; omega), evs_get (by omega), hik]
        rw [e1, e2, flat3_snoc] at H8
        exact OE.of H8
      · obtain rfl : c = (envs rr a).length := by omega
        refine ⟨EE, _, by rw [hv], ?_⟩
        rw [evsR, if_pos hv]
        rw [List.take_of_length_le (by rw [evs_len]; omega)] at Ho
        exact Own.base Ho hz1
  · repeat' (conv => whnf
             first
             | (refine Dr.quiet tyOk (by kernel_rfl) ?_)
             | (refine Rng.mk (by omega) ?_)
             | (refine Split.pos (by omega) ?_)
             | (refine Split.neg (by omega) ?_)
             | (refine Split.mk (fun h => ?_) (fun h => ?_))
             | (refine Need.mk (by omega) ?_)
             | (refine Ints.ln (by assumption) ?_)
             | (refine Mat.ln (by assumption) ?_)
             | (refine Ints.ln (Mat.row (by assumption) _ (by omega)) ?_)
             | (refine Ints.ix (by assumption) (by omega) ?_)
             | (refine Mat.ix (by assumption) (by omega) ?_)
             | (refine Ints.ix (Mat.row (by assumption) _ (by omega)) (by omega) ?_)
             | (refine Ints.ix (c := 0) (by assumption) (by omega) ?_)
             | (refine Mat.ix (c := 0) (by assumption) (by omega) ?_)
             | (refine Ints.ix (c := 0) (Mat.row (by assumption) _ (by omega)) (by omega) ?_)
             | (refine Ints.ixI (by assumption) (by omega) ?_)
             | (refine Mat.ixI (by assumption) (by omega) ?_)
             | (refine Ints.ixI (Mat.row (by assumption) _ (by omega)) (by omega) ?_)
             | (refine Ints.ld (by assumption) (by omega) ?_)
             | (refine Mat.ld (by assumption) (by omega) ?_)
             | (refine Ints.ld (Mat.row (by assumption) _ (by omega)) (by omega) ?_)
             | (refine At.ld (by assumption) rfl ?_)
             | (refine At.ldN (by assumption) rfl ?_))
    refine ⟨EE, _, rfl, ?_⟩
    rw [evsR, if_neg hv]
    exact Own.nil
end Go.Proofs.Ytkgogljfngplnaa
