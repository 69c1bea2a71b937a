/- Plain laws of goods: sums of values, envy and poverty. No program. -/
import Derived.Test.YtiahjkhfkbcjhaaSpec
import Derived.Test.YtiahjkhfkbcjhaaEngJ
set_option linter.unusedVariables false
set_option linter.unusedSimpArgs false
namespace Go.Proofs.Ytiahjkhfkbcjhaa
open Go.Eng

/-- the sum of the first n values -/
def sumK (f : Nat → Int) : Nat → Int
  | 0 => 0
  | k + 1 => sumK f k + f k

theorem sumK_congr {f g : Nat → Int} : ∀ {n : Nat}, (∀ k, k < n → f k = g k) → sumK f n = sumK g n
  | 0, _ => rfl
  | n + 1, h => by simp only [sumK]; rw [sumK_congr (fun k hk => h k (by omega)), h n (by omega)]
theorem sumK_add (f g : Nat → Int) : ∀ n, sumK (fun k => f k + g k) n = sumK f n + sumK g n
  | 0 => rfl
  | n + 1 => by simp only [sumK, sumK_add f g n]; omega
theorem sumK_zero : ∀ n, sumK (fun _ => 0) n = 0
  | 0 => rfl
  | n + 1 => by simp only [sumK, sumK_zero n]; rfl
theorem sumK_le {f g : Nat → Int} : ∀ {n : Nat}, (∀ k, k < n → f k ≤ g k) → sumK f n ≤ sumK g n
  | 0, _ => Int.le_refl _
  | n + 1, h => by have := sumK_le (f := f) (g := g) (n := n) (fun k hk => h k (by omega)); have := h n (by omega); simp only [sumK]; omega
theorem sumK_const (x : Int) : ∀ n : Nat, sumK (fun _ => x) n = (n : Int) * x
  | 0 => by simp [sumK]
  | n + 1 => by simp only [sumK, sumK_const x n, Int.natCast_add, Int.add_mul]; simp
theorem sumK_ind (v x : Int) : ∀ n : Nat, sumK (fun k : Nat => if v = (k : Int) then x else 0) n = if 0 ≤ v ∧ v < n then x else 0
  | 0 => by simp only [sumK]; rw [if_neg (by omega)]
  | n + 1 => by
    simp only [sumK, sumK_ind v x n]
    by_cases h : v = (n : Int)
    · rw [if_pos h, if_neg (by omega), if_pos (by omega)]; omega
    · by_cases h2 : 0 ≤ v ∧ v < n
      · rw [if_neg h, if_pos h2, if_pos (by omega)]; omega
      · rw [if_neg h, if_neg h2, if_neg (by omega)]; omega

/-- the value by the row r of the goods, of the first c, that somebody gets -/
def someTo (a r : List Int) : Nat → Int
  | 0 => 0
  | c + 1 => someTo a r c + if 0 ≤ a.getD c 0 then r.getD c 0 else 0

theorem sumK_worth {a r : List Int} {n : Nat} : ∀ {c : Nat}, (∀ j, j < c → a.getD j 0 < n) → sumK (fun k : Nat => worth a r k c) n = someTo a r c
  | 0, _ => by simp only [worth, someTo]; exact sumK_zero n
  | c + 1, h => by
    simp only [worth, someTo]
    rw [sumK_add, sumK_worth (fun j hj => h j (by omega)), sumK_ind]
    have := h c (by omega)
    by_cases h0 : 0 ≤ a.getD c 0
    · rw [if_pos h0, if_pos ⟨h0, this⟩]
    · rw [if_neg h0, if_neg (by omega)]

theorem someTo_all {a r : List Int} : ∀ {c : Nat}, (∀ j, j < c → 0 ≤ a.getD j 0) → someTo a r c = sumTo r c
  | 0, _ => rfl
  | c + 1, h => by simp only [someTo, sumTo]; rw [someTo_all (fun j hj => h j (by omega)), if_pos (h c (by omega))]

theorem someTo_bd {a r : List Int} (h : ∀ j, 0 ≤ r.getD j 0 ∧ r.getD j 0 ≤ 1000) : ∀ c : Nat, 0 ≤ someTo a r c ∧ someTo a r c ≤ 1000 * c
  | 0 => by simp [someTo]
  | c + 1 => by have := someTo_bd (a := a) h c; have := h c; simp only [someTo]; split <;> omega

/-- The bundles' values of a valid allocation. -/
theorem sum_wth {rr : List (List Int)} {a : List Int} (h : vld rr a = 0) (i : Nat) : sumK (fun k : Nat => wth rr a i k) rr.length = someTo a (rr.getD i []) a.length := by
  have hal := al_of_vld h
  exact sumK_worth (fun j hj => (hal.rng j (by rw [← hal.len]; exact hj)).2)

theorem sum_wth_all {rr : List (List Int)} {a : List Int} (h : vld rr a = 0) (hc : ∀ k, k < a.length → 0 ≤ a.getD k 0) {i : Nat} (hi : i < rr.length) : sumK (fun k : Nat => wth rr a i k) rr.length = allv rr i := by
  have hal := al_of_vld h
  rw [sum_wth h, someTo_all hc, allv, hal.row i hi, hal.len]

/-! ### members -/
theorem mem_envRow {f : Nat → Int} {i : Nat} {p : Int × Int} : ∀ {c : Nat}, p ∈ envRow f i c ↔ ∃ k, k < c ∧ f i < f k ∧ p = ((i : Int), (k : Int))
  | 0 => by simp [envRow]
  | c + 1 => by
    simp only [envRow, List.mem_append, mem_envRow (c := c)]
    constructor
    · rintro (⟨k, h1, h2, h3⟩ | h)
      · exact ⟨k, by omega, h2, h3⟩
      · split at h
        · simp at h; exact ⟨c, by omega, by assumption, h⟩
        · simp at h
    · rintro ⟨k, h1, h2, h3⟩
      by_cases e : k = c
      · subst e; right; rw [if_pos h2, h3]; simp
      · left; exact ⟨k, by omega, h2, h3⟩
theorem mem_envTo {f : Nat → Nat → Int} {n : Nat} {p : Int × Int} : ∀ {c : Nat}, p ∈ envTo f n c ↔ ∃ i k, i < c ∧ k < n ∧ f i i < f i k ∧ p = ((i : Int), (k : Int))
  | 0 => by simp [envTo]
  | c + 1 => by
    simp only [envTo, List.mem_append, mem_envTo (c := c), mem_envRow]
    constructor
    · rintro (⟨i, k, h1, h2, h3, h4⟩ | ⟨k, h1, h2, h3⟩)
      · exact ⟨i, k, by omega, h2, h3, h4⟩
      · exact ⟨c, k, by omega, h1, h2, h3⟩
    · rintro ⟨i, k, h1, h2, h3, h4⟩
      by_cases e : i = c
      · subst e; right; exact ⟨k, h2, h3, h4⟩
      · left; exact ⟨i, k, by omega, h2, h3, h4⟩
theorem mem_filt {p : Nat → Bool} {x : Int} : ∀ {c : Nat}, x ∈ filt p c ↔ ∃ i, i < c ∧ p i = true ∧ x = (i : Int)
  | 0 => by simp [filt]
  | c + 1 => by
    simp only [filt, List.mem_append, mem_filt (c := c)]
    constructor
    · rintro (⟨i, h1, h2, h3⟩ | h)
      · exact ⟨i, by omega, h2, h3⟩
      · split at h
        · simp at h; exact ⟨c, by omega, by assumption, h⟩
        · simp at h
    · rintro ⟨i, h1, h2, h3⟩
      by_cases e : i = c
      · subst e; right; rw [if_pos h2, h3]; simp
      · left; exact ⟨i, by omega, h2, h3⟩

/-- Who is poor in a complete allocation envies somebody. -/
theorem poor_envies {rr : List (List Int)} {a : List Int} (h : vld rr a = 0) (hc : ∀ k, k < a.length → 0 ≤ a.getD k 0) {i : Nat} (hi : i < rr.length) (hp : isPoor rr a i = true) : ∃ k, k < rr.length ∧ wth rr a i i < wth rr a i k := by
  apply Classical.byContradiction
  intro hn
  have hle : ∀ k, k < rr.length → wth rr a i k ≤ wth rr a i i := fun k hk => by
    apply Classical.byContradiction; intro e; exact hn ⟨k, hk, by omega⟩
  have h1 := sumK_le (f := fun k : Nat => wth rr a i k) (g := fun _ => wth rr a i i) hle
  rw [sum_wth_all h hc hi, sumK_const] at h1
  simp only [isPoor, decide_eq_true_eq] at hp
  omega

theorem poor_found {rr : List (List Int)} {a : List Int} (h : vld rr a = 0) (hc : ∀ k, k < a.length → 0 ≤ a.getD k 0) {x : Int} (hx : x ∈ poor rr a) : ∃ y, (x, y) ∈ envs rr a := by
  obtain ⟨i, hi, hp, rfl⟩ := mem_filt.1 hx
  obtain ⟨k, hk, hl⟩ := poor_envies h hc hi hp
  exact ⟨(k : Int), mem_envTo.2 ⟨i, k, hi, hk, hl, rfl⟩⟩

/-- Two agents: who is not poor envies nobody. -/
theorem two_fair {rr : List (List Int)} {a : List Int} (h : vld rr a = 0) (hc : ∀ k, k < a.length → 0 ≤ a.getD k 0) (h2 : rr.length = 2) (hp : poor rr a = []) : envs rr a = [] := by
  apply List.eq_nil_iff_forall_not_mem.2
  intro p hpm
  obtain ⟨i, k, hi, hk, hl, rfl⟩ := mem_envTo.1 hpm
  have hnp : ¬ isPoor rr a i = true := fun hh => by
    have : (i : Int) ∈ poor rr a := mem_filt.2 ⟨i, hi, hh, rfl⟩
    rw [hp] at this; simp at this
  simp only [isPoor, decide_eq_true_eq] at hnp
  have hs := sum_wth_all h hc hi
  rw [h2] at hs hnp
  simp only [sumK] at hs
  have hi' : i = 0 ∨ i = 1 := by omega
  have hk' : k = 0 ∨ k = 1 := by omega
  rcases hi' with rfl | rfl <;> rcases hk' with rfl | rfl <;> simp at hs hnp hl ⊢ <;> omega

/-! ### places in the lists -/
theorem envRow_pre {f : Nat → Int} {i c : Nat} : ∀ {d : Nat}, c ≤ d → envRow f i c <+: envRow f i d
  | 0, h => by rw [Nat.le_zero.1 h]; exact List.prefix_refl _
  | d + 1, h => by
    by_cases e : c = d + 1
    · rw [e]; exact List.prefix_refl _
    · exact (envRow_pre (d := d) (by omega)).trans (by simp only [envRow]; exact List.prefix_append _ _)
theorem envTo_pre {f : Nat → Nat → Int} {n c : Nat} : ∀ {d : Nat}, c ≤ d → envTo f n c <+: envTo f n d
  | 0, h => by rw [Nat.le_zero.1 h]; exact List.prefix_refl _
  | d + 1, h => by
    by_cases e : c = d + 1
    · rw [e]; exact List.prefix_refl _
    · exact (envTo_pre (d := d) (by omega)).trans (by simp only [envTo]; exact List.prefix_append _ _)
theorem filt_pre {p : Nat → Bool} {c : Nat} : ∀ {d : Nat}, c ≤ d → filt p c <+: filt p d
  | 0, h => by rw [Nat.le_zero.1 h]; exact List.prefix_refl _
  | d + 1, h => by
    by_cases e : c = d + 1
    · rw [e]; exact List.prefix_refl _
    · exact (filt_pre (d := d) (by omega)).trans (by simp only [filt]; exact List.prefix_append _ _)
theorem pre_get {α : Type} {l m : List α} {x d : α} (h : l ++ [x] <+: m) : l.length < m.length ∧ m.getD l.length d = x := by
  obtain ⟨t, rfl⟩ := h
  constructor
  · simp
  · simp [List.getD]
theorem env_at {f : Nat → Nat → Int} {n c k : Nat} (hc : c < n) (hk : k < n) (hl : f c c < f c k) :
    (envTo f n c ++ envRow (f c) c k).length < (envTo f n n).length ∧ (envTo f n n).getD (envTo f n c ++ envRow (f c) c k).length (0, 0) = ((c : Int), (k : Int)) := by
  apply pre_get
  have h1 : envTo f n c ++ envRow (f c) c (k + 1) <+: envTo f n (c + 1) := by
    simp only [envTo]
    exact (List.prefix_append_right_inj _).2 (envRow_pre (by omega))
  have h2 : envTo f n c ++ envRow (f c) c k ++ [((c : Int), (k : Int))] = envTo f n c ++ envRow (f c) c (k + 1) := by simp only [envRow, if_pos hl, List.append_assoc]
  rw [h2]
  exact h1.trans (envTo_pre hc)
theorem filt_at {p : Nat → Bool} {n c : Nat} (hc : c < n) (hp : p c = true) : (filt p c).length < (filt p n).length ∧ (filt p n).getD (filt p c).length 0 = (c : Int) := by
  apply pre_get
  have h2 : filt p c ++ [(c : Int)] = filt p (c + 1) := by simp only [filt, if_pos hp]
  rw [h2]
  exact filt_pre hc
theorem sumK_bd {f : Nat → Int} {X : Int} (h : ∀ k, 0 ≤ f k ∧ f k ≤ X) : ∀ n : Nat, 0 ≤ sumK f n ∧ sumK f n ≤ X * n
  | 0 => by simp [sumK]
  | n + 1 => by
    have := sumK_bd h n; have h2 := h n
    simp only [sumK]
    have e : X * ((n + 1 : Nat) : Int) = X * n + X := by rw [Int.natCast_add, Int.mul_add]; simp
    omega
end Go.Proofs.Ytiahjkhfkbcjhaa
