/- Plain functions: goods that end envy, marks. No program. -/
import Derived.Test.YtiahjkhfkbcjhaaPlain16c
import Derived.Test.YtiahjkhfkbcjhaaEngQ
set_option linter.unusedVariables false
set_option linter.unusedSimpArgs false
namespace Go.Proofs.Ytiahjkhfkbcjhaa
open Go.Eng

/-- lists made row by row -/
def gRow {β : Type} (h : Nat → Nat → List β) (i : Nat) : Nat → List β
  | 0 => []
  | c + 1 => gRow h i c ++ h i c
def gTo {β : Type} (h : Nat → Nat → List β) (n : Nat) : Nat → List β
  | 0 => []
  | c + 1 => gTo h n c ++ gRow h c n
theorem gRow_len {β : Type} {h : Nat → Nat → List β} {i : Nat} (h1 : ∀ k, (h i k).length ≤ 1) : ∀ c, (gRow h i c).length ≤ c
  | 0 => Nat.le_refl _
  | c + 1 => by have := gRow_len h1 c; have := h1 c; simp only [gRow, List.length_append]; omega
theorem gTo_len {β : Type} {h : Nat → Nat → List β} {n : Nat} (h1 : ∀ i k, (h i k).length ≤ 1) : ∀ c, (gTo h n c).length ≤ c * n
  | 0 => by simp [gTo]
  | c + 1 => by have := gTo_len (n := n) h1 c; have := gRow_len (h1 c) n; simp only [gTo, List.length_append, Nat.add_mul, Nat.one_mul]; omega
theorem gRow_congr {β : Type} {h g : Nat → Nat → List β} {i : Nat} : ∀ {c : Nat}, (∀ k, k < c → h i k = g i k) → gRow h i c = gRow g i c
  | 0, _ => rfl
  | c + 1, e => by simp only [gRow]; rw [gRow_congr (fun k hk => e k (by omega)), e c (by omega)]
theorem gTo_congr {β : Type} {h g : Nat → Nat → List β} {n : Nat} : ∀ {c : Nat}, (∀ i k, i < c → k < n → h i k = g i k) → gTo h n c = gTo g n c
  | 0, _ => rfl
  | c + 1, e => by simp only [gTo]; rw [gTo_congr (fun i k hi hk => e i k (by omega) hk), gRow_congr (fun k hk => e c k (by omega) hk)]
theorem mem_gRow {β : Type} {h : Nat → Nat → List β} {i : Nat} {x : β} : ∀ {c : Nat}, x ∈ gRow h i c ↔ ∃ k, k < c ∧ x ∈ h i k
  | 0 => by simp [gRow]
  | c + 1 => by
    simp only [gRow, List.mem_append, mem_gRow (c := c)]
    constructor
    · rintro (⟨k, hk, hx⟩ | hx)
      · exact ⟨k, by omega, hx⟩
      · exact ⟨c, by omega, hx⟩
    · rintro ⟨k, hk, hx⟩
      by_cases e : k = c
      · subst e; exact .inr hx
      · exact .inl ⟨k, by omega, hx⟩
theorem mem_gTo {β : Type} {h : Nat → Nat → List β} {n : Nat} {x : β} : ∀ {c : Nat}, x ∈ gTo h n c ↔ ∃ i k, i < c ∧ k < n ∧ x ∈ h i k
  | 0 => by simp [gTo]
  | c + 1 => by
    simp only [gTo, List.mem_append, mem_gTo (c := c), mem_gRow]
    constructor
    · rintro (⟨i, k, hi, hk, hx⟩ | ⟨k, hk, hx⟩)
      · exact ⟨i, k, by omega, hk, hx⟩
      · exact ⟨c, k, by omega, hk, hx⟩
    · rintro ⟨i, k, hi, hk, hx⟩
      by_cases e : i = c
      · subst e; exact .inr ⟨k, hk, hx⟩
      · exact .inl ⟨i, k, by omega, hk, hx⟩

/-- A list over who envies whom. -/
theorem flat_envRow {β : Type} {f : Nat → Int} {i : Nat} {g : Int → Int → List β} : ∀ c : Nat, (envRow f i c).flatMap (fun p => g p.1 p.2) = gRow (fun (i k : Nat) => if f i < f k then g i k else []) i c
  | 0 => rfl
  | c + 1 => by
    simp only [envRow, gRow, List.flatMap_append, flat_envRow c]
    congr 1
    split <;> simp
theorem flat_envTo {β : Type} {f : Nat → Nat → Int} {n : Nat} {g : Int → Int → List β} : ∀ c : Nat, (envTo f n c).flatMap (fun p => g p.1 p.2) = gTo (fun (i k : Nat) => if f i i < f i k then g i k else []) n c
  | 0 => rfl
  | c + 1 => by
    simp only [envTo, gTo, List.flatMap_append, flat_envTo c, flat_envRow]
    congr 1
    exact gRow_congr fun k _ => rfl

/-- by how much agent k's bundle is worth more for agent i -/
def moreV (rr : List (List Int)) (a : List Int) (i k : Nat) : Int := wth rr a i k - wth rr a i i
/-- the first good of agent k's bundle whose value for agent i is at least x, or is not -/
def firstG (rr : List (List Int)) (a : List Int) (i k x : Int) (b : Bool) : Int := firstFrom (fun j => decide (a.getD j 0 = k) && (decide (x ≤ val rr i.toNat j) == b)) a.length 0
theorem firstG_bd (rr : List (List Int)) (a : List Int) (i k x : Int) (b : Bool) : -1 ≤ firstG rr a i k x b ∧ firstG rr a i k x b < a.length := by
  rcases firstFrom_spec (fun j => decide (a.getD j 0 = k) && (decide (x ≤ val rr i.toNat j) == b)) a.length 0 with ⟨j, _, h2, _, h4, _⟩ | ⟨h, _⟩
  · unfold firstG; rw [h4]; omega
  · unfold firstG; rw [h]; omega

/-- all envy -/
def evs (rr : List (List Int)) (a : List Int) : List T3 := (envs rr a).map fun p => (p.1, p.2, moreV rr a p.1.toNat p.2.toNat)
noncomputable def evsR (rr : List (List Int)) (a : List Int) : List T3 := if vld rr a = 0 then evs rr a else []
def markOf (rr : List (List Int)) (a : List Int) (b : Bool) (x : T3) : List T3 := if 0 ≤ firstG rr a x.1 x.2.1 x.2.2 b then [(x.1, x.2.1, firstG rr a x.1 x.2.1 x.2.2 b)] else []
def missOf (rr : List (List Int)) (a : List Int) (x : T3) : List (Int × Int) := if 0 ≤ firstG rr a x.1 x.2.1 x.2.2 true then [] else [(x.1, x.2.1)]
noncomputable def oneM (rr : List (List Int)) (a : List Int) : List T3 := (evsR rr a).flatMap (markOf rr a true)
noncomputable def oneX (rr : List (List Int)) (a : List Int) : List (Int × Int) := (evsR rr a).flatMap (missOf rr a)
noncomputable def anyM (rr : List (List Int)) (a : List Int) : List T3 := (evsR rr a).flatMap (markOf rr a false)

theorem evs_flat {β : Type} (rr : List (List Int)) (a : List Int) (g : T3 → List β) : (evs rr a).flatMap g = gTo (fun (i k : Nat) => if wth rr a i i < wth rr a i k then g (i, k, moreV rr a i k) else []) rr.length rr.length := by
  have h := flat_envTo (f := fun i (k : Nat) => wth rr a i k) (n := rr.length) (g := fun x y => g (x, y, moreV rr a x.toNat y.toNat)) rr.length
  unfold evs envs
  rw [List.flatMap_map]
  exact h

/-- Whether agent i does not envy agent k, if a good is left out (-1: none). -/
def content (rr : List (List Int)) (a : List Int) (i k : Nat) (good : Int) : Prop := wth rr a i k - (if 0 ≤ good ∧ a.getD good.toNat 0 = k then val rr i good.toNat else 0) ≤ wth rr a i i
end Go.Proofs.Ytiahjkhfkbcjhaa
