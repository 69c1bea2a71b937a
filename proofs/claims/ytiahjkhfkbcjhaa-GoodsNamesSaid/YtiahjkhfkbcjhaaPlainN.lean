/- Plain laws of layer 17: what the notions imply. No program. -/
import Derived.Test.YtiahjkhfkbcjhaaNear8
set_option linter.unusedVariables false
set_option linter.unusedSimpArgs false
namespace Go.Proofs.Ytiahjkhfkbcjhaa
open Go.Eng
set_option maxRecDepth 100000

theorem miss_one {rr : List (List Int)} {a : List Int} {x : T3} : (markOf rr a true x).length + (missOf rr a x).length = 1 := by
  unfold markOf missOf; split <;> simp
theorem count_one {rr : List (List Int)} {a : List Int} : ∀ l : List T3, (l.flatMap (markOf rr a true)).length + (l.flatMap (missOf rr a)).length = l.length
  | [] => rfl
  | x :: l => by
    have := count_one (rr := rr) (a := a) l
    have := miss_one (rr := rr) (a := a) (x := x)
    simp only [List.flatMap_cons, List.length_append, List.length_cons]; omega
theorem one_count {rr : List (List Int)} {a : List Int} (hv : vld rr a = 0) : (oneM rr a).length + (oneX rr a).length = (envs rr a).length := by
  rw [oneM, oneX, evsR, if_pos hv, count_one, evs_len]

theorem first_le {p : Nat → Bool} {n j : Nat} (hj : j < n) (hp : p j = true) : 0 ≤ firstFrom p n 0 := by
  rcases firstFrom_spec p n 0 with ⟨i, _, h2, h3, h4, h5⟩ | ⟨_, h2⟩
  · rw [h4]; omega
  · rw [h2 j (Nat.zero_le _) (by omega)] at hp; cases hp
theorem first_is {p : Nat → Bool} {n : Nat} (h : 0 ≤ firstFrom p n 0) : ∃ j : Nat, firstFrom p n 0 = j ∧ j < n ∧ p j = true ∧ ∀ k, k < j → p k = false := by
  rcases firstFrom_spec p n 0 with ⟨j, _, h2, h3, h4, h5⟩ | ⟨h1, _⟩
  · exact ⟨j, h4, by omega, h3, fun k hk => h5 k (Nat.zero_le _) hk⟩
  · omega

theorem oneX_nil {rr : List (List Int)} {a : List Int} (hv : vld rr a = 0) : oneX rr a = [] ↔ ∀ i k : Nat, i < rr.length → k < rr.length → wth rr a i i < wth rr a i k → ∃ j, j < a.length ∧ a.getD j 0 = k ∧ moreV rr a i k ≤ val rr i j := by
  rw [oneX_g hv]
  constructor
  · intro h i k hi hk hl
    refine Classical.byContradiction fun hn => ?_
    have hm : ((i : Int), (k : Int)) ∈ gTo (hX rr a) rr.length rr.length := by
      refine mem_gTo.2 ⟨i, k, hi, hk, ?_⟩
      unfold hX
      rw [if_pos hl]
      unfold missOf
      rw [if_neg]
      · simp
      · show ¬ 0 ≤ firstG rr a i k (moreV rr a i k) true
        intro h0
        rw [firstG_eq] at h0
        obtain ⟨j, _, hj, hp, _⟩ := first_is h0
        exact hn ⟨j, hj, gP_t.1 hp⟩
    rw [h] at hm; cases hm
  · intro h
    apply List.eq_nil_iff_forall_not_mem.2
    intro x hx
    obtain ⟨i, k, hi, hk, hx⟩ := mem_gTo.1 hx
    unfold hX at hx
    split at hx
    · rename_i hl
      obtain ⟨j, hj, hp⟩ := h i k hi hk hl
      unfold missOf at hx
      rw [if_pos] at hx
      · cases hx
      · show 0 ≤ firstG rr a i k (moreV rr a i k) true
        rw [firstG_eq]; exact first_le hj (gP_t.2 hp)
    · cases hx
theorem anyM_nil {rr : List (List Int)} {a : List Int} (hv : vld rr a = 0) : anyM rr a = [] ↔ ∀ i k : Nat, i < rr.length → k < rr.length → wth rr a i i < wth rr a i k → ∀ j, j < a.length → a.getD j 0 = k → moreV rr a i k ≤ val rr i j := by
  rw [anyM_g hv]
  constructor
  · intro h i k hi hk hl j hj hk2
    refine Classical.byContradiction fun hn => ?_
    have hp : gP rr a i k (moreV rr a i k) false j = true := gP_f.2 ⟨hk2, by omega⟩
    have h0 : 0 ≤ firstG rr a i k (moreV rr a i k) false := by rw [firstG_eq]; exact first_le hj hp
    have hm : ((i : Int), (k : Int), firstG rr a i k (moreV rr a i k) false) ∈ gTo (hM rr a false) rr.length rr.length := by
      refine mem_gTo.2 ⟨i, k, hi, hk, ?_⟩
      unfold hM
      rw [if_pos hl]
      unfold markOf
      rw [if_pos h0]; simp
    rw [h] at hm; cases hm
  · intro h
    apply List.eq_nil_iff_forall_not_mem.2
    intro x hx
    obtain ⟨i, k, hi, hk, hx⟩ := mem_gTo.1 hx
    unfold hM at hx
    split at hx
    · rename_i hl
      unfold markOf at hx
      split at hx
      · rename_i h0
        have h0 : 0 ≤ firstG rr a i k (moreV rr a i k) false := h0
        rw [firstG_eq] at h0
        obtain ⟨j, _, hj, hp, _⟩ := first_is h0
        have := gP_f.1 hp
        have := h i k hi hk hl j hj this.1
        omega
      · cases hx
    · cases hx

/-- A bundle of some worth has a good. -/
theorem worth_pos {a r : List Int} {k : Int} : ∀ {c : Nat}, 0 < worth a r k c → ∃ j, j < c ∧ a.getD j 0 = k
  | 0, h => by simp [worth] at h
  | c + 1, h => by
    simp only [worth] at h
    by_cases e : a.getD c 0 = k
    · exact ⟨c, by omega, e⟩
    · rw [if_neg e] at h
      obtain ⟨j, hj, e2⟩ := worth_pos (a := a) (r := r) (k := k) (c := c) (by omega)
      exact ⟨j, by omega, e2⟩
theorem any_one {rr : List (List Int)} {a : List Int} (hv : vld rr a = 0) (h : anyM rr a = []) : oneX rr a = [] := by
  refine (oneX_nil hv).2 fun i k hi hk hl => ?_
  have h0 := wth_bd (a := a) (al_of_vld hv).toGd i i
  obtain ⟨j, hj, e⟩ := worth_pos (a := a) (r := rr.getD i []) (k := (k : Int)) (c := a.length) (by show 0 < wth rr a i k; omega)
  exact ⟨j, hj, e, (anyM_nil hv).1 h i k hi hk hl j hj e⟩
theorem no_any {rr : List (List Int)} {a : List Int} (hv : vld rr a = 0) (h : envs rr a = []) : anyM rr a = [] := by
  rw [anyM, evsR, if_pos hv, evs, h]; rfl

theorem ex_max {p : Nat → Prop} {f : Nat → Int} : ∀ {n : Nat}, (∃ j, j < n ∧ p j) → ∃ j, j < n ∧ p j ∧ ∀ i, i < n → p i → f i ≤ f j
  | 0, h => by obtain ⟨j, hj, _⟩ := h; omega
  | n + 1, h => by
    by_cases h1 : ∃ j, j < n ∧ p j
    · obtain ⟨j, hj, hp, hm⟩ := ex_max (f := f) h1
      by_cases h2 : p n ∧ f j ≤ f n
      · refine ⟨n, by omega, h2.1, fun i hi hpi => ?_⟩
        by_cases e : i = n
        · subst e; omega
        · have := hm i (by omega) hpi; omega
      · refine ⟨j, by omega, hp, fun i hi hpi => ?_⟩
        by_cases e : i = n
        · subst e
          have : ¬ f j ≤ f i := fun hle => h2 ⟨hpi, hle⟩
          omega
        · exact hm i (by omega) hpi
    · obtain ⟨j, hj, hp⟩ := h
      have : j = n := by
        refine Classical.byContradiction fun e => h1 ⟨j, by omega, hp⟩
      subst this
      exact ⟨j, by omega, hp, fun i hi hpi => by
        by_cases e : i = j
        · subst e; omega
        · exact absurd ⟨i, by omega, hpi⟩ h1⟩

theorem shX_nil {rr : List (List Int)} {a : List Int} (hv : vld rr a = 0) : shX rr a = [] ↔ ∀ i, i < rr.length → isPoor rr a i = true → ∃ j, j < a.length ∧ a.getD j 0 ≠ i ∧ enough rr a i j := by
  rw [shX_g hv]
  constructor
  · intro h i hi hp
    refine Classical.byContradiction fun hn => ?_
    have hm : (i : Int) ∈ gRow (pX rr a) 0 rr.length := by
      refine mem_gRow.2 ⟨i, hi, ?_⟩
      unfold pX
      rw [if_pos hp]
      unfold shXOf
      rw [if_neg]
      · simp
      · intro h0
        obtain ⟨j, _, hj, hq, _⟩ := first_is h0
        exact hn ⟨j, hj, sP_iff.1 hq⟩
    rw [h] at hm; cases hm
  · intro h
    apply List.eq_nil_iff_forall_not_mem.2
    intro x hx
    obtain ⟨i, hi, hx⟩ := mem_gRow.1 hx
    unfold pX at hx
    split at hx
    · rename_i hp
      obtain ⟨j, hj, hq⟩ := h i hi hp
      unfold shXOf at hx
      have h0 : 0 ≤ shG rr a i := first_le hj (sP_iff.2 hq)
      rw [if_pos h0] at hx
      cases hx
    · cases hx

theorem sumK_le_const {f : Nat → Int} {X : Int} {n : Nat} (h : ∀ k, k < n → f k ≤ X) : sumK f n ≤ (n : Int) * X := by
  rw [← sumK_const]; exact sumK_le h

/-- Fair up to one good, and complete: the shares are good up to one good. -/
theorem one_share {rr : List (List Int)} {a : List Int} (hv : vld rr a = 0) (hc : compl a) (h : oneX rr a = []) : shX rr a = [] := by
  refine (shX_nil hv).2 fun i hi hp => ?_
  have hal := al_of_vld hv
  obtain ⟨k, hk, hl⟩ := poor_envies hv hc hi hp
  have h1 := (oneX_nil hv).1 h
  obtain ⟨j0, hj0, e0, _⟩ := h1 i k hi hk hl
  have hki : k ≠ i := by rintro rfl; omega
  obtain ⟨j, hj, hji, hmax⟩ := ex_max (p := fun j => a.getD j 0 ≠ i) (f := fun j => val rr i j) (n := a.length) ⟨j0, hj0, by show a.getD j0 0 ≠ i; omega⟩
  refine ⟨j, hj, hji, ?_⟩
  have hsum : sumK (fun k : Nat => wth rr a i k) rr.length ≤ (rr.length : Int) * (wth rr a i i + val rr i j) := by
    refine sumK_le_const fun q hq => ?_
    have hvj := (hal.val i j).1
    by_cases hlq : wth rr a i i < wth rr a i q
    · obtain ⟨j1, hj1, e1, hm1⟩ := h1 i q hi hq hlq
      have hqi : q ≠ i := by rintro rfl; omega
      have := hmax j1 hj1 (by show a.getD j1 0 ≠ i; omega)
      unfold moreV at hm1
      have : val rr i j1 ≤ val rr i j := this
      omega
    · omega
  rw [sum_wth_all hv hc hi] at hsum
  unfold enough
  rw [if_pos (by omega), Int.toNat_natCast]
  exact hsum

/-- One good alone. -/
theorem worth_single {a r : List Int} {k : Int} {j : Nat} (hj : a.getD j 0 = k) : ∀ c : Nat, (∀ i, i < c → a.getD i 0 = k → i = j) → worth a r k c = if j < c then r.getD j 0 else 0
  | 0, _ => by simp [worth]
  | c + 1, hu => by
    simp only [worth]
    rw [worth_single hj c (fun i hi e => hu i (by omega) e)]
    by_cases e : a.getD c 0 = k
    · have := hu c (by omega) e
      subst this
      rw [if_pos e, if_neg (by omega), if_pos (by omega)]; omega
    · rw [if_neg e]
      have hne : j ≠ c := by rintro rfl; exact e hj
      by_cases h : j < c
      · rw [if_pos h, if_pos (by omega)]; omega
      · rw [if_neg h, if_neg (by omega)]; omega
theorem single_any {rr : List (List Int)} {a : List Int} (hv : vld rr a = 0) (hu : ∀ i j, i < a.length → j < a.length → 0 ≤ a.getD i 0 → a.getD i 0 = a.getD j 0 → i = j) : anyM rr a = [] := by
  refine (anyM_nil hv).2 fun i k hi hk hl j hj e => ?_
  have h0 := wth_bd (a := a) (al_of_vld hv).toGd i i
  have : wth rr a i k = val rr i j := by
    unfold wth
    rw [worth_single e a.length (fun q hq e2 => hu q j hq hj (by omega) (by omega)), if_pos hj]; rfl
  unfold moreV; omega

/-- A good for who is not envied. -/
theorem grown_one {rr : List (List Int)} {a : List Int} {good agent : Nat} (hv : vld rr a = 0) (hg : good < a.length) (hn : a.getD good 0 = -1) (ha : agent < rr.length) (h : oneX rr a = [])
    (he : ∀ i, i < rr.length → wth rr a i agent ≤ wth rr a i i) : oneX rr (a.set good agent) = [] := by
  have hgo : giveOk rr a good agent := ⟨by omega, by omega, by omega, by omega⟩
  have hvb : vld rr (a.set good agent) = 0 := by have := vld_give hv hgo; rwa [Int.toNat_natCast] at this
  have hal := al_of_vld hv
  refine (oneX_nil hvb).2 fun i k hi hk hl => ?_
  have hb : ∀ q : Nat, wth rr (a.set good agent) i q = wth rr a i q + (if agent = q then val rr i good else 0) := fun q => by
    rw [wth_set hg, if_neg (by omega : ¬ a.getD good 0 = (q : Int))]
    by_cases e : agent = q
    · rw [if_pos e, if_pos (by omega)]; omega
    · rw [if_neg e, if_neg (by omega)]; omega
  have hbk := hb k
  have hbi := hb i
  have hvg := (hal.val i good).1
  by_cases ek : agent = k
  · subst ek
    have hai : agent ≠ i := by rintro rfl; omega
    rw [if_pos rfl] at hbk
    rw [if_neg hai] at hbi
    refine ⟨good, by rw [List.length_set]; exact hg, by rw [set_get hg, if_pos rfl], ?_⟩
    have := he i hi
    unfold moreV; omega
  · rw [if_neg ek] at hbk
    have hwi : wth rr a i i ≤ wth rr (a.set good agent) i i := by rw [hbi]; split <;> omega
    obtain ⟨j, hj, e, hm⟩ := (oneX_nil hv).1 h i k hi hk (by omega)
    refine ⟨j, by rw [List.length_set]; exact hj, ?_, ?_⟩
    · rw [set_get hg, if_neg]
      · exact e
      · rintro rfl; omega
    · unfold moreV at *; omega

/-- Marks tell the first good. -/
theorem mem_oneM {rr : List (List Int)} {a : List Int} {b : Bool} {x : T3} (hx : x ∈ gTo (hM rr a b) rr.length rr.length) : ∃ i k j : Nat, i < rr.length ∧ k < rr.length ∧ wth rr a i i < wth rr a i k ∧ j < a.length ∧ x = ((i : Int), (k : Int), (j : Int)) ∧ gP rr a i k (moreV rr a i k) b j = true ∧ ∀ q, q < j → gP rr a i k (moreV rr a i k) b q = false := by
  obtain ⟨i, k, hi, hk, hx⟩ := mem_gTo.1 hx
  unfold hM at hx
  split at hx
  · rename_i hl
    unfold markOf at hx
    split at hx
    · rename_i h0
      have h0 : 0 ≤ firstG rr a i k (moreV rr a i k) b := h0
      have e := firstG_eq rr a i k (moreV rr a i k) b
      rw [e] at h0
      obtain ⟨j, ej, hj, hp, hq⟩ := first_is h0
      refine ⟨i, k, j, hi, hk, hl, hj, ?_, hp, hq⟩
      simp only [List.mem_singleton] at hx
      rw [hx, e, ej]
    · cases hx
  · cases hx
theorem mem_shM {rr : List (List Int)} {a : List Int} (hv : vld rr a = 0) {x : T3} (hx : x ∈ shM rr a) : ∃ i j : Nat, i < rr.length ∧ j < a.length ∧ x = ((i : Int), a.getD j 0, (j : Int)) ∧ a.getD j 0 ≠ i ∧ enough rr a i j := by
  rw [shM_g hv] at hx
  obtain ⟨i, hi, hx⟩ := mem_gRow.1 hx
  unfold pM at hx
  split at hx
  · unfold shMOf at hx
    split at hx
    · rename_i h0
      obtain ⟨j, ej, hj, hp, hq⟩ := first_is h0
      refine ⟨i, j, hi, hj, ?_, sP_iff.1 hp⟩
      have ej : shG rr a i = j := ej
      simp only [List.mem_singleton] at hx
      rw [hx, ej, Int.toNat_natCast]
    · cases hx
  · cases hx
theorem env_cut {rr : List (List Int)} {a : List Int} {i k q : Nat} (hi : i < rr.length) (hk : k < rr.length) (hl : wth rr a i i < wth rr a i k) (hq : q < a.length) (e : a.getD q 0 = k) : ((i : Int), (k : Int)) ∈ envs rr (a.set q (-1)) ↔ val rr i q < moreV rr a i k := by
  have hki : k ≠ i := by rintro rfl; omega
  have h1 : wth rr (a.set q (-1)) i k = wth rr a i k - val rr i q := by rw [wth_set hq, if_neg (by omega), if_pos e]; omega
  have h2 : wth rr (a.set q (-1)) i i = wth rr a i i := by rw [wth_set hq, if_neg (by omega), if_neg (by omega)]; omega
  constructor
  · intro h
    obtain ⟨i', k', _, _, h3, e2⟩ := mem_envTo.1 h
    have e3 := congrArg Prod.fst e2
    have e4 := congrArg Prod.snd e2
    have e3 : (i : Int) = i' := e3
    have e4 : (k : Int) = k' := e4
    have : i = i' := by omega
    have : k = k' := by omega
    subst i' k'
    unfold moreV; omega
  · intro h
    refine mem_envTo.2 ⟨i, k, hi, hk, ?_, rfl⟩
    unfold moreV at h; omega
end Go.Proofs.Ytiahjkhfkbcjhaa
