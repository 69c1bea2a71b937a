/- Plain laws of passing and giving: an order passed and passed back, a good given and given back. No program. -/
import Derived.Test.YtiahjkhfkbcjhaaPlain16b
set_option linter.unusedVariables false
set_option linter.unusedSimpArgs false
namespace Go.Proofs.Ytiahjkhfkbcjhaa
open Go.Eng

theorem vld_of {rr : List (List Int)} {a b : List Int} (h : vld rr a = 0) (hl : b.length = a.length) (hr : ∀ k, k < b.length → -1 ≤ b.getD k 0 ∧ b.getD k 0 < rr.length) : vld rr b = 0 := by
  obtain ⟨h1, h2⟩ := vld_zero h
  refine vld_ok h1 ?_
  rintro (h3 | ⟨k, hk, h3⟩)
  · exact h2 (.inl (by omega))
  · have := hr k hk; omega

theorem passV_len (a o : List Int) : (passV a o).length = a.length := by simp [passV]
theorem passV_get {a o : List Int} {k : Nat} (h : k < a.length) : (passV a o).getD k 0 = lastTo o (a.getD k 0) o.length := by simp [passV, List.getD, h]
theorem vld_pass {rr : List (List Int)} {a o : List Int} (h : vld rr a = 0) (ho : asg o rr.length) : vld rr (passV a o) = 0 := by
  refine vld_of h (passV_len a o) fun k hk => ?_
  rw [passV_len] at hk
  rw [passV_get hk]
  have := lastTo_bd o (a.getD k 0) o.length
  have := ho.1
  omega

theorem cntTo_two {o : List Int} {x : Int} {i k : Nat} (hik : i < k) (hi : o.getD i 0 = x) (hk : o.getD k 0 = x) : ∀ {c : Nat}, k < c → 2 ≤ cntTo o x c
  | 0, h => absurd h (Nat.not_lt_zero _)
  | c + 1, h => by
    simp only [cntTo]
    by_cases e : k = c
    · subst e
      have := (cntTo_pos (o := o) (j := x) (c := k)).2 ⟨i, hik, hi⟩
      rw [if_pos hk]; omega
    · have := cntTo_two hik hi hk (c := c) (by omega)
      split <;> omega
/-- In an assignment every agent has one place. -/
theorem asg_inj {o : List Int} {n : Nat} (ho : asg o n) {i k : Nat} (hi : i < n) (hk : k < n) (e : o.getD i 0 = o.getD k 0) : i = k := by
  have hr := ((asg_iff ho.1).1 ho).1
  have h1 : cntTo o (o.getD k 0) n = 1 := by
    have := ho.2 (o.getD k 0).toNat (by have := hr k hk; omega)
    rwa [Int.toNat_of_nonneg (hr k hk).1] at this
  rcases Nat.lt_trichotomy i k with h | h | h
  · have := cntTo_two h e rfl hk; omega
  · exact h
  · have := cntTo_two h rfl e (x := o.getD k 0) hi; omega
theorem last_is {o : List Int} {n : Nat} (ho : asg o n) {i : Nat} (hi : i < n) : lastTo o (o.getD i 0) n = (i : Int) := by
  have hne : lastTo o (o.getD i 0) n ≠ -1 := fun h => lastTo_neg.1 h i hi rfl
  have hb := lastTo_bd o (o.getD i 0) n
  have hat := lastTo_at hne
  have := asg_inj ho (i := (lastTo o (o.getD i 0) n).toNat) (k := i) (by omega) hi hat
  omega
theorem last_in {o : List Int} {n k : Nat} (ho : asg o n) (hk : k < n) : 0 ≤ lastTo o k n ∧ lastTo o k n < n ∧ o.getD (lastTo o k n).toNat 0 = (k : Int) := by
  obtain ⟨i, hi, e⟩ := ((asg_iff ho.1).1 ho).2 k hk
  rw [← e, last_is ho hi]
  exact ⟨by omega, by omega, by simp [e]⟩

/-- the inverse order -/
def backV (o : List Int) (n : Nat) : List Int := (List.range n).map fun k : Nat => lastTo o k n
theorem backV_len (o : List Int) (n : Nat) : (backV o n).length = n := by simp [backV]
theorem backV_get {o : List Int} {n k : Nat} (h : k < n) : (backV o n).getD k 0 = lastTo o k n := by simp [backV, List.getD, h]
theorem back_asg {o : List Int} {n : Nat} (ho : asg o n) : asg (backV o n) n := by
  refine (asg_iff (backV_len o n)).2 ⟨fun i hi => ?_, fun j hj => ?_⟩
  · rw [backV_get hi]; have := last_in ho hi; exact ⟨this.1, this.2.1⟩
  · have hr := ((asg_iff ho.1).1 ho).1 j hj
    refine ⟨(o.getD j 0).toNat, by omega, ?_⟩
    rw [backV_get (by omega), Int.toNat_of_nonneg hr.1, last_is ho hj]
theorem last_back {o : List Int} {n i : Nat} (ho : asg o n) (hi : i < n) : lastTo (backV o n) i n = o.getD i 0 := by
  have hr := ((asg_iff ho.1).1 ho).1 i hi
  have h1 := last_is (back_asg ho) (i := (o.getD i 0).toNat) (by omega)
  rw [backV_get (by omega), Int.toNat_of_nonneg hr.1, last_is ho hi] at h1
  exact h1
theorem lastTo_minus {o : List Int} {n : Nat} (ho : asg o n) {x : Int} (hx : x < 0) : lastTo o x n = -1 :=
  lastTo_neg.2 fun i hi e => by have := ((asg_iff ho.1).1 ho).1 i hi; omega
theorem pass_back {rr : List (List Int)} {a o : List Int} (h : vld rr a = 0) (ho : asg o rr.length) : passV (passV a o) (backV o rr.length) = a := by
  have hal := al_of_vld h
  apply ext_getD 0
  · rw [passV_len, passV_len]
  · intro k hk
    rw [passV_len, passV_len] at hk
    rw [passV_get (by rw [passV_len]; exact hk), passV_get hk, backV_len, ho.1]
    have hr := hal.rng k (by rw [← hal.len]; exact hk)
    by_cases h0 : 0 ≤ a.getD k 0
    · obtain ⟨h1, h2, h3⟩ := last_in ho (k := (a.getD k 0).toNat) (by omega)
      rw [Int.toNat_of_nonneg h0] at h1 h2 h3
      have := last_back ho (i := (lastTo o (a.getD k 0) rr.length).toNat) (by omega)
      rw [Int.toNat_of_nonneg h1, h3] at this
      exact this
    · rw [lastTo_minus ho (by omega), lastTo_minus (back_asg ho) (by omega)]; omega

/-- Each agent has the value that the other one's bundle had for it. -/
theorem worth_pass {rr : List (List Int)} {a o r : List Int} (h : vld rr a = 0) (ho : asg o rr.length) {m : Nat} (hm : m < rr.length) : ∀ c : Nat, c ≤ a.length → worth (passV a o) r m c = worth a r (o.getD m 0) c
  | 0, _ => rfl
  | c + 1, hc => by
    have hal := al_of_vld h
    simp only [worth]
    rw [worth_pass h ho hm c (by omega), passV_get (by omega), ho.1]
    have hr := hal.rng c (by rw [← hal.len]; omega)
    have hom := ((asg_iff ho.1).1 ho).1 m hm
    by_cases e : a.getD c 0 = o.getD m 0
    · rw [if_pos e, e, last_is ho hm, if_pos rfl]
    · rw [if_neg e, if_neg]
      intro e2
      by_cases h0 : 0 ≤ a.getD c 0
      · have h3 := (last_in ho (k := (a.getD c 0).toNat) (by omega)).2.2
        rw [Int.toNat_of_nonneg h0, e2] at h3
        exact e (by simpa using h3.symm)
      · rw [lastTo_minus ho (by omega)] at e2; omega
theorem wth_pass {rr : List (List Int)} {a o : List Int} (h : vld rr a = 0) (ho : asg o rr.length) {m : Nat} (hm : m < rr.length) : wth rr (passV a o) m m = wth rr a m (o.getD m 0) := by
  unfold wth; rw [passV_len]; exact worth_pass h ho hm _ (Nat.le_refl _)

/-! ### giving -/
theorem set_get {a : List Int} {x : Int} {i k : Nat} (hi : i < a.length) : (a.set i x).getD k 0 = if k = i then x else a.getD k 0 := by
  simp only [List.getD, List.getElem?_set]
  by_cases e : k = i
  · subst e; simp [hi]
  · rw [if_neg (fun h => e h.symm), if_neg e]
theorem vld_give {rr : List (List Int)} {a : List Int} {good agent : Int} (h : vld rr a = 0) (hg : giveOk rr a good agent) : vld rr (a.set good.toNat agent) = 0 := by
  have hal := al_of_vld h
  obtain ⟨h1, h2, h3, h4⟩ := hg
  refine vld_of h (by simp) fun k hk => ?_
  rw [set_get (by omega)]
  split
  · exact ⟨h3, h4⟩
  · exact hal.rng k (by rw [← hal.len]; simpa using hk)
theorem give_back {a : List Int} {x : Int} {i : Nat} (hi : i < a.length) : (a.set i x).set i (a.getD i 0) = a := by
  rw [List.set_set]
  apply ext_getD 0
  · simp
  · intro k _
    rw [set_get hi]; split
    · rename_i e; rw [e]
    · rfl
end Go.Proofs.Ytiahjkhfkbcjhaa
