/- Joined texts: RoundsEf NextRc Rounds3 Rounds4 Rounds5 EngAE Rounds6. -/
import Derived.Test.YtebklnmafjbhcaaJ3
set_option linter.unusedVariables false
set_option linter.unusedSimpArgs false
namespace Go.Proofs.Ytebklnmafjbhcaa
open Go.Eng

section
variable {rr : List (List Int)} {a b c : List Int}
theorem ordL_nat {n k : Nat} (h : Ags c n) (hk : k < n) : ∃ q : Nat, q < n ∧ (ordL c n).getD k 0 = (q : Int) := by
  have := ((asg_iff (ordL_len c n)).1 (ordL_asg h)).1 k hk
  exact ⟨((ordL c n).getD k 0).toNat, by omega, by omega⟩
theorem pas_at (hc : Ags c rr.length) {j k : Nat} (hj : j < a.length) (hk : k < rr.length) : (pas rr.length a c).getD j 0 = (k : Int) ↔ a.getD j 0 = (ordL c rr.length).getD k 0 := by
  have ho := ordL_asg hc
  unfold pas
  rw [passV_get hj, ordL_len]
  constructor
  · intro h
    have := lastTo_at (o := ordL c rr.length) (x := a.getD j 0) (c := rr.length) (by omega)
    rw [h, Int.toNat_natCast] at this
    exact this.symm
  · intro h
    rw [h]; exact last_is ho hk
theorem pas_neg (h : vld rr a = 0) (hc : Ags c rr.length) {j : Nat} (hj : j < a.length) : (pas rr.length a c).getD j 0 < 0 ↔ a.getD j 0 < 0 := by
  have ho := ordL_asg hc
  have hal := al_of_vld h
  have hr := hal.rng j (by rw [← hal.len]; exact hj)
  unfold pas
  rw [passV_get hj, ordL_len]
  by_cases h0 : a.getD j 0 < 0
  · rw [lastTo_minus ho h0]; omega
  · have h1 := last_in ho (k := (a.getD j 0).toNat) (by omega)
    rw [Int.toNat_of_nonneg (by omega)] at h1
    omega
theorem pas_same (h : vld rr a = 0) (hc : Ags c rr.length) {k m : Nat} (hk : k < a.length) (hm : m < a.length) : a.getD k 0 = a.getD m 0 ↔ (pas rr.length a c).getD k 0 = (pas rr.length a c).getD m 0 := by
  have hal := al_of_vld h
  have hal2 := al_of_vld (vld_pas h hc)
  have h1 := hal.rng k (by rw [← hal.len]; exact hk)
  have h2 := hal.rng m (by rw [← hal.len]; exact hm)
  have h3 := hal2.rng k (by rw [← hal.len]; exact hk)
  constructor
  · intro e; unfold pas; rw [passV_get hk, passV_get hm, e]
  · intro e
    have n1 := pas_neg h hc hk
    have n2 := pas_neg h hc hm
    by_cases h0 : (pas rr.length a c).getD k 0 < 0
    · have := n1.1 h0; have := n2.1 (by omega); omega
    · obtain ⟨q, hq⟩ : ∃ q : Nat, (pas rr.length a c).getD k 0 = (q : Int) := ⟨((pas rr.length a c).getD k 0).toNat, by omega⟩
      rw [(pas_at hc hk (k := q) (by omega)).1 hq, (pas_at hc hm (k := q) (by omega)).1 (by rw [← e, hq])]
/-- passing along a circle keeps fairness up to one good -/
theorem pas_one (h : vld rr a = 0) (hc : isC rr a c) (h1 : oneX rr a = []) : oneX rr (pas rr.length a c) = [] := by
  refine (oneX_nil (vld_pas h hc.ags)).2 fun i k hi hk hl => ?_
  obtain ⟨q, hq, e⟩ := ordL_nat hc.ags hk
  have h2 := wth_pas h hc.ags (i := i) hk
  rw [e] at h2
  have h3 := own_le h hc hi
  obtain ⟨j, hj, e2, hm⟩ := (oneX_nil h).1 h1 i q hi hq (by omega)
  refine ⟨j, by rw [pas_len]; exact hj, (pas_at hc.ags hj hk).2 (by rw [e2, e]), ?_⟩
  unfold moreV at *; omega

/-! ### how much envy there is -/
def rowE (rr : List (List Int)) (a : List Int) (i : Nat) : Int := sumK (fun k : Nat => if wth rr a i i < wth rr a i k then 1 else 0) rr.length
def edges (rr : List (List Int)) (a : List Int) : Int := sumK (fun i : Nat => rowE rr a i) rr.length
theorem sumK_comm (f : Nat → Nat → Int) (m : Nat) : ∀ n, sumK (fun i => sumK (fun j => f i j) m) n = sumK (fun j => sumK (fun i => f i j) n) m
  | 0 => (sumK_zero m).symm
  | n + 1 => by
    have h1 := sumK_comm f m n
    have h2 := sumK_add (fun j => sumK (fun i => f i j) n) (fun j => f n j) m
    show sumK (fun i => sumK (fun j => f i j) m) n + sumK (fun j => f n j) m = sumK (fun j => sumK (fun i => f i j) n + f n j) m
    rw [h2, h1]
theorem cnt_sum {o : List Int} {j y : Int} : ∀ n, sumK (fun k : Nat => if o.getD k 0 = j then y else 0) n = cntTo o j n * y
  | 0 => by simp [sumK, cntTo]
  | n + 1 => by
    have ih := cnt_sum (o := o) (j := j) (y := y) n
    simp only [sumK, cntTo]
    rw [ih]
    split
    · rw [Int.add_mul, Int.one_mul]
    · rw [Int.add_zero, Int.add_zero]
theorem sumK_perm {o : List Int} {n : Nat} (ho : asg o n) (F : Nat → Int) : sumK (fun k : Nat => F (o.getD k 0).toNat) n = sumK F n := by
  have h1 : sumK (fun k : Nat => F (o.getD k 0).toNat) n = sumK (fun k : Nat => sumK (fun j : Nat => if o.getD k 0 = (j : Int) then F j else 0) n) n := sumK_congr fun k hk => by
    have hr := ((asg_iff ho.1).1 ho).1 k hk
    rw [sumK_congr (g := fun j : Nat => if o.getD k 0 = (j : Int) then F (o.getD k 0).toNat else 0) (fun j _ => by
      by_cases e : o.getD k 0 = (j : Int)
      · rw [if_pos e, if_pos e, e, Int.toNat_natCast]
      · rw [if_neg e, if_neg e]), sumK_ind, if_pos hr]
  rw [h1, sumK_comm]
  refine sumK_congr fun j hj => ?_
  rw [cnt_sum, ho.2 j hj, Int.one_mul]
theorem rowE_pas (h : vld rr a = 0) (hc : Ags c rr.length) {i : Nat} : rowE rr (pas rr.length a c) i = sumK (fun k : Nat => if wth rr (pas rr.length a c) i i < wth rr a i k then 1 else 0) rr.length := by
  have e := sumK_perm (ordL_asg hc) (fun k : Nat => if wth rr (pas rr.length a c) i i < wth rr a i k then 1 else 0)
  rw [← e]
  refine sumK_congr fun k hk => ?_
  obtain ⟨q, hq, e1⟩ := ordL_nat hc hk
  rw [wth_pas h hc hk, e1, Int.toNat_natCast]
/-- passing along a circle leaves less envy -/
theorem edges_pas (h : vld rr a = 0) (hc : isC rr a c) : edges rr (pas rr.length a c) < edges rr a := by
  have hl := hc.len
  have h0 := hc.rng 0 (by omega)
  refine sumK_lt (fun i hi => ?_) ⟨(c.getD 0 0).toNat, by omega, ?_⟩
  · rw [rowE_pas h hc.ags]
    have := own_le h hc hi
    refine sumK_le fun k hk => ?_
    split <;> split <;> omega
  · rw [rowE_pas h hc.ags]
    obtain ⟨q, hq, e1⟩ := ordL_nat hc.ags (k := (c.getD 0 0).toNat) (by omega)
    have h1 := own_in h hc (t := 0) (by omega)
    have h2 := wth_pas h hc.ags (i := (c.getD 0 0).toNat) (k := (c.getD 0 0).toNat) (by omega)
    rw [e1] at h2
    have e2 : (((c.getD 0 0).toNat : Nat) : Int) = c.getD 0 0 := by omega
    rw [← e2] at h1
    simp only [Int.toNat_natCast] at h1
    refine sumK_lt (fun k hk => ?_) ⟨q, hq, ?_⟩
    · split <;> split <;> omega
    · rw [if_neg (by omega), if_pos (by omega)]; omega
theorem edges_bd (hn : rr.length ≤ 6) : 0 ≤ edges rr a ∧ edges rr a ≤ 36 := by
  have h1 : ∀ i, 0 ≤ rowE rr a i ∧ rowE rr a i ≤ 6 := fun i => by
    have := sumK_bd (f := fun k : Nat => if wth rr a i i < wth rr a i k then 1 else 0) (X := 1) (fun k => by split <;> omega) rr.length
    unfold rowE; omega
  have := sumK_bd (f := fun i : Nat => rowE rr a i) (X := 6) h1 rr.length
  unfold edges; omega
/-- what agents have after a good is given -/
theorem wth_give {g : Nat} {x : Int} (hg : g < a.length) (hn : a.getD g 0 = -1) (i q : Nat) : wth rr (a.set g x) i q = wth rr a i q + (if x = q then val rr i g else 0) := by
  rw [wth_set hg, if_neg (by omega : ¬ a.getD g 0 = (q : Int))]; omega
theorem edges_give (h : vld rr a = 0) {g : Nat} {x : Int} (hg : g < a.length) (hn : a.getD g 0 = -1) : edges rr (a.set g x) ≤ edges rr a + rr.length := by
  have hal := al_of_vld h
  have h1 : ∀ i, i < rr.length → rowE rr (a.set g x) i ≤ rowE rr a i + 1 := fun i hi => by
    have h2 : rowE rr (a.set g x) i ≤ sumK (fun k : Nat => (if wth rr a i i < wth rr a i k then 1 else 0) + if x = (k : Int) then 1 else 0) rr.length := by
      refine sumK_le fun k hk => ?_
      have hv := (hal.val i g).1
      rw [wth_give hg hn, wth_give hg hn]
      by_cases e : x = (k : Int)
      · rw [if_pos e, if_pos e]; split <;> split <;> split <;> omega
      · rw [if_neg e, if_neg e]; split <;> split <;> split <;> omega
    rw [sumK_add, sumK_ind] at h2
    unfold rowE at *
    split at h2 <;> omega
  have h3 := sumK_le (f := fun i : Nat => rowE rr (a.set g x) i) (g := fun i : Nat => rowE rr a i + 1) (n := rr.length) h1
  have h4 : sumK (fun i : Nat => rowE rr a i + 1) rr.length = edges rr a + rr.length := by
    rw [sumK_add, sumK_const]
    show edges rr a + _ = _
    omega
  exact Int.le_trans h3 (Int.le_of_eq h4)

/-! ### a run -/
structure RunI (rr : List (List Int)) (o a : List Int) : Prop where
  vd : vld rr a = 0
  rng : ∀ t, t < o.length → 0 ≤ o.getD t 0 ∧ o.getD t 0 < a.length
  dis : ∀ s t, s < t → t < o.length → o.getD s 0 ≠ o.getD t 0
  fr : ∀ t, t < o.length → a.getD (o.getD t 0).toNat 0 = -1
theorem fre_lt (rr : List (List Int)) (a : List Int) : -1 ≤ fre rr a ∧ fre rr a < rr.length := by
  rcases fre_cases rr a with ⟨i, h1, h2, _⟩ | ⟨h1, _⟩ <;> omega
theorem RunI.turn {o : List Int} (hn : 1 ≤ rr.length) (h : RunI rr o a) (hf : fre rr a < 0) : RunI rr o (pas rr.length a (circ rr a)) := by
  have hc := fre_neg hn hf
  have hv2 := vld_pas h.vd hc.ags
  have hal := al_of_vld hv2
  refine ⟨hv2, fun t ht => by rw [pas_len]; exact h.rng t ht, h.dis, fun t ht => ?_⟩
  have h1 := h.rng t ht
  have h2 := h.fr t ht
  have h3 := (pas_neg h.vd hc.ags (j := (o.getD t 0).toNat) (by omega)).2 (by omega)
  have h4 := hal.rng (o.getD t 0).toNat (by rw [← hal.len, pas_len]; omega)
  omega
theorem RunI.gave {g : Int} {o : List Int} (h : RunI rr (g :: o) a) (hf : 0 ≤ fre rr a) : RunI rr o (a.set g.toNat (fre rr a)) ∧ (0 ≤ g ∧ g < a.length) ∧ a.getD g.toNat 0 = -1 := by
  have hg : 0 ≤ g ∧ g < a.length := h.rng 0 (by simp)
  have hgn : a.getD g.toNat 0 = -1 := h.fr 0 (by simp)
  have hb := fre_lt rr a
  have hv : vld rr (a.set g.toNat (fre rr a)) = 0 := vld_give h.vd (good := g) ⟨hg.1, hg.2, by omega, by omega⟩
  refine ⟨⟨hv, fun t ht => ?_, fun s t hst ht => h.dis (s + 1) (t + 1) (by omega) (by simpa using ht), fun t ht => ?_⟩, hg, hgn⟩
  · rw [List.length_set]; exact h.rng (t + 1) (by simpa using ht)
  · have h1 : g ≠ o.getD t 0 := h.dis 0 (t + 1) (by omega) (by simpa using ht)
    have h2 : 0 ≤ o.getD t 0 ∧ o.getD t 0 < a.length := h.rng (t + 1) (by simpa using ht)
    rw [set_get (by omega), if_neg (by omega)]
    exact h.fr (t + 1) (by simpa using ht)
theorem fre_free (hf : 0 ≤ fre rr a) {k : Nat} (hk : k < rr.length) : wth rr a k (fre rr a) ≤ wth rr a k k := by
  rcases fre_cases rr a with ⟨i, h1, h2, h3, _⟩ | ⟨h1, _⟩
  · have := h3 k hk
    unfold En at this
    rw [Int.toNat_natCast] at this
    rw [h2]; omega
  · omega
/-- one step -/
def stp (rr : List (List Int)) (a : List Int) (s : Stp) : List Int := if s.1 = [] then a.set s.2.2.toNat s.2.1 else pas rr.length a s.1
def rep (rr : List (List Int)) (a : List Int) (S : List Stp) : List Int := S.foldl (stp rr) a
theorem run_all {o : List Int} {S : List Stp} (hn : 1 ≤ rr.length) (h : RunS rr o a S b) : RunI rr o a → vld rr b = 0 ∧ (oneX rr a = [] → oneX rr b = []) ∧ ((S.length : Int) ≤ edges rr a + 7 * o.length ∧ o.length ≤ S.length) ∧ b.length = a.length ∧ (∀ k : Nat, k < a.length → (0 ≤ b.getD k 0 ↔ 0 ≤ a.getD k 0 ∨ (k : Int) ∈ o)) ∧ rep rr a S = b := by
  induction h with
  | @nil a => exact fun hI => ⟨hI.vd, fun h => h, ⟨by have := (edges_bd (rr := rr) (a := a) (al_of_vld hI.vd).n6).1; simp; omega, by simp⟩, rfl, fun k hk => by simp, rfl⟩
  | @circ g o a S b h1 _ ih =>
    intro hI
    have hc := fre_neg hn h1
    obtain ⟨i1, i2, i3, i4, i5, i6⟩ := ih (hI.turn hn h1)
    have he := edges_pas hI.vd hc
    rw [pas_len] at i4
    refine ⟨i1, fun h => i2 (pas_one hI.vd hc h), ⟨by simp only [List.length_cons] at i3 ⊢; omega, by simp only [List.length_cons] at i3 ⊢; omega⟩, i4, fun k hk => ?_, ?_⟩
    · rw [i5 k (by rw [pas_len]; exact hk)]
      have := pas_neg hI.vd hc.ags hk
      constructor
      · rintro (h | h)
        · left; omega
        · exact .inr h
      · rintro (h | h)
        · left; omega
        · exact .inr h
    · rw [← i6]
      have hl := hc.len
      show rep rr (stp rr a (_, _)) S = _
      unfold stp
      rw [if_neg (fun e => by rw [show (Go.Proofs.Ytebklnmafjbhcaa.circ rr a, ((-1 : Int), (-1 : Int))).1 = Go.Proofs.Ytebklnmafjbhcaa.circ rr a from rfl] at e; rw [e] at hl; simp at hl)]
  | @give g o a S b h1 _ ih =>
    intro hI
    obtain ⟨hI2, hg, hgn⟩ := hI.gave h1
    obtain ⟨i1, i2, i3, i4, i5, i6⟩ := ih hI2
    have he := edges_give (x := fre rr a) hI.vd (g := g.toNat) (by omega) hgn
    have hb := fre_lt rr a
    have hn6 := (al_of_vld hI.vd).n6
    rw [List.length_set] at i4
    refine ⟨i1, fun h => i2 ?_, ⟨by simp only [List.length_cons] at i3 ⊢; omega, by simp only [List.length_cons] at i3 ⊢; omega⟩, i4, fun k hk => ?_, ?_⟩
    · have h2 := grown_one (agent := (fre rr a).toNat) hI.vd (good := g.toNat) (by omega) hgn (by omega) h (fun i hi => by rw [Int.toNat_of_nonneg h1]; exact fre_free h1 hi)
      rwa [Int.toNat_of_nonneg h1] at h2
    · rw [i5 k (by rw [List.length_set]; exact hk), set_get (by omega)]
      by_cases e : k = g.toNat
      · rw [if_pos e]
        exact ⟨fun _ => .inr (by rw [show (k : Int) = g by omega]; exact List.mem_cons_self ..), fun _ => .inl h1⟩
      · rw [if_neg e]
        constructor
        · rintro (h | h)
          · exact .inl h
          · exact .inr (List.mem_cons_of_mem _ h)
        · rintro (h | h)
          · exact .inl h
          · rcases List.mem_cons.1 h with h | h
            · omega
            · exact .inr h
    · rw [← i6]; rfl
/-- how many goods are given by the first n steps -/
def gv : Nat → List Stp → Nat
  | 0, _ => 0
  | _ + 1, [] => 0
  | n + 1, s :: S => (if s.1 = [] then 1 else 0) + gv n S
theorem gv_succ : ∀ {n : Nat} {S : List Stp}, n < S.length → gv (n + 1) S = gv n S + if (S.getD n ([], 0, 0)).1 = [] then 1 else 0
  | _, [], h => absurd h (by simp)
  | 0, s :: S, _ => by simp [gv]
  | n + 1, s :: S, h => by
    have ih := gv_succ (n := n) (S := S) (by simpa using h)
    have e : (s :: S).getD (n + 1) ([], 0, 0) = S.getD n ([], 0, 0) := rfl
    rw [e]
    simp only [gv] at ih ⊢
    rw [ih]; omega
theorem run_at {o : List Int} {S : List Stp} (hn : 1 ≤ rr.length) (h : RunS rr o a S b) : RunI rr o a → ∀ n, n ≤ S.length → RunS rr (o.drop (gv n S)) (rep rr a (S.take n)) (S.drop n) b ∧ RunI rr (o.drop (gv n S)) (rep rr a (S.take n)) := by
  induction h with
  | nil => intro hI n hn; simp at hn; subst hn; exact ⟨.nil, hI⟩
  | @circ g o a S b h1 h2 ih =>
    intro hI n hl
    have hc := fre_neg hn h1
    have hlc := hc.len
    have hne : ¬ Go.Proofs.Ytebklnmafjbhcaa.circ rr a = [] := fun e => by rw [e] at hlc; simp at hlc
    match n with
    | 0 => exact ⟨.circ h1 h2, hI⟩
    | n + 1 =>
      have := ih (hI.turn hn h1) n (by simpa using hl)
      have e1 : gv (n + 1) ((Go.Proofs.Ytebklnmafjbhcaa.circ rr a, -1, -1) :: S) = gv n S := by simp only [gv]; rw [if_neg hne]; omega
      have e2 : rep rr a (((Go.Proofs.Ytebklnmafjbhcaa.circ rr a, -1, -1) :: S).take (n + 1)) = rep rr (pas rr.length a (Go.Proofs.Ytebklnmafjbhcaa.circ rr a)) (S.take n) := by
        show rep rr (stp rr a (Go.Proofs.Ytebklnmafjbhcaa.circ rr a, -1, -1)) (S.take n) = _
        unfold stp; rw [if_neg hne]
      rw [e1, e2]; exact this
  | @give g o a S b h1 h2 ih =>
    intro hI n hl
    match n with
    | 0 => exact ⟨.give h1 h2, hI⟩
    | n + 1 =>
      have := ih (hI.gave h1).1 n (by simpa using hl)
      have e1 : gv (n + 1) (([], fre rr a, g) :: S) = gv n S + 1 := by
        show (if ([] : List Int) = [] then 1 else 0) + gv n S = gv n S + 1
        rw [if_pos rfl]; omega
      rw [e1]; exact this
theorem run_head {o : List Int} {s : Stp} {S : List Stp} (h : RunS rr o a (s :: S) b) : (fre rr a < 0 ∧ s = (circ rr a, -1, -1) ∧ o ≠ []) ∨ (0 ≤ fre rr a ∧ ∃ g o', o = g :: o' ∧ s = ([], fre rr a, g)) := by
  cases h with
  | circ h1 _ => exact .inl ⟨h1, rfl, by simp⟩
  | give h1 _ => exact .inr ⟨h1, _, _, rfl, rfl⟩

/-! ### Undo -/
theorem und_all (hn : 1 ≤ rr.length) (h : Und rr a b) : vld rr a = 0 → vld rr b = 0 ∧ circ rr b = [] ∧ (∀ i, i < rr.length → wth rr a i i ≤ wth rr b i i) ∧ b.length = a.length ∧ ∀ k, k < a.length → (a.getD k 0 < 0 ↔ b.getD k 0 < 0) ∧ ∀ m, m < a.length → (a.getD k 0 = a.getD m 0 ↔ b.getD k 0 = b.getD m 0) := by
  induction h with
  | stop h => exact fun hv => ⟨hv, h, fun _ _ => Int.le_refl _, rfl, fun _ _ => ⟨Iff.rfl, fun _ _ => Iff.rfl⟩⟩
  | go h1 _ ih =>
    intro hv
    have hc := circ_isC hn h1
    obtain ⟨i1, i2, i3, i4, i5⟩ := ih (vld_pas hv hc.ags)
    rw [pas_len] at i4 i5
    refine ⟨i1, i2, fun i hi => Int.le_trans (own_le hv hc hi) (i3 i hi), i4, fun k hk => ⟨?_, fun m hm => ?_⟩⟩
    · rw [← (i5 k hk).1, pas_neg hv hc.ags hk]
    · rw [← (i5 k hk).2 m hm, ← pas_same hv hc.ags hk hm]
end
end Go.Proofs.Ytebklnmafjbhcaa
set_option linter.unusedVariables false
set_option linter.unusedSimpArgs false
namespace Go.Proofs.Ytebklnmafjbhcaa
open Go.Eng
set_option maxRecDepth 100000
set_option maxHeartbeats 4000000

theorem set_mid {α : Type} {p s : List α} {x y : α} {q : Nat} (h : p.length = q) : (p ++ x :: s).set q y = p ++ y :: s := by
  subst h; rw [List.set_append]; simp
theorem getD_mid {p s : List Int} {x : Int} {q : Nat} (h : p.length = q) : (p ++ x :: s).getD q 0 = x := by
  subst h; simp [List.getD]

theorem next_rc {w : World} {B n : Nat} {lv : Value} {l : List Int} (Hl : Own B 3 1 w lv l.length (l.map i64v)) (hb : ∀ i, i < l.length → 0 ≤ l.getD i 0 ∧ l.getD i 0 < n) (hn : n ≤ 100000) :
    RC Try.prog 84 [lv, .int .i64 n] w (fun k => lv.ownBlock = some k) (fun u w' => u = .bool (nxt n l).1 ∧ Own B 3 1 w' lv l.length ((nxt n l).2.map i64v)) := by
  refine RC.mk tyOk Try.func84 rfl (by kernel_rfl) fun w1 E1 => ?_
  replace Hl := Hl.ext E1
  have EE := Ext.refl w1
  have hlI : Ints w1 lv l := Own.sl Hl
  have hle := hlI.le
  have GS : Gr (fun k => lv.ownBlock = some k) w1 w1 := Gr.refl _ _
  repeat' ((conv => whnf); first | (refine Dr.quiet tyOk (by kernel_rfl) ?_) | (refine Rng.mk (by omega) ?_) | (refine Split.pos (by omega) ?_) | (refine Split.neg (by omega) ?_) | (refine Split.mk (fun h => ?_) (fun h => ?_)) | (refine Need.mk (by omega) ?_) | (refine Ints.ln (by assumption) ?_) | (refine Mat.ln (by assumption) ?_) | (refine Ints.ln (Mat.row (by assumption) _ (by omega)) ?_) | (refine Ints.ix (by assumption) (by omega) ?_) | (refine Mat.ix (by assumption) (by omega) ?_) | (refine Ints.ix (Mat.row (by assumption) _ (by omega)) (by omega) ?_) | (refine Ints.ix (c := 0) (by assumption) (by omega) ?_) | (refine Mat.ix (c := 0) (by assumption) (by omega) ?_) | (refine Ints.ix (c := 0) (Mat.row (by assumption) _ (by omega)) (by omega) ?_) | (refine Ints.ixI (by assumption) (by omega) ?_) | (refine Mat.ixI (by assumption) (by omega) ?_) | (refine Ints.ixI (Mat.row (by assumption) _ (by omega)) (by omega) ?_) | (refine Ints.ld (by assumption) (by omega) ?_) | (refine Mat.ld (by assumption) (by omega) ?_) | (refine Ints.ld (Mat.row (by assumption) _ (by omega)) (by omega) ?_) | (refine At.ld (by assumption) rfl ?_) | (refine At.ldN (by assumption) rfl ?_) | (refine Prs.ln (by assumption) ?_) | (refine Trs.ln (by assumption) ?_) | (refine Prs.ix (by assumption) (by omega) ?_) | (refine Trs.ix (by assumption) (by omega) ?_) | (refine Prs.ldN (by assumption) (by omega) ?_) | (refine Trs.ldN (by assumption) (by omega) ?_) | (refine At.ldN (Blk.at (by assumption)) rfl ?_) | (refine At.ld (Blk.at (by assumption)) rfl ?_) | (refine IxA.mk (by omega) ?_) | (refine Sl.ln (Own.sl (by assumption)) ?_) | (refine Ints.ix (Own.sl (by assumption)) (by omega) ?_) | (refine Ints.ixI (Own.sl (by assumption)) (by omega) ?_) | (refine Ints.ld (Own.sl (by assumption)) (by omega) ?_))
  refine Lp.mk tyOk [false, false, false, false, true, true, false, false, false, true, true, true, true, true, true, true, true, true, true, true, true, true, true, true, true, true, true, true] (fun m fr wr => getK fr 5 fun i => ∃ c : Nat, c ≤ l.length ∧ m = l.length - c ∧ i = .int .i64 ((l.length : Int) - 1 - c) ∧ ((nxt n (l.drop (l.length - c))).1 = false) ∧ (Own B 3 1 wr lv l.length ((l.take (l.length - c) ++ (nxt n (l.drop (l.length - c))).2).map i64v)) ∧ (Gr (fun k => lv.ownBlock = some k) w1 wr)) (l.length) ?_ ?_
  · exact ⟨0, Nat.zero_le _, rfl, by simp, by simp [nxt], by simpa [nxt] using Hl, (by first | exact fun _ hi => absurd hi (Nat.not_lt_zero _) | exact fun _ _ hi => absurd hi (Nat.not_lt_zero _) | assumption | exact Own.nil | omega | simp)⟩
  · intro m w2 u4 u5 u9 u10 u11 u12 u13 u14 u15 u16 u17 u18 u19 u20 u21 u22 u23 u24 u25 u26 u27 hR
    obtain ⟨c, hc, rfl, rfl, hf, HC, GS⟩ := hR
    by_cases hcl : c < l.length
    · have hq : l.length - c = l.length - c - 1 + 1 := by omega
      generalize l.length - c - 1 = q at hq
      have ei : ((l.length : Int) - 1 - (c : Int)) = (q : Int) := by omega
      have hql : q < l.length := by omega
      rw [hq] at hf HC
      have hlen : (l.take (q + 1) ++ (nxt n (l.drop (q + 1))).2).length = l.length := by rw [List.length_append, nxt_len, List.length_take, List.length_drop]; omega
      have hsp : l.take (q + 1) ++ (nxt n (l.drop (q + 1))).2 = l.take q ++ l.getD q 0 :: (nxt n (l.drop (q + 1))).2 := by
        rw [take_snoc 0 l q hql, List.append_assoc]; rfl
      have htk : (l.take q).length = q := by rw [List.length_take]; omega
      have hdr : l.drop q = l.getD q 0 :: l.drop (q + 1) := by
        have e : l.getD q 0 = l[q] := by simp [List.getD, hql]
        rw [e, List.getElem_cons_drop]
      rw [hsp] at HC hlen
      have HCI : Ints w2 lv (l.take q ++ l.getD q 0 :: (nxt n (l.drop (q + 1))).2) := by unfold Ints; rw [hlen]; exact Own.sl HC
      have hgd : (l.take q ++ l.getD q 0 :: (nxt n (l.drop (q + 1))).2).getD q 0 = l.getD q 0 := getD_mid htk
      have hbq := hb q hql
      have hnx : nxt n (l.drop q) = if l.getD q 0 + 1 < n then (true, (l.getD q 0 + 1) :: (nxt n (l.drop (q + 1))).2) else (false, 0 :: (nxt n (l.drop (q + 1))).2) := by
        rw [hdr]
        have e2 : nxt n (l.drop (q + 1)) = (false, (nxt n (l.drop (q + 1))).2) := Prod.ext hf rfl
        simp only [nxt]
        rw [e2]
      rw [ei]
      repeat' ((conv => whnf); first | (refine Dr.quiet tyOk (by kernel_rfl) ?_) | (refine Rng.mk (by omega) ?_) | (refine Split.pos (by omega) ?_) | (refine Split.neg (by omega) ?_) | (refine Split.mk (fun h => ?_) (fun h => ?_)) | (refine Need.mk (by omega) ?_) | (refine Ints.ln (by assumption) ?_) | (refine Mat.ln (by assumption) ?_) | (refine Ints.ln (Mat.row (by assumption) _ (by omega)) ?_) | (refine Ints.ix (by assumption) (by omega) ?_) | (refine Mat.ix (by assumption) (by omega) ?_) | (refine Ints.ix (Mat.row (by assumption) _ (by omega)) (by omega) ?_) | (refine Ints.ix (c := 0) (by assumption) (by omega) ?_) | (refine Mat.ix (c := 0) (by assumption) (by omega) ?_) | (refine Ints.ix (c := 0) (Mat.row (by assumption) _ (by omega)) (by omega) ?_) | (refine Ints.ixI (by assumption) (by omega) ?_) | (refine Mat.ixI (by assumption) (by omega) ?_) | (refine Ints.ixI (Mat.row (by assumption) _ (by omega)) (by omega) ?_) | (refine Ints.ld (by assumption) (by omega) ?_) | (refine Mat.ld (by assumption) (by omega) ?_) | (refine Ints.ld (Mat.row (by assumption) _ (by omega)) (by omega) ?_) | (refine At.ld (by assumption) rfl ?_) | (refine At.ldN (by assumption) rfl ?_) | (refine Prs.ln (by assumption) ?_) | (refine Trs.ln (by assumption) ?_) | (refine Prs.ix (by assumption) (by omega) ?_) | (refine Trs.ix (by assumption) (by omega) ?_) | (refine Prs.ldN (by assumption) (by omega) ?_) | (refine Trs.ldN (by assumption) (by omega) ?_) | (refine At.ldN (Blk.at (by assumption)) rfl ?_) | (refine At.ld (Blk.at (by assumption)) rfl ?_) | (refine IxA.mk (by omega) ?_) | (refine Sl.ln (Own.sl (by assumption)) ?_) | (refine Ints.ix (Own.sl (by assumption)) (by omega) ?_) | (refine Ints.ixI (Own.sl (by assumption)) (by omega) ?_) | (refine Ints.ld (Own.sl (by assumption)) (by omega) ?_))
      refine Own.set HC (by rw [List.length_map, hlen]; omega) rfl fun w5 G5 H5 => ?_
      rw [hgd, set_map, set_mid htk] at H5
      have GS5 := GS.trans G5
      have H5I : Ints w5 lv (l.take q ++ (l.getD q 0 + 1) :: (nxt n (l.drop (q + 1))).2) := by unfold Ints; rw [show (l.take q ++ (l.getD q 0 + 1) :: (nxt n (l.drop (q + 1))).2).length = l.length by rw [← hlen]; simp]; exact Own.sl H5
      have hgd5 : (l.take q ++ (l.getD q 0 + 1) :: (nxt n (l.drop (q + 1))).2).getD q 0 = l.getD q 0 + 1 := getD_mid htk
      have hlen5 : (l.take q ++ (l.getD q 0 + 1) :: (nxt n (l.drop (q + 1))).2).length = l.length := by rw [← hlen]; simp
      repeat' ((conv => whnf); first | (refine Dr.quiet tyOk (by kernel_rfl) ?_) | (refine Rng.mk (by omega) ?_) | (refine Split.pos (by omega) ?_) | (refine Split.neg (by omega) ?_) | (refine Split.mk (fun h => ?_) (fun h => ?_)) | (refine Need.mk (by omega) ?_) | (refine Ints.ln (by assumption) ?_) | (refine Mat.ln (by assumption) ?_) | (refine Ints.ln (Mat.row (by assumption) _ (by omega)) ?_) | (refine Ints.ix (by assumption) (by omega) ?_) | (refine Mat.ix (by assumption) (by omega) ?_) | (refine Ints.ix (Mat.row (by assumption) _ (by omega)) (by omega) ?_) | (refine Ints.ix (c := 0) (by assumption) (by omega) ?_) | (refine Mat.ix (c := 0) (by assumption) (by omega) ?_) | (refine Ints.ix (c := 0) (Mat.row (by assumption) _ (by omega)) (by omega) ?_) | (refine Ints.ixI (by assumption) (by omega) ?_) | (refine Mat.ixI (by assumption) (by omega) ?_) | (refine Ints.ixI (Mat.row (by assumption) _ (by omega)) (by omega) ?_) | (refine Ints.ld (by assumption) (by omega) ?_) | (refine Mat.ld (by assumption) (by omega) ?_) | (refine Ints.ld (Mat.row (by assumption) _ (by omega)) (by omega) ?_) | (refine At.ld (by assumption) rfl ?_) | (refine At.ldN (by assumption) rfl ?_) | (refine Prs.ln (by assumption) ?_) | (refine Trs.ln (by assumption) ?_) | (refine Prs.ix (by assumption) (by omega) ?_) | (refine Trs.ix (by assumption) (by omega) ?_) | (refine Prs.ldN (by assumption) (by omega) ?_) | (refine Trs.ldN (by assumption) (by omega) ?_) | (refine At.ldN (Blk.at (by assumption)) rfl ?_) | (refine At.ld (Blk.at (by assumption)) rfl ?_) | (refine IxA.mk (by omega) ?_) | (refine Sl.ln (Own.sl (by assumption)) ?_) | (refine Ints.ix (Own.sl (by assumption)) (by omega) ?_) | (refine Ints.ixI (Own.sl (by assumption)) (by omega) ?_) | (refine Ints.ld (Own.sl (by assumption)) (by omega) ?_))
      · rw [if_pos (by omega)] at hnx
        have e3 := nxt_app hnx (l.take q)
        rw [List.take_append_drop] at e3
        exact ⟨GS5, by rw [e3], by rw [e3]; exact H5⟩
      · rw [if_neg (by omega)] at hnx
        refine Own.set H5 (by rw [List.length_map, hlen5]; omega) rfl fun w6 G6 H6 => ?_
        rw [set_map, set_mid htk] at H6
        have GS6 := GS5.trans G6
        have eq : l.length - (c + 1) = q := by omega
        repeat' ((conv => whnf); first | (refine Dr.quiet tyOk (by kernel_rfl) ?_) | (refine Rng.mk (by omega) ?_) | (refine Split.pos (by omega) ?_) | (refine Split.neg (by omega) ?_) | (refine Split.mk (fun h => ?_) (fun h => ?_)) | (refine Need.mk (by omega) ?_) | (refine Ints.ln (by assumption) ?_) | (refine Mat.ln (by assumption) ?_) | (refine Ints.ln (Mat.row (by assumption) _ (by omega)) ?_) | (refine Ints.ix (by assumption) (by omega) ?_) | (refine Mat.ix (by assumption) (by omega) ?_) | (refine Ints.ix (Mat.row (by assumption) _ (by omega)) (by omega) ?_) | (refine Ints.ix (c := 0) (by assumption) (by omega) ?_) | (refine Mat.ix (c := 0) (by assumption) (by omega) ?_) | (refine Ints.ix (c := 0) (Mat.row (by assumption) _ (by omega)) (by omega) ?_) | (refine Ints.ixI (by assumption) (by omega) ?_) | (refine Mat.ixI (by assumption) (by omega) ?_) | (refine Ints.ixI (Mat.row (by assumption) _ (by omega)) (by omega) ?_) | (refine Ints.ld (by assumption) (by omega) ?_) | (refine Mat.ld (by assumption) (by omega) ?_) | (refine Ints.ld (Mat.row (by assumption) _ (by omega)) (by omega) ?_) | (refine At.ld (by assumption) rfl ?_) | (refine At.ldN (by assumption) rfl ?_) | (refine Prs.ln (by assumption) ?_) | (refine Trs.ln (by assumption) ?_) | (refine Prs.ix (by assumption) (by omega) ?_) | (refine Trs.ix (by assumption) (by omega) ?_) | (refine Prs.ldN (by assumption) (by omega) ?_) | (refine Trs.ldN (by assumption) (by omega) ?_) | (refine At.ldN (Blk.at (by assumption)) rfl ?_) | (refine At.ld (Blk.at (by assumption)) rfl ?_) | (refine IxA.mk (by omega) ?_) | (refine Sl.ln (Own.sl (by assumption)) ?_) | (refine Ints.ix (Own.sl (by assumption)) (by omega) ?_) | (refine Ints.ixI (Own.sl (by assumption)) (by omega) ?_) | (refine Ints.ld (Own.sl (by assumption)) (by omega) ?_))
        refine ⟨_, (by omega : l.length - (c + 1) < l.length - c), rfl, c + 1, by omega, rfl, (by rw [show ((l.length : Int) - 1 - ((c + 1 : Nat) : Int)) = (q : Int) - 1 by omega]), ?_, ?_, GS6⟩
        · rw [eq, hnx]
        · rw [eq, hnx]; exact H6
    · obtain rfl : c = l.length := by omega
      rw [Nat.sub_self] at hf HC
      repeat' ((conv => whnf); first | (refine Dr.quiet tyOk (by kernel_rfl) ?_) | (refine Rng.mk (by omega) ?_) | (refine Split.pos (by omega) ?_) | (refine Split.neg (by omega) ?_) | (refine Split.mk (fun h => ?_) (fun h => ?_)) | (refine Need.mk (by omega) ?_) | (refine Ints.ln (by assumption) ?_) | (refine Mat.ln (by assumption) ?_) | (refine Ints.ln (Mat.row (by assumption) _ (by omega)) ?_) | (refine Ints.ix (by assumption) (by omega) ?_) | (refine Mat.ix (by assumption) (by omega) ?_) | (refine Ints.ix (Mat.row (by assumption) _ (by omega)) (by omega) ?_) | (refine Ints.ix (c := 0) (by assumption) (by omega) ?_) | (refine Mat.ix (c := 0) (by assumption) (by omega) ?_) | (refine Ints.ix (c := 0) (Mat.row (by assumption) _ (by omega)) (by omega) ?_) | (refine Ints.ixI (by assumption) (by omega) ?_) | (refine Mat.ixI (by assumption) (by omega) ?_) | (refine Ints.ixI (Mat.row (by assumption) _ (by omega)) (by omega) ?_) | (refine Ints.ld (by assumption) (by omega) ?_) | (refine Mat.ld (by assumption) (by omega) ?_) | (refine Ints.ld (Mat.row (by assumption) _ (by omega)) (by omega) ?_) | (refine At.ld (by assumption) rfl ?_) | (refine At.ldN (by assumption) rfl ?_) | (refine Prs.ln (by assumption) ?_) | (refine Trs.ln (by assumption) ?_) | (refine Prs.ix (by assumption) (by omega) ?_) | (refine Trs.ix (by assumption) (by omega) ?_) | (refine Prs.ldN (by assumption) (by omega) ?_) | (refine Trs.ldN (by assumption) (by omega) ?_) | (refine At.ldN (Blk.at (by assumption)) rfl ?_) | (refine At.ld (Blk.at (by assumption)) rfl ?_) | (refine IxA.mk (by omega) ?_) | (refine Sl.ln (Own.sl (by assumption)) ?_) | (refine Ints.ix (Own.sl (by assumption)) (by omega) ?_) | (refine Ints.ixI (Own.sl (by assumption)) (by omega) ?_) | (refine Ints.ld (Own.sl (by assumption)) (by omega) ?_))
      exact ⟨GS, by rw [show (nxt n l).1 = false from hf], by simpa using HC⟩
end Go.Proofs.Ytebklnmafjbhcaa
set_option linter.unusedVariables false
set_option linter.unusedSimpArgs false
namespace Go.Proofs.Ytebklnmafjbhcaa
open Go.Eng
set_option maxRecDepth 100000
set_option maxHeartbeats 4000000

theorem envied_pc {w : World} {gv av : Value} {vs : List Value} {rr : List (List Int)} {a : List Int} {i k : Int} (Hg : Mat w gv vs rr) (Ha : Ints w av a) (hv : vld rr a = 0) (hi : 0 ≤ i ∧ i < rr.length) :
    PC Try.prog 26 [.agg #[gv], av, .int .i64 i, .int .i64 k] w (.bool (tf (En rr a i k))) := by
  have hal := al_of_vld hv
  obtain ⟨q, hq⟩ : ∃ q : Nat, i = (q : Int) := ⟨i.toNat, by omega⟩
  subst hq
  have e : ((q : Int)).toNat = q := Int.toNat_natCast q
  refine PC.mk tyOk Try.func26 rfl (by kernel_rfl) fun w1 E1 => ?_
  replace Hg := Hg.ext E1
  replace Ha := Ha.ext E1
  have EE := Ext.refl w1
  refine Bx.agg fun b2 w2 E2 hb2 Hb _ => ?_
  replace Hg := Hg.ext E2
  replace Ha := Ha.ext E2
  replace EE := EE.ext E2
  have c1 := worth_pc (k := k) Hg Ha (i := q) (by omega) (by have := hal.row q (by omega); have := hal.len; omega) hal.val (by have := hal.len; have := hal.m10; omega)
  have c2 := worth_pc (k := (q : Int)) Hg Ha (i := q) (by omega) (by have := hal.row q (by omega); have := hal.len; omega) hal.val (by have := hal.len; have := hal.m10; omega)
  by_cases h : En rr a q k
  · rw [tf_t h]
    unfold En at h
    rw [e] at h
    repeat' ((conv => whnf); first | (refine Dr.quiet tyOk (by kernel_rfl) ?_) | (refine VC.pure c1 ?_) | (refine VCQ.pure c1 ?_) | (refine VC.pure c2 ?_) | (refine VCQ.pure c2 ?_) | (refine Rng.mk (by omega) ?_) | (refine Split.pos (by omega) ?_) | (refine Split.neg (by omega) ?_) | (refine Split.mk (fun h => ?_) (fun h => ?_)) | (refine Need.mk (by omega) ?_) | (refine Ints.ln (by assumption) ?_) | (refine Mat.ln (by assumption) ?_) | (refine Ints.ln (Mat.row (by assumption) _ (by omega)) ?_) | (refine Ints.ix (by assumption) (by omega) ?_) | (refine Mat.ix (by assumption) (by omega) ?_) | (refine Ints.ix (Mat.row (by assumption) _ (by omega)) (by omega) ?_) | (refine Ints.ix (c := 0) (by assumption) (by omega) ?_) | (refine Mat.ix (c := 0) (by assumption) (by omega) ?_) | (refine Ints.ix (c := 0) (Mat.row (by assumption) _ (by omega)) (by omega) ?_) | (refine Ints.ixI (by assumption) (by omega) ?_) | (refine Mat.ixI (by assumption) (by omega) ?_) | (refine Ints.ixI (Mat.row (by assumption) _ (by omega)) (by omega) ?_) | (refine Ints.ld (by assumption) (by omega) ?_) | (refine Mat.ld (by assumption) (by omega) ?_) | (refine Ints.ld (Mat.row (by assumption) _ (by omega)) (by omega) ?_) | (refine At.ld (by assumption) rfl ?_) | (refine At.ldN (by assumption) rfl ?_) | (refine Prs.ln (by assumption) ?_) | (refine Trs.ln (by assumption) ?_) | (refine Prs.ix (by assumption) (by omega) ?_) | (refine Trs.ix (by assumption) (by omega) ?_) | (refine Prs.ldN (by assumption) (by omega) ?_) | (refine Trs.ldN (by assumption) (by omega) ?_) | (refine At.ldN (Blk.at (by assumption)) rfl ?_) | (refine At.ld (Blk.at (by assumption)) rfl ?_) | (refine IxA.mk (by omega) ?_) | (refine Sl.ln (Own.sl (by assumption)) ?_) | (refine Ints.ix (Own.sl (by assumption)) (by omega) ?_) | (refine Ints.ixI (Own.sl (by assumption)) (by omega) ?_) | (refine Ints.ld (Own.sl (by assumption)) (by omega) ?_))
    exact ⟨rfl, EE⟩
  · rw [tf_f h]
    unfold En at h
    rw [e] at h
    repeat' ((conv => whnf); first | (refine Dr.quiet tyOk (by kernel_rfl) ?_) | (refine VC.pure c1 ?_) | (refine VCQ.pure c1 ?_) | (refine VC.pure c2 ?_) | (refine VCQ.pure c2 ?_) | (refine Rng.mk (by omega) ?_) | (refine Split.pos (by omega) ?_) | (refine Split.neg (by omega) ?_) | (refine Split.mk (fun h => ?_) (fun h => ?_)) | (refine Need.mk (by omega) ?_) | (refine Ints.ln (by assumption) ?_) | (refine Mat.ln (by assumption) ?_) | (refine Ints.ln (Mat.row (by assumption) _ (by omega)) ?_) | (refine Ints.ix (by assumption) (by omega) ?_) | (refine Mat.ix (by assumption) (by omega) ?_) | (refine Ints.ix (Mat.row (by assumption) _ (by omega)) (by omega) ?_) | (refine Ints.ix (c := 0) (by assumption) (by omega) ?_) | (refine Mat.ix (c := 0) (by assumption) (by omega) ?_) | (refine Ints.ix (c := 0) (Mat.row (by assumption) _ (by omega)) (by omega) ?_) | (refine Ints.ixI (by assumption) (by omega) ?_) | (refine Mat.ixI (by assumption) (by omega) ?_) | (refine Ints.ixI (Mat.row (by assumption) _ (by omega)) (by omega) ?_) | (refine Ints.ld (by assumption) (by omega) ?_) | (refine Mat.ld (by assumption) (by omega) ?_) | (refine Ints.ld (Mat.row (by assumption) _ (by omega)) (by omega) ?_) | (refine At.ld (by assumption) rfl ?_) | (refine At.ldN (by assumption) rfl ?_) | (refine Prs.ln (by assumption) ?_) | (refine Trs.ln (by assumption) ?_) | (refine Prs.ix (by assumption) (by omega) ?_) | (refine Trs.ix (by assumption) (by omega) ?_) | (refine Prs.ldN (by assumption) (by omega) ?_) | (refine Trs.ldN (by assumption) (by omega) ?_) | (refine At.ldN (Blk.at (by assumption)) rfl ?_) | (refine At.ld (Blk.at (by assumption)) rfl ?_) | (refine IxA.mk (by omega) ?_) | (refine Sl.ln (Own.sl (by assumption)) ?_) | (refine Ints.ix (Own.sl (by assumption)) (by omega) ?_) | (refine Ints.ixI (Own.sl (by assumption)) (by omega) ?_) | (refine Ints.ld (Own.sl (by assumption)) (by omega) ?_))
    exact ⟨rfl, EE⟩

theorem mod_next {d n : Nat} (h : d < n) : ((d : Int) + 1) % (n : Int) = (((d + 1) % n : Nat) : Int) ∧ (((d : Int) + 1) % (n : Int)).toNat = (d + 1) % n ∧ (d + 1) % n < n := by
  have e0 : ((d : Int) + 1) % (n : Int) = (((d + 1) % n : Nat) : Int) := by rw [Int.natCast_emod]; rfl
  exact ⟨e0, by rw [e0, Int.toNat_natCast], Nat.mod_lt _ (by omega)⟩
/-- the first places of a list are as those of a circle -/
structure IsU (rr : List (List Int)) (l : List Int) (c : Nat) : Prop where
  rng : ∀ t, t < c → 0 ≤ l.getD t 0 ∧ l.getD t 0 < rr.length
  low : ∀ t, 0 < t → t < c → l.getD 0 0 < l.getD t 0
  dis : ∀ s t, s < t → t < c → l.getD s 0 ≠ l.getD t 0
theorem IsU.next {rr : List (List Int)} {l : List Int} {c : Nat} (h : IsU rr l c) (h1 : 0 ≤ l.getD c 0 ∧ l.getD c 0 < rr.length) (h2 : 0 < c → l.getD 0 0 < l.getD c 0) (h3 : ∀ s, s < c → l.getD s 0 ≠ l.getD c 0) : IsU rr l (c + 1) := by
  refine ⟨fun t ht => ?_, fun t h0 ht => ?_, fun s t hst ht => ?_⟩
  · by_cases e : t = c
    · subst e; exact h1
    · exact h.rng t (by omega)
  · by_cases e : t = c
    · subst e; exact h2 h0
    · exact h.low t h0 (by omega)
  · by_cases e : t = c
    · subst e; exact h3 s hst
    · exact h.dis s t hst (by omega)
theorem isc_pc {w : World} {gv av lv : Value} {vs : List Value} {rr : List (List Int)} {a l : List Int} (Hg : Mat w gv vs rr) (Ha : Ints w av a) (Hl : Ints w lv l) (hv : vld rr a = 0) :
    PC Try.prog 27 [.agg #[gv], av, lv] w (.bool (tf (isC rr a l))) := by
  have hal := al_of_vld hv
  have hn6 := hal.n6
  refine PC.mk tyOk Try.func27 rfl (by kernel_rfl) fun w1 E1 => ?_
  replace Hg := Hg.ext E1
  replace Ha := Ha.ext E1
  replace Hl := Hl.ext E1
  have EE := Ext.refl w1
  refine Bx.agg fun b2 w2 E2 hb2 Hb _ => ?_
  replace Hg := Hg.ext E2
  replace Ha := Ha.ext E2
  replace Hl := Hl.ext E2
  replace EE := EE.ext E2
  have hgl := Hg.top.le
  have hll := Hl.le
  repeat' ((conv => whnf); first | (refine Dr.quiet tyOk (by kernel_rfl) ?_) | (refine Rng.mk (by omega) ?_) | (refine Split.pos (by omega) ?_) | (refine Split.neg (by omega) ?_) | (refine Split.mk (fun h => ?_) (fun h => ?_)) | (refine Need.mk (by omega) ?_) | (refine Ints.ln (by assumption) ?_) | (refine Mat.ln (by assumption) ?_) | (refine Ints.ln (Mat.row (by assumption) _ (by omega)) ?_) | (refine Ints.ix (by assumption) (by omega) ?_) | (refine Mat.ix (by assumption) (by omega) ?_) | (refine Ints.ix (Mat.row (by assumption) _ (by omega)) (by omega) ?_) | (refine Ints.ix (c := 0) (by assumption) (by omega) ?_) | (refine Mat.ix (c := 0) (by assumption) (by omega) ?_) | (refine Ints.ix (c := 0) (Mat.row (by assumption) _ (by omega)) (by omega) ?_) | (refine Ints.ixI (by assumption) (by omega) ?_) | (refine Mat.ixI (by assumption) (by omega) ?_) | (refine Ints.ixI (Mat.row (by assumption) _ (by omega)) (by omega) ?_) | (refine Ints.ld (by assumption) (by omega) ?_) | (refine Mat.ld (by assumption) (by omega) ?_) | (refine Ints.ld (Mat.row (by assumption) _ (by omega)) (by omega) ?_) | (refine At.ld (by assumption) rfl ?_) | (refine At.ldN (by assumption) rfl ?_) | (refine Prs.ln (by assumption) ?_) | (refine Trs.ln (by assumption) ?_) | (refine Prs.ix (by assumption) (by omega) ?_) | (refine Trs.ix (by assumption) (by omega) ?_) | (refine Prs.ldN (by assumption) (by omega) ?_) | (refine Trs.ldN (by assumption) (by omega) ?_) | (refine At.ldN (Blk.at (by assumption)) rfl ?_) | (refine At.ld (Blk.at (by assumption)) rfl ?_) | (refine IxA.mk (by omega) ?_) | (refine Sl.ln (Own.sl (by assumption)) ?_) | (refine Ints.ix (Own.sl (by assumption)) (by omega) ?_) | (refine Ints.ixI (Own.sl (by assumption)) (by omega) ?_) | (refine Ints.ld (Own.sl (by assumption)) (by omega) ?_))
  refine Lp.mk tyOk [false, false, false, false, false, false, true, true, true, false, true, true, true, true, true, true, true, true, true, true, true, true, true, true, true, true, true, true, true, true, true, true, true, true, true, true, true, true, true, true, true, true, true, true, true, true, true, true, true, true, true, true, true, true, true, true, true, true, true] (fun m fr wr => getK fr 7 fun i => ∃ c : Nat, c ≤ l.length ∧ m = l.length - c ∧ i = .int .i64 (c : Int) ∧ (IsU rr l c) ∧ wr = w2) (l.length) ?_ ?_
  · exact ⟨0, Nat.zero_le _, rfl, rfl, ⟨fun t h => absurd h (by omega), fun t h1 h => absurd h (by omega), fun s t h1 h => absurd h (by omega)⟩, rfl⟩
  · intro m w3 u6 u7 u8 u10 u11 u12 u13 u14 u15 u16 u17 u18 u19 u20 u21 u22 u23 u24 u25 u26 u27 u28 u29 u30 u31 u32 u33 u34 u35 u36 u37 u38 u39 u40 u41 u42 u43 u44 u45 u46 u47 u48 u49 u50 u51 u52 u53 u54 u55 u56 u57 u58 hR
    obtain ⟨c, hc, rfl, rfl, hU, rfl⟩ := hR
    by_cases hcl : c < l.length
    · obtain ⟨x, hx⟩ : ∃ x, l.getD c 0 = x := ⟨_, rfl⟩
      obtain ⟨y, hy⟩ : ∃ y, l.getD 0 0 = y := ⟨_, rfl⟩
      by_cases hok : (0 ≤ x ∧ x < rr.length) ∧ (0 < c → y < x)
      · repeat' ((conv => whnf); first | (refine Dr.quiet tyOk (by kernel_rfl) ?_) | (refine Ints.ldq Hl hx (by omega) ?_) | (refine Ints.ldq (c := 0) Hl hy (by omega) ?_) | (refine Rng.mk (by omega) ?_) | (refine Split.pos (by omega) ?_) | (refine Split.neg (by omega) ?_) | (refine Split.mk (fun h => ?_) (fun h => ?_)) | (refine Need.mk (by omega) ?_) | (refine Ints.ln (by assumption) ?_) | (refine Mat.ln (by assumption) ?_) | (refine Ints.ln (Mat.row (by assumption) _ (by omega)) ?_) | (refine Ints.ix (by assumption) (by omega) ?_) | (refine Mat.ix (by assumption) (by omega) ?_) | (refine Ints.ix (Mat.row (by assumption) _ (by omega)) (by omega) ?_) | (refine Ints.ix (c := 0) (by assumption) (by omega) ?_) | (refine Mat.ix (c := 0) (by assumption) (by omega) ?_) | (refine Ints.ix (c := 0) (Mat.row (by assumption) _ (by omega)) (by omega) ?_) | (refine Ints.ixI (by assumption) (by omega) ?_) | (refine Mat.ixI (by assumption) (by omega) ?_) | (refine Ints.ixI (Mat.row (by assumption) _ (by omega)) (by omega) ?_) | (refine Ints.ld (by assumption) (by omega) ?_) | (refine Mat.ld (by assumption) (by omega) ?_) | (refine Ints.ld (Mat.row (by assumption) _ (by omega)) (by omega) ?_) | (refine At.ld (by assumption) rfl ?_) | (refine At.ldN (by assumption) rfl ?_) | (refine Prs.ln (by assumption) ?_) | (refine Trs.ln (by assumption) ?_) | (refine Prs.ix (by assumption) (by omega) ?_) | (refine Trs.ix (by assumption) (by omega) ?_) | (refine Prs.ldN (by assumption) (by omega) ?_) | (refine Trs.ldN (by assumption) (by omega) ?_) | (refine At.ldN (Blk.at (by assumption)) rfl ?_) | (refine At.ld (Blk.at (by assumption)) rfl ?_) | (refine IxA.mk (by omega) ?_) | (refine Sl.ln (Own.sl (by assumption)) ?_) | (refine Ints.ix (Own.sl (by assumption)) (by omega) ?_) | (refine Ints.ixI (Own.sl (by assumption)) (by omega) ?_) | (refine Ints.ld (Own.sl (by assumption)) (by omega) ?_))
        all_goals
          refine Lp.mk tyOk [false, false, false, false, false, false, true, false, true, false, false, false, false, false, false, false, false, false, false, false, false, false, false, false, false, false, false, false, false, false, false, false, false, false, false, false, false, false, false, false, false, false, false, false, false, true, true, true, true, true, true, true, true, true, true, true, true, true, true] (fun m fr wr => getK fr 8 fun j => ∃ d : Nat, d ≤ c ∧ m = c - d ∧ j = .int .i64 (d : Int) ∧ (∀ s, s < d → l.getD s 0 ≠ l.getD c 0) ∧ wr = w3) (c) ?_ ?_
          · exact ⟨0, Nat.zero_le _, rfl, rfl, (by first | exact fun _ hi => absurd hi (Nat.not_lt_zero _) | exact fun _ _ hi => absurd hi (Nat.not_lt_zero _) | assumption | exact Own.nil | omega | simp), rfl⟩
          · intro m w4 u6 u8 u45 u46 u47 u48 u49 u50 u51 u52 u53 u54 u55 u56 u57 u58 hR
            obtain ⟨d, hd, rfl, rfl, hd, rfl⟩ := hR
            by_cases hdl : d < c
            · by_cases he : l.getD d 0 = x
              · rw [tf_f (p := isC rr a l) (fun h => h.dis d c hdl hcl (by rw [he, hx]))]
                repeat' ((conv => whnf); first | (refine Dr.quiet tyOk (by kernel_rfl) ?_) | (refine Ints.ldq Hl he (by omega) ?_) | (refine Ints.ldq Hl hx (by omega) ?_) | (refine Rng.mk (by omega) ?_) | (refine Split.pos (by omega) ?_) | (refine Split.neg (by omega) ?_) | (refine Split.mk (fun h => ?_) (fun h => ?_)) | (refine Need.mk (by omega) ?_) | (refine Ints.ln (by assumption) ?_) | (refine Mat.ln (by assumption) ?_) | (refine Ints.ln (Mat.row (by assumption) _ (by omega)) ?_) | (refine Ints.ix (by assumption) (by omega) ?_) | (refine Mat.ix (by assumption) (by omega) ?_) | (refine Ints.ix (Mat.row (by assumption) _ (by omega)) (by omega) ?_) | (refine Ints.ix (c := 0) (by assumption) (by omega) ?_) | (refine Mat.ix (c := 0) (by assumption) (by omega) ?_) | (refine Ints.ix (c := 0) (Mat.row (by assumption) _ (by omega)) (by omega) ?_) | (refine Ints.ixI (by assumption) (by omega) ?_) | (refine Mat.ixI (by assumption) (by omega) ?_) | (refine Ints.ixI (Mat.row (by assumption) _ (by omega)) (by omega) ?_) | (refine Ints.ld (by assumption) (by omega) ?_) | (refine Mat.ld (by assumption) (by omega) ?_) | (refine Ints.ld (Mat.row (by assumption) _ (by omega)) (by omega) ?_) | (refine At.ld (by assumption) rfl ?_) | (refine At.ldN (by assumption) rfl ?_) | (refine Prs.ln (by assumption) ?_) | (refine Trs.ln (by assumption) ?_) | (refine Prs.ix (by assumption) (by omega) ?_) | (refine Trs.ix (by assumption) (by omega) ?_) | (refine Prs.ldN (by assumption) (by omega) ?_) | (refine Trs.ldN (by assumption) (by omega) ?_) | (refine At.ldN (Blk.at (by assumption)) rfl ?_) | (refine At.ld (Blk.at (by assumption)) rfl ?_) | (refine IxA.mk (by omega) ?_) | (refine Sl.ln (Own.sl (by assumption)) ?_) | (refine Ints.ix (Own.sl (by assumption)) (by omega) ?_) | (refine Ints.ixI (Own.sl (by assumption)) (by omega) ?_) | (refine Ints.ld (Own.sl (by assumption)) (by omega) ?_))
                exact ⟨rfl, EE⟩
              · repeat' ((conv => whnf); first | (refine Dr.quiet tyOk (by kernel_rfl) ?_) | (refine Ints.ldq Hl hx (by omega) ?_) | (refine Rng.mk (by omega) ?_) | (refine Split.pos (by omega) ?_) | (refine Split.neg (by omega) ?_) | (refine Split.mk (fun h => ?_) (fun h => ?_)) | (refine Need.mk (by omega) ?_) | (refine Ints.ln (by assumption) ?_) | (refine Mat.ln (by assumption) ?_) | (refine Ints.ln (Mat.row (by assumption) _ (by omega)) ?_) | (refine Ints.ix (by assumption) (by omega) ?_) | (refine Mat.ix (by assumption) (by omega) ?_) | (refine Ints.ix (Mat.row (by assumption) _ (by omega)) (by omega) ?_) | (refine Ints.ix (c := 0) (by assumption) (by omega) ?_) | (refine Mat.ix (c := 0) (by assumption) (by omega) ?_) | (refine Ints.ix (c := 0) (Mat.row (by assumption) _ (by omega)) (by omega) ?_) | (refine Ints.ixI (by assumption) (by omega) ?_) | (refine Mat.ixI (by assumption) (by omega) ?_) | (refine Ints.ixI (Mat.row (by assumption) _ (by omega)) (by omega) ?_) | (refine Ints.ld (by assumption) (by omega) ?_) | (refine Mat.ld (by assumption) (by omega) ?_) | (refine Ints.ld (Mat.row (by assumption) _ (by omega)) (by omega) ?_) | (refine At.ld (by assumption) rfl ?_) | (refine At.ldN (by assumption) rfl ?_) | (refine Prs.ln (by assumption) ?_) | (refine Trs.ln (by assumption) ?_) | (refine Prs.ix (by assumption) (by omega) ?_) | (refine Trs.ix (by assumption) (by omega) ?_) | (refine Prs.ldN (by assumption) (by omega) ?_) | (refine Trs.ldN (by assumption) (by omega) ?_) | (refine At.ldN (Blk.at (by assumption)) rfl ?_) | (refine At.ld (Blk.at (by assumption)) rfl ?_) | (refine IxA.mk (by omega) ?_) | (refine Sl.ln (Own.sl (by assumption)) ?_) | (refine Ints.ix (Own.sl (by assumption)) (by omega) ?_) | (refine Ints.ixI (Own.sl (by assumption)) (by omega) ?_) | (refine Ints.ld (Own.sl (by assumption)) (by omega) ?_))
                all_goals first | (refine ⟨_, (by omega : c - (d + 1) < c - d), rfl, d + 1, by omega, rfl, rfl, all_succ hd (by rw [hx]; exact he), rfl⟩) | (exfalso; omega)
            · obtain rfl : c = d := by omega
              repeat' ((conv => whnf); first | (refine Dr.quiet tyOk (by kernel_rfl) ?_) | (refine Rng.mk (by omega) ?_) | (refine Split.pos (by omega) ?_) | (refine Split.neg (by omega) ?_) | (refine Split.mk (fun h => ?_) (fun h => ?_)) | (refine Need.mk (by omega) ?_) | (refine Ints.ln (by assumption) ?_) | (refine Mat.ln (by assumption) ?_) | (refine Ints.ln (Mat.row (by assumption) _ (by omega)) ?_) | (refine Ints.ix (by assumption) (by omega) ?_) | (refine Mat.ix (by assumption) (by omega) ?_) | (refine Ints.ix (Mat.row (by assumption) _ (by omega)) (by omega) ?_) | (refine Ints.ix (c := 0) (by assumption) (by omega) ?_) | (refine Mat.ix (c := 0) (by assumption) (by omega) ?_) | (refine Ints.ix (c := 0) (Mat.row (by assumption) _ (by omega)) (by omega) ?_) | (refine Ints.ixI (by assumption) (by omega) ?_) | (refine Mat.ixI (by assumption) (by omega) ?_) | (refine Ints.ixI (Mat.row (by assumption) _ (by omega)) (by omega) ?_) | (refine Ints.ld (by assumption) (by omega) ?_) | (refine Mat.ld (by assumption) (by omega) ?_) | (refine Ints.ld (Mat.row (by assumption) _ (by omega)) (by omega) ?_) | (refine At.ld (by assumption) rfl ?_) | (refine At.ldN (by assumption) rfl ?_) | (refine Prs.ln (by assumption) ?_) | (refine Trs.ln (by assumption) ?_) | (refine Prs.ix (by assumption) (by omega) ?_) | (refine Trs.ix (by assumption) (by omega) ?_) | (refine Prs.ldN (by assumption) (by omega) ?_) | (refine Trs.ldN (by assumption) (by omega) ?_) | (refine At.ldN (Blk.at (by assumption)) rfl ?_) | (refine At.ld (Blk.at (by assumption)) rfl ?_) | (refine IxA.mk (by omega) ?_) | (refine Sl.ln (Own.sl (by assumption)) ?_) | (refine Ints.ix (Own.sl (by assumption)) (by omega) ?_) | (refine Ints.ixI (Own.sl (by assumption)) (by omega) ?_) | (refine Ints.ld (Own.sl (by assumption)) (by omega) ?_))
              refine ⟨_, (by omega : l.length - (c + 1) < l.length - c), rfl, c + 1, by omega, rfl, rfl, hU.next (by rw [hx]; exact hok.1) (by rw [hx, hy]; exact hok.2) hd, rfl⟩
      · rw [tf_f (p := isC rr a l) (fun h => hok ⟨by rw [← hx]; exact h.rng c hcl, fun h0 => by rw [← hx, ← hy]; exact h.low c h0 hcl⟩)]
        by_cases hr : 0 ≤ x ∧ x < rr.length
        · have h0 : 0 < c ∧ x ≤ y := by
            refine ⟨Nat.pos_of_ne_zero fun e => hok ⟨hr, fun h => by omega⟩, ?_⟩
            refine Classical.byContradiction fun h => hok ⟨hr, fun _ => by omega⟩
          repeat' ((conv => whnf); first | (refine Dr.quiet tyOk (by kernel_rfl) ?_) | (refine Ints.ldq Hl hx (by omega) ?_) | (refine Ints.ldq (c := 0) Hl hy (by omega) ?_) | (refine Rng.mk (by omega) ?_) | (refine Split.pos (by omega) ?_) | (refine Split.neg (by omega) ?_) | (refine Split.mk (fun h => ?_) (fun h => ?_)) | (refine Need.mk (by omega) ?_) | (refine Ints.ln (by assumption) ?_) | (refine Mat.ln (by assumption) ?_) | (refine Ints.ln (Mat.row (by assumption) _ (by omega)) ?_) | (refine Ints.ix (by assumption) (by omega) ?_) | (refine Mat.ix (by assumption) (by omega) ?_) | (refine Ints.ix (Mat.row (by assumption) _ (by omega)) (by omega) ?_) | (refine Ints.ix (c := 0) (by assumption) (by omega) ?_) | (refine Mat.ix (c := 0) (by assumption) (by omega) ?_) | (refine Ints.ix (c := 0) (Mat.row (by assumption) _ (by omega)) (by omega) ?_) | (refine Ints.ixI (by assumption) (by omega) ?_) | (refine Mat.ixI (by assumption) (by omega) ?_) | (refine Ints.ixI (Mat.row (by assumption) _ (by omega)) (by omega) ?_) | (refine Ints.ld (by assumption) (by omega) ?_) | (refine Mat.ld (by assumption) (by omega) ?_) | (refine Ints.ld (Mat.row (by assumption) _ (by omega)) (by omega) ?_) | (refine At.ld (by assumption) rfl ?_) | (refine At.ldN (by assumption) rfl ?_) | (refine Prs.ln (by assumption) ?_) | (refine Trs.ln (by assumption) ?_) | (refine Prs.ix (by assumption) (by omega) ?_) | (refine Trs.ix (by assumption) (by omega) ?_) | (refine Prs.ldN (by assumption) (by omega) ?_) | (refine Trs.ldN (by assumption) (by omega) ?_) | (refine At.ldN (Blk.at (by assumption)) rfl ?_) | (refine At.ld (Blk.at (by assumption)) rfl ?_) | (refine IxA.mk (by omega) ?_) | (refine Sl.ln (Own.sl (by assumption)) ?_) | (refine Ints.ix (Own.sl (by assumption)) (by omega) ?_) | (refine Ints.ixI (Own.sl (by assumption)) (by omega) ?_) | (refine Ints.ld (Own.sl (by assumption)) (by omega) ?_))
          all_goals exact ⟨rfl, EE⟩
        · repeat' ((conv => whnf); first | (refine Dr.quiet tyOk (by kernel_rfl) ?_) | (refine Ints.ldq Hl hx (by omega) ?_) | (refine Ints.ldq (c := 0) Hl hy (by omega) ?_) | (refine Rng.mk (by omega) ?_) | (refine Split.pos (by omega) ?_) | (refine Split.neg (by omega) ?_) | (refine Split.mk (fun h => ?_) (fun h => ?_)) | (refine Need.mk (by omega) ?_) | (refine Ints.ln (by assumption) ?_) | (refine Mat.ln (by assumption) ?_) | (refine Ints.ln (Mat.row (by assumption) _ (by omega)) ?_) | (refine Ints.ix (by assumption) (by omega) ?_) | (refine Mat.ix (by assumption) (by omega) ?_) | (refine Ints.ix (Mat.row (by assumption) _ (by omega)) (by omega) ?_) | (refine Ints.ix (c := 0) (by assumption) (by omega) ?_) | (refine Mat.ix (c := 0) (by assumption) (by omega) ?_) | (refine Ints.ix (c := 0) (Mat.row (by assumption) _ (by omega)) (by omega) ?_) | (refine Ints.ixI (by assumption) (by omega) ?_) | (refine Mat.ixI (by assumption) (by omega) ?_) | (refine Ints.ixI (Mat.row (by assumption) _ (by omega)) (by omega) ?_) | (refine Ints.ld (by assumption) (by omega) ?_) | (refine Mat.ld (by assumption) (by omega) ?_) | (refine Ints.ld (Mat.row (by assumption) _ (by omega)) (by omega) ?_) | (refine At.ld (by assumption) rfl ?_) | (refine At.ldN (by assumption) rfl ?_) | (refine Prs.ln (by assumption) ?_) | (refine Trs.ln (by assumption) ?_) | (refine Prs.ix (by assumption) (by omega) ?_) | (refine Trs.ix (by assumption) (by omega) ?_) | (refine Prs.ldN (by assumption) (by omega) ?_) | (refine Trs.ldN (by assumption) (by omega) ?_) | (refine At.ldN (Blk.at (by assumption)) rfl ?_) | (refine At.ld (Blk.at (by assumption)) rfl ?_) | (refine IxA.mk (by omega) ?_) | (refine Sl.ln (Own.sl (by assumption)) ?_) | (refine Ints.ix (Own.sl (by assumption)) (by omega) ?_) | (refine Ints.ixI (Own.sl (by assumption)) (by omega) ?_) | (refine Ints.ld (Own.sl (by assumption)) (by omega) ?_))
          all_goals exact ⟨rfl, EE⟩
    · obtain rfl : c = l.length := by omega
      repeat' ((conv => whnf); first | (refine Dr.quiet tyOk (by kernel_rfl) ?_) | (refine Rng.mk (by omega) ?_) | (refine Split.pos (by omega) ?_) | (refine Split.neg (by omega) ?_) | (refine Split.mk (fun h => ?_) (fun h => ?_)) | (refine Need.mk (by omega) ?_) | (refine Ints.ln (by assumption) ?_) | (refine Mat.ln (by assumption) ?_) | (refine Ints.ln (Mat.row (by assumption) _ (by omega)) ?_) | (refine Ints.ix (by assumption) (by omega) ?_) | (refine Mat.ix (by assumption) (by omega) ?_) | (refine Ints.ix (Mat.row (by assumption) _ (by omega)) (by omega) ?_) | (refine Ints.ix (c := 0) (by assumption) (by omega) ?_) | (refine Mat.ix (c := 0) (by assumption) (by omega) ?_) | (refine Ints.ix (c := 0) (Mat.row (by assumption) _ (by omega)) (by omega) ?_) | (refine Ints.ixI (by assumption) (by omega) ?_) | (refine Mat.ixI (by assumption) (by omega) ?_) | (refine Ints.ixI (Mat.row (by assumption) _ (by omega)) (by omega) ?_) | (refine Ints.ld (by assumption) (by omega) ?_) | (refine Mat.ld (by assumption) (by omega) ?_) | (refine Ints.ld (Mat.row (by assumption) _ (by omega)) (by omega) ?_) | (refine At.ld (by assumption) rfl ?_) | (refine At.ldN (by assumption) rfl ?_) | (refine Prs.ln (by assumption) ?_) | (refine Trs.ln (by assumption) ?_) | (refine Prs.ix (by assumption) (by omega) ?_) | (refine Trs.ix (by assumption) (by omega) ?_) | (refine Prs.ldN (by assumption) (by omega) ?_) | (refine Trs.ldN (by assumption) (by omega) ?_) | (refine At.ldN (Blk.at (by assumption)) rfl ?_) | (refine At.ld (Blk.at (by assumption)) rfl ?_) | (refine IxA.mk (by omega) ?_) | (refine Sl.ln (Own.sl (by assumption)) ?_) | (refine Ints.ix (Own.sl (by assumption)) (by omega) ?_) | (refine Ints.ixI (Own.sl (by assumption)) (by omega) ?_) | (refine Ints.ld (Own.sl (by assumption)) (by omega) ?_))
      refine Lp.mk tyOk [false, false, false, false, false, false, true, false, false, true, false, false, false, false, false, false, false, false, false, false, false, false, false, false, false, false, false, false, false, false, false, false, false, false, false, false, false, false, false, false, false, false, false, false, false, false, false, false, false, false, false, false, false, false, false, false, false, false, false, true, true, true, true, true, true, true, true, true, true, true, true, true, true, true, true, true, true, true, true, true, true] (fun m fr wr => getK fr 9 fun i => ∃ q : Nat, q ≤ l.length ∧ m = l.length - q ∧ i = .int .i64 (q : Int) ∧ (∀ t, t < q → En rr a (l.getD t 0) (l.getD ((t + 1) % l.length) 0)) ∧ wr = w3) (l.length) ?_ ?_
      · exact ⟨0, Nat.zero_le _, rfl, rfl, (by first | exact fun _ hi => absurd hi (Nat.not_lt_zero _) | exact fun _ _ hi => absurd hi (Nat.not_lt_zero _) | assumption | exact Own.nil | omega | simp), rfl⟩
      · intro m w5 u6 u9 u59 u60 u61 u62 u63 u64 u65 u66 u67 u68 u69 u70 u71 u72 u73 u74 u75 u76 u77 u78 u79 u80 hR
        obtain ⟨q, hq, rfl, rfl, he, rfl⟩ := hR
        by_cases hql : q < l.length
        · obtain ⟨m0, m1, m2⟩ := mod_next hql
          obtain ⟨x, hx⟩ : ∃ x, l.getD q 0 = x := ⟨_, rfl⟩
          obtain ⟨y, hy⟩ : ∃ y, l.getD ((q + 1) % l.length) 0 = y := ⟨_, rfl⟩
          have hr := hU.rng q hql
          rw [hx] at hr
          have hy2 : l.getD (((q : Int) + 1) % (l.length : Int)).toNat 0 = y := by rw [m1]; exact hy
          have hq2 : (((q : Int) + 1) % (l.length : Int)).toNat < l.length := by rw [m1]; exact m2
          have ce := envied_pc (k := y) Hg Ha hv hr
          have hlt : 0 ≤ ((q : Int) + 1) % (l.length : Int) ∧ ((q : Int) + 1) % (l.length : Int) < l.length := by rw [m0]; exact ⟨Int.natCast_nonneg _, Int.ofNat_lt.2 m2⟩
          by_cases hE : En rr a x y
          · rw [tf_t hE] at ce
            repeat' ((conv => whnf); first | (refine Dr.quiet tyOk (by kernel_rfl) ?_) | (refine Ints.ldq Hl hx (by omega) ?_) | (refine Ints.ixI Hl hlt ?_) | (refine Ints.ldq Hl hy2 hq2 ?_) | (refine VC.pure ce ?_) | (refine VCQ.pure ce ?_) | (refine Rng.mk (by omega) ?_) | (refine Split.pos (by omega) ?_) | (refine Split.neg (by omega) ?_) | (refine Split.mk (fun h => ?_) (fun h => ?_)) | (refine Need.mk (by omega) ?_) | (refine Ints.ln (by assumption) ?_) | (refine Mat.ln (by assumption) ?_) | (refine Ints.ln (Mat.row (by assumption) _ (by omega)) ?_) | (refine Ints.ix (by assumption) (by omega) ?_) | (refine Mat.ix (by assumption) (by omega) ?_) | (refine Ints.ix (Mat.row (by assumption) _ (by omega)) (by omega) ?_) | (refine Ints.ix (c := 0) (by assumption) (by omega) ?_) | (refine Mat.ix (c := 0) (by assumption) (by omega) ?_) | (refine Ints.ix (c := 0) (Mat.row (by assumption) _ (by omega)) (by omega) ?_) | (refine Ints.ixI (by assumption) (by omega) ?_) | (refine Mat.ixI (by assumption) (by omega) ?_) | (refine Ints.ixI (Mat.row (by assumption) _ (by omega)) (by omega) ?_) | (refine Ints.ld (by assumption) (by omega) ?_) | (refine Mat.ld (by assumption) (by omega) ?_) | (refine Ints.ld (Mat.row (by assumption) _ (by omega)) (by omega) ?_) | (refine At.ld (by assumption) rfl ?_) | (refine At.ldN (by assumption) rfl ?_) | (refine Prs.ln (by assumption) ?_) | (refine Trs.ln (by assumption) ?_) | (refine Prs.ix (by assumption) (by omega) ?_) | (refine Trs.ix (by assumption) (by omega) ?_) | (refine Prs.ldN (by assumption) (by omega) ?_) | (refine Trs.ldN (by assumption) (by omega) ?_) | (refine At.ldN (Blk.at (by assumption)) rfl ?_) | (refine At.ld (Blk.at (by assumption)) rfl ?_) | (refine IxA.mk (by omega) ?_) | (refine Sl.ln (Own.sl (by assumption)) ?_) | (refine Ints.ix (Own.sl (by assumption)) (by omega) ?_) | (refine Ints.ixI (Own.sl (by assumption)) (by omega) ?_) | (refine Ints.ld (Own.sl (by assumption)) (by omega) ?_))
            refine ⟨_, (by omega : l.length - (q + 1) < l.length - q), rfl, q + 1, by omega, rfl, rfl, fun t ht => ?_, rfl⟩
            by_cases e : t = q
            · subst e; rw [hx, hy]; exact hE
            · exact he t (by omega)
          · rw [tf_f hE] at ce
            rw [tf_f (p := isC rr a l) (fun h => hE (by rw [← hx, ← hy]; exact h.edg q hql))]
            repeat' ((conv => whnf); first | (refine Dr.quiet tyOk (by kernel_rfl) ?_) | (refine Ints.ldq Hl hx (by omega) ?_) | (refine Ints.ixI Hl hlt ?_) | (refine Ints.ldq Hl hy2 hq2 ?_) | (refine VC.pure ce ?_) | (refine VCQ.pure ce ?_) | (refine Rng.mk (by omega) ?_) | (refine Split.pos (by omega) ?_) | (refine Split.neg (by omega) ?_) | (refine Split.mk (fun h => ?_) (fun h => ?_)) | (refine Need.mk (by omega) ?_) | (refine Ints.ln (by assumption) ?_) | (refine Mat.ln (by assumption) ?_) | (refine Ints.ln (Mat.row (by assumption) _ (by omega)) ?_) | (refine Ints.ix (by assumption) (by omega) ?_) | (refine Mat.ix (by assumption) (by omega) ?_) | (refine Ints.ix (Mat.row (by assumption) _ (by omega)) (by omega) ?_) | (refine Ints.ix (c := 0) (by assumption) (by omega) ?_) | (refine Mat.ix (c := 0) (by assumption) (by omega) ?_) | (refine Ints.ix (c := 0) (Mat.row (by assumption) _ (by omega)) (by omega) ?_) | (refine Ints.ixI (by assumption) (by omega) ?_) | (refine Mat.ixI (by assumption) (by omega) ?_) | (refine Ints.ixI (Mat.row (by assumption) _ (by omega)) (by omega) ?_) | (refine Ints.ld (by assumption) (by omega) ?_) | (refine Mat.ld (by assumption) (by omega) ?_) | (refine Ints.ld (Mat.row (by assumption) _ (by omega)) (by omega) ?_) | (refine At.ld (by assumption) rfl ?_) | (refine At.ldN (by assumption) rfl ?_) | (refine Prs.ln (by assumption) ?_) | (refine Trs.ln (by assumption) ?_) | (refine Prs.ix (by assumption) (by omega) ?_) | (refine Trs.ix (by assumption) (by omega) ?_) | (refine Prs.ldN (by assumption) (by omega) ?_) | (refine Trs.ldN (by assumption) (by omega) ?_) | (refine At.ldN (Blk.at (by assumption)) rfl ?_) | (refine At.ld (Blk.at (by assumption)) rfl ?_) | (refine IxA.mk (by omega) ?_) | (refine Sl.ln (Own.sl (by assumption)) ?_) | (refine Ints.ix (Own.sl (by assumption)) (by omega) ?_) | (refine Ints.ixI (Own.sl (by assumption)) (by omega) ?_) | (refine Ints.ld (Own.sl (by assumption)) (by omega) ?_))
            exact ⟨rfl, EE⟩
        · obtain rfl : q = l.length := by omega
          by_cases h1 : 1 < l.length
          · rw [tf_t (p := isC rr a l) ⟨h1, hU.rng, hU.low, hU.dis, he⟩]
            repeat' ((conv => whnf); first | (refine Dr.quiet tyOk (by kernel_rfl) ?_) | (refine Rng.mk (by omega) ?_) | (refine Split.pos (by omega) ?_) | (refine Split.neg (by omega) ?_) | (refine Split.mk (fun h => ?_) (fun h => ?_)) | (refine Need.mk (by omega) ?_) | (refine Ints.ln (by assumption) ?_) | (refine Mat.ln (by assumption) ?_) | (refine Ints.ln (Mat.row (by assumption) _ (by omega)) ?_) | (refine Ints.ix (by assumption) (by omega) ?_) | (refine Mat.ix (by assumption) (by omega) ?_) | (refine Ints.ix (Mat.row (by assumption) _ (by omega)) (by omega) ?_) | (refine Ints.ix (c := 0) (by assumption) (by omega) ?_) | (refine Mat.ix (c := 0) (by assumption) (by omega) ?_) | (refine Ints.ix (c := 0) (Mat.row (by assumption) _ (by omega)) (by omega) ?_) | (refine Ints.ixI (by assumption) (by omega) ?_) | (refine Mat.ixI (by assumption) (by omega) ?_) | (refine Ints.ixI (Mat.row (by assumption) _ (by omega)) (by omega) ?_) | (refine Ints.ld (by assumption) (by omega) ?_) | (refine Mat.ld (by assumption) (by omega) ?_) | (refine Ints.ld (Mat.row (by assumption) _ (by omega)) (by omega) ?_) | (refine At.ld (by assumption) rfl ?_) | (refine At.ldN (by assumption) rfl ?_) | (refine Prs.ln (by assumption) ?_) | (refine Trs.ln (by assumption) ?_) | (refine Prs.ix (by assumption) (by omega) ?_) | (refine Trs.ix (by assumption) (by omega) ?_) | (refine Prs.ldN (by assumption) (by omega) ?_) | (refine Trs.ldN (by assumption) (by omega) ?_) | (refine At.ldN (Blk.at (by assumption)) rfl ?_) | (refine At.ld (Blk.at (by assumption)) rfl ?_) | (refine IxA.mk (by omega) ?_) | (refine Sl.ln (Own.sl (by assumption)) ?_) | (refine Ints.ix (Own.sl (by assumption)) (by omega) ?_) | (refine Ints.ixI (Own.sl (by assumption)) (by omega) ?_) | (refine Ints.ld (Own.sl (by assumption)) (by omega) ?_))
            exact ⟨rfl, EE⟩
          · rw [tf_f (p := isC rr a l) (fun h => h1 h.len)]
            repeat' ((conv => whnf); first | (refine Dr.quiet tyOk (by kernel_rfl) ?_) | (refine Rng.mk (by omega) ?_) | (refine Split.pos (by omega) ?_) | (refine Split.neg (by omega) ?_) | (refine Split.mk (fun h => ?_) (fun h => ?_)) | (refine Need.mk (by omega) ?_) | (refine Ints.ln (by assumption) ?_) | (refine Mat.ln (by assumption) ?_) | (refine Ints.ln (Mat.row (by assumption) _ (by omega)) ?_) | (refine Ints.ix (by assumption) (by omega) ?_) | (refine Mat.ix (by assumption) (by omega) ?_) | (refine Ints.ix (Mat.row (by assumption) _ (by omega)) (by omega) ?_) | (refine Ints.ix (c := 0) (by assumption) (by omega) ?_) | (refine Mat.ix (c := 0) (by assumption) (by omega) ?_) | (refine Ints.ix (c := 0) (Mat.row (by assumption) _ (by omega)) (by omega) ?_) | (refine Ints.ixI (by assumption) (by omega) ?_) | (refine Mat.ixI (by assumption) (by omega) ?_) | (refine Ints.ixI (Mat.row (by assumption) _ (by omega)) (by omega) ?_) | (refine Ints.ld (by assumption) (by omega) ?_) | (refine Mat.ld (by assumption) (by omega) ?_) | (refine Ints.ld (Mat.row (by assumption) _ (by omega)) (by omega) ?_) | (refine At.ld (by assumption) rfl ?_) | (refine At.ldN (by assumption) rfl ?_) | (refine Prs.ln (by assumption) ?_) | (refine Trs.ln (by assumption) ?_) | (refine Prs.ix (by assumption) (by omega) ?_) | (refine Trs.ix (by assumption) (by omega) ?_) | (refine Prs.ldN (by assumption) (by omega) ?_) | (refine Trs.ldN (by assumption) (by omega) ?_) | (refine At.ldN (Blk.at (by assumption)) rfl ?_) | (refine At.ld (Blk.at (by assumption)) rfl ?_) | (refine IxA.mk (by omega) ?_) | (refine Sl.ln (Own.sl (by assumption)) ?_) | (refine Ints.ix (Own.sl (by assumption)) (by omega) ?_) | (refine Ints.ixI (Own.sl (by assumption)) (by omega) ?_) | (refine Ints.ld (Own.sl (by assumption)) (by omega) ?_))
            exact ⟨rfl, EE⟩
end Go.Proofs.Ytebklnmafjbhcaa
set_option linter.unusedVariables false
set_option linter.unusedSimpArgs false
namespace Go.Proofs.Ytebklnmafjbhcaa
open Go.Eng
set_option maxRecDepth 100000
set_option maxHeartbeats 4000000

section
variable {rr : List (List Int)} {a c : List Int}
theorem pas_hit (hags : Ags c rr.length) {k t : Nat} (hk : k < a.length) (ht : t < c.length) (e : a.getD k 0 = c.getD ((t + 1) % c.length) 0) : (pas rr.length a c).getD k 0 = c.getD t 0 := by
  have h1 := hags.rng t ht
  have h2 := (pas_at (a := a) hags hk (k := (c.getD t 0).toNat) (by omega)).2 (by rw [ordL_in hags ht]; exact e)
  rw [h2]; omega
theorem pas_miss (hv : vld rr a = 0) (hags : Ags c rr.length) {k : Nat} (hk : k < a.length) (h : ∀ t, t < c.length → a.getD k 0 ≠ c.getD ((t + 1) % c.length) 0) : (pas rr.length a c).getD k 0 = a.getD k 0 := by
  have hal := al_of_vld hv
  have hal2 := al_of_vld (vld_pas hv hags)
  have h1 := hal.rng k (by rw [← hal.len]; exact hk)
  have h2 := hal2.rng k (by rw [← hal.len]; exact hk)
  have h3 := pas_neg hv hags hk
  by_cases h0 : a.getD k 0 < 0
  · have := h3.2 h0; omega
  · obtain ⟨j, hj⟩ : ∃ j : Nat, a.getD k 0 = (j : Int) := ⟨(a.getD k 0).toNat, by omega⟩
    have ho : (ordL c rr.length).getD j 0 = (j : Int) := ordL_out hags (by omega) fun t ht e => by
      by_cases e0 : t = 0
      · subst e0
        have := h (c.length - 1) (by omega)
        rw [show c.length - 1 + 1 = c.length by omega, Nat.mod_self, e, hj] at this
        exact this rfl
      · have := h (t - 1) (by omega)
        rw [show t - 1 + 1 = t by omega, Nat.mod_eq_of_lt ht, e, hj] at this
        exact this rfl
    rw [(pas_at (a := a) hags hk (k := j) (by omega)).2 (by rw [ho, hj]), hj]
/-- the first q goods are passed -/
def paT (rr : List (List Int)) (a c : List Int) (q : Nat) : List Int := mk a.length fun k => if k < q then (pas rr.length a c).getD k 0 else a.getD k 0
theorem paT_len (q : Nat) : (paT rr a c q).length = a.length := mk_len _ _
theorem paT_get {q k : Nat} (hk : k < a.length) : (paT rr a c q).getD k 0 = if k < q then (pas rr.length a c).getD k 0 else a.getD k 0 := mk_get 0 hk
theorem paT_zero : paT rr a c 0 = a := ext_getD 0 (paT_len 0) fun k hk => by rw [paT_len] at hk; rw [paT_get hk, if_neg (by omega)]
theorem paT_all : paT rr a c a.length = pas rr.length a c := ext_getD 0 (by rw [paT_len, pas_len]) fun k hk => by rw [paT_len] at hk; rw [paT_get hk, if_pos hk]
theorem paT_set {q : Nat} {x : Int} (hq : q < a.length) (hx : x = (pas rr.length a c).getD q 0) : (paT rr a c q).set q x = paT rr a c (q + 1) := by
  refine ext_getD 0 (by rw [List.length_set, paT_len, paT_len]) fun k hk => ?_
  rw [List.length_set, paT_len] at hk
  rw [set_get (by rw [paT_len]; exact hq), paT_get hk, paT_get hk]
  by_cases e : k = q
  · subst e; rw [if_pos rfl, if_pos (by omega), hx]
  · rw [if_neg e]
    by_cases h : k < q
    · rw [if_pos h, if_pos (by omega)]
    · rw [if_neg h, if_neg (by omega)]
theorem paT_same {q : Nat} (hq : q < a.length) : (paT rr a c q).set q (a.getD q 0) = paT rr a c q := by
  refine ext_getD 0 (by rw [List.length_set]) fun k hk => ?_
  rw [List.length_set, paT_len] at hk
  rw [set_get (by rw [paT_len]; exact hq)]
  by_cases e : k = q
  · subst e; rw [if_pos rfl, paT_get hk, if_neg (by omega)]
  · rw [if_neg e]
end

theorem rpassed_rc {w : World} {av cv : Value} {rr : List (List Int)} {a cc : List Int} (Ha : Ints w av a) (Hc : Ints w cv cc) (hv : vld rr a = 0) (hags : Ags cc rr.length) :
    RC Try.prog 88 [av, cv] w NoB (fun u w' => OB w.heap.size w' u (pas rr.length a cc)) := by
  have hal := al_of_vld hv
  have hm10 := hal.m10
  have hlen := hal.len
  have hcl0 := dis_le hags.rng hags.dis
  have hn6 := hal.n6
  refine RC.mk tyOk Try.func88 rfl (by kernel_rfl) fun w1 E1 => ?_
  replace Ha := Ha.ext E1
  replace Hc := Hc.ext E1
  have EE := Ext.refl w1
  have Ha__1 := Ha
  have Hc__1 := Hc
  have EE__1 := EE
  repeat' ((conv => whnf); first | (refine Dr.quiet tyOk (by kernel_rfl) ?_) | (refine Rng.mk (by omega) ?_) | (refine Split.pos (by omega) ?_) | (refine Split.neg (by omega) ?_) | (refine Split.mk (fun h => ?_) (fun h => ?_)) | (refine Need.mk (by omega) ?_) | (refine Ints.ln (by assumption) ?_) | (refine Mat.ln (by assumption) ?_) | (refine Ints.ln (Mat.row (by assumption) _ (by omega)) ?_) | (refine Ints.ix (by assumption) (by omega) ?_) | (refine Mat.ix (by assumption) (by omega) ?_) | (refine Ints.ix (Mat.row (by assumption) _ (by omega)) (by omega) ?_) | (refine Ints.ix (c := 0) (by assumption) (by omega) ?_) | (refine Mat.ix (c := 0) (by assumption) (by omega) ?_) | (refine Ints.ix (c := 0) (Mat.row (by assumption) _ (by omega)) (by omega) ?_) | (refine Ints.ixI (by assumption) (by omega) ?_) | (refine Mat.ixI (by assumption) (by omega) ?_) | (refine Ints.ixI (Mat.row (by assumption) _ (by omega)) (by omega) ?_) | (refine Ints.ld (by assumption) (by omega) ?_) | (refine Mat.ld (by assumption) (by omega) ?_) | (refine Ints.ld (Mat.row (by assumption) _ (by omega)) (by omega) ?_) | (refine At.ld (by assumption) rfl ?_) | (refine At.ldN (by assumption) rfl ?_) | (refine Prs.ln (by assumption) ?_) | (refine Trs.ln (by assumption) ?_) | (refine Prs.ix (by assumption) (by omega) ?_) | (refine Trs.ix (by assumption) (by omega) ?_) | (refine Prs.ldN (by assumption) (by omega) ?_) | (refine Trs.ldN (by assumption) (by omega) ?_) | (refine At.ldN (Blk.at (by assumption)) rfl ?_) | (refine At.ld (Blk.at (by assumption)) rfl ?_) | (refine IxA.mk (by omega) ?_) | (refine Sl.ln (Own.sl (by assumption)) ?_) | (refine Ints.ix (Own.sl (by assumption)) (by omega) ?_) | (refine Ints.ixI (Own.sl (by assumption)) (by omega) ?_) | (refine Ints.ld (Own.sl (by assumption)) (by omega) ?_))
  refine VE.lit0 Try.underlying25 eInt fun l0 w3 E3 Hl0 => ?_
  have Ha0 := Ha.ext E3
  conv => whnf
  refine VE.app Try.underlying25 eInt rfl (by omega) (Hl0 _ (Nat.le_refl _)) E3 rfl Ha0 (one_ints _) (by omega) (by omega) fun ov w4 E4 G4 HO => ?_
  replace HO : OB w1.heap.size w4 ov (paT rr a cc 0) := by rw [paT_zero]; simpa using HO
  replace Ha := Ha.ext E4
  replace Hc := Hc.ext E4
  replace EE := EE.ext E4
  have EL1 := E4
  repeat' ((conv => whnf); first | (refine Dr.quiet tyOk (by kernel_rfl) ?_) | (refine Rng.mk (by omega) ?_) | (refine Split.pos (by omega) ?_) | (refine Split.neg (by omega) ?_) | (refine Split.mk (fun h => ?_) (fun h => ?_)) | (refine Need.mk (by omega) ?_) | (refine Ints.ln (by assumption) ?_) | (refine Mat.ln (by assumption) ?_) | (refine Ints.ln (Mat.row (by assumption) _ (by omega)) ?_) | (refine Ints.ix (by assumption) (by omega) ?_) | (refine Mat.ix (by assumption) (by omega) ?_) | (refine Ints.ix (Mat.row (by assumption) _ (by omega)) (by omega) ?_) | (refine Ints.ix (c := 0) (by assumption) (by omega) ?_) | (refine Mat.ix (c := 0) (by assumption) (by omega) ?_) | (refine Ints.ix (c := 0) (Mat.row (by assumption) _ (by omega)) (by omega) ?_) | (refine Ints.ixI (by assumption) (by omega) ?_) | (refine Mat.ixI (by assumption) (by omega) ?_) | (refine Ints.ixI (Mat.row (by assumption) _ (by omega)) (by omega) ?_) | (refine Ints.ld (by assumption) (by omega) ?_) | (refine Mat.ld (by assumption) (by omega) ?_) | (refine Ints.ld (Mat.row (by assumption) _ (by omega)) (by omega) ?_) | (refine At.ld (by assumption) rfl ?_) | (refine At.ldN (by assumption) rfl ?_) | (refine Prs.ln (by assumption) ?_) | (refine Trs.ln (by assumption) ?_) | (refine Prs.ix (by assumption) (by omega) ?_) | (refine Trs.ix (by assumption) (by omega) ?_) | (refine Prs.ldN (by assumption) (by omega) ?_) | (refine Trs.ldN (by assumption) (by omega) ?_) | (refine At.ldN (Blk.at (by assumption)) rfl ?_) | (refine At.ld (Blk.at (by assumption)) rfl ?_) | (refine IxA.mk (by omega) ?_) | (refine Sl.ln (Own.sl (by assumption)) ?_) | (refine Ints.ix (Own.sl (by assumption)) (by omega) ?_) | (refine Ints.ixI (Own.sl (by assumption)) (by omega) ?_) | (refine Ints.ld (Own.sl (by assumption)) (by omega) ?_))
  refine Lp.mk tyOk [false, false, false, false, false, false, true, true, false, false, false, true, true, true, true, true, true, true, true, true, true, true, true, true, true, true, true, true, true, true, true, true, true, true, true, true, true, true, true, true, true, true, true] (fun m fr wr => getK fr 6 fun k => ∃ q : Nat, q ≤ a.length ∧ m = a.length - q ∧ k = .int .i64 (q : Int) ∧ (OB w1.heap.size wr ov (paT rr a cc q)) ∧ Ext w1 wr) (a.length) ?_ ?_
  · exact ⟨0, Nat.zero_le _, rfl, rfl, HO, EL1⟩
  · intro m w5 u6 u7 u11 u12 u13 u14 u15 u16 u17 u18 u19 u20 u21 u22 u23 u24 u25 u26 u27 u28 u29 u30 u31 u32 u33 u34 u35 u36 u37 u38 u39 u40 u41 u42 hR
    obtain ⟨q, hq, rfl, rfl, HO, EL1⟩ := hR
    replace Ha := Ha__1.ext EL1
    replace Hc := Hc__1.ext EL1
    replace EE := EE__1.ext EL1
    have hpl := paT_len (rr := rr) (a := a) (c := cc) q
    by_cases hql : q < a.length
    · have hs0 := paT_same (rr := rr) (c := cc) hql
      repeat' ((conv => whnf); first | (refine Dr.quiet tyOk (by kernel_rfl) ?_) | (refine Rng.mk (by omega) ?_) | (refine Split.pos (by omega) ?_) | (refine Split.neg (by omega) ?_) | (refine Split.mk (fun h => ?_) (fun h => ?_)) | (refine Need.mk (by omega) ?_) | (refine Ints.ln (by assumption) ?_) | (refine Mat.ln (by assumption) ?_) | (refine Ints.ln (Mat.row (by assumption) _ (by omega)) ?_) | (refine Ints.ix (by assumption) (by omega) ?_) | (refine Mat.ix (by assumption) (by omega) ?_) | (refine Ints.ix (Mat.row (by assumption) _ (by omega)) (by omega) ?_) | (refine Ints.ix (c := 0) (by assumption) (by omega) ?_) | (refine Mat.ix (c := 0) (by assumption) (by omega) ?_) | (refine Ints.ix (c := 0) (Mat.row (by assumption) _ (by omega)) (by omega) ?_) | (refine Ints.ixI (by assumption) (by omega) ?_) | (refine Mat.ixI (by assumption) (by omega) ?_) | (refine Ints.ixI (Mat.row (by assumption) _ (by omega)) (by omega) ?_) | (refine Ints.ld (by assumption) (by omega) ?_) | (refine Mat.ld (by assumption) (by omega) ?_) | (refine Ints.ld (Mat.row (by assumption) _ (by omega)) (by omega) ?_) | (refine At.ld (by assumption) rfl ?_) | (refine At.ldN (by assumption) rfl ?_) | (refine Prs.ln (by assumption) ?_) | (refine Trs.ln (by assumption) ?_) | (refine Prs.ix (by assumption) (by omega) ?_) | (refine Trs.ix (by assumption) (by omega) ?_) | (refine Prs.ldN (by assumption) (by omega) ?_) | (refine Trs.ldN (by assumption) (by omega) ?_) | (refine At.ldN (Blk.at (by assumption)) rfl ?_) | (refine At.ld (Blk.at (by assumption)) rfl ?_) | (refine IxA.mk (by omega) ?_) | (refine Sl.ln (Own.sl (by assumption)) ?_) | (refine Ints.ix (Own.sl (by assumption)) (by omega) ?_) | (refine Ints.ixI (Own.sl (by assumption)) (by omega) ?_) | (refine Ints.ld (Own.sl (by assumption)) (by omega) ?_))
      refine Lp.mk tyOk [false, false, false, false, false, false, false, true, false, false, false, false, false, false, false, false, false, true, true, true, true, true, true, true, true, true, true, true, true, true, true, true, true, true, true, true, true, true, true, true, true, true, true] (fun m fr wr => getK fr 7 fun n => ∃ d : Nat, d ≤ cc.length ∧ m = cc.length - d ∧ n = .int .i64 (d : Int) ∧ ((∃ x, OB w1.heap.size wr ov ((paT rr a cc q).set q x) ∧ ((x = a.getD q 0 ∧ ∀ t, t < d → a.getD q 0 ≠ cc.getD ((t + 1) % cc.length) 0) ∨ x = (pas rr.length a cc).getD q 0))) ∧ Ext w1 wr) (cc.length) ?_ ?_
      · exact ⟨0, Nat.zero_le _, rfl, rfl, ⟨_, by rw [hs0]; exact HO, .inl ⟨rfl, fun t ht => absurd ht (by omega)⟩⟩, EL1⟩
      · intro m w6 u7 u17 u18 u19 u20 u21 u22 u23 u24 u25 u26 u27 u28 u29 u30 u31 u32 u33 u34 u35 u36 u37 u38 u39 u40 u41 u42 hR
        obtain ⟨d, hd, rfl, rfl, HX, EL1⟩ := hR
        replace Ha := Ha__1.ext EL1
        replace Hc := Hc__1.ext EL1
        replace EE := EE__1.ext EL1
        obtain ⟨x, HP, hx⟩ := HX
        have hpl2 : ((paT rr a cc q).set q x).length = a.length := by rw [List.length_set, hpl]
        by_cases hdl : d < cc.length
        · obtain ⟨m0, m1, m2⟩ := mod_next hdl
          obtain ⟨y, hy⟩ : ∃ y, cc.getD ((d + 1) % cc.length) 0 = y := ⟨_, rfl⟩
          obtain ⟨z, hz⟩ : ∃ z, a.getD q 0 = z := ⟨_, rfl⟩
          have hlt : 0 ≤ ((d : Int) + 1) % (cc.length : Int) ∧ ((d : Int) + 1) % (cc.length : Int) < cc.length := by rw [m0]; exact ⟨Int.natCast_nonneg _, Int.ofNat_lt.2 m2⟩
          have hy2 : cc.getD (((d : Int) + 1) % (cc.length : Int)).toNat 0 = y := by rw [m1]; exact hy
          have hq2 : (((d : Int) + 1) % (cc.length : Int)).toNat < cc.length := by rw [m1]; exact m2
          by_cases he : z = y
          · have hhit := pas_hit (a := a) hags hql hdl (by rw [hz, hy]; exact he)
            repeat' ((conv => whnf); first | (refine Dr.quiet tyOk (by kernel_rfl) ?_) | (refine Ints.ldq Ha hz (by omega) ?_) | (refine Ints.ixI Hc hlt ?_) | (refine Ints.ldq Hc hy2 hq2 ?_) | (refine Ints.ix (Own.sl HP) (by omega) ?_) | (refine Rng.mk (by omega) ?_) | (refine Split.pos (by omega) ?_) | (refine Split.neg (by omega) ?_) | (refine Split.mk (fun h => ?_) (fun h => ?_)) | (refine Need.mk (by omega) ?_) | (refine Ints.ln (by assumption) ?_) | (refine Mat.ln (by assumption) ?_) | (refine Ints.ln (Mat.row (by assumption) _ (by omega)) ?_) | (refine Ints.ix (by assumption) (by omega) ?_) | (refine Mat.ix (by assumption) (by omega) ?_) | (refine Ints.ix (Mat.row (by assumption) _ (by omega)) (by omega) ?_) | (refine Ints.ix (c := 0) (by assumption) (by omega) ?_) | (refine Mat.ix (c := 0) (by assumption) (by omega) ?_) | (refine Ints.ix (c := 0) (Mat.row (by assumption) _ (by omega)) (by omega) ?_) | (refine Ints.ixI (by assumption) (by omega) ?_) | (refine Mat.ixI (by assumption) (by omega) ?_) | (refine Ints.ixI (Mat.row (by assumption) _ (by omega)) (by omega) ?_) | (refine Ints.ld (by assumption) (by omega) ?_) | (refine Mat.ld (by assumption) (by omega) ?_) | (refine Ints.ld (Mat.row (by assumption) _ (by omega)) (by omega) ?_) | (refine At.ld (by assumption) rfl ?_) | (refine At.ldN (by assumption) rfl ?_) | (refine Prs.ln (by assumption) ?_) | (refine Trs.ln (by assumption) ?_) | (refine Prs.ix (by assumption) (by omega) ?_) | (refine Trs.ix (by assumption) (by omega) ?_) | (refine Prs.ldN (by assumption) (by omega) ?_) | (refine Trs.ldN (by assumption) (by omega) ?_) | (refine At.ldN (Blk.at (by assumption)) rfl ?_) | (refine At.ld (Blk.at (by assumption)) rfl ?_) | (refine IxA.mk (by omega) ?_) | (refine Sl.ln (Own.sl (by assumption)) ?_) | (refine Ints.ix (Own.sl (by assumption)) (by omega) ?_) | (refine Ints.ixI (Own.sl (by assumption)) (by omega) ?_) | (refine Ints.ld (Own.sl (by assumption)) (by omega) ?_))
            refine OB.set HP (by omega) fun w7 G7 HP' => ?_
            have E7 : Ext w1 w7 := Own.keep HP EL1 (Nat.le_refl _) G7
            replace HP := HP'
            replace Ha := Ha__1.ext E7
            replace Hc := Hc__1.ext E7
            replace EE := EE__1.ext E7
            replace EL1 := E7
            rw [List.set_set] at HP
            repeat' ((conv => whnf); first | (refine Dr.quiet tyOk (by kernel_rfl) ?_) | (refine Rng.mk (by omega) ?_) | (refine Split.pos (by omega) ?_) | (refine Split.neg (by omega) ?_) | (refine Split.mk (fun h => ?_) (fun h => ?_)) | (refine Need.mk (by omega) ?_) | (refine Ints.ln (by assumption) ?_) | (refine Mat.ln (by assumption) ?_) | (refine Ints.ln (Mat.row (by assumption) _ (by omega)) ?_) | (refine Ints.ix (by assumption) (by omega) ?_) | (refine Mat.ix (by assumption) (by omega) ?_) | (refine Ints.ix (Mat.row (by assumption) _ (by omega)) (by omega) ?_) | (refine Ints.ix (c := 0) (by assumption) (by omega) ?_) | (refine Mat.ix (c := 0) (by assumption) (by omega) ?_) | (refine Ints.ix (c := 0) (Mat.row (by assumption) _ (by omega)) (by omega) ?_) | (refine Ints.ixI (by assumption) (by omega) ?_) | (refine Mat.ixI (by assumption) (by omega) ?_) | (refine Ints.ixI (Mat.row (by assumption) _ (by omega)) (by omega) ?_) | (refine Ints.ld (by assumption) (by omega) ?_) | (refine Mat.ld (by assumption) (by omega) ?_) | (refine Ints.ld (Mat.row (by assumption) _ (by omega)) (by omega) ?_) | (refine At.ld (by assumption) rfl ?_) | (refine At.ldN (by assumption) rfl ?_) | (refine Prs.ln (by assumption) ?_) | (refine Trs.ln (by assumption) ?_) | (refine Prs.ix (by assumption) (by omega) ?_) | (refine Trs.ix (by assumption) (by omega) ?_) | (refine Prs.ldN (by assumption) (by omega) ?_) | (refine Trs.ldN (by assumption) (by omega) ?_) | (refine At.ldN (Blk.at (by assumption)) rfl ?_) | (refine At.ld (Blk.at (by assumption)) rfl ?_) | (refine IxA.mk (by omega) ?_) | (refine Sl.ln (Own.sl (by assumption)) ?_) | (refine Ints.ix (Own.sl (by assumption)) (by omega) ?_) | (refine Ints.ixI (Own.sl (by assumption)) (by omega) ?_) | (refine Ints.ld (Own.sl (by assumption)) (by omega) ?_))
            refine ⟨_, (by omega : cc.length - (d + 1) < cc.length - d), rfl, d + 1, by omega, rfl, rfl, ⟨_, HP, .inr hhit.symm⟩, EL1⟩
          · repeat' ((conv => whnf); first | (refine Dr.quiet tyOk (by kernel_rfl) ?_) | (refine Ints.ldq Ha hz (by omega) ?_) | (refine Ints.ixI Hc hlt ?_) | (refine Ints.ldq Hc hy2 hq2 ?_) | (refine Rng.mk (by omega) ?_) | (refine Split.pos (by omega) ?_) | (refine Split.neg (by omega) ?_) | (refine Split.mk (fun h => ?_) (fun h => ?_)) | (refine Need.mk (by omega) ?_) | (refine Ints.ln (by assumption) ?_) | (refine Mat.ln (by assumption) ?_) | (refine Ints.ln (Mat.row (by assumption) _ (by omega)) ?_) | (refine Ints.ix (by assumption) (by omega) ?_) | (refine Mat.ix (by assumption) (by omega) ?_) | (refine Ints.ix (Mat.row (by assumption) _ (by omega)) (by omega) ?_) | (refine Ints.ix (c := 0) (by assumption) (by omega) ?_) | (refine Mat.ix (c := 0) (by assumption) (by omega) ?_) | (refine Ints.ix (c := 0) (Mat.row (by assumption) _ (by omega)) (by omega) ?_) | (refine Ints.ixI (by assumption) (by omega) ?_) | (refine Mat.ixI (by assumption) (by omega) ?_) | (refine Ints.ixI (Mat.row (by assumption) _ (by omega)) (by omega) ?_) | (refine Ints.ld (by assumption) (by omega) ?_) | (refine Mat.ld (by assumption) (by omega) ?_) | (refine Ints.ld (Mat.row (by assumption) _ (by omega)) (by omega) ?_) | (refine At.ld (by assumption) rfl ?_) | (refine At.ldN (by assumption) rfl ?_) | (refine Prs.ln (by assumption) ?_) | (refine Trs.ln (by assumption) ?_) | (refine Prs.ix (by assumption) (by omega) ?_) | (refine Trs.ix (by assumption) (by omega) ?_) | (refine Prs.ldN (by assumption) (by omega) ?_) | (refine Trs.ldN (by assumption) (by omega) ?_) | (refine At.ldN (Blk.at (by assumption)) rfl ?_) | (refine At.ld (Blk.at (by assumption)) rfl ?_) | (refine IxA.mk (by omega) ?_) | (refine Sl.ln (Own.sl (by assumption)) ?_) | (refine Ints.ix (Own.sl (by assumption)) (by omega) ?_) | (refine Ints.ixI (Own.sl (by assumption)) (by omega) ?_) | (refine Ints.ld (Own.sl (by assumption)) (by omega) ?_))
            refine ⟨_, (by omega : cc.length - (d + 1) < cc.length - d), rfl, d + 1, by omega, rfl, rfl, ⟨x, HP, hx.imp (fun h => ⟨h.1, all_succ h.2 (by rw [hz, hy]; exact he)⟩) id⟩, EL1⟩
        · obtain rfl : d = cc.length := by omega
          have hxx : x = (pas rr.length a cc).getD q 0 := by
            rcases hx with ⟨h1, h2⟩ | h1
            · rw [h1, pas_miss hv hags hql h2]
            · exact h1
          rw [paT_set hql hxx] at HP
          repeat' ((conv => whnf); first | (refine Dr.quiet tyOk (by kernel_rfl) ?_) | (refine Rng.mk (by omega) ?_) | (refine Split.pos (by omega) ?_) | (refine Split.neg (by omega) ?_) | (refine Split.mk (fun h => ?_) (fun h => ?_)) | (refine Need.mk (by omega) ?_) | (refine Ints.ln (by assumption) ?_) | (refine Mat.ln (by assumption) ?_) | (refine Ints.ln (Mat.row (by assumption) _ (by omega)) ?_) | (refine Ints.ix (by assumption) (by omega) ?_) | (refine Mat.ix (by assumption) (by omega) ?_) | (refine Ints.ix (Mat.row (by assumption) _ (by omega)) (by omega) ?_) | (refine Ints.ix (c := 0) (by assumption) (by omega) ?_) | (refine Mat.ix (c := 0) (by assumption) (by omega) ?_) | (refine Ints.ix (c := 0) (Mat.row (by assumption) _ (by omega)) (by omega) ?_) | (refine Ints.ixI (by assumption) (by omega) ?_) | (refine Mat.ixI (by assumption) (by omega) ?_) | (refine Ints.ixI (Mat.row (by assumption) _ (by omega)) (by omega) ?_) | (refine Ints.ld (by assumption) (by omega) ?_) | (refine Mat.ld (by assumption) (by omega) ?_) | (refine Ints.ld (Mat.row (by assumption) _ (by omega)) (by omega) ?_) | (refine At.ld (by assumption) rfl ?_) | (refine At.ldN (by assumption) rfl ?_) | (refine Prs.ln (by assumption) ?_) | (refine Trs.ln (by assumption) ?_) | (refine Prs.ix (by assumption) (by omega) ?_) | (refine Trs.ix (by assumption) (by omega) ?_) | (refine Prs.ldN (by assumption) (by omega) ?_) | (refine Trs.ldN (by assumption) (by omega) ?_) | (refine At.ldN (Blk.at (by assumption)) rfl ?_) | (refine At.ld (Blk.at (by assumption)) rfl ?_) | (refine IxA.mk (by omega) ?_) | (refine Sl.ln (Own.sl (by assumption)) ?_) | (refine Ints.ix (Own.sl (by assumption)) (by omega) ?_) | (refine Ints.ixI (Own.sl (by assumption)) (by omega) ?_) | (refine Ints.ld (Own.sl (by assumption)) (by omega) ?_))
          refine ⟨_, (by omega : a.length - (q + 1) < a.length - q), rfl, q + 1, by omega, rfl, rfl, HP, EL1⟩
    · obtain rfl : q = a.length := by omega
      rw [paT_all] at HO
      repeat' ((conv => whnf); first | (refine Dr.quiet tyOk (by kernel_rfl) ?_) | (refine Rng.mk (by omega) ?_) | (refine Split.pos (by omega) ?_) | (refine Split.neg (by omega) ?_) | (refine Split.mk (fun h => ?_) (fun h => ?_)) | (refine Need.mk (by omega) ?_) | (refine Ints.ln (by assumption) ?_) | (refine Mat.ln (by assumption) ?_) | (refine Ints.ln (Mat.row (by assumption) _ (by omega)) ?_) | (refine Ints.ix (by assumption) (by omega) ?_) | (refine Mat.ix (by assumption) (by omega) ?_) | (refine Ints.ix (Mat.row (by assumption) _ (by omega)) (by omega) ?_) | (refine Ints.ix (c := 0) (by assumption) (by omega) ?_) | (refine Mat.ix (c := 0) (by assumption) (by omega) ?_) | (refine Ints.ix (c := 0) (Mat.row (by assumption) _ (by omega)) (by omega) ?_) | (refine Ints.ixI (by assumption) (by omega) ?_) | (refine Mat.ixI (by assumption) (by omega) ?_) | (refine Ints.ixI (Mat.row (by assumption) _ (by omega)) (by omega) ?_) | (refine Ints.ld (by assumption) (by omega) ?_) | (refine Mat.ld (by assumption) (by omega) ?_) | (refine Ints.ld (Mat.row (by assumption) _ (by omega)) (by omega) ?_) | (refine At.ld (by assumption) rfl ?_) | (refine At.ldN (by assumption) rfl ?_) | (refine Prs.ln (by assumption) ?_) | (refine Trs.ln (by assumption) ?_) | (refine Prs.ix (by assumption) (by omega) ?_) | (refine Trs.ix (by assumption) (by omega) ?_) | (refine Prs.ldN (by assumption) (by omega) ?_) | (refine Trs.ldN (by assumption) (by omega) ?_) | (refine At.ldN (Blk.at (by assumption)) rfl ?_) | (refine At.ld (Blk.at (by assumption)) rfl ?_) | (refine IxA.mk (by omega) ?_) | (refine Sl.ln (Own.sl (by assumption)) ?_) | (refine Ints.ix (Own.sl (by assumption)) (by omega) ?_) | (refine Ints.ixI (Own.sl (by assumption)) (by omega) ?_) | (refine Ints.ld (Own.sl (by assumption)) (by omega) ?_))
      exact ⟨EE, Own.base HO E1.size⟩

theorem circ_first {rr : List (List Int)} {a : List Int} {N k : Nat} (hn : 1 ≤ rr.length) (h1 : ∀ l, isC rr a l → N ≤ l.length) (hk : k < rr.length ^ N) (h2 : ∀ j, j < k → ¬ isC rr a (digs rr.length N j)) (h3 : isC rr a (digs rr.length N k)) : circ rr a = digs rr.length N k := by
  refine circ_is (.inr ⟨h3, fun l hl => ⟨by rw [digs_len]; exact h1 l hl, fun e hx => ?_⟩⟩)
  obtain ⟨q, hq, eq⟩ := digs_all hn hl.rng
  rw [digs_len] at e
  rw [e] at hq eq
  rw [← eq] at hx hl
  rcases Nat.lt_trichotomy q k with h | h | h
  · exact h2 q h hl
  · subst h; exact lexlt_irrefl _ hx
  · exact lexlt_asymm hx (digs_lt hn hk hq h)
theorem circ_zero {rr : List (List Int)} {a : List Int} (h1 : ∀ l, isC rr a l → rr.length + 1 ≤ l.length) : circ rr a = [] :=
  circ_is (.inl ⟨rfl, fun l hl => by have := h1 l hl; have := hl.le; omega⟩)
theorem nxt_at {n N k : Nat} (hn : 1 ≤ n) (hk : k < n ^ N) : (nxt n (digs n N k)).1 = decide (k + 1 < n ^ N) ∧ (k + 1 < n ^ N → (nxt n (digs n N k)).2 = digs n N (k + 1)) := by
  rw [nxt_digs hn hk]
  by_cases h : k + 1 < n ^ N
  · rw [if_pos h, decide_eq_true h]; exact ⟨rfl, fun _ => rfl⟩
  · rw [if_neg h, decide_eq_false h]; exact ⟨rfl, fun h2 => absurd h2 h⟩
theorem rcircle_rc {w : World} {gv av : Value} {vs : List Value} {rr : List (List Int)} {a : List Int} (Hg : Mat w gv vs rr) (Ha : Ints w av a) (hv : vld rr a = 0) :
    RC Try.prog 86 [.agg #[gv], av] w NoB (fun u w' => CiR rr a w' u) := by
  have hal := al_of_vld hv
  have hn1 := hal.n1
  have hn6 := hal.n6
  refine RC.mk tyOk Try.func86 rfl (by kernel_rfl) fun w1 E1 => ?_
  replace Hg := Hg.ext E1
  replace Ha := Ha.ext E1
  have EE := Ext.refl w1
  refine Bx.agg fun b2 w2 E2 hb2 Hb _ => ?_
  replace Hg := Hg.ext E2
  replace Ha := Ha.ext E2
  replace EE := EE.ext E2
  have hgl := Hg.top.le
  repeat' ((conv => whnf); first | (refine Dr.quiet tyOk (by kernel_rfl) ?_) | (refine Rng.mk (by omega) ?_) | (refine Split.pos (by omega) ?_) | (refine Split.neg (by omega) ?_) | (refine Split.mk (fun h => ?_) (fun h => ?_)) | (refine Need.mk (by omega) ?_) | (refine Ints.ln (by assumption) ?_) | (refine Mat.ln (by assumption) ?_) | (refine Ints.ln (Mat.row (by assumption) _ (by omega)) ?_) | (refine Ints.ix (by assumption) (by omega) ?_) | (refine Mat.ix (by assumption) (by omega) ?_) | (refine Ints.ix (Mat.row (by assumption) _ (by omega)) (by omega) ?_) | (refine Ints.ix (c := 0) (by assumption) (by omega) ?_) | (refine Mat.ix (c := 0) (by assumption) (by omega) ?_) | (refine Ints.ix (c := 0) (Mat.row (by assumption) _ (by omega)) (by omega) ?_) | (refine Ints.ixI (by assumption) (by omega) ?_) | (refine Mat.ixI (by assumption) (by omega) ?_) | (refine Ints.ixI (Mat.row (by assumption) _ (by omega)) (by omega) ?_) | (refine Ints.ld (by assumption) (by omega) ?_) | (refine Mat.ld (by assumption) (by omega) ?_) | (refine Ints.ld (Mat.row (by assumption) _ (by omega)) (by omega) ?_) | (refine At.ld (by assumption) rfl ?_) | (refine At.ldN (by assumption) rfl ?_) | (refine Prs.ln (by assumption) ?_) | (refine Trs.ln (by assumption) ?_) | (refine Prs.ix (by assumption) (by omega) ?_) | (refine Trs.ix (by assumption) (by omega) ?_) | (refine Prs.ldN (by assumption) (by omega) ?_) | (refine Trs.ldN (by assumption) (by omega) ?_) | (refine At.ldN (Blk.at (by assumption)) rfl ?_) | (refine At.ld (Blk.at (by assumption)) rfl ?_) | (refine IxA.mk (by omega) ?_) | (refine Sl.ln (Own.sl (by assumption)) ?_) | (refine Ints.ix (Own.sl (by assumption)) (by omega) ?_) | (refine Ints.ixI (Own.sl (by assumption)) (by omega) ?_) | (refine Ints.ld (Own.sl (by assumption)) (by omega) ?_))
  have Hg__1 := Hg
  have Ha__1 := Ha
  have EE__1 := EE
  have Hb__1 := Hb
  have hz1 := Nat.le_trans E1.size EE.size
  refine Lp.mk tyOk [false, false, false, false, true, true, true, true, true, true, true, true, true, true, true, true, true, true, true, true, true, true, true, true, true, true, true, true, true, true] (fun m fr wr => getK fr 5 fun n => ∃ c : Nat, c ≤ (rr.length - 1) ∧ m = (rr.length - 1) - c ∧ n = .int .i64 ((2 + c : Nat) : Int) ∧ (∀ l, isC rr a l → 2 + c ≤ l.length) ∧ Ext w2 wr) ((rr.length - 1)) ?_ ?_
  · exact ⟨0, Nat.zero_le _, rfl, rfl, (fun l hl => hl.len), Ext.refl _⟩
  · intro m w3 u4 u5 u6 u7 u8 u9 u10 u11 u12 u13 u14 u15 u16 u17 u18 u19 u20 u21 u22 u23 u24 u25 u26 u27 u28 u29 hR
    obtain ⟨c, hc, rfl, rfl, h1, EL1⟩ := hR
    replace Hg := Hg__1.ext EL1
    replace Ha := Ha__1.ext EL1
    replace EE := EE__1.ext EL1
    replace Hb := Hb__1.ext EL1
    by_cases hcl : c < rr.length - 1
    · obtain ⟨N, hN⟩ : ∃ N, 2 + c = N := ⟨_, rfl⟩
      rw [hN] at h1 ⊢
      repeat' ((conv => whnf); first | (refine Dr.quiet tyOk (by kernel_rfl) ?_) | (refine Rng.mk (by omega) ?_) | (refine Split.pos (by omega) ?_) | (refine Split.neg (by omega) ?_) | (refine Split.mk (fun h => ?_) (fun h => ?_)) | (refine Need.mk (by omega) ?_) | (refine Ints.ln (by assumption) ?_) | (refine Mat.ln (by assumption) ?_) | (refine Ints.ln (Mat.row (by assumption) _ (by omega)) ?_) | (refine Ints.ix (by assumption) (by omega) ?_) | (refine Mat.ix (by assumption) (by omega) ?_) | (refine Ints.ix (Mat.row (by assumption) _ (by omega)) (by omega) ?_) | (refine Ints.ix (c := 0) (by assumption) (by omega) ?_) | (refine Mat.ix (c := 0) (by assumption) (by omega) ?_) | (refine Ints.ix (c := 0) (Mat.row (by assumption) _ (by omega)) (by omega) ?_) | (refine Ints.ixI (by assumption) (by omega) ?_) | (refine Mat.ixI (by assumption) (by omega) ?_) | (refine Ints.ixI (Mat.row (by assumption) _ (by omega)) (by omega) ?_) | (refine Ints.ld (by assumption) (by omega) ?_) | (refine Mat.ld (by assumption) (by omega) ?_) | (refine Ints.ld (Mat.row (by assumption) _ (by omega)) (by omega) ?_) | (refine At.ld (by assumption) rfl ?_) | (refine At.ldN (by assumption) rfl ?_) | (refine Prs.ln (by assumption) ?_) | (refine Trs.ln (by assumption) ?_) | (refine Prs.ix (by assumption) (by omega) ?_) | (refine Trs.ix (by assumption) (by omega) ?_) | (refine Prs.ldN (by assumption) (by omega) ?_) | (refine Trs.ldN (by assumption) (by omega) ?_) | (refine At.ldN (Blk.at (by assumption)) rfl ?_) | (refine At.ld (Blk.at (by assumption)) rfl ?_) | (refine IxA.mk (by omega) ?_) | (refine Sl.ln (Own.sl (by assumption)) ?_) | (refine Ints.ix (Own.sl (by assumption)) (by omega) ?_) | (refine Ints.ixI (Own.sl (by assumption)) (by omega) ?_) | (refine Ints.ld (Own.sl (by assumption)) (by omega) ?_))
      have Hg__2 := Hg
      have Ha__2 := Ha
      have EE__2 := EE
      have Hb__2 := Hb
      have EL1__2 := EL1
      conv => whnf
      refine VE.made (n := N) Try.underlying25 eInt rfl (by omega) (by omega) fun bv w4 E4 HB hb_bv => ?_
      replace Hg := Hg.ext E4
      replace Ha := Ha.ext E4
      replace EE := EE.ext E4
      replace Hb := Hb.ext E4
      replace EL1 := EL1.ext E4
      replace HB := OB.made (HB _ (Nat.le_refl _))
      have EL2 := E4
      rw [← digs_zero rr.length] at HB
      have hdl := digs_len rr.length N
      have hl0 := hdl 0
      have hT : 0 < rr.length ^ N := Nat.pow_pos (by omega)
      repeat' ((conv => whnf); first | (refine Dr.quiet tyOk (by kernel_rfl) ?_) | (refine Rng.mk (by omega) ?_) | (refine Split.pos (by omega) ?_) | (refine Split.neg (by omega) ?_) | (refine Split.mk (fun h => ?_) (fun h => ?_)) | (refine Need.mk (by omega) ?_) | (refine Ints.ln (by assumption) ?_) | (refine Mat.ln (by assumption) ?_) | (refine Ints.ln (Mat.row (by assumption) _ (by omega)) ?_) | (refine Ints.ix (by assumption) (by omega) ?_) | (refine Mat.ix (by assumption) (by omega) ?_) | (refine Ints.ix (Mat.row (by assumption) _ (by omega)) (by omega) ?_) | (refine Ints.ix (c := 0) (by assumption) (by omega) ?_) | (refine Mat.ix (c := 0) (by assumption) (by omega) ?_) | (refine Ints.ix (c := 0) (Mat.row (by assumption) _ (by omega)) (by omega) ?_) | (refine Ints.ixI (by assumption) (by omega) ?_) | (refine Mat.ixI (by assumption) (by omega) ?_) | (refine Ints.ixI (Mat.row (by assumption) _ (by omega)) (by omega) ?_) | (refine Ints.ld (by assumption) (by omega) ?_) | (refine Mat.ld (by assumption) (by omega) ?_) | (refine Ints.ld (Mat.row (by assumption) _ (by omega)) (by omega) ?_) | (refine At.ld (by assumption) rfl ?_) | (refine At.ldN (by assumption) rfl ?_) | (refine Prs.ln (by assumption) ?_) | (refine Trs.ln (by assumption) ?_) | (refine Prs.ix (by assumption) (by omega) ?_) | (refine Trs.ix (by assumption) (by omega) ?_) | (refine Prs.ldN (by assumption) (by omega) ?_) | (refine Trs.ldN (by assumption) (by omega) ?_) | (refine At.ldN (Blk.at (by assumption)) rfl ?_) | (refine At.ld (Blk.at (by assumption)) rfl ?_) | (refine IxA.mk (by omega) ?_) | (refine Sl.ln (Own.sl (by assumption)) ?_) | (refine Ints.ix (Own.sl (by assumption)) (by omega) ?_) | (refine Ints.ixI (Own.sl (by assumption)) (by omega) ?_) | (refine Ints.ld (Own.sl (by assumption)) (by omega) ?_))
      refine Lp.mk tyOk [false, false, false, false, true, false, false, true, false, false, false, false, false, false, false, false, false, true, true, true, true, true, true, true, true, true, true, true, true, true] (fun m fr wr => getK fr 7 fun s => ∃ d : Nat, d ≤ (rr.length ^ N) ∧ m = (rr.length ^ N) - d ∧ s = .bool (decide (d < rr.length ^ N)) ∧ ((∃ A : List Int, A.length = N ∧ (d < rr.length ^ N → A = digs rr.length N d) ∧ OB w3.heap.size wr bv A)) ∧ (∀ j, j < d → ¬ isC rr a (digs rr.length N j)) ∧ Ext w3 wr) ((rr.length ^ N)) ?_ ?_
      · exact ⟨0, Nat.zero_le _, rfl, (by rw [decide_eq_true hT]), ⟨_, hl0, fun _ => rfl, HB⟩, (by first | exact fun _ hi => absurd hi (Nat.not_lt_zero _) | exact fun _ _ hi => absurd hi (Nat.not_lt_zero _) | assumption | exact Own.nil | omega | simp), EL2⟩
      · intro m w5 u4 u7 u17 u18 u19 u20 u21 u22 u23 u24 u25 u26 u27 u28 u29 hR
        obtain ⟨d, hd, rfl, rfl, HX, hno, EL2⟩ := hR
        replace Hg := Hg__2.ext EL2
        replace Ha := Ha__2.ext EL2
        replace EE := EE__2.ext EL2
        replace Hb := Hb__2.ext EL2
        replace EL1 := EL1__2.ext EL2
        obtain ⟨A, hAl, hAd, HA⟩ := HX
        by_cases hdT : d < rr.length ^ N
        · obtain rfl := hAd hdT
          obtain ⟨x1, x2⟩ := nxt_at hn1 hdT
          have hrg := digs_rng hn1 (j := N) hdT
          have HAI : Ints w5 bv (digs rr.length N d) := Own.sl HA
          have ci := isc_pc Hg Ha HAI hv
          rw [decide_eq_true hdT]
          by_cases hC : isC rr a (digs rr.length N d)
          · rw [tf_t hC] at ci
            have hcf := circ_first hn1 h1 hdT hno hC
            repeat' ((conv => whnf); first | (refine Dr.quiet tyOk (by kernel_rfl) ?_) | (refine VC.pure ci ?_) | (refine VCQ.pure ci ?_) | (refine Rng.mk (by omega) ?_) | (refine Split.pos (by omega) ?_) | (refine Split.neg (by omega) ?_) | (refine Split.mk (fun h => ?_) (fun h => ?_)) | (refine Need.mk (by omega) ?_) | (refine Ints.ln (by assumption) ?_) | (refine Mat.ln (by assumption) ?_) | (refine Ints.ln (Mat.row (by assumption) _ (by omega)) ?_) | (refine Ints.ix (by assumption) (by omega) ?_) | (refine Mat.ix (by assumption) (by omega) ?_) | (refine Ints.ix (Mat.row (by assumption) _ (by omega)) (by omega) ?_) | (refine Ints.ix (c := 0) (by assumption) (by omega) ?_) | (refine Mat.ix (c := 0) (by assumption) (by omega) ?_) | (refine Ints.ix (c := 0) (Mat.row (by assumption) _ (by omega)) (by omega) ?_) | (refine Ints.ixI (by assumption) (by omega) ?_) | (refine Mat.ixI (by assumption) (by omega) ?_) | (refine Ints.ixI (Mat.row (by assumption) _ (by omega)) (by omega) ?_) | (refine Ints.ld (by assumption) (by omega) ?_) | (refine Mat.ld (by assumption) (by omega) ?_) | (refine Ints.ld (Mat.row (by assumption) _ (by omega)) (by omega) ?_) | (refine At.ld (by assumption) rfl ?_) | (refine At.ldN (by assumption) rfl ?_) | (refine Prs.ln (by assumption) ?_) | (refine Trs.ln (by assumption) ?_) | (refine Prs.ix (by assumption) (by omega) ?_) | (refine Trs.ix (by assumption) (by omega) ?_) | (refine Prs.ldN (by assumption) (by omega) ?_) | (refine Trs.ldN (by assumption) (by omega) ?_) | (refine At.ldN (Blk.at (by assumption)) rfl ?_) | (refine At.ld (Blk.at (by assumption)) rfl ?_) | (refine IxA.mk (by omega) ?_) | (refine Sl.ln (Own.sl (by assumption)) ?_) | (refine Ints.ix (Own.sl (by assumption)) (by omega) ?_) | (refine Ints.ixI (Own.sl (by assumption)) (by omega) ?_) | (refine Ints.ld (Own.sl (by assumption)) (by omega) ?_))
            refine VE.lit0 Try.underlying25 eInt fun l0 w13 E13 Hl0 => ?_
            have HA13 := HAI.ext E13
            conv => whnf
            refine VE.app Try.underlying25 eInt rfl (by omega) (Hl0 _ (Nat.le_refl _)) E13 rfl HA13 (one_ints _) (by omega) (by omega) fun ov w14 E14 G14 HO => ?_
            have HO2 : OI w14 ov (digs rr.length N d) := by have := OI.of HO; exact this
            repeat' ((conv => whnf); first | (refine Dr.quiet tyOk (by kernel_rfl) ?_) | (refine Rng.mk (by omega) ?_) | (refine Split.pos (by omega) ?_) | (refine Split.neg (by omega) ?_) | (refine Split.mk (fun h => ?_) (fun h => ?_)) | (refine Need.mk (by omega) ?_) | (refine Ints.ln (by assumption) ?_) | (refine Mat.ln (by assumption) ?_) | (refine Ints.ln (Mat.row (by assumption) _ (by omega)) ?_) | (refine Ints.ix (by assumption) (by omega) ?_) | (refine Mat.ix (by assumption) (by omega) ?_) | (refine Ints.ix (Mat.row (by assumption) _ (by omega)) (by omega) ?_) | (refine Ints.ix (c := 0) (by assumption) (by omega) ?_) | (refine Mat.ix (c := 0) (by assumption) (by omega) ?_) | (refine Ints.ix (c := 0) (Mat.row (by assumption) _ (by omega)) (by omega) ?_) | (refine Ints.ixI (by assumption) (by omega) ?_) | (refine Mat.ixI (by assumption) (by omega) ?_) | (refine Ints.ixI (Mat.row (by assumption) _ (by omega)) (by omega) ?_) | (refine Ints.ld (by assumption) (by omega) ?_) | (refine Mat.ld (by assumption) (by omega) ?_) | (refine Ints.ld (Mat.row (by assumption) _ (by omega)) (by omega) ?_) | (refine At.ld (by assumption) rfl ?_) | (refine At.ldN (by assumption) rfl ?_) | (refine Prs.ln (by assumption) ?_) | (refine Trs.ln (by assumption) ?_) | (refine Prs.ix (by assumption) (by omega) ?_) | (refine Trs.ix (by assumption) (by omega) ?_) | (refine Prs.ldN (by assumption) (by omega) ?_) | (refine Trs.ldN (by assumption) (by omega) ?_) | (refine At.ldN (Blk.at (by assumption)) rfl ?_) | (refine At.ld (Blk.at (by assumption)) rfl ?_) | (refine IxA.mk (by omega) ?_) | (refine Sl.ln (Own.sl (by assumption)) ?_) | (refine Ints.ix (Own.sl (by assumption)) (by omega) ?_) | (refine Ints.ixI (Own.sl (by assumption)) (by omega) ?_) | (refine Ints.ld (Own.sl (by assumption)) (by omega) ?_))
            exact ⟨EE.trans E14, .inr (by rw [hcf]; exact ⟨hC, HO2⟩)⟩
          · rw [tf_f hC] at ci
            repeat' ((conv => whnf); first | (refine Dr.quiet tyOk (by kernel_rfl) ?_) | (refine VC.pure ci ?_) | (refine VCQ.pure ci ?_) | (refine Rng.mk (by omega) ?_) | (refine Split.pos (by omega) ?_) | (refine Split.neg (by omega) ?_) | (refine Split.mk (fun h => ?_) (fun h => ?_)) | (refine Need.mk (by omega) ?_) | (refine Ints.ln (by assumption) ?_) | (refine Mat.ln (by assumption) ?_) | (refine Ints.ln (Mat.row (by assumption) _ (by omega)) ?_) | (refine Ints.ix (by assumption) (by omega) ?_) | (refine Mat.ix (by assumption) (by omega) ?_) | (refine Ints.ix (Mat.row (by assumption) _ (by omega)) (by omega) ?_) | (refine Ints.ix (c := 0) (by assumption) (by omega) ?_) | (refine Mat.ix (c := 0) (by assumption) (by omega) ?_) | (refine Ints.ix (c := 0) (Mat.row (by assumption) _ (by omega)) (by omega) ?_) | (refine Ints.ixI (by assumption) (by omega) ?_) | (refine Mat.ixI (by assumption) (by omega) ?_) | (refine Ints.ixI (Mat.row (by assumption) _ (by omega)) (by omega) ?_) | (refine Ints.ld (by assumption) (by omega) ?_) | (refine Mat.ld (by assumption) (by omega) ?_) | (refine Ints.ld (Mat.row (by assumption) _ (by omega)) (by omega) ?_) | (refine At.ld (by assumption) rfl ?_) | (refine At.ldN (by assumption) rfl ?_) | (refine Prs.ln (by assumption) ?_) | (refine Trs.ln (by assumption) ?_) | (refine Prs.ix (by assumption) (by omega) ?_) | (refine Trs.ix (by assumption) (by omega) ?_) | (refine Prs.ldN (by assumption) (by omega) ?_) | (refine Trs.ldN (by assumption) (by omega) ?_) | (refine At.ldN (Blk.at (by assumption)) rfl ?_) | (refine At.ld (Blk.at (by assumption)) rfl ?_) | (refine IxA.mk (by omega) ?_) | (refine Sl.ln (Own.sl (by assumption)) ?_) | (refine Ints.ix (Own.sl (by assumption)) (by omega) ?_) | (refine Ints.ixI (Own.sl (by assumption)) (by omega) ?_) | (refine Ints.ld (Own.sl (by assumption)) (by omega) ?_))
            refine VC.rc (next_rc (n := rr.length) HA (fun i hi => hrg i (by rwa [hdl d] at hi)) (by omega)) ?_
            rintro _ w20 G20 ⟨rfl, HA20⟩
            have E20 := Own.keep HA EL2 (Nat.le_refl _) G20
            repeat' ((conv => whnf); first | (refine Dr.quiet tyOk (by kernel_rfl) ?_) | (refine Rng.mk (by omega) ?_) | (refine Split.pos (by omega) ?_) | (refine Split.neg (by omega) ?_) | (refine Split.mk (fun h => ?_) (fun h => ?_)) | (refine Need.mk (by omega) ?_) | (refine Ints.ln (by assumption) ?_) | (refine Mat.ln (by assumption) ?_) | (refine Ints.ln (Mat.row (by assumption) _ (by omega)) ?_) | (refine Ints.ix (by assumption) (by omega) ?_) | (refine Mat.ix (by assumption) (by omega) ?_) | (refine Ints.ix (Mat.row (by assumption) _ (by omega)) (by omega) ?_) | (refine Ints.ix (c := 0) (by assumption) (by omega) ?_) | (refine Mat.ix (c := 0) (by assumption) (by omega) ?_) | (refine Ints.ix (c := 0) (Mat.row (by assumption) _ (by omega)) (by omega) ?_) | (refine Ints.ixI (by assumption) (by omega) ?_) | (refine Mat.ixI (by assumption) (by omega) ?_) | (refine Ints.ixI (Mat.row (by assumption) _ (by omega)) (by omega) ?_) | (refine Ints.ld (by assumption) (by omega) ?_) | (refine Mat.ld (by assumption) (by omega) ?_) | (refine Ints.ld (Mat.row (by assumption) _ (by omega)) (by omega) ?_) | (refine At.ld (by assumption) rfl ?_) | (refine At.ldN (by assumption) rfl ?_) | (refine Prs.ln (by assumption) ?_) | (refine Trs.ln (by assumption) ?_) | (refine Prs.ix (by assumption) (by omega) ?_) | (refine Trs.ix (by assumption) (by omega) ?_) | (refine Prs.ldN (by assumption) (by omega) ?_) | (refine Trs.ldN (by assumption) (by omega) ?_) | (refine At.ldN (Blk.at (by assumption)) rfl ?_) | (refine At.ld (Blk.at (by assumption)) rfl ?_) | (refine IxA.mk (by omega) ?_) | (refine Sl.ln (Own.sl (by assumption)) ?_) | (refine Ints.ix (Own.sl (by assumption)) (by omega) ?_) | (refine Ints.ixI (Own.sl (by assumption)) (by omega) ?_) | (refine Ints.ld (Own.sl (by assumption)) (by omega) ?_))
            refine ⟨_, (by omega : (rr.length ^ N) - (d + 1) < (rr.length ^ N) - d), rfl, d + 1, by omega, rfl, (by rw [x1]), ⟨(nxt rr.length (digs rr.length N d)).2, by rw [nxt_len, hdl], x2, by show Go.Eng.Own _ 3 1 _ bv (nxt rr.length (digs rr.length N d)).2.length _; rw [nxt_len]; exact HA20⟩, all_succ hno hC, E20⟩
        · obtain rfl : d = rr.length ^ N := by omega
          rw [decide_eq_false (Nat.lt_irrefl _)]
          repeat' ((conv => whnf); first | (refine Dr.quiet tyOk (by kernel_rfl) ?_) | (refine Rng.mk (by omega) ?_) | (refine Split.pos (by omega) ?_) | (refine Split.neg (by omega) ?_) | (refine Split.mk (fun h => ?_) (fun h => ?_)) | (refine Need.mk (by omega) ?_) | (refine Ints.ln (by assumption) ?_) | (refine Mat.ln (by assumption) ?_) | (refine Ints.ln (Mat.row (by assumption) _ (by omega)) ?_) | (refine Ints.ix (by assumption) (by omega) ?_) | (refine Mat.ix (by assumption) (by omega) ?_) | (refine Ints.ix (Mat.row (by assumption) _ (by omega)) (by omega) ?_) | (refine Ints.ix (c := 0) (by assumption) (by omega) ?_) | (refine Mat.ix (c := 0) (by assumption) (by omega) ?_) | (refine Ints.ix (c := 0) (Mat.row (by assumption) _ (by omega)) (by omega) ?_) | (refine Ints.ixI (by assumption) (by omega) ?_) | (refine Mat.ixI (by assumption) (by omega) ?_) | (refine Ints.ixI (Mat.row (by assumption) _ (by omega)) (by omega) ?_) | (refine Ints.ld (by assumption) (by omega) ?_) | (refine Mat.ld (by assumption) (by omega) ?_) | (refine Ints.ld (Mat.row (by assumption) _ (by omega)) (by omega) ?_) | (refine At.ld (by assumption) rfl ?_) | (refine At.ldN (by assumption) rfl ?_) | (refine Prs.ln (by assumption) ?_) | (refine Trs.ln (by assumption) ?_) | (refine Prs.ix (by assumption) (by omega) ?_) | (refine Trs.ix (by assumption) (by omega) ?_) | (refine Prs.ldN (by assumption) (by omega) ?_) | (refine Trs.ldN (by assumption) (by omega) ?_) | (refine At.ldN (Blk.at (by assumption)) rfl ?_) | (refine At.ld (Blk.at (by assumption)) rfl ?_) | (refine IxA.mk (by omega) ?_) | (refine Sl.ln (Own.sl (by assumption)) ?_) | (refine Ints.ix (Own.sl (by assumption)) (by omega) ?_) | (refine Ints.ixI (Own.sl (by assumption)) (by omega) ?_) | (refine Ints.ld (Own.sl (by assumption)) (by omega) ?_))
          refine ⟨_, (by omega : (rr.length - 1) - (c + 1) < (rr.length - 1) - c), rfl, c + 1, by omega, rfl, (congrArg (Value.int .i64) (by omega)), fun l hl => ?_, EL1⟩
          refine Classical.byContradiction fun hlt => ?_
          have h5 := h1 l hl
          obtain ⟨k, hk, ek⟩ := digs_all hn1 hl.rng
          rw [show l.length = N by omega] at hk ek
          exact hno k hk (by rw [ek]; exact hl)
    · have hz := circ_zero (a := a) (fun l hl => by have := h1 l hl; omega)
      repeat' ((conv => whnf); first | (refine Dr.quiet tyOk (by kernel_rfl) ?_) | (refine Rng.mk (by omega) ?_) | (refine Split.pos (by omega) ?_) | (refine Split.neg (by omega) ?_) | (refine Split.mk (fun h => ?_) (fun h => ?_)) | (refine Need.mk (by omega) ?_) | (refine Ints.ln (by assumption) ?_) | (refine Mat.ln (by assumption) ?_) | (refine Ints.ln (Mat.row (by assumption) _ (by omega)) ?_) | (refine Ints.ix (by assumption) (by omega) ?_) | (refine Mat.ix (by assumption) (by omega) ?_) | (refine Ints.ix (Mat.row (by assumption) _ (by omega)) (by omega) ?_) | (refine Ints.ix (c := 0) (by assumption) (by omega) ?_) | (refine Mat.ix (c := 0) (by assumption) (by omega) ?_) | (refine Ints.ix (c := 0) (Mat.row (by assumption) _ (by omega)) (by omega) ?_) | (refine Ints.ixI (by assumption) (by omega) ?_) | (refine Mat.ixI (by assumption) (by omega) ?_) | (refine Ints.ixI (Mat.row (by assumption) _ (by omega)) (by omega) ?_) | (refine Ints.ld (by assumption) (by omega) ?_) | (refine Mat.ld (by assumption) (by omega) ?_) | (refine Ints.ld (Mat.row (by assumption) _ (by omega)) (by omega) ?_) | (refine At.ld (by assumption) rfl ?_) | (refine At.ldN (by assumption) rfl ?_) | (refine Prs.ln (by assumption) ?_) | (refine Trs.ln (by assumption) ?_) | (refine Prs.ix (by assumption) (by omega) ?_) | (refine Trs.ix (by assumption) (by omega) ?_) | (refine Prs.ldN (by assumption) (by omega) ?_) | (refine Trs.ldN (by assumption) (by omega) ?_) | (refine At.ldN (Blk.at (by assumption)) rfl ?_) | (refine At.ld (Blk.at (by assumption)) rfl ?_) | (refine IxA.mk (by omega) ?_) | (refine Sl.ln (Own.sl (by assumption)) ?_) | (refine Ints.ix (Own.sl (by assumption)) (by omega) ?_) | (refine Ints.ixI (Own.sl (by assumption)) (by omega) ?_) | (refine Ints.ld (Own.sl (by assumption)) (by omega) ?_))
      exact ⟨EE, .inl ⟨rfl, hz⟩⟩
end Go.Proofs.Ytebklnmafjbhcaa
set_option linter.unusedVariables false
set_option linter.unusedSimpArgs false
namespace Go.Proofs.Ytebklnmafjbhcaa
open Go.Eng
set_option maxRecDepth 100000
set_option maxHeartbeats 4000000

theorem rCircle_rc {w : World} {gv av : Value} {vs : List Value} {rr : List (List Int)} {a : List Int} (Hg : Mat w gv vs rr) (Ha : Ints w av a) :
    RC Try.prog 49 [.agg #[gv], av] w NoB (fun u w' => ∃ v, u = .tuple #[v, .int .i64 (vld rr a)] ∧ (vld rr a = 0 → CiR rr a w' v) ∧ (vld rr a ≠ 0 → v = .slice none 0 0)) := by
  refine RC.mk tyOk Try.func49 rfl (by kernel_rfl) fun w1 E1 => ?_
  replace Hg := Hg.ext E1
  replace Ha := Ha.ext E1
  have EE := Ext.refl w1
  refine Bx.agg fun b2 w2 E2 hb2 Hb _ => ?_
  replace Hg := Hg.ext E2
  replace Ha := Ha.ext E2
  replace EE := EE.ext E2
  have c1 := rvalid_pc Hg Ha
  by_cases hv : vld rr a = 0
  · rw [hv] at c1 ⊢
    repeat' ((conv => whnf); first | (refine Dr.quiet tyOk (by kernel_rfl) ?_) | (refine VC.pure c1 ?_) | (refine Rng.mk (by omega) ?_) | (refine Split.pos (by omega) ?_) | (refine Split.neg (by omega) ?_) | (refine Split.mk (fun h => ?_) (fun h => ?_)) | (refine Need.mk (by omega) ?_) | (refine Ints.ln (by assumption) ?_) | (refine Mat.ln (by assumption) ?_) | (refine Ints.ln (Mat.row (by assumption) _ (by omega)) ?_) | (refine Ints.ix (by assumption) (by omega) ?_) | (refine Mat.ix (by assumption) (by omega) ?_) | (refine Ints.ix (Mat.row (by assumption) _ (by omega)) (by omega) ?_) | (refine Ints.ix (c := 0) (by assumption) (by omega) ?_) | (refine Mat.ix (c := 0) (by assumption) (by omega) ?_) | (refine Ints.ix (c := 0) (Mat.row (by assumption) _ (by omega)) (by omega) ?_) | (refine Ints.ixI (by assumption) (by omega) ?_) | (refine Mat.ixI (by assumption) (by omega) ?_) | (refine Ints.ixI (Mat.row (by assumption) _ (by omega)) (by omega) ?_) | (refine Ints.ld (by assumption) (by omega) ?_) | (refine Mat.ld (by assumption) (by omega) ?_) | (refine Ints.ld (Mat.row (by assumption) _ (by omega)) (by omega) ?_) | (refine At.ld (by assumption) rfl ?_) | (refine At.ldN (by assumption) rfl ?_) | (refine Prs.ln (by assumption) ?_) | (refine Trs.ln (by assumption) ?_) | (refine Prs.ix (by assumption) (by omega) ?_) | (refine Trs.ix (by assumption) (by omega) ?_) | (refine Prs.ldN (by assumption) (by omega) ?_) | (refine Trs.ldN (by assumption) (by omega) ?_) | (refine At.ldN (Blk.at (by assumption)) rfl ?_) | (refine At.ld (Blk.at (by assumption)) rfl ?_) | (refine IxA.mk (by omega) ?_) | (refine Sl.ln (Own.sl (by assumption)) ?_) | (refine Ints.ix (Own.sl (by assumption)) (by omega) ?_) | (refine Ints.ixI (Own.sl (by assumption)) (by omega) ?_) | (refine Ints.ld (Own.sl (by assumption)) (by omega) ?_))
    conv => whnf
    refine VC.rc (rcircle_rc Hg Ha hv) ?_
    rintro _ w3 E3 HR
    replace Hg := Hg.ext E3
    replace Ha := Ha.ext E3
    replace EE := EE.ext E3
    replace Hb := Hb.ext E3
    repeat' ((conv => whnf); first | (refine Dr.quiet tyOk (by kernel_rfl) ?_) | (refine Rng.mk (by omega) ?_) | (refine Split.pos (by omega) ?_) | (refine Split.neg (by omega) ?_) | (refine Split.mk (fun h => ?_) (fun h => ?_)) | (refine Need.mk (by omega) ?_) | (refine Ints.ln (by assumption) ?_) | (refine Mat.ln (by assumption) ?_) | (refine Ints.ln (Mat.row (by assumption) _ (by omega)) ?_) | (refine Ints.ix (by assumption) (by omega) ?_) | (refine Mat.ix (by assumption) (by omega) ?_) | (refine Ints.ix (Mat.row (by assumption) _ (by omega)) (by omega) ?_) | (refine Ints.ix (c := 0) (by assumption) (by omega) ?_) | (refine Mat.ix (c := 0) (by assumption) (by omega) ?_) | (refine Ints.ix (c := 0) (Mat.row (by assumption) _ (by omega)) (by omega) ?_) | (refine Ints.ixI (by assumption) (by omega) ?_) | (refine Mat.ixI (by assumption) (by omega) ?_) | (refine Ints.ixI (Mat.row (by assumption) _ (by omega)) (by omega) ?_) | (refine Ints.ld (by assumption) (by omega) ?_) | (refine Mat.ld (by assumption) (by omega) ?_) | (refine Ints.ld (Mat.row (by assumption) _ (by omega)) (by omega) ?_) | (refine At.ld (by assumption) rfl ?_) | (refine At.ldN (by assumption) rfl ?_) | (refine Prs.ln (by assumption) ?_) | (refine Trs.ln (by assumption) ?_) | (refine Prs.ix (by assumption) (by omega) ?_) | (refine Trs.ix (by assumption) (by omega) ?_) | (refine Prs.ldN (by assumption) (by omega) ?_) | (refine Trs.ldN (by assumption) (by omega) ?_) | (refine At.ldN (Blk.at (by assumption)) rfl ?_) | (refine At.ld (Blk.at (by assumption)) rfl ?_) | (refine IxA.mk (by omega) ?_) | (refine Sl.ln (Own.sl (by assumption)) ?_) | (refine Ints.ix (Own.sl (by assumption)) (by omega) ?_) | (refine Ints.ixI (Own.sl (by assumption)) (by omega) ?_) | (refine Ints.ld (Own.sl (by assumption)) (by omega) ?_))
    exact ⟨EE, _, rfl, fun _ => HR, fun h => absurd rfl h⟩
  · repeat' ((conv => whnf); first | (refine Dr.quiet tyOk (by kernel_rfl) ?_) | (refine VC.pure c1 ?_) | (refine Rng.mk (by omega) ?_) | (refine Split.pos (by omega) ?_) | (refine Split.neg (by omega) ?_) | (refine Split.mk (fun h => ?_) (fun h => ?_)) | (refine Need.mk (by omega) ?_) | (refine Ints.ln (by assumption) ?_) | (refine Mat.ln (by assumption) ?_) | (refine Ints.ln (Mat.row (by assumption) _ (by omega)) ?_) | (refine Ints.ix (by assumption) (by omega) ?_) | (refine Mat.ix (by assumption) (by omega) ?_) | (refine Ints.ix (Mat.row (by assumption) _ (by omega)) (by omega) ?_) | (refine Ints.ix (c := 0) (by assumption) (by omega) ?_) | (refine Mat.ix (c := 0) (by assumption) (by omega) ?_) | (refine Ints.ix (c := 0) (Mat.row (by assumption) _ (by omega)) (by omega) ?_) | (refine Ints.ixI (by assumption) (by omega) ?_) | (refine Mat.ixI (by assumption) (by omega) ?_) | (refine Ints.ixI (Mat.row (by assumption) _ (by omega)) (by omega) ?_) | (refine Ints.ld (by assumption) (by omega) ?_) | (refine Mat.ld (by assumption) (by omega) ?_) | (refine Ints.ld (Mat.row (by assumption) _ (by omega)) (by omega) ?_) | (refine At.ld (by assumption) rfl ?_) | (refine At.ldN (by assumption) rfl ?_) | (refine Prs.ln (by assumption) ?_) | (refine Trs.ln (by assumption) ?_) | (refine Prs.ix (by assumption) (by omega) ?_) | (refine Trs.ix (by assumption) (by omega) ?_) | (refine Prs.ldN (by assumption) (by omega) ?_) | (refine Trs.ldN (by assumption) (by omega) ?_) | (refine At.ldN (Blk.at (by assumption)) rfl ?_) | (refine At.ld (Blk.at (by assumption)) rfl ?_) | (refine IxA.mk (by omega) ?_) | (refine Sl.ln (Own.sl (by assumption)) ?_) | (refine Ints.ix (Own.sl (by assumption)) (by omega) ?_) | (refine Ints.ixI (Own.sl (by assumption)) (by omega) ?_) | (refine Ints.ld (Own.sl (by assumption)) (by omega) ?_))
    exact ⟨EE, _, rfl, fun h => absurd h hv, fun _ => rfl⟩
theorem rUndo_rc {w : World} {gv av : Value} {vs : List Value} {rr : List (List Int)} {a : List Int} (Hg : Mat w gv vs rr) (Ha : Ints w av a) :
    RC Try.prog 51 [.agg #[gv], av] w NoB (fun u w' => ∃ v, u = .tuple #[v, .int .i64 (vld rr a)] ∧ (vld rr a = 0 → ∃ b, Und rr a b ∧ OI w' v b) ∧ (vld rr a ≠ 0 → v = .slice none 0 0)) := by
  refine RC.mk tyOk Try.func51 rfl (by kernel_rfl) fun w1 E1 => ?_
  replace Hg := Hg.ext E1
  replace Ha := Ha.ext E1
  have EE := Ext.refl w1
  refine Bx.agg fun b2 w2 E2 hb2 Hb _ => ?_
  replace Hg := Hg.ext E2
  replace Ha := Ha.ext E2
  replace EE := EE.ext E2
  have c1 := rvalid_pc Hg Ha
  by_cases hv : vld rr a = 0
  · have hal := al_of_vld hv
    have hm10 := hal.m10
    have hn1 := hal.n1
    have hn6 := hal.n6
    have hlen := hal.len
    have hp0 := (pot_bd hv).1
    rw [hv] at c1 ⊢
    repeat' ((conv => whnf); first | (refine Dr.quiet tyOk (by kernel_rfl) ?_) | (refine VC.pure c1 ?_) | (refine Rng.mk (by omega) ?_) | (refine Split.pos (by omega) ?_) | (refine Split.neg (by omega) ?_) | (refine Split.mk (fun h => ?_) (fun h => ?_)) | (refine Need.mk (by omega) ?_) | (refine Ints.ln (by assumption) ?_) | (refine Mat.ln (by assumption) ?_) | (refine Ints.ln (Mat.row (by assumption) _ (by omega)) ?_) | (refine Ints.ix (by assumption) (by omega) ?_) | (refine Mat.ix (by assumption) (by omega) ?_) | (refine Ints.ix (Mat.row (by assumption) _ (by omega)) (by omega) ?_) | (refine Ints.ix (c := 0) (by assumption) (by omega) ?_) | (refine Mat.ix (c := 0) (by assumption) (by omega) ?_) | (refine Ints.ix (c := 0) (Mat.row (by assumption) _ (by omega)) (by omega) ?_) | (refine Ints.ixI (by assumption) (by omega) ?_) | (refine Mat.ixI (by assumption) (by omega) ?_) | (refine Ints.ixI (Mat.row (by assumption) _ (by omega)) (by omega) ?_) | (refine Ints.ld (by assumption) (by omega) ?_) | (refine Mat.ld (by assumption) (by omega) ?_) | (refine Ints.ld (Mat.row (by assumption) _ (by omega)) (by omega) ?_) | (refine At.ld (by assumption) rfl ?_) | (refine At.ldN (by assumption) rfl ?_) | (refine Prs.ln (by assumption) ?_) | (refine Trs.ln (by assumption) ?_) | (refine Prs.ix (by assumption) (by omega) ?_) | (refine Trs.ix (by assumption) (by omega) ?_) | (refine Prs.ldN (by assumption) (by omega) ?_) | (refine Trs.ldN (by assumption) (by omega) ?_) | (refine At.ldN (Blk.at (by assumption)) rfl ?_) | (refine At.ld (Blk.at (by assumption)) rfl ?_) | (refine IxA.mk (by omega) ?_) | (refine Sl.ln (Own.sl (by assumption)) ?_) | (refine Ints.ix (Own.sl (by assumption)) (by omega) ?_) | (refine Ints.ixI (Own.sl (by assumption)) (by omega) ?_) | (refine Ints.ld (Own.sl (by assumption)) (by omega) ?_))
    refine VE.lit0 Try.underlying25 eInt fun l0 w3 E3 Hl0 => ?_
    have Ha0 := Ha.ext E3
    conv => whnf
    refine VE.app Try.underlying25 eInt rfl (by omega) (Hl0 _ (Nat.le_refl _)) E3 rfl Ha0 (one_ints _) (by omega) (by omega) fun ov w4 E4 G4 HO => ?_
    replace HO : OI w4 ov a := by have := OI.of HO; exact this
    replace Hg := Hg.ext E4
    replace Ha := Ha.ext E4
    replace EE := EE.ext E4
    replace Hb := Hb.ext E4
    repeat' ((conv => whnf); first | (refine Dr.quiet tyOk (by kernel_rfl) ?_) | (refine Rng.mk (by omega) ?_) | (refine Split.pos (by omega) ?_) | (refine Split.neg (by omega) ?_) | (refine Split.mk (fun h => ?_) (fun h => ?_)) | (refine Need.mk (by omega) ?_) | (refine Ints.ln (by assumption) ?_) | (refine Mat.ln (by assumption) ?_) | (refine Ints.ln (Mat.row (by assumption) _ (by omega)) ?_) | (refine Ints.ix (by assumption) (by omega) ?_) | (refine Mat.ix (by assumption) (by omega) ?_) | (refine Ints.ix (Mat.row (by assumption) _ (by omega)) (by omega) ?_) | (refine Ints.ix (c := 0) (by assumption) (by omega) ?_) | (refine Mat.ix (c := 0) (by assumption) (by omega) ?_) | (refine Ints.ix (c := 0) (Mat.row (by assumption) _ (by omega)) (by omega) ?_) | (refine Ints.ixI (by assumption) (by omega) ?_) | (refine Mat.ixI (by assumption) (by omega) ?_) | (refine Ints.ixI (Mat.row (by assumption) _ (by omega)) (by omega) ?_) | (refine Ints.ld (by assumption) (by omega) ?_) | (refine Mat.ld (by assumption) (by omega) ?_) | (refine Ints.ld (Mat.row (by assumption) _ (by omega)) (by omega) ?_) | (refine At.ld (by assumption) rfl ?_) | (refine At.ldN (by assumption) rfl ?_) | (refine Prs.ln (by assumption) ?_) | (refine Trs.ln (by assumption) ?_) | (refine Prs.ix (by assumption) (by omega) ?_) | (refine Trs.ix (by assumption) (by omega) ?_) | (refine Prs.ldN (by assumption) (by omega) ?_) | (refine Trs.ldN (by assumption) (by omega) ?_) | (refine At.ldN (Blk.at (by assumption)) rfl ?_) | (refine At.ld (Blk.at (by assumption)) rfl ?_) | (refine IxA.mk (by omega) ?_) | (refine Sl.ln (Own.sl (by assumption)) ?_) | (refine Ints.ix (Own.sl (by assumption)) (by omega) ?_) | (refine Ints.ixI (Own.sl (by assumption)) (by omega) ?_) | (refine Ints.ld (Own.sl (by assumption)) (by omega) ?_))
    have Hg__1 := Hg
    have Ha__1 := Ha
    have EE__1 := EE
    have Hb__1 := Hb
    have HO__1 := HO
    have hz1 := Nat.le_trans E1.size EE.size
    refine Lp.mk tyOk [false, false, false, false, true, true, true, true, false, false, false, false, false, false, false, false, false, false, true, true, true, true, true, true, true, true, true, true] (fun m fr wr => getK fr 6 fun qv => ∃ c : Nat, c ≤ 60001 ∧ m = 60001 - c ∧ ((∃ b, vld rr b = 0 ∧ OI wr qv b ∧ (c : Int) ≤ pot rr b ∧ ∀ z, Und rr b z → Und rr a z)) ∧ Ext w4 wr) (60001) ?_ ?_
    · exact ⟨0, Nat.zero_le _, rfl, ⟨a, hv, HO, by omega, fun z h => h⟩, Ext.refl _⟩
    · intro m w5 u4 u5 u6 u7 u18 u19 u20 u21 u22 u23 u24 u25 u26 u27 hR
      obtain ⟨c, hc, rfl, HL, EL1⟩ := hR
      replace Hg := Hg__1.ext EL1
      replace Ha := Ha__1.ext EL1
      replace EE := EE__1.ext EL1
      replace Hb := Hb__1.ext EL1
      replace HO := HO__1.ext EL1
      obtain ⟨b, hvb, HB, hcb, hz⟩ := HL
      have hpb := pot_bd hvb
      repeat' ((conv => whnf); first | (refine Dr.quiet tyOk (by kernel_rfl) ?_) | (refine Rng.mk (by omega) ?_) | (refine Split.pos (by omega) ?_) | (refine Split.neg (by omega) ?_) | (refine Split.mk (fun h => ?_) (fun h => ?_)) | (refine Need.mk (by omega) ?_) | (refine Ints.ln (by assumption) ?_) | (refine Mat.ln (by assumption) ?_) | (refine Ints.ln (Mat.row (by assumption) _ (by omega)) ?_) | (refine Ints.ix (by assumption) (by omega) ?_) | (refine Mat.ix (by assumption) (by omega) ?_) | (refine Ints.ix (Mat.row (by assumption) _ (by omega)) (by omega) ?_) | (refine Ints.ix (c := 0) (by assumption) (by omega) ?_) | (refine Mat.ix (c := 0) (by assumption) (by omega) ?_) | (refine Ints.ix (c := 0) (Mat.row (by assumption) _ (by omega)) (by omega) ?_) | (refine Ints.ixI (by assumption) (by omega) ?_) | (refine Mat.ixI (by assumption) (by omega) ?_) | (refine Ints.ixI (Mat.row (by assumption) _ (by omega)) (by omega) ?_) | (refine Ints.ld (by assumption) (by omega) ?_) | (refine Mat.ld (by assumption) (by omega) ?_) | (refine Ints.ld (Mat.row (by assumption) _ (by omega)) (by omega) ?_) | (refine At.ld (by assumption) rfl ?_) | (refine At.ldN (by assumption) rfl ?_) | (refine Prs.ln (by assumption) ?_) | (refine Trs.ln (by assumption) ?_) | (refine Prs.ix (by assumption) (by omega) ?_) | (refine Trs.ix (by assumption) (by omega) ?_) | (refine Prs.ldN (by assumption) (by omega) ?_) | (refine Trs.ldN (by assumption) (by omega) ?_) | (refine At.ldN (Blk.at (by assumption)) rfl ?_) | (refine At.ld (Blk.at (by assumption)) rfl ?_) | (refine IxA.mk (by omega) ?_) | (refine Sl.ln (Own.sl (by assumption)) ?_) | (refine Ints.ix (Own.sl (by assumption)) (by omega) ?_) | (refine Ints.ixI (Own.sl (by assumption)) (by omega) ?_) | (refine Ints.ld (Own.sl (by assumption)) (by omega) ?_))
      conv => whnf
      refine VC.rc (rcircle_rc Hg (Own.sl HB) hvb) ?_
      rintro _ w6 E6 HR
      replace Hg := Hg.ext E6
      replace Ha := Ha.ext E6
      replace EE := EE.ext E6
      replace Hb := Hb.ext E6
      replace HO := HO.ext E6
      replace EL1 := EL1.ext E6
      replace HB := HB.ext E6
      rcases HR with ⟨rfl, hnil⟩ | ⟨hC, HI⟩
      · have hz0 : Ints w6 (.slice none 0 0) [] := Own.sl (B := 0) (e := 3) Own.nil
        have hl00 : ([] : List Int).length = 0 := rfl
        repeat' ((conv => whnf); first | (refine Dr.quiet tyOk (by kernel_rfl) ?_) | (refine Rng.mk (by omega) ?_) | (refine Split.pos (by omega) ?_) | (refine Split.neg (by omega) ?_) | (refine Split.mk (fun h => ?_) (fun h => ?_)) | (refine Need.mk (by omega) ?_) | (refine Ints.ln (by assumption) ?_) | (refine Mat.ln (by assumption) ?_) | (refine Ints.ln (Mat.row (by assumption) _ (by omega)) ?_) | (refine Ints.ix (by assumption) (by omega) ?_) | (refine Mat.ix (by assumption) (by omega) ?_) | (refine Ints.ix (Mat.row (by assumption) _ (by omega)) (by omega) ?_) | (refine Ints.ix (c := 0) (by assumption) (by omega) ?_) | (refine Mat.ix (c := 0) (by assumption) (by omega) ?_) | (refine Ints.ix (c := 0) (Mat.row (by assumption) _ (by omega)) (by omega) ?_) | (refine Ints.ixI (by assumption) (by omega) ?_) | (refine Mat.ixI (by assumption) (by omega) ?_) | (refine Ints.ixI (Mat.row (by assumption) _ (by omega)) (by omega) ?_) | (refine Ints.ld (by assumption) (by omega) ?_) | (refine Mat.ld (by assumption) (by omega) ?_) | (refine Ints.ld (Mat.row (by assumption) _ (by omega)) (by omega) ?_) | (refine At.ld (by assumption) rfl ?_) | (refine At.ldN (by assumption) rfl ?_) | (refine Prs.ln (by assumption) ?_) | (refine Trs.ln (by assumption) ?_) | (refine Prs.ix (by assumption) (by omega) ?_) | (refine Trs.ix (by assumption) (by omega) ?_) | (refine Prs.ldN (by assumption) (by omega) ?_) | (refine Trs.ldN (by assumption) (by omega) ?_) | (refine At.ldN (Blk.at (by assumption)) rfl ?_) | (refine At.ld (Blk.at (by assumption)) rfl ?_) | (refine IxA.mk (by omega) ?_) | (refine Sl.ln (Own.sl (by assumption)) ?_) | (refine Ints.ix (Own.sl (by assumption)) (by omega) ?_) | (refine Ints.ixI (Own.sl (by assumption)) (by omega) ?_) | (refine Ints.ld (Own.sl (by assumption)) (by omega) ?_))
        exact ⟨EE, _, rfl, fun _ => ⟨b, hz _ (.stop hnil), HB⟩, fun h => absurd rfl h⟩
      · have hCl := hC.len
        have hne : circ rr b ≠ [] := fun e => by rw [e] at hCl; simp at hCl
        have hpu := pot_up hvb hC
        repeat' ((conv => whnf); first | (refine Dr.quiet tyOk (by kernel_rfl) ?_) | (refine Rng.mk (by omega) ?_) | (refine Split.pos (by omega) ?_) | (refine Split.neg (by omega) ?_) | (refine Split.mk (fun h => ?_) (fun h => ?_)) | (refine Need.mk (by omega) ?_) | (refine Ints.ln (by assumption) ?_) | (refine Mat.ln (by assumption) ?_) | (refine Ints.ln (Mat.row (by assumption) _ (by omega)) ?_) | (refine Ints.ix (by assumption) (by omega) ?_) | (refine Mat.ix (by assumption) (by omega) ?_) | (refine Ints.ix (Mat.row (by assumption) _ (by omega)) (by omega) ?_) | (refine Ints.ix (c := 0) (by assumption) (by omega) ?_) | (refine Mat.ix (c := 0) (by assumption) (by omega) ?_) | (refine Ints.ix (c := 0) (Mat.row (by assumption) _ (by omega)) (by omega) ?_) | (refine Ints.ixI (by assumption) (by omega) ?_) | (refine Mat.ixI (by assumption) (by omega) ?_) | (refine Ints.ixI (Mat.row (by assumption) _ (by omega)) (by omega) ?_) | (refine Ints.ld (by assumption) (by omega) ?_) | (refine Mat.ld (by assumption) (by omega) ?_) | (refine Ints.ld (Mat.row (by assumption) _ (by omega)) (by omega) ?_) | (refine At.ld (by assumption) rfl ?_) | (refine At.ldN (by assumption) rfl ?_) | (refine Prs.ln (by assumption) ?_) | (refine Trs.ln (by assumption) ?_) | (refine Prs.ix (by assumption) (by omega) ?_) | (refine Trs.ix (by assumption) (by omega) ?_) | (refine Prs.ldN (by assumption) (by omega) ?_) | (refine Trs.ldN (by assumption) (by omega) ?_) | (refine At.ldN (Blk.at (by assumption)) rfl ?_) | (refine At.ld (Blk.at (by assumption)) rfl ?_) | (refine IxA.mk (by omega) ?_) | (refine Sl.ln (Own.sl (by assumption)) ?_) | (refine Ints.ix (Own.sl (by assumption)) (by omega) ?_) | (refine Ints.ixI (Own.sl (by assumption)) (by omega) ?_) | (refine Ints.ld (Own.sl (by assumption)) (by omega) ?_))
        conv => whnf
        refine VC.rc (rpassed_rc (rr := rr) (Own.sl HB) (Own.sl HI) hvb hC.ags) ?_
        rintro _ w7 E7 HB2
        replace Hg := Hg.ext E7
        replace Ha := Ha.ext E7
        replace EE := EE.ext E7
        replace Hb := Hb.ext E7
        replace HO := HO.ext E7
        replace EL1 := EL1.ext E7
        replace HB := HB.ext E7
        replace HB2 := Own.base HB2 (Nat.zero_le _)
        have hv2 := vld_pas hvb hC.ags
        repeat' ((conv => whnf); first | (refine Dr.quiet tyOk (by kernel_rfl) ?_) | (refine Rng.mk (by omega) ?_) | (refine Split.pos (by omega) ?_) | (refine Split.neg (by omega) ?_) | (refine Split.mk (fun h => ?_) (fun h => ?_)) | (refine Need.mk (by omega) ?_) | (refine Ints.ln (by assumption) ?_) | (refine Mat.ln (by assumption) ?_) | (refine Ints.ln (Mat.row (by assumption) _ (by omega)) ?_) | (refine Ints.ix (by assumption) (by omega) ?_) | (refine Mat.ix (by assumption) (by omega) ?_) | (refine Ints.ix (Mat.row (by assumption) _ (by omega)) (by omega) ?_) | (refine Ints.ix (c := 0) (by assumption) (by omega) ?_) | (refine Mat.ix (c := 0) (by assumption) (by omega) ?_) | (refine Ints.ix (c := 0) (Mat.row (by assumption) _ (by omega)) (by omega) ?_) | (refine Ints.ixI (by assumption) (by omega) ?_) | (refine Mat.ixI (by assumption) (by omega) ?_) | (refine Ints.ixI (Mat.row (by assumption) _ (by omega)) (by omega) ?_) | (refine Ints.ld (by assumption) (by omega) ?_) | (refine Mat.ld (by assumption) (by omega) ?_) | (refine Ints.ld (Mat.row (by assumption) _ (by omega)) (by omega) ?_) | (refine At.ld (by assumption) rfl ?_) | (refine At.ldN (by assumption) rfl ?_) | (refine Prs.ln (by assumption) ?_) | (refine Trs.ln (by assumption) ?_) | (refine Prs.ix (by assumption) (by omega) ?_) | (refine Trs.ix (by assumption) (by omega) ?_) | (refine Prs.ldN (by assumption) (by omega) ?_) | (refine Trs.ldN (by assumption) (by omega) ?_) | (refine At.ldN (Blk.at (by assumption)) rfl ?_) | (refine At.ld (Blk.at (by assumption)) rfl ?_) | (refine IxA.mk (by omega) ?_) | (refine Sl.ln (Own.sl (by assumption)) ?_) | (refine Ints.ix (Own.sl (by assumption)) (by omega) ?_) | (refine Ints.ixI (Own.sl (by assumption)) (by omega) ?_) | (refine Ints.ld (Own.sl (by assumption)) (by omega) ?_))
        refine ⟨_, (by omega : 60001 - (c + 1) < 60001 - c), rfl, c + 1, by omega, rfl, ⟨_, hv2, HB2, by omega, fun z h => hz z (.go hne h)⟩, EL1⟩
  · repeat' ((conv => whnf); first | (refine Dr.quiet tyOk (by kernel_rfl) ?_) | (refine VC.pure c1 ?_) | (refine Rng.mk (by omega) ?_) | (refine Split.pos (by omega) ?_) | (refine Split.neg (by omega) ?_) | (refine Split.mk (fun h => ?_) (fun h => ?_)) | (refine Need.mk (by omega) ?_) | (refine Ints.ln (by assumption) ?_) | (refine Mat.ln (by assumption) ?_) | (refine Ints.ln (Mat.row (by assumption) _ (by omega)) ?_) | (refine Ints.ix (by assumption) (by omega) ?_) | (refine Mat.ix (by assumption) (by omega) ?_) | (refine Ints.ix (Mat.row (by assumption) _ (by omega)) (by omega) ?_) | (refine Ints.ix (c := 0) (by assumption) (by omega) ?_) | (refine Mat.ix (c := 0) (by assumption) (by omega) ?_) | (refine Ints.ix (c := 0) (Mat.row (by assumption) _ (by omega)) (by omega) ?_) | (refine Ints.ixI (by assumption) (by omega) ?_) | (refine Mat.ixI (by assumption) (by omega) ?_) | (refine Ints.ixI (Mat.row (by assumption) _ (by omega)) (by omega) ?_) | (refine Ints.ld (by assumption) (by omega) ?_) | (refine Mat.ld (by assumption) (by omega) ?_) | (refine Ints.ld (Mat.row (by assumption) _ (by omega)) (by omega) ?_) | (refine At.ld (by assumption) rfl ?_) | (refine At.ldN (by assumption) rfl ?_) | (refine Prs.ln (by assumption) ?_) | (refine Trs.ln (by assumption) ?_) | (refine Prs.ix (by assumption) (by omega) ?_) | (refine Trs.ix (by assumption) (by omega) ?_) | (refine Prs.ldN (by assumption) (by omega) ?_) | (refine Trs.ldN (by assumption) (by omega) ?_) | (refine At.ldN (Blk.at (by assumption)) rfl ?_) | (refine At.ld (Blk.at (by assumption)) rfl ?_) | (refine IxA.mk (by omega) ?_) | (refine Sl.ln (Own.sl (by assumption)) ?_) | (refine Ints.ix (Own.sl (by assumption)) (by omega) ?_) | (refine Ints.ixI (Own.sl (by assumption)) (by omega) ?_) | (refine Ints.ld (Own.sl (by assumption)) (by omega) ?_))
    exact ⟨EE, _, rfl, fun h => absurd h hv, fun _ => rfl⟩

def great19 (rr : List (List Int)) (a : List Int) : Prop := great rr a ∨ chk rr = 0 ∧ 4 < rr.length
theorem great19_pc {w : World} {gv av : Value} {vs : List Value} {rr : List (List Int)} {a : List Int} (Hg : Mat w gv vs rr) (Ha : Ints w av a) :
    PC Try.prog 47 [.agg #[gv], av] w (.bool (tf (great19 rr a))) := by
  refine PC.mk tyOk Try.func47 rfl (by kernel_rfl) fun w1 E1 => ?_
  replace Hg := Hg.ext E1
  replace Ha := Ha.ext E1
  have EE := Ext.refl w1
  refine Bx.agg fun b2 w2 E2 hb2 Hb _ => ?_
  replace Hg := Hg.ext E2
  replace Ha := Ha.ext E2
  replace EE := EE.ext E2
  have c2 := rcheck_pc Hg
  have hc := great_pc Hg Ha
  by_cases hgr : great rr a
  · rw [tf_t hgr] at hc
    rw [tf_t (p := great19 rr a) (.inl hgr)]
    repeat' ((conv => whnf); first | (refine Dr.quiet tyOk (by kernel_rfl) ?_) | (refine VC.pure hc ?_) | (refine Rng.mk (by omega) ?_) | (refine Split.pos (by omega) ?_) | (refine Split.neg (by omega) ?_) | (refine Split.mk (fun h => ?_) (fun h => ?_)) | (refine Need.mk (by omega) ?_) | (refine Ints.ln (by assumption) ?_) | (refine Mat.ln (by assumption) ?_) | (refine Ints.ln (Mat.row (by assumption) _ (by omega)) ?_) | (refine Ints.ix (by assumption) (by omega) ?_) | (refine Mat.ix (by assumption) (by omega) ?_) | (refine Ints.ix (Mat.row (by assumption) _ (by omega)) (by omega) ?_) | (refine Ints.ix (c := 0) (by assumption) (by omega) ?_) | (refine Mat.ix (c := 0) (by assumption) (by omega) ?_) | (refine Ints.ix (c := 0) (Mat.row (by assumption) _ (by omega)) (by omega) ?_) | (refine Ints.ixI (by assumption) (by omega) ?_) | (refine Mat.ixI (by assumption) (by omega) ?_) | (refine Ints.ixI (Mat.row (by assumption) _ (by omega)) (by omega) ?_) | (refine Ints.ld (by assumption) (by omega) ?_) | (refine Mat.ld (by assumption) (by omega) ?_) | (refine Ints.ld (Mat.row (by assumption) _ (by omega)) (by omega) ?_) | (refine At.ld (by assumption) rfl ?_) | (refine At.ldN (by assumption) rfl ?_) | (refine Prs.ln (by assumption) ?_) | (refine Trs.ln (by assumption) ?_) | (refine Prs.ix (by assumption) (by omega) ?_) | (refine Trs.ix (by assumption) (by omega) ?_) | (refine Prs.ldN (by assumption) (by omega) ?_) | (refine Trs.ldN (by assumption) (by omega) ?_) | (refine At.ldN (Blk.at (by assumption)) rfl ?_) | (refine At.ld (Blk.at (by assumption)) rfl ?_) | (refine IxA.mk (by omega) ?_) | (refine Sl.ln (Own.sl (by assumption)) ?_) | (refine Ints.ix (Own.sl (by assumption)) (by omega) ?_) | (refine Ints.ixI (Own.sl (by assumption)) (by omega) ?_) | (refine Ints.ld (Own.sl (by assumption)) (by omega) ?_))
    exact ⟨rfl, EE⟩
  · rw [tf_f hgr] at hc
    by_cases hv : chk rr = 0
    · have hn1 := (gd_of_chk hv).n1
      repeat' ((conv => whnf); first | (refine Dr.quiet tyOk (by kernel_rfl) ?_) | (refine VC.pure hc ?_) | (refine VC.pure c2 ?_) | (refine Rng.mk (by omega) ?_) | (refine Split.pos (by omega) ?_) | (refine Split.neg (by omega) ?_) | (refine Split.mk (fun h => ?_) (fun h => ?_)) | (refine Need.mk (by omega) ?_) | (refine Ints.ln (by assumption) ?_) | (refine Mat.ln (by assumption) ?_) | (refine Ints.ln (Mat.row (by assumption) _ (by omega)) ?_) | (refine Ints.ix (by assumption) (by omega) ?_) | (refine Mat.ix (by assumption) (by omega) ?_) | (refine Ints.ix (Mat.row (by assumption) _ (by omega)) (by omega) ?_) | (refine Ints.ix (c := 0) (by assumption) (by omega) ?_) | (refine Mat.ix (c := 0) (by assumption) (by omega) ?_) | (refine Ints.ix (c := 0) (Mat.row (by assumption) _ (by omega)) (by omega) ?_) | (refine Ints.ixI (by assumption) (by omega) ?_) | (refine Mat.ixI (by assumption) (by omega) ?_) | (refine Ints.ixI (Mat.row (by assumption) _ (by omega)) (by omega) ?_) | (refine Ints.ld (by assumption) (by omega) ?_) | (refine Mat.ld (by assumption) (by omega) ?_) | (refine Ints.ld (Mat.row (by assumption) _ (by omega)) (by omega) ?_) | (refine At.ld (by assumption) rfl ?_) | (refine At.ldN (by assumption) rfl ?_) | (refine Prs.ln (by assumption) ?_) | (refine Trs.ln (by assumption) ?_) | (refine Prs.ix (by assumption) (by omega) ?_) | (refine Trs.ix (by assumption) (by omega) ?_) | (refine Prs.ldN (by assumption) (by omega) ?_) | (refine Trs.ldN (by assumption) (by omega) ?_) | (refine At.ldN (Blk.at (by assumption)) rfl ?_) | (refine At.ld (Blk.at (by assumption)) rfl ?_) | (refine IxA.mk (by omega) ?_) | (refine Sl.ln (Own.sl (by assumption)) ?_) | (refine Ints.ix (Own.sl (by assumption)) (by omega) ?_) | (refine Ints.ixI (Own.sl (by assumption)) (by omega) ?_) | (refine Ints.ld (Own.sl (by assumption)) (by omega) ?_))
      all_goals first
        | (rw [tf_t (p := great19 rr a) (.inr ⟨hv, by omega⟩)]; exact ⟨rfl, EE⟩)
        | (rw [tf_f (p := great19 rr a) (by rintro (h | h); exact hgr h; omega)]; exact ⟨rfl, EE⟩)
    · rw [tf_f (p := great19 rr a) (by rintro (h | h); exact hgr h; exact hv h.1)]
      repeat' ((conv => whnf); first | (refine Dr.quiet tyOk (by kernel_rfl) ?_) | (refine VC.pure hc ?_) | (refine VC.pure c2 ?_) | (refine Rng.mk (by omega) ?_) | (refine Split.pos (by omega) ?_) | (refine Split.neg (by omega) ?_) | (refine Split.mk (fun h => ?_) (fun h => ?_)) | (refine Need.mk (by omega) ?_) | (refine Ints.ln (by assumption) ?_) | (refine Mat.ln (by assumption) ?_) | (refine Ints.ln (Mat.row (by assumption) _ (by omega)) ?_) | (refine Ints.ix (by assumption) (by omega) ?_) | (refine Mat.ix (by assumption) (by omega) ?_) | (refine Ints.ix (Mat.row (by assumption) _ (by omega)) (by omega) ?_) | (refine Ints.ix (c := 0) (by assumption) (by omega) ?_) | (refine Mat.ix (c := 0) (by assumption) (by omega) ?_) | (refine Ints.ix (c := 0) (Mat.row (by assumption) _ (by omega)) (by omega) ?_) | (refine Ints.ixI (by assumption) (by omega) ?_) | (refine Mat.ixI (by assumption) (by omega) ?_) | (refine Ints.ixI (Mat.row (by assumption) _ (by omega)) (by omega) ?_) | (refine Ints.ld (by assumption) (by omega) ?_) | (refine Mat.ld (by assumption) (by omega) ?_) | (refine Ints.ld (Mat.row (by assumption) _ (by omega)) (by omega) ?_) | (refine At.ld (by assumption) rfl ?_) | (refine At.ldN (by assumption) rfl ?_) | (refine Prs.ln (by assumption) ?_) | (refine Trs.ln (by assumption) ?_) | (refine Prs.ix (by assumption) (by omega) ?_) | (refine Trs.ix (by assumption) (by omega) ?_) | (refine Prs.ldN (by assumption) (by omega) ?_) | (refine Trs.ldN (by assumption) (by omega) ?_) | (refine At.ldN (Blk.at (by assumption)) rfl ?_) | (refine At.ld (Blk.at (by assumption)) rfl ?_) | (refine IxA.mk (by omega) ?_) | (refine Sl.ln (Own.sl (by assumption)) ?_) | (refine Ints.ix (Own.sl (by assumption)) (by omega) ?_) | (refine Ints.ixI (Own.sl (by assumption)) (by omega) ?_) | (refine Ints.ld (Own.sl (by assumption)) (by omega) ?_))
      exact ⟨rfl, EE⟩
end Go.Proofs.Ytebklnmafjbhcaa
set_option linter.unusedVariables false
set_option linter.unusedSimpArgs false
namespace Go.Eng
open Go.RowKit Go.ChangeShapes Go.WideShapes Go.ChangeAt Go.Deep

abbrev V3 := Value × Int × Int
abbrev S3 := List Int × Int × Int
def flatV : List V3 → List Value
  | [] => []
  | p :: r => p.1 :: i64v p.2.1 :: i64v p.2.2 :: flatV r
theorem flatV_len : ∀ l : List V3, (flatV l).length = l.length * 3
  | [] => rfl
  | _ :: r => by simp [flatV, flatV_len r]; omega
theorem flatV_app : ∀ a b : List V3, flatV (a ++ b) = flatV a ++ flatV b
  | [], _ => rfl
  | _ :: r, b => by simp [flatV, flatV_app r b]
abbrev v30 : V3 := (undef, 0, 0)
abbrev s30 : S3 := ([], 0, 0)
theorem flatV_get : ∀ (l : List V3) (c : Nat), c < l.length → (flatV l)[c * 3]? = some (l.getD c v30).1 ∧ (flatV l)[c * 3 + 1]? = some (i64v (l.getD c v30).2.1) ∧ (flatV l)[c * 3 + 2]? = some (i64v (l.getD c v30).2.2)
  | [], _, h => absurd h (Nat.not_lt_zero _)
  | p :: r, 0, _ => by simp [flatV]
  | p :: r, c + 1, h => by
    have := flatV_get r c (by simpa using h)
    rw [show (c + 1) * 3 = c * 3 + 1 + 1 + 1 by omega, show c * 3 + 1 + 1 + 1 + 1 = (c * 3 + 1) + 1 + 1 + 1 by omega, show c * 3 + 1 + 1 + 1 + 2 = (c * 3 + 2) + 1 + 1 + 1 by omega]
    simpa [flatV] using this

/-- the records behind the cells: the lists lie in the world -/
structure Rws (w : World) (L : List V3) (S : List S3) : Prop where
  len : L.length = S.length
  row : ∀ i, i < S.length → Ints w (L.getD i v30).1 (S.getD i s30).1
  num : ∀ i, i < S.length → (L.getD i v30).2 = (S.getD i s30).2
theorem Rws.ext {w w' : World} {L : List V3} {S : List S3} (h : Rws w L S) (hg : Ext w w') : Rws w' L S := ⟨h.len, fun i hi => (h.row i hi).ext hg, h.num⟩
theorem Rws.nil {w : World} : Rws w [] [] := ⟨rfl, fun i hi => absurd hi (Nat.not_lt_zero _), fun i hi => absurd hi (Nat.not_lt_zero _)⟩
theorem Rws.snoc {w : World} {L : List V3} {S : List S3} {u : Value} {l : List Int} {x y : Int} (h : Rws w L S) (hu : Ints w u l) : Rws w (L ++ [(u, x, y)]) (S ++ [(l, x, y)]) := by
  have hl := h.len
  have g1 : ∀ i, i < L.length → (L ++ [(u, x, y)]).getD i v30 = L.getD i v30 := fun i hi => by simp only [List.getD]; rw [List.getElem?_append_left hi]
  have g2 : ∀ i, i < S.length → (S ++ [(l, x, y)]).getD i s30 = S.getD i s30 := fun i hi => by simp only [List.getD]; rw [List.getElem?_append_left hi]
  have e1 : (L ++ [(u, x, y)]).getD L.length v30 = (u, x, y) := by simp [List.getD]
  have e2 : (S ++ [(l, x, y)]).getD S.length s30 = (l, x, y) := by simp [List.getD]
  refine ⟨by simp [hl], fun i hi => ?_, fun i hi => ?_⟩
  · rw [List.length_append, List.length_singleton] at hi
    by_cases e : i = S.length
    · subst e; rw [e2, ← hl, e1]; exact hu
    · rw [g1 i (by omega), g2 i (by omega)]; exact h.row i (by omega)
  · rw [List.length_append, List.length_singleton] at hi
    by_cases e : i = S.length
    · subst e; rw [e2, ← hl, e1]
    · rw [g1 i (by omega), g2 i (by omega)]; exact h.num i (by omega)
/-- A slice of such records. -/
structure Sps (w : World) (v : Value) (L : List V3) (S : List S3) : Prop where
  top : Sl 3 w v S.length (flatV L)
  rws : Rws w L S
section
variable {w w' : World} {v : Value} {L : List V3} {S : List S3} {K : Value → Prop}
theorem Sps.ext (h : Sps w v L S) (hg : Ext w w') : Sps w' v L S := ⟨Sl.ext h.top hg, h.rws.ext hg⟩
theorem Sps.le (h : Sps w v L S) : S.length ≤ 9223372036854775807 := Sl.le h.top
theorem Sps.ln (h : Sps w v L S) (hk : K (.int .i64 (S.length : Int))) : Ln v K := Sl.ln h.top hk
theorem Sps.ix {c : Nat} (h : Sps w v L S) (hc : c < S.length) (hk : K (.pointer (some (ea v (c * 3))))) : Ix 3 v (.int .i64 (c : Int)) K := Sl.ix h.top hc hk
theorem Sps.get (h : Sps w v L S) {c : Nat} (hc : c < S.length) : ∃ u, (L.getD c v30) = (u, (S.getD c s30).2.1, (S.getD c s30).2.2) ∧ Ints w u (S.getD c s30).1 ∧ u.cells = #[u] ∧ u.oneCell' = true := by
  have h1 := h.rws.row c hc
  have h2 := h.rws.num c hc
  exact ⟨(L.getD c v30).1, Prod.ext rfl h2, h1, (Sl.cells h1).1, (Sl.cells h1).2⟩
theorem Sps.ldN {c : Nat} {u : Value} {x y : Int} (h : Sps w v L S) (hc : c < S.length) (e : L.getD c v30 = (u, x, y)) (hk : K (.agg #[u, .int .i64 x, .int .i64 y])) : LdN 3 w (ea v (c * 3)) K := by
  have hl := h.rws.len
  obtain ⟨h1, h2, h3⟩ := flatV_get L c (by omega)
  rw [e] at h1 h2 h3
  simp only [LdN]
  refine ⟨[u, i64v x, i64v y], rfl, fun i z hz => ?_, hk⟩
  match i, hz with
  | 0, hz => simp at hz; subst hz; exact Sl.cell h.top h1
  | 1, hz =>
    simp at hz; subst hz
    rcases ea_block h.top (c * 3) 1 with e | e
    · rw [e]; exact Sl.cell h.top h2
    · omega
  | 2, hz =>
    simp at hz; subst hz
    rcases ea_block h.top (c * 3) 2 with e | e
    · rw [e]; exact Sl.cell h.top h3
    · omega
theorem Sps.ld0 {c : Nat} {u : Value} {x y : Int} (h : Sps w v L S) (hc : c < S.length) (e : L.getD c v30 = (u, x, y)) (hk : K u) : Ld w ((ea v (c * 3)).add 0) K := by
  have hl := h.rws.len
  have h1 := (flatV_get L c (by omega)).1
  rw [e] at h1
  rcases ea_block h.top (c * 3) 0 with e | e
  · rw [e]; simp only [Ld]; exact ⟨_, Sl.cell h.top h1, hk⟩
  · omega
theorem Sps.ld1 {c : Nat} {u : Value} {x y : Int} (h : Sps w v L S) (hc : c < S.length) (e : L.getD c v30 = (u, x, y)) (hk : K (.int .i64 x)) : Ld w ((ea v (c * 3)).add 1) K := by
  have hl := h.rws.len
  have h1 := (flatV_get L c (by omega)).2.1
  rw [e] at h1
  rcases ea_block h.top (c * 3) 1 with e | e
  · rw [e]; simp only [Ld]; exact ⟨_, Sl.cell h.top h1, hk⟩
  · omega
theorem Sps.ld2 {c : Nat} {u : Value} {x y : Int} (h : Sps w v L S) (hc : c < S.length) (e : L.getD c v30 = (u, x, y)) (hk : K (.int .i64 y)) : Ld w ((ea v (c * 3)).add 2) K := by
  have hl := h.rws.len
  have h1 := (flatV_get L c (by omega)).2.2
  rw [e] at h1
  rcases ea_block h.top (c * 3) 2 with e | e
  · rw [e]; simp only [Ld]; exact ⟨_, Sl.cell h.top h1, hk⟩
  · omega
end

section
variable {H : Type} {enc : TypeId × Value → H} {P : Program} {w : World} {base b0 : Nat} {spare : Nat → Bool} {held : Bool} {r : Reach} {v : Value} {d : DataW H} {ps : List MemPlace}
theorem read_step {t e : TypeId} {f0 f1 f2 : Field} {fuel : Nat} {cs : List Value} {x : DataW H × List MemPlace} (ht : P.underlying t = some (.struct #[f0, f1, f2])) (ho : f0.offset = 0 ∧ f1.offset = 1 ∧ f2.offset = 2) (hc : P.cellsOf t = 3)
    (hs : P.cellsOf f0.type = 1 ∧ P.cellsOf f1.type = 1 ∧ P.cellsOf f2.type = 1) (h0 : P.underlying f0.type = some (.slice e)) (he : P.underlying e = some (.int .i64)) (hse : P.cellsOf e = 1) (h1 : P.underlying f1.type = some (.int .i64)) (h2 : P.underlying f2.type = some (.int .i64))
    (h : DataW.trod enc P w base spare held fuel t cs = some x) : ∃ u l a b, cs = [u, .int .i64 a, .int .i64 b] ∧ Ints w u l ∧ (∀ j, I64 (l.getD j 0)) ∧ I64 a ∧ I64 b := by
  obtain ⟨y0, y1, y2, n, _, hl, e0, e1, e2⟩ := trod_struct3 ht h
  rw [ho.1, hs.1] at e0
  rw [ho.2.1, hs.2.1] at e1
  rw [ho.2.2, hs.2.2] at e2
  obtain ⟨u, l, hu, hI, ru⟩ := read_ints h0 he hse e0
  obtain ⟨b, hb, rb⟩ := read_i64 h1 e1
  obtain ⟨c, hc', rc⟩ := read_i64 h2 e2
  refine ⟨u, l, b, c, ?_, hI, ru, rb, rc⟩
  rw [hc] at hl
  match cs, hl with
  | [x, y, z], _ =>
    simp at hu hb hc'
    rw [hu, hb, hc']
theorem open_S {t q e : TypeId} {f0 f1 f2 : Field} (ht : P.underlying t = some (.slice q)) (hq : P.underlying q = some (.struct #[f0, f1, f2])) (ho : f0.offset = 0 ∧ f1.offset = 1 ∧ f2.offset = 2) (hc : P.cellsOf q = 3)
    (hs : P.cellsOf f0.type = 1 ∧ P.cellsOf f1.type = 1 ∧ P.cellsOf f2.type = 1) (h0 : P.underlying f0.type = some (.slice e)) (he : P.underlying e = some (.int .i64)) (hse : P.cellsOf e = 1) (h1 : P.underlying f1.type = some (.int .i64)) (h2 : P.underlying f2.type = some (.int .i64))
    (hv : Value.okWide P w r b0 t v) (hd : DataW.Trod enc P w base spare held t v d ps) : ∃ L S, Sps w v L S ∧ ∀ i, (∀ j, I64 ((S.getD i s30).1.getD j 0)) ∧ I64 (S.getD i s30).2.1 ∧ I64 (S.getD i s30).2.2 := by
  obtain ⟨a, n, c, rfl⟩ := okWide_slice ht hv
  obtain ⟨fuel, h⟩ := hd
  obtain ⟨v, n, xs, hv2, hsl, hel⟩ := read_sl ht hc h
  simp [Value.cells] at hv2; subst hv2
  letI : Inhabited Value := ⟨undef⟩
  have each : ∀ i, i < n → ∃ z : Value × List Int × Int × Int, ((xs.drop (i * 3)).take 3 = [z.1, .int .i64 z.2.2.1, .int .i64 z.2.2.2]) ∧ Ints w z.1 z.2.1 ∧ (∀ j, I64 (z.2.1.getD j 0)) ∧ I64 z.2.2.1 ∧ I64 z.2.2.2 := fun i hi => by
    obtain ⟨fuel', y, hy⟩ := hel i hi
    obtain ⟨u, l, a, b, e, g1, g2, g3, g4⟩ := read_step hq ho hc hs h0 he hse h1 h2 hy
    exact ⟨(u, l, a, b), e, g1, g2, g3, g4⟩
  obtain ⟨Z, hl, hp⟩ := choose_list each
  have hxl : xs.length = n * 3 := by obtain ⟨_, _, _, _, _, h3, _⟩ := id hsl; omega
  have gV : ∀ i, i < n → (Z.map fun z => ((z.1, z.2.2.1, z.2.2.2) : V3)).getD i v30 = ((Z.getD i default).1, (Z.getD i default).2.2.1, (Z.getD i default).2.2.2) := fun i hi => by simp [List.getD, show i < Z.length by omega]
  have gS : ∀ i, i < n → (Z.map fun z => ((z.2.1, z.2.2.1, z.2.2.2) : S3)).getD i s30 = ((Z.getD i default).2.1, (Z.getD i default).2.2.1, (Z.getD i default).2.2.2) := fun i hi => by simp [List.getD, show i < Z.length by omega]
  have exs : xs = flatV (Z.map fun z => ((z.1, z.2.2.1, z.2.2.2) : V3)) := by
    apply List.ext_getElem?
    intro k
    by_cases hk : k < n * 3
    · obtain ⟨q, r, hk3, hr⟩ : ∃ q r, k = q * 3 + r ∧ r < 3 := ⟨k / 3, k % 3, by omega, by omega⟩
      subst hk3
      have hi : q < n := by omega
      have e := (hp q hi).1
      have e2 := congrArg (fun l => l[r]?) e
      simp only [List.getElem?_take, if_pos hr, List.getElem?_drop] at e2
      rw [e2]
      obtain ⟨g0, g1, g2⟩ := flatV_get (Z.map fun z => ((z.1, z.2.2.1, z.2.2.2) : V3)) q (by simp; omega)
      rw [gV _ hi] at g0 g1 g2
      rcases (by omega : r = 0 ∨ r = 1 ∨ r = 2) with rfl | rfl | rfl
      · rw [Nat.add_zero, g0]; rfl
      · rw [g1]; rfl
      · rw [g2]; rfl
    · rw [List.getElem?_eq_none (by omega), List.getElem?_eq_none (by rw [flatV_len]; simp; omega)]
  refine ⟨Z.map fun z => (z.1, z.2.2.1, z.2.2.2), Z.map fun z => (z.2.1, z.2.2.1, z.2.2.2), ⟨?_, by simp, fun i hi => ?_, fun i hi => ?_⟩, fun i => ?_⟩
  · rw [List.length_map, hl, ← exs]; exact hsl
  · rw [List.length_map, hl] at hi
    rw [gV i hi, gS i hi]; exact (hp i hi).2.1
  · rw [List.length_map, hl] at hi
    rw [gV i hi, gS i hi]
  · by_cases hi : i < n
    · rw [gS i hi]; exact (hp i hi).2.2
    · simp [List.getD, List.getElem?_eq_none (show Z.length ≤ i by omega), I64]
end
end Go.Eng
set_option linter.unusedVariables false
set_option linter.unusedSimpArgs false
namespace Go.Proofs.Ytebklnmafjbhcaa
open Go.Eng
set_option maxRecDepth 100000
set_option maxHeartbeats 4000000

theorem eStep : Elem Try.prog 42 (.agg #[.slice none 0 0, .int .i64 0, .int .i64 0]) 3 40 := by unfold Elem; kernel_rfl
/-- a run in the world: the allocation b at av, the steps S at sv; who was passed along lies below B -/
structure RnS (w0 w : World) (av sv : Value) (b : List Int) (L : List V3) (S : List S3) (B : Nat) : Prop where
  ex : Ext w0 w
  hB : w0.heap.size ≤ B
  ha : OB B w av b
  old : ∀ i k, i < S.length → (L.getD i v30).1.ownBlock = some k → k < B
  st : Go.Eng.Own w0.heap.size 42 3 w sv S.length (flatV L)
  len : L.length = S.length
  row : ∀ i, i < S.length → OI w (L.getD i v30).1 (S.getD i s30).1
  num : ∀ i, i < S.length → (L.getD i v30).2 = (S.getD i s30).2
section
variable {w0 w w' : World} {av sv : Value} {b : List Int} {L : List V3} {S : List S3} {B : Nat}
theorem RnS.ext (h : RnS w0 w av sv b L S B) (hx : Ext w w') : RnS w0 w' av sv b L S B :=
  ⟨h.ex.trans hx, h.hB, Own.ext h.ha hx, h.old, Own.ext h.st hx, h.len, fun i hi => Own.ext (h.row i hi) hx, h.num⟩
theorem RnS.give {g : Nat} {x : Int} {K : World → Prop} (h : RnS w0 w av sv b L S B) (hg : g < b.length) (hK : ∀ w', Gr (fun k => av.ownBlock = some k) w w' → RnS w0 w' av sv (b.set g x) L S B → K w') : St w (ea av g) (.int .i64 x) K :=
  OB.set h.ha hg fun w' hg h' => hK w' hg ⟨Own.keep h.ha h.ex h.hB hg, h.hB, h', h.old, Own.row h.st h.ha (by decide) hg, h.len, fun i hi => Own.gr (h.row i hi) hg fun k hk hS => by have := h.old i k hi hk; have := (Own.lt h.ha k hS).1; omega, h.num⟩
theorem RnS.new (h : RnS w0 w av sv b L S B) {av' : Value} {b' : List Int} (hx : Ext w w') (ha : OB w.heap.size w' av' b') : RnS w0 w' av' sv b' L S w.heap.size :=
  ⟨h.ex.trans hx, h.ex.size, ha, fun i k hi hk => (Own.lt (h.row i hi) k hk).2, Own.ext h.st hx, h.len, fun i hi => Own.ext (h.row i hi) hx, h.num⟩
theorem RnS.app {x u : Value} {l : List Int} {p q : Int} {K : Value → World → Prop} (h : RnS w0 w av sv b L S B) (Hx : Sl 3 w x 1 [u, .int .i64 p, .int .i64 q]) (hu : OI w u l) (hb : ∀ k, u.ownBlock = some k → k < B) (hl : S.length ≤ 1000)
    (hK : ∀ v' w', Gr (fun k => sv.ownBlock = some k) w w' → RnS w0 w' av v' b (L ++ [(u, p, q)]) (S ++ [(l, p, q)]) B → K v' w') : VE Try.prog (Builtin.append_ #[34, 34] 34 #[sv, x]) w K := by
  have hcell := (Sl.cells (Own.sl hu)).2
  have hll := h.len
  refine VE.app Try.underlying34 eStep rfl (by omega) h.st h.ex rfl Hx (by intro v hv; simp only [List.mem_cons, List.not_mem_nil, or_false] at hv; rcases hv with rfl | rfl | rfl; exact hcell; rfl; rfl) (by omega) (by omega) fun v' w' hx hg ho => hK v' w' hg ?_
  have g1 : ∀ i, i < L.length → (L ++ [(u, p, q)]).getD i v30 = L.getD i v30 := fun i hi => by simp only [List.getD]; rw [List.getElem?_append_left hi]
  have g2 : ∀ i, i < S.length → (S ++ [(l, p, q)]).getD i s30 = S.getD i s30 := fun i hi => by simp only [List.getD]; rw [List.getElem?_append_left hi]
  have e1 : (L ++ [(u, p, q)]).getD S.length v30 = (u, p, q) := by rw [← hll]; simp [List.getD]
  have e2 : (S ++ [(l, p, q)]).getD S.length s30 = (l, p, q) := by simp [List.getD]
  have hsl : (S ++ [(l, p, q)]).length = S.length + 1 := by simp
  refine ⟨hx, h.hB, Own.row h.ha h.st (by decide) hg, fun i k hi hk => ?_, ?_, by simp [hll], fun i hi => ?_, fun i hi => ?_⟩
  · rw [hsl] at hi
    by_cases e : i = S.length
    · subst e; rw [e1] at hk; exact hb k hk
    · rw [g1 i (by omega)] at hk; exact h.old i k (by omega) hk
  · rw [hsl, flatV_app]; exact ho
  · rw [hsl] at hi
    by_cases e : i = S.length
    · subst e; rw [e1, e2]; exact Own.row hu h.st (by decide) hg
    · rw [g1 i (by omega), g2 i (by omega)]; exact Own.row (h.row i (by omega)) h.st (by decide) hg
  · rw [hsl] at hi
    by_cases e : i = S.length
    · subst e; rw [e1, e2]
    · rw [g1 i (by omega), g2 i (by omega)]; exact h.num i (by omega)
theorem RnS.blk {x : Nat} {T : TypeId} {ys : List Value} (h : RnS w0 w av sv b L S B) (hk : Blk w x T ys) (h1 : 3 ≠ T) (h2 : 42 ≠ T) (hx : w0.heap.size ≤ x) (hg : Gr (fun j => j = x) w w') : RnS w0 w' av sv b L S B :=
  ⟨h.ex.new hg (fun i hi e => by omega), h.hB, Own.blk h.ha hk h1 hg, h.old, Own.blk h.st hk h2 hg, h.len, fun i hi => Own.blk (h.row i hi) hk h1 hg, h.num⟩
theorem RnS.sps (h : RnS w0 w av sv b L S B) : Sps w sv L S := ⟨Own.sl h.st, h.len, fun i hi => Own.sl (h.row i hi), h.num⟩
end

/-- an order of goods, each at most once -/
structure OrdOk (o : List Int) (m : Nat) : Prop where
  rng : ∀ t, t < o.length → 0 ≤ o.getD t 0 ∧ o.getD t 0 < m
  dis : ∀ s t, s < t → t < o.length → o.getD s 0 ≠ o.getD t 0
theorem ord_len {o : List Int} {m : Nat} (h : OrdOk o m) : o.length ≤ m := dis_le h.rng h.dis
def noneL (m : Nat) : List Int := List.replicate m (-1)
theorem noneL_len (m : Nat) : (noneL m).length = m := List.length_replicate
theorem noneL_get {m k : Nat} (h : k < m) : (noneL m).getD k 0 = -1 := by simp [noneL, List.getD, h]
theorem noneL_vld {rr : List (List Int)} (h : chk rr = 0) : vld rr (noneL (rr.getD 0 []).length) = 0 := by
  refine vld_ok h ?_
  rintro (h1 | ⟨k, hk, h2⟩)
  · exact h1 (noneL_len _)
  · rw [noneL_len] at hk
    rw [noneL_get hk] at h2
    have := (gd_of_chk h).n1
    omega
theorem noneL_run {rr : List (List Int)} {o : List Int} (h : chk rr = 0) (ho : OrdOk o (rr.getD 0 []).length) : RunI rr o (noneL (rr.getD 0 []).length) :=
  ⟨noneL_vld h, fun t ht => by rw [noneL_len]; exact ho.rng t ht, ho.dis, fun t ht => noneL_get (by have := ho.rng t ht; omega)⟩
open Classical in noncomputable def runE (rr : List (List Int)) (o : List Int) : Int := if chk rr = 0 then (if OrdOk o (rr.getD 0 []).length then 0 else 8) else chk rr
theorem runE_ok {rr : List (List Int)} {o : List Int} (h : chk rr = 0) (ho : OrdOk o (rr.getD 0 []).length) : runE rr o = 0 := by unfold runE; rw [if_pos h, if_pos ho]
theorem runE_bad {rr : List (List Int)} {o : List Int} (h : chk rr = 0) (ho : ¬ OrdOk o (rr.getD 0 []).length) : runE rr o = 8 := by unfold runE; rw [if_pos h, if_neg ho]
theorem runE_chk {rr : List (List Int)} {o : List Int} (h : ¬ chk rr = 0) : runE rr o = chk rr := by unfold runE; rw [if_neg h]
/-- the steps so far, and what is left to be done -/
structure RunP (rr : List (List Int)) (o a0 b : List Int) (S : List Stp) (c : Nat) : Prop where
  inv : RunI rr (o.drop c) b
  len : b.length = a0.length
  few : (S.length : Int) + edges rr b + 7 * (o.length - c : Nat) ≤ 36 + 7 * o.length
  go : ∀ S' z, RunS rr (o.drop c) b S' z → RunS rr o a0 (S ++ S') z
section
variable {rr : List (List Int)} {o a0 b : List Int} {S : List Stp} {c : Nat}
theorem RunP.start (hn6 : rr.length ≤ 6) (h : RunI rr o a0) : RunP rr o a0 a0 [] 0 :=
  ⟨h, rfl, by have := (edges_bd (a := a0) hn6).2; simp; omega, fun S' z h => h⟩
theorem drop_cons (h : c < o.length) : o.drop c = o.getD c 0 :: o.drop (c + 1) := by
  rw [show o.getD c 0 = o[c] by simp [List.getD, h], List.getElem_cons_drop]
theorem RunP.turn (hn : 1 ≤ rr.length) (h : RunP rr o a0 b S c) (hc : c < o.length) (hf : fre rr b < 0) : RunP rr o a0 (pas rr.length b (circ rr b)) (S ++ [(circ rr b, -1, -1)]) c := by
  have hC := fre_neg hn hf
  have he := edges_pas h.inv.vd hC
  have hw := h.few
  refine ⟨h.inv.turn hn hf, by rw [pas_len]; exact h.len, by rw [List.length_append]; simp only [List.length_singleton]; omega, fun S' z hr => ?_⟩
  rw [List.append_assoc]
  refine h.go _ z ?_
  rw [drop_cons hc] at hr ⊢
  exact .circ hf hr
theorem RunP.gave (h : RunP rr o a0 b S c) (hc : c < o.length) (hf : 0 ≤ fre rr b) : RunP rr o a0 (b.set (o.getD c 0).toNat (fre rr b)) (S ++ [([], fre rr b, o.getD c 0)]) (c + 1) ∧ (0 ≤ o.getD c 0 ∧ o.getD c 0 < b.length) := by
  have hi := h.inv
  have hw := h.few
  rw [drop_cons hc] at hi
  obtain ⟨h1, h2, h3⟩ := hi.gave hf
  have he := edges_give (x := fre rr b) h.inv.vd (g := (o.getD c 0).toNat) (by omega) h3
  have hn6 := (al_of_vld h.inv.vd).n6
  refine ⟨⟨h1, by rw [List.length_set]; exact h.len, by rw [List.length_append]; simp only [List.length_singleton]; omega, fun S' z hr => ?_⟩, h2⟩
  rw [List.append_assoc]
  refine h.go _ z ?_
  rw [drop_cons hc]
  exact .give hf hr
theorem RunP.done (h : RunP rr o a0 b S o.length) : RunS rr o a0 S b := by
  have := h.go [] b (by rw [List.drop_length]; exact .nil)
  rwa [List.append_nil] at this
theorem RunP.sml (hn6 : rr.length ≤ 6) (h : RunP rr o a0 b S c) (ho : o.length ≤ 10) : S.length ≤ 106 := by
  have h1 := h.few
  have h2 := (edges_bd (a := b) hn6).1
  omega
end
end Go.Proofs.Ytebklnmafjbhcaa
