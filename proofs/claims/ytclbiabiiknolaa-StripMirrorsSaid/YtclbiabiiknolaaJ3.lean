/- Joined texts: StripMf EngAG Strip6 Strip7 EngL EngU. -/
import Derived.Test.YtclbiabiiknolaaJ2
import Derived.MapKept
import Derived.Deep.Strs
import Derived.WalkSpells
set_option linter.unusedVariables false
set_option linter.unusedSimpArgs false
namespace Go.Proofs.Ytclbiabiiknolaa
open Go.Eng

theorem lex_tri : ∀ {a b : List Int}, a.length = b.length → a = b ∨ lexlt a b ∨ lexlt b a
  | [], [], _ => .inl rfl
  | [], _ :: _, h => by simp at h
  | _ :: _, [], h => by simp at h
  | x :: a, y :: b, h => by
    rcases Int.lt_trichotomy x y with e | e | e
    · exact .inr (.inl (.inl e))
    · subst e
      rcases lex_tri (a := a) (b := b) (by simpa using h) with e | e | e
      · subst e; exact .inl rfl
      · exact .inr (.inl (.inr ⟨rfl, e⟩))
      · exact .inr (.inr (.inr ⟨rfl, e⟩))
    · exact .inr (.inr (.inl e))

/-! ### lists in which nobody comes back -/
def nr : List Int → Prop
  | [] => True
  | [_] => True
  | x :: y :: t => (x = y ∨ x ∉ y :: t) ∧ nr (y :: t)
theorem lft_cons {x z : Int} {a : List Int} {k : Nat} : lft (x :: a) (k + 1) z ↔ (0 < a.length ∧ x = z ∧ a.getD 0 0 ≠ z) ∨ lft a k z := by
  constructor
  · rintro ⟨j, h1, h2, h3, h4⟩
    cases j with
    | zero => exact .inl ⟨by simpa using h2, by simpa using h3, by simpa using h4⟩
    | succ j => exact .inr ⟨j, by omega, by simpa using h2, by simpa using h3, by simpa using h4⟩
  · rintro (⟨h1, h2, h3⟩ | ⟨j, h1, h2, h3, h4⟩)
    · exact ⟨0, by omega, by simpa using h1, by simpa using h2, by simpa using h3⟩
    · exact ⟨j + 1, by omega, by simpa using h2, by simpa using h3, by simpa using h4⟩
theorem mem_getI {l : List Int} {x : Int} : x ∈ l ↔ ∃ k, k < l.length ∧ l.getD k 0 = x := by
  constructor
  · intro h
    obtain ⟨k, hk, e⟩ := List.getElem_of_mem h
    exact ⟨k, hk, by rw [List.getD, List.getElem?_eq_getElem hk]; exact e⟩
  · rintro ⟨k, hk, e⟩
    rw [List.getD, List.getElem?_eq_getElem hk] at e
    rw [← e]; exact List.getElem_mem hk
theorem nr_iff : ∀ {a : List Int}, nr a ↔ ∀ k, k < a.length → ¬ lft a k (a.getD k 0)
  | [] => ⟨fun _ k hk => absurd hk (Nat.not_lt_zero _), fun _ => trivial⟩
  | [x] => ⟨fun _ k hk => by
      obtain rfl : k = 0 := by simp at hk; omega
      exact lft_zero, fun _ => trivial⟩
  | x :: y :: t => by
    have ih := nr_iff (a := y :: t)
    show ((x = y ∨ x ∉ y :: t) ∧ nr (y :: t)) ↔ _
    rw [ih]
    constructor
    · rintro ⟨h1, h2⟩ k hk
      cases k with
      | zero => exact lft_zero
      | succ k =>
        have hk2 : k < (y :: t).length := by simpa using hk
        have e : (x :: y :: t).getD (k + 1) 0 = (y :: t).getD k 0 := rfl
        rw [e, lft_cons]
        rintro (⟨_, h3, h4⟩ | h3)
        · rcases h1 with h1 | h1
          · subst h1; exact h4 h3
          · exact h1 (mem_getI.2 ⟨k, hk2, h3.symm⟩)
        · exact h2 k hk2 h3
    · intro h
      refine ⟨?_, fun k hk hl => h (k + 1) (by simpa using hk) (by
        have e : (x :: y :: t).getD (k + 1) 0 = (y :: t).getD k 0 := rfl
        rw [e, lft_cons]; exact .inr hl)⟩
      refine Classical.byContradiction fun hno => ?_
      have h1 : x ≠ y := fun e => hno (.inl e)
      have h2 : x ∈ y :: t := Classical.byContradiction fun e => hno (.inr e)
      obtain ⟨k, hk, e⟩ := mem_getI.1 h2
      refine h (k + 1) (by simpa using hk) ?_
      have e2 : (x :: y :: t).getD (k + 1) 0 = (y :: t).getD k 0 := rfl
      rw [e2, lft_cons, e]
      exact .inl ⟨by simp, rfl, fun h3 => h1 h3.symm⟩
theorem divn_iff {rr : List (List Int)} {a : List Int} : divn rr a ↔ a.length = (rr.getD 0 []).length ∧ (∀ y, y ∈ a → 0 ≤ y ∧ y < rr.length) ∧ nr a := by
  unfold divn
  rw [nr_iff]
  constructor
  · rintro ⟨h1, h2⟩
    exact ⟨h1, fun y hy => by obtain ⟨k, hk, e⟩ := mem_getI.1 hy; rw [← e]; exact (h2 k hk).1, fun k hk => (h2 k hk).2⟩
  · rintro ⟨h1, h2, h3⟩
    exact ⟨h1, fun k hk => ⟨h2 _ (mem_getI.2 ⟨k, hk, rfl⟩), h3 k hk⟩⟩

/-! ### values along a list -/
def wf (r : List Int) (j : Int) : Nat → List Int → Int
  | _, [] => 0
  | p, x :: l => (if x = j then r.getD p 0 else 0) + wf r j (p + 1) l
theorem worth_take {A B r : List Int} {k : Int} : ∀ {c : Nat}, (∀ j, j < c → A.getD j 0 = B.getD j 0) → worth A r k c = worth B r k c
  | 0, _ => rfl
  | c + 1, h => by simp only [worth]; rw [worth_take (fun j hj => h j (by omega)), h c (by omega)]
theorem getD_app {p : List Int} {x : Int} {i : Nat} : i < p.length → (p ++ x :: []).getD i 0 = p.getD i 0 := fun h => by
  rw [List.getD, List.getD, List.getElem?_append_left h]
theorem worth_snoc {p r : List Int} {x k : Int} : worth (p ++ [x]) r k (p ++ [x]).length = worth p r k p.length + if x = k then r.getD p.length 0 else 0 := by
  rw [List.length_append, List.length_singleton]
  simp only [worth]
  rw [worth_take (B := p) (fun j hj => getD_app hj)]
  have e : (p ++ [x]).getD p.length 0 = x := by simp [List.getD]
  rw [e]
theorem worth_app {r : List Int} {k : Int} : ∀ {l p : List Int}, worth (p ++ l) r k (p ++ l).length = worth p r k p.length + wf r k p.length l
  | [], p => by simp [wf]
  | x :: l, p => by
    have ih := worth_app (r := r) (k := k) (l := l) (p := p ++ [x])
    rw [List.append_assoc, List.singleton_append] at ih
    rw [ih, worth_snoc]
    simp only [wf, List.length_append, List.length_singleton]
    omega
theorem worth_wf {r l : List Int} {k : Int} : worth l r k l.length = wf r k 0 l := by
  have := worth_app (r := r) (k := k) (l := l) (p := [])
  simpa [worth] using this
theorem wf_none {r : List Int} {j : Int} : ∀ {l : List Int} {p : Nat}, j ∉ l → wf r j p l = 0
  | [], _, _ => rfl
  | x :: l, p, h => by
    simp only [wf]
    rw [wf_none (fun h2 => h (List.mem_cons_of_mem _ h2)), if_neg (fun e => h (by rw [e]; exact List.mem_cons_self))]
    rfl

/-! ### the least of some numbers -/
theorem mnTo_ge {f : Nat → Int} {b : Int} : ∀ {c : Nat}, b ≤ mnTo f c ↔ ∀ i, i ≤ c → b ≤ f i
  | 0 => ⟨fun h i hi => by obtain rfl : i = 0 := by omega
                           exact h, fun h => h 0 (Nat.le_refl _)⟩
  | c + 1 => by
    have ih := mnTo_ge (f := f) (b := b) (c := c)
    simp only [mnTo]
    constructor
    · intro h i hi
      by_cases e : i = c + 1
      · subst e; omega
      · exact ih.1 (by omega) i (by omega)
    · intro h
      have h1 := ih.2 fun i hi => h i (by omega)
      have h2 := h (c + 1) (Nat.le_refl _)
      omega
theorem lvl_ge {rr : List (List Int)} {a : List Int} {L : Int} (hn : 1 ≤ rr.length) : L ≤ lvl rr a ↔ ∀ i, i < rr.length → L ≤ worth a (rr.getD i []) i a.length := by
  unfold lvl
  rw [mnTo_ge]
  exact ⟨fun h i hi => h i (by omega), fun h i hi => h i (by omega)⟩

/-! ### sets of agents -/
theorem bit_del : ∀ s, s < 64 → ∀ i, i < 6 → ∀ j, j < 6 → bit s i = true → bit (s - 2 ^ i) j = (bit s j && j != i) := by decide +kernel
theorem bit_full : ∀ n, n ≤ 6 → ∀ j, j < 6 → bit (2 ^ n - 1) j = decide (j < n) := by decide +kernel
theorem bit_sub : ∀ s, s < 64 → ∀ i, i < 6 → bit s i = true → 2 ^ i ≤ s := by decide +kernel
theorem bit_some : ∀ s, s < 64 → s ≠ 0 → ∃ i, i < 6 ∧ bit s i = true := by decide +kernel

/-- what may follow: place, agent, its sum, who is still to come -/
def Cont (rr : List (List Int)) (L : Int) : Nat → Nat → Int → Nat → List Int → Prop
  | _, _, s, set, [] => L ≤ s ∧ ∀ i, i < rr.length → bit set i = true → L ≤ 0
  | p, ag, s, set, x :: l => (x = (ag : Int) ∧ Cont rr L (p + 1) ag (s + val rr ag p) set l) ∨ ∃ i : Nat, i < rr.length ∧ x = (i : Int) ∧ i ≠ ag ∧ bit set i = true ∧ L ≤ s ∧ Cont rr L (p + 1) i (val rr i p) (set - 2 ^ i) l
theorem cont_mono {rr : List (List Int)} {L : Int} : ∀ {l : List Int} {p ag : Nat} {s t : Int} {set : Nat}, s ≤ t → Cont rr L p ag s set l → Cont rr L p ag t set l
  | [], _, _, s, t, _, h, ⟨h1, h2⟩ => ⟨by omega, h2⟩
  | x :: l, p, ag, s, t, set, h, hc => by
    rcases hc with ⟨h1, h2⟩ | ⟨i, h1, h2, h3, h4, h5, h6⟩
    · exact .inl ⟨h1, cont_mono (by omega) h2⟩
    · exact .inr ⟨i, h1, h2, h3, h4, by omega, h6⟩
theorem cont_iff {rr : List (List Int)} {L : Int} (hn : rr.length ≤ 6) : ∀ {l : List Int} {p ag : Nat} {s : Int} {set : Nat}, ag < rr.length → set < 64 → bit set ag = false →
    (Cont rr L p ag s set l ↔ nr ((ag : Int) :: l) ∧ (∀ y, y ∈ l → y = (ag : Int) ∨ ∃ i : Nat, i < rr.length ∧ y = (i : Int) ∧ bit set i = true) ∧ L ≤ s + wf (rr.getD ag []) ag p l ∧ ∀ i, i < rr.length → bit set i = true → L ≤ wf (rr.getD i []) i p l)
  | [], p, ag, s, set, ha, hs, hb => by
    simp only [Cont, wf, nr]
    constructor
    · rintro ⟨h1, h2⟩
      exact ⟨trivial, fun y hy => by simp at hy, by omega, h2⟩
    · rintro ⟨_, _, h1, h2⟩
      exact ⟨by omega, h2⟩
  | x :: l, p, ag, s, set, ha, hs, hb => by
    have hv : ∀ i : Nat, val rr i p = (rr.getD i []).getD p 0 := fun _ => rfl
    simp only [Cont]
    constructor
    · rintro (⟨rfl, h2⟩ | ⟨i, hi, rfl, hne, hbi, hL, h2⟩)
      · obtain ⟨h3, h4, h5, h6⟩ := (cont_iff hn ha hs hb).1 h2
        refine ⟨⟨.inl rfl, h3⟩, fun y hy => ?_, ?_, fun i hi hbi => ?_⟩
        · rcases List.mem_cons.1 hy with rfl | hy
          · exact .inl rfl
          · exact h4 y hy
        · simp only [wf]; rw [if_pos trivial, ← hv]; omega
        · have hne : ag ≠ i := fun e => by subst e; rw [hb] at hbi; cases hbi
          simp only [wf]; rw [if_neg (by omega)]
          have := h6 i hi hbi
          omega
      · have hd := bit_del set hs i (by omega)
        obtain ⟨h3, h4, h5, h6⟩ := (cont_iff hn hi (Nat.lt_of_le_of_lt (Nat.sub_le _ _) hs) (by rw [hd i (by omega) hbi]; simp)).1 h2
        have hno : ((ag : Nat) : Int) ∉ (i : Int) :: l := fun hm => by
          rcases List.mem_cons.1 hm with e | hm
          · omega
          · rcases h4 _ hm with e | ⟨j, hj, e, hbj⟩
            · omega
            · have : ag = j := by omega
              subst this
              rw [hd ag (by omega) hbi, hb] at hbj
              simp at hbj
        refine ⟨⟨.inr hno, h3⟩, fun y hy => ?_, ?_, fun j hj hbj => ?_⟩
        · rcases List.mem_cons.1 hy with rfl | hy
          · exact .inr ⟨i, hi, rfl, hbi⟩
          · rcases h4 y hy with e | ⟨j, hj, e, hbj⟩
            · exact .inr ⟨i, hi, e, hbi⟩
            · rw [hd j (by omega) hbi] at hbj
              exact .inr ⟨j, hj, e, by simp at hbj; exact hbj.1⟩
        · rw [wf_none hno]; omega
        · simp only [wf]
          by_cases e : i = j
          · subst e; rw [if_pos rfl, ← hv]; exact h5
          · rw [if_neg (by omega)]
            have := h6 j hj (by rw [hd j (by omega) hbi, hbj]; simp; omega)
            omega
    · rintro ⟨h1, h2, h3, h4⟩
      by_cases hx : x = (ag : Int)
      · subst hx
        refine .inl ⟨rfl, (cont_iff hn ha hs hb).2 ⟨h1.2, fun y hy => h2 y (List.mem_cons_of_mem _ hy), ?_, fun i hi hbi => ?_⟩⟩
        · simp only [wf] at h3; rw [if_pos trivial, ← hv] at h3; omega
        · have hne : ag ≠ i := fun e => by subst e; rw [hb] at hbi; cases hbi
          have := h4 i hi hbi
          simp only [wf] at this; rw [if_neg (by omega)] at this; omega
      · rcases h2 x List.mem_cons_self with e | ⟨i, hi, rfl, hbi⟩
        · exact absurd e hx
        · have hne : i ≠ ag := fun e => hx (by rw [e])
          have hd := bit_del set hs i (by omega)
          have hno : ((ag : Nat) : Int) ∉ (i : Int) :: l := by
            rcases h1.1 with e | e
            · omega
            · exact e
          rw [wf_none hno] at h3
          refine .inr ⟨i, hi, rfl, hne, hbi, by omega, (cont_iff hn hi (Nat.lt_of_le_of_lt (Nat.sub_le _ _) hs) (by rw [hd i (by omega) hbi]; simp)).2 ⟨h1.2, fun y hy => ?_, ?_, fun j hj hbj => ?_⟩⟩
          · rcases h2 y (List.mem_cons_of_mem _ hy) with e | ⟨j, hj, e, hbj⟩
            · exact absurd (by rw [← e]; exact List.mem_cons_of_mem _ hy) hno
            · by_cases hij : j = i
              · subst hij; exact .inl e
              · exact .inr ⟨j, hj, e, by rw [hd j (by omega) hbi, hbj]; simp; omega⟩
          · have := h4 i hi hbi
            simp only [wf] at this; rw [if_pos trivial, ← hv] at this; exact this
          · rw [hd j (by omega) hbi] at hbj
            simp at hbj
            have := h4 j hj hbj.1
            simp only [wf] at this; rw [if_neg (by omega)] at this; omega
/-- the first parcel goes to agent i -/
theorem cont_div {rr : List (List Int)} {m : Nat} {L : Int} (hk : Sd rr m) {i : Nat} (hi : i < rr.length) {l : List Int} (hl : l.length + 1 = m) :
    Cont rr L 1 i (val rr i 0) (2 ^ rr.length - 1 - 2 ^ i) l ↔ divn rr ((i : Int) :: l) ∧ L ≤ lvl rr ((i : Int) :: l) := by
  have hn := hk.n6
  have hp := pow6 hn
  have hf := bit_full rr.length hn
  have hbi : bit (2 ^ rr.length - 1) i = true := by rw [hf i (by omega)]; exact decide_eq_true hi
  have hd := bit_del (2 ^ rr.length - 1) (by omega) i (by omega)
  have hbj : ∀ j, j < rr.length → (bit (2 ^ rr.length - 1 - 2 ^ i) j = true ↔ j ≠ i) := fun j hj => by
    rw [hd j (by omega) hbi, hf j (by omega), decide_eq_true hj]; simp
  rw [cont_iff hn hi (Nat.lt_of_le_of_lt (Nat.sub_le _ _) (by omega)) (by rw [hd i (by omega) hbi]; simp), divn_iff, lvl_ge hk.n1]
  have hw : ∀ j : Nat, worth ((i : Int) :: l) (rr.getD j []) j ((i : Int) :: l).length = (if (i : Int) = (j : Int) then val rr j 0 else 0) + wf (rr.getD j []) j 1 l := fun j => by rw [worth_wf]; rfl
  constructor
  · rintro ⟨h1, h2, h3, h4⟩
    refine ⟨⟨by have := hk.m0; simp only [List.length_cons]; omega, fun y hy => ?_, h1⟩, fun j hj => ?_⟩
    · rcases List.mem_cons.1 hy with rfl | hy
      · omega
      · rcases h2 y hy with e | ⟨j, hj, e, _⟩ <;> omega
    · rw [hw]
      by_cases e : j = i
      · subst e; rw [if_pos rfl]; exact h3
      · rw [if_neg (by omega)]; have := h4 j hj ((hbj j hj).2 e); omega
  · rintro ⟨⟨h1, h2, h3⟩, h4⟩
    refine ⟨h3, fun y hy => ?_, ?_, fun j hj hb => ?_⟩
    · have := h2 y (List.mem_cons_of_mem _ hy)
      by_cases e : y = (i : Int)
      · exact .inl e
      · exact .inr ⟨y.toNat, by omega, by omega, (hbj _ (by omega)).2 (by omega)⟩
    · have := h4 i hi
      rw [hw, if_pos rfl] at this; exact this
    · have := h4 j hj
      have hne := (hbj j hj).1 hb
      rw [hw, if_neg (by omega)] at this; omega

/-! ### the best division -/
def IsBest (rr : List (List Int)) (a : List Int) : Prop := divn rr a ∧ ∀ b, divn rr b → lvl rr b ≤ lvl rr a ∧ (lvl rr b = lvl rr a → ¬ lexlt b a)
theorem IsBest.one {rr : List (List Int)} {a b : List Int} (ha : IsBest rr a) (hb : IsBest rr b) : a = b := by
  have h1 := ha.2 b hb.1
  have h2 := hb.2 a ha.1
  have e : lvl rr b = lvl rr a := by omega
  rcases lex_tri (a := a) (b := b) (by rw [ha.1.1, hb.1.1]) with h | h | h
  · exact h
  · exact absurd h (h2.2 e.symm)
  · exact absurd h (h1.2 e)
open Classical in
noncomputable def bst (rr : List (List Int)) : List Int := if h : ∃ a, IsBest rr a then h.choose else []
theorem bst_is {rr : List (List Int)} {a : List Int} (h : IsBest rr a) : bst rr = a := by
  have hex : ∃ c, IsBest rr c := ⟨a, h⟩
  unfold bst
  rw [dif_pos hex]
  exact hex.choose_spec.one h

/-- the first p parcels can be divided among a set, each of it with at least a level -/
def Gs (rr : List (List Int)) (L : Int) (s p : Nat) : Prop := ∃ a : List Int, a.length = p ∧ (∀ y, y ∈ a → ∃ i : Nat, i < rr.length ∧ y = (i : Int) ∧ bit s i = true) ∧ nr a ∧ ∀ i, i < rr.length → bit s i = true → L ≤ worth a (rr.getD i []) i a.length
theorem enf_spec {l : List Int} {L : Int} {q : Nat} : ∀ {k p : Nat} {s : Int}, p + k = l.length → q ≤ p → s = sumTo l p - sumTo l q → (∀ j, q ≤ j → j ≤ p → sumTo l j - sumTo l q < L) →
    (enf l L k p s = (l.length : Int) + 1 ∧ ∀ j, q ≤ j → j ≤ l.length → sumTo l j - sumTo l q < L) ∨
    (∃ e : Nat, enf l L k p s = (e : Int) ∧ p < e ∧ e ≤ l.length ∧ L ≤ sumTo l e - sumTo l q ∧ ∀ j, q ≤ j → j < e → sumTo l j - sumTo l q < L)
  | 0, p, s, h1, h2, h3, h4 => .inl ⟨rfl, fun j hj hl => h4 j hj (by omega)⟩
  | k + 1, p, s, h1, h2, h3, h4 => by
    have e1 : sumTo l (p + 1) = sumTo l p + l.getD p 0 := rfl
    by_cases h : L ≤ s + l.getD p 0
    · refine .inr ⟨p + 1, ?_, by omega, by omega, by omega, fun j hj hl => h4 j hj (by omega)⟩
      simp only [enf]; rw [if_pos h]; omega
    · have ih := enf_spec (l := l) (L := L) (q := q) (k := k) (p := p + 1) (s := s + l.getD p 0) (by omega) (by omega) (by omega) (fun j hj hl => by
        by_cases e : j = p + 1
        · subst e; omega
        · exact h4 j hj (by omega))
      simp only [enf]; rw [if_neg h]
      rcases ih with h5 | ⟨e, h5, h6, h7⟩
      · exact .inl h5
      · exact .inr ⟨e, h5, by omega, h7⟩
theorem enough_spec {l : List Int} {L : Int} {q : Nat} (hL : 1 ≤ L) (hq : q ≤ l.length) :
    (enough l q L = (l.length : Int) + 1 ∧ ∀ j, q ≤ j → j ≤ l.length → sumTo l j - sumTo l q < L) ∨
    (∃ e : Nat, enough l q L = (e : Int) ∧ q < e ∧ e ≤ l.length ∧ L ≤ sumTo l e - sumTo l q ∧ ∀ j, q ≤ j → j < e → sumTo l j - sumTo l q < L) :=
  enf_spec (by omega) (Nat.le_refl _) (by omega) (fun j h1 h2 => by
    have : j = q := by omega
    subst this; omega)
theorem enough_out {l : List Int} {L : Int} {q : Nat} (hq : ¬ q ≤ l.length) : enough l q L = (l.length : Int) + 1 := by
  unfold enough; rw [show l.length - q = 0 by omega]; rfl
theorem sumTo_le {l : List Int} (h : ∀ j, 0 ≤ l.getD j 0) {p : Nat} : ∀ {q : Nat}, p ≤ q → sumTo l p ≤ sumTo l q
  | 0, hp => by obtain rfl : p = 0 := by omega
                exact Int.le_refl _
  | q + 1, hp => by
    by_cases e : p = q + 1
    · subst e; exact Int.le_refl _
    · have ih := sumTo_le h (p := p) (q := q) (by omega)
      have := h q
      simp only [sumTo]; omega
theorem enough_mono {l : List Int} {L : Int} {p q : Nat} (hv : ∀ j, 0 ≤ l.getD j 0) (hL : 1 ≤ L) (h : p ≤ q) : enough l p L ≤ enough l q L := by
  by_cases hq : q ≤ l.length
  · rcases enough_spec hL hq with ⟨e, _⟩ | ⟨e, h1, h2, h3, h4, _⟩
    · rw [e]; exact (enough_bd l p L).2
    · rcases enough_spec hL (show p ≤ l.length by omega) with ⟨e2, h5⟩ | ⟨e2, h5, h6, h7, h8, h9⟩
      · have := h5 e (by omega) h3
        have := sumTo_le hv h
        omega
      · rw [h1, h5]
        refine Int.ofNat_le.2 (Nat.le_of_not_lt fun hlt => ?_)
        have := h9 e (by omega) hlt
        have := sumTo_le hv h
        omega
  · rw [enough_out hq]; exact (enough_bd l p L).2
/-- one entry -/
def Te (rr : List (List Int)) (L : Int) (s : Nat) : Int := (tabl rr L).getD s 0
theorem tbl_get {rr : List (List Int)} {L : Int} {j : Nat} : ∀ {S : Nat}, j < S → (tbl rr L S).getD j 0 = ent rr L (tbl rr L j) j
  | 0, h => absurd h (Nat.not_lt_zero _)
  | S + 1, h => by
    simp only [tbl]
    by_cases hj : j < S
    · rw [List.getD, List.getElem?_append_left (by rw [tbl_len]; exact hj)]
      exact tbl_get hj
    · obtain rfl : j = S := by omega
      rw [List.getD, List.getElem?_append_right (by rw [tbl_len]; omega), tbl_len]; simp
theorem Te_eq {rr : List (List Int)} {L : Int} {s : Nat} (h : s < 2 ^ rr.length) : Te rr L s = ent rr L (tbl rr L s) s := tbl_get h
theorem tbl_Te {rr : List (List Int)} {L : Int} {s j : Nat} (h : s ≤ 2 ^ rr.length) (hj : j < s) : (tbl rr L s).getD j 0 = Te rr L j := by rw [tbl_get hj, Te_eq (by omega)]
theorem Te_zero {rr : List (List Int)} {L : Int} : Te rr L 0 = 0 := by rw [Te_eq (Nat.pow_pos (by decide))]; rfl
theorem Te_bd {rr : List (List Int)} {m : Nat} (hk : Sd rr m) (L : Int) (s : Nat) : 0 ≤ Te rr L s ∧ Te rr L s ≤ (m : Int) + 1 := tbl_bd hk L
theorem entTo_le {rr : List (List Int)} {L : Int} {T : List Int} {s : Nat} : ∀ {c i : Nat}, i < c → bit s i = true → entTo rr L T s c ≤ enough (rr.getD i []) (T.getD (s - 2 ^ i) 0).toNat L
  | 0, i, h, _ => absurd h (Nat.not_lt_zero _)
  | c + 1, i, h, hb => by
    simp only [entTo]
    by_cases e : i = c
    · subst e; rw [if_pos hb]; omega
    · have := entTo_le (rr := rr) (L := L) (T := T) (c := c) (i := i) (by omega) hb
      split <;> omega
theorem entTo_at {rr : List (List Int)} {L : Int} {T : List Int} {s : Nat} : ∀ {c : Nat}, entTo rr L T s c = ((rr.getD 0 []).length : Int) + 1 ∨ ∃ i, i < c ∧ bit s i = true ∧ entTo rr L T s c = enough (rr.getD i []) (T.getD (s - 2 ^ i) 0).toNat L
  | 0 => .inl rfl
  | c + 1 => by
    have ih := entTo_at (rr := rr) (L := L) (T := T) (s := s) (c := c)
    simp only [entTo]
    have up : ∀ x, x = entTo rr L T s c → (x = ((rr.getD 0 []).length : Int) + 1 ∨ ∃ i, i < c + 1 ∧ bit s i = true ∧ x = enough (rr.getD i []) (T.getD (s - 2 ^ i) 0).toNat L) := fun x hx => by
      rw [hx]
      rcases ih with h | ⟨i, h1, h2, h3⟩
      · exact .inl h
      · exact .inr ⟨i, by omega, h2, h3⟩
    by_cases hb : bit s c = true
    · rw [if_pos hb]
      by_cases hm : entTo rr L T s c ≤ enough (rr.getD c []) (T.getD (s - 2 ^ c) 0).toNat L
      · rw [Int.min_eq_left hm]; exact up _ rfl
      · rw [Int.min_eq_right (by omega)]; exact .inr ⟨c, by omega, hb, rfl⟩
    · rw [if_neg hb]; exact up _ rfl
theorem lt64 {rr : List (List Int)} {m s : Nat} (hk : Sd rr m) (hs : s < 2 ^ rr.length) : s < 64 := by have := pow6 hk.n6; omega
theorem Te_le {rr : List (List Int)} {m : Nat} {L : Int} (hk : Sd rr m) {s i : Nat} (hs : s < 2 ^ rr.length) (hi : i < rr.length) (hb : bit s i = true) : Te rr L s ≤ enough (rr.getD i []) (Te rr L (s - 2 ^ i)).toNat L := by
  have h64 := lt64 hk hs
  have hn := hk.n6
  have hle := bit_sub s h64 i (by omega) hb
  have hp : 0 < 2 ^ i := Nat.pow_pos (by decide)
  rw [Te_eq hs]
  unfold ent
  rw [if_neg (by omega), ← tbl_Te (s := s) (by omega) (by omega)]
  exact entTo_le hi hb
theorem Te_at {rr : List (List Int)} {m : Nat} {L : Int} (hk : Sd rr m) {s : Nat} (hs : s < 2 ^ rr.length) (h0 : s ≠ 0) : Te rr L s = (m : Int) + 1 ∨ ∃ i, i < rr.length ∧ bit s i = true ∧ Te rr L s = enough (rr.getD i []) (Te rr L (s - 2 ^ i)).toNat L := by
  have h64 := lt64 hk hs
  have hn := hk.n6
  rw [Te_eq hs]
  unfold ent
  rw [if_neg h0]
  rcases entTo_at (rr := rr) (L := L) (T := tbl rr L s) (s := s) (c := rr.length) with h | ⟨i, h1, h2, h3⟩
  · left; rw [h, hk.m0]
  · have hle := bit_sub s h64 i (by omega) h2
    have hp : 0 < 2 ^ i := Nat.pow_pos (by decide)
    exact .inr ⟨i, h1, h2, by rw [h3, tbl_Te (by omega) (by omega)]⟩

/-- a run at the end -/
theorem nr_rep {c : Int} : ∀ {k : Nat} {a : List Int}, nr a → c ∉ a → nr (a ++ List.replicate k c)
  | 0, a, h, _ => by simpa using h
  | k + 1, [], _, _ => by
    induction k with
    | zero => trivial
    | succ k ih => exact ⟨.inl rfl, ih⟩
  | k + 1, [x], _, hc => by
    have h1 : nr ([] ++ List.replicate (k + 1) c) := nr_rep (k := k + 1) (a := []) trivial (by simp)
    refine ⟨.inr fun hm => ?_, h1⟩
    have : x = c := List.eq_of_mem_replicate (n := k + 1) hm
    exact hc (by simp [this])
  | k + 1, x :: y :: t, h, hc => by
    have h1 := nr_rep (k := k + 1) (a := y :: t) h.2 (fun h2 => hc (List.mem_cons_of_mem _ h2))
    refine ⟨?_, h1⟩
    rcases h.1 with e | e
    · exact .inl e
    · right
      intro hm
      have hm : x ∈ (y :: t) ++ List.replicate (k + 1) c := hm
      rcases List.mem_append.1 hm with hm | hm
      · exact e hm
      · have : x = c := List.eq_of_mem_replicate hm
        exact hc (by simp [this])
theorem nr_split : ∀ {a : List Int}, nr a → a ≠ [] → ∃ (b : List Int) (k : Nat) (c : Int), a = b ++ List.replicate (k + 1) c ∧ c ∉ b ∧ nr b
  | [], _, h => absurd rfl h
  | [x], _, _ => ⟨[], 0, x, rfl, by simp, trivial⟩
  | x :: y :: t, h, _ => by
    obtain ⟨b, k, c, e, hc, hb⟩ := nr_split (a := y :: t) h.2 (by simp)
    cases b with
    | nil =>
      by_cases hx : x = c
      · subst hx; exact ⟨[], k + 1, x, by rw [e]; rfl, by simp, trivial⟩
      · exact ⟨[x], k, c, by rw [e]; rfl, by simp; exact fun h => hx h.symm, trivial⟩
    | cons z b =>
      have hzy : z = y := by simpa using (congrArg (fun l => l.head?) e).symm
      subst hzy
      refine ⟨x :: z :: b, k, c, by rw [e]; rfl, fun hm => ?_, ?_, hb⟩
      · rcases List.mem_cons.1 hm with e2 | hm
        · subst e2
          rcases h.1 with e3 | e3
          · subst e3; exact hc List.mem_cons_self
          · refine e3 ?_
            rw [e]; simp
        · exact hc hm
      · rcases h.1 with e3 | e3
        · exact .inl e3
        · right; intro hm; refine e3 ?_
          rw [e]; exact List.mem_append_left _ hm
theorem worth_rep {r a : List Int} {c k : Int} : ∀ {n : Nat}, worth (a ++ List.replicate n c) r k (a ++ List.replicate n c).length = worth a r k a.length + if c = k then sumTo r (a.length + n) - sumTo r a.length else 0
  | 0 => by simp
  | n + 1 => by
    have ih := worth_rep (r := r) (a := a) (c := c) (k := k) (n := n)
    rw [List.replicate_succ', ← List.append_assoc, worth_snoc, ih, List.length_append, List.length_replicate]
    have e : sumTo r (a.length + (n + 1)) = sumTo r (a.length + n) + r.getD (a.length + n) 0 := rfl
    split <;> omega
theorem Te_reach {rr : List (List Int)} {m : Nat} {L : Int} (hk : Sd rr m) (hL : 1 ≤ L) : ∀ {s : Nat}, s < 2 ^ rr.length → Te rr L s ≤ m → Gs rr L s (Te rr L s).toNat := by
  intro s
  induction s using Nat.strongRecOn with
  | ind s ih =>
    intro hs hm
    have h64 := lt64 hk hs
    have hn := hk.n6
    by_cases h0 : s = 0
    · subst h0
      rw [Te_zero]
      refine ⟨[], rfl, fun y hy => by simp at hy, trivial, fun i hi hb => ?_⟩
      unfold bit at hb
      simp at hb
    · rcases Te_at (L := L) hk hs h0 with h | ⟨i, hi, hb, he⟩
      · omega
      · have hle := bit_sub s h64 i (by omega) hb
        have hp : 0 < 2 ^ i := Nat.pow_pos (by decide)
        have hd := bit_del s h64 i (by omega)
        have hrow := hk.row i hi
        have hbd := Te_bd hk L (s - 2 ^ i)
        by_cases hq : (Te rr L (s - 2 ^ i)).toNat ≤ (rr.getD i []).length
        · rcases enough_spec hL hq with ⟨e1, _⟩ | ⟨e, h1, h2, h3, h4, h5⟩
          · omega
          · obtain ⟨a, ha, ha2, ha3, ha4⟩ := ih (s - 2 ^ i) (by omega) (by omega) (by omega)
            have hni : ((i : Nat) : Int) ∉ a := fun hm2 => by
              obtain ⟨j, hj, e2, hbj⟩ := ha2 _ hm2
              have : i = j := by omega
              subst this
              rw [hd i (by omega) hb] at hbj
              simp at hbj
            have e3 : (Te rr L s).toNat = e := by omega
            refine ⟨a ++ List.replicate (e - a.length) (i : Int), by simp; omega, fun y hy => ?_, nr_rep ha3 hni, fun j hj hbj => ?_⟩
            · rcases List.mem_append.1 hy with hy | hy
              · obtain ⟨j, hj, e2, hbj⟩ := ha2 y hy
                rw [hd j (by omega) hb] at hbj
                exact ⟨j, hj, e2, by simp at hbj; exact hbj.1⟩
              · exact ⟨i, hi, List.eq_of_mem_replicate hy, hb⟩
            · rw [worth_rep]
              by_cases hij : i = j
              · subst hij
                rw [if_pos rfl, show a.length + (e - a.length) = e by omega, ha]
                have := worth_bd (a := a) (k := (i : Int)) (fun q => hk.val i q) a.length
                have e4 : ∀ q, val rr i q = (rr.getD i []).getD q 0 := fun _ => rfl
                rw [ha] at this
                have h6 : 0 ≤ worth a (rr.getD i []) i (Te rr L (s - 2 ^ i)).toNat := (worth_bd (a := a) (k := (i : Int)) (r := rr.getD i []) (fun q => hk.val i q) _).1
                omega
              · rw [if_neg (by omega)]
                have := ha4 j hj (by rw [hd j (by omega) hb, hbj]; simp; omega)
                omega
        · rw [enough_out hq] at he; omega
theorem Te_least {rr : List (List Int)} {m : Nat} {L : Int} (hk : Sd rr m) (hL : 1 ≤ L) : ∀ {s p : Nat}, s < 2 ^ rr.length → p ≤ m → Gs rr L s p → Te rr L s ≤ p := by
  intro s
  induction s using Nat.strongRecOn with
  | ind s ih =>
    intro p hs hp hg
    have h64 := lt64 hk hs
    have hn := hk.n6
    by_cases h0 : s = 0
    · subst h0; rw [Te_zero]; omega
    · obtain ⟨a, ha, ha2, ha3, ha4⟩ := hg
      have hne : a ≠ [] := fun e => by
        obtain ⟨i, hi, hb⟩ := bit_some s h64 h0
        by_cases hin : i < rr.length
        · have := ha4 i hin hb
          rw [e] at this
          have e0 : worth [] (rr.getD i []) i ([] : List Int).length = 0 := rfl
          omega
        · -- a bit above all agents
          have h1 := bit_sub s h64 i hi hb
          have h2 : 2 ^ rr.length ≤ 2 ^ i := Nat.pow_le_pow_right (by decide) (by omega)
          omega
      obtain ⟨b, k, c, e, hc, hb⟩ := nr_split ha3 hne
      obtain ⟨i, hi, rfl, hbi⟩ := ha2 c (by rw [e]; simp)
      have hle := bit_sub s h64 i (by omega) hbi
      have hpw : 0 < 2 ^ i := Nat.pow_pos (by decide)
      have hd := bit_del s h64 i (by omega)
      have hlen : b.length + (k + 1) = p := by rw [← ha, e]; simp
      have hrow := hk.row i hi
      have hw : ∀ j : Nat, worth a (rr.getD j []) j a.length = worth b (rr.getD j []) j b.length + if (i : Int) = (j : Int) then sumTo (rr.getD j []) (b.length + (k + 1)) - sumTo (rr.getD j []) b.length else 0 := fun j => by rw [e]; exact worth_rep
      have hT := ih (s - 2 ^ i) (by omega) (p := b.length) (by omega) (by omega) ⟨b, rfl, fun y hy => by
        obtain ⟨j, hj, e2, hbj⟩ := ha2 y (by rw [e]; exact List.mem_append_left _ hy)
        refine ⟨j, hj, e2, ?_⟩
        rw [hd j (by omega) hbi, hbj]
        have : j ≠ i := fun e3 => hc (by rw [← e3, ← e2]; exact hy)
        simp; exact this, hb, fun j hj hbj => by
        rw [hd j (by omega) hbi] at hbj
        simp at hbj
        have := ha4 j hj hbj.1
        rw [hw, if_neg (by omega)] at this; omega⟩
      have h1 := Te_le (L := L) hk hs hi hbi
      have hbd := Te_bd hk L (s - 2 ^ i)
      have h2 := enough_mono (l := rr.getD i []) (L := L) (fun j => (hk.val i j).1) hL (show (Te rr L (s - 2 ^ i)).toNat ≤ b.length by omega)
      have h3 := ha4 i hi hbi
      have hb0 : worth b (rr.getD i []) i b.length = 0 := by rw [worth_wf, wf_none hc]
      rw [hw, if_pos rfl, hb0, hlen] at h3
      rcases enough_spec hL (show b.length ≤ (rr.getD i []).length by omega) with ⟨_, h4⟩ | ⟨e4, h4, h5, h6, h7, h8⟩
      · have := h4 p (by omega) (by omega); omega
      · have : e4 ≤ p := Nat.le_of_not_lt fun hlt => by have := h8 p (by omega) hlt; omega
        omega
/-- the last entry tells whether there is a division of at least a level -/
theorem tab_div {rr : List (List Int)} {m : Nat} {L : Int} (hk : Sd rr m) (hL : 1 ≤ L) : Te rr L (2 ^ rr.length - 1) ≤ m ↔ ∃ a, divn rr a ∧ L ≤ lvl rr a := by
  have hn := hk.n6
  have hn1 := hk.n1
  have hm0 := hk.m0
  have hpw : 0 < 2 ^ rr.length := Nat.pow_pos (by decide)
  have hf := bit_full rr.length hn
  constructor
  · intro h
    obtain ⟨a, ha, ha2, ha3, ha4⟩ := Te_reach hk hL (show 2 ^ rr.length - 1 < 2 ^ rr.length by omega) h
    have h4 : ∀ i, i < rr.length → L ≤ worth a (rr.getD i []) i a.length := fun i hi => ha4 i hi (by rw [hf i (by omega)]; exact decide_eq_true hi)
    have hne : a ≠ [] := fun e => by
      have := h4 0 (by omega)
      rw [e] at this
      have e0 : worth [] (rr.getD 0 []) ((0 : Nat) : Int) ([] : List Int).length = 0 := rfl
      omega
    obtain ⟨b, k, c, e, hc, hb⟩ := nr_split ha3 hne
    obtain ⟨i, hi, rfl, hbi⟩ := ha2 c (by rw [e]; simp)
    have hlen : b.length + (k + 1) = a.length := by rw [e]; simp
    refine ⟨b ++ List.replicate (k + 1 + (m - a.length)) (i : Int), divn_iff.2 ⟨by simp only [List.length_append, List.length_replicate]; omega, fun y hy => ?_, nr_rep hb hc⟩, (lvl_ge hn1).2 fun j hj => ?_⟩
    · rcases List.mem_append.1 hy with hy | hy
      · obtain ⟨j, hj, e2, _⟩ := ha2 y (by rw [e]; exact List.mem_append_left _ hy)
        omega
      · have := List.eq_of_mem_replicate hy; omega
    · have h5 := h4 j hj
      have hw : worth a (rr.getD j []) j a.length = worth b (rr.getD j []) j b.length + if (i : Int) = (j : Int) then sumTo (rr.getD j []) (b.length + (k + 1)) - sumTo (rr.getD j []) b.length else 0 := by rw [e]; exact worth_rep
      rw [hw] at h5
      rw [worth_rep]
      by_cases hij : i = j
      · subst hij
        rw [if_pos rfl] at h5 ⊢
        have := sumTo_le (l := rr.getD i []) (fun q => (hk.val i q).1) (show b.length + (k + 1) ≤ b.length + (k + 1 + (m - a.length)) by omega)
        omega
      · rw [if_neg (by omega)] at h5 ⊢; exact h5
  · rintro ⟨a, hd, hl⟩
    obtain ⟨h1, h2, h3⟩ := divn_iff.1 hd
    have h4 := (lvl_ge hn1).1 hl
    refine Te_least hk hL (by omega) (Nat.le_refl _) ⟨a, by rw [h1, hm0], fun y hy => ?_, h3, fun i hi _ => h4 i hi⟩
    have := h2 y hy
    exact ⟨y.toNat, by omega, by omega, by rw [hf _ (by omega)]; exact decide_eq_true (by omega)⟩
end Go.Proofs.Ytclbiabiiknolaa
set_option linter.unusedVariables false
set_option linter.unusedSimpArgs false
namespace Go.Eng
open Go.RowKit

section
variable {P : Program}
theorem equalIn_arr3 {d : Nat} {t e : TypeId} (ht : P.underlying t = some (.array 3 e)) (he : P.underlying e = some (.int .i64)) (hc : P.cellsOf e = 1) (a b c a' b' c' : Int) (w : World) :
    (Op.equalIn (d + 1 + 1) t (.agg #[.int .i64 a, .int .i64 b, .int .i64 c]) (.agg #[.int .i64 a', .int .i64 b', .int .i64 c'])).run P w = .ok (a == a' && b == b' && c == c') w := by
  have hs : ∀ w, (Go.sizeOf e).run P w = .ok 1 w := fun w => sizeOf_run hc (by omega) w
  have hp : ∀ (x : Value) (cs : Array Value) (i : Nat) w, cs[i]? = some x → (part e cs i).run P w = .ok x w := fun x cs i w h => by
    simp [part, isAgg_run he, aggD, h]
  rw [Op.equalIn]
  simp only [Sem.run_bind, run_underlying ht, Result.andThen_ok, hs]
  simp only [Std.Legacy.Range.forIn_eq_forIn_range', Std.Legacy.Range.size, List.range', List.forIn_cons, List.forIn_nil, Sem.run_bind]
  have p0 : ∀ (x y z : Int) w, (part e #[.int .i64 x, .int .i64 y, .int .i64 z] (0 * 1)).run P w = .ok (.int .i64 x) w := fun x y z w => hp _ _ _ w (by simp)
  have p1 : ∀ (x y z : Int) w, (part e #[.int .i64 x, .int .i64 y, .int .i64 z] ((0 + 1) * 1)).run P w = .ok (.int .i64 y) w := fun x y z w => hp _ _ _ w (by simp)
  have p2 : ∀ (x y z : Int) w, (part e #[.int .i64 x, .int .i64 y, .int .i64 z] ((0 + 1 + 1) * 1)).run P w = .ok (.int .i64 z) w := fun x y z w => hp _ _ _ w (by simp)
  have q : ∀ (x y : Int) w, (Op.equalIn (d + 1) e (.int .i64 x) (.int .i64 y)).run P w = .ok (x == y) w := fun x y w => run_equalIn_int w d e .i64 .i64 x y he
  simp only [p0, q, Result.andThen_ok]
  by_cases h1 : a = a'
  · subst h1
    by_cases h2 : b = b'
    · subst h2
      by_cases h3 : c = c'
      · subst h3; simp [p1, p2, q]
      · simp [p1, p2, q, h3]
    · simp [p1, q, h2]
  · simp [h1]
theorem checkKey_arr3 {d : Nat} {t e : TypeId} (em : Bool) (ht : P.underlying t = some (.array 3 e)) (he : P.underlying e = some (.int .i64)) (hc : P.cellsOf e = 1) (a b c : Int) (w : World) :
    (Instr.checkKey em (d + 1 + 1) t (.agg #[.int .i64 a, .int .i64 b, .int .i64 c])).run P w = .ok () w := by
  have hs : ∀ w, (Go.sizeOf e).run P w = .ok 1 w := fun w => sizeOf_run hc (by omega) w
  have hp : ∀ (x : Value) (cs : Array Value) (i : Nat) w, cs[i]? = some x → (part e cs i).run P w = .ok x w := fun x cs i w h => by
    simp [part, isAgg_run he, aggD, h]
  have q : ∀ (x : Int) w, (Instr.checkKey em (d + 1) e (.int .i64 x)).run P w = .ok () w := fun x w => by
    rw [Instr.checkKey]
    simp only [Sem.run_bind, run_underlying he, Result.andThen_ok, Sem.run_pure]
  rw [Instr.checkKey]
  simp only [Sem.run_bind, run_underlying ht, Result.andThen_ok, hs]
  simp only [Std.Legacy.Range.forIn_eq_forIn_range', Std.Legacy.Range.size, List.range', List.forIn_cons, List.forIn_nil, Sem.run_bind, hs, Result.andThen_ok]
  have p0 : ∀ (x y z : Int) w, (part e #[.int .i64 x, .int .i64 y, .int .i64 z] (0 * 1)).run P w = .ok (.int .i64 x) w := fun x y z w => hp _ _ _ w (by simp)
  have p1 : ∀ (x y z : Int) w, (part e #[.int .i64 x, .int .i64 y, .int .i64 z] ((0 + 1) * 1)).run P w = .ok (.int .i64 y) w := fun x y z w => hp _ _ _ w (by simp)
  have p2 : ∀ (x y z : Int) w, (part e #[.int .i64 x, .int .i64 y, .int .i64 z] ((0 + 1 + 1) * 1)).run P w = .ok (.int .i64 z) w := fun x y z w => hp _ _ _ w (by simp)
  simp [hs, p0, p1, p2, q]

abbrev KV (a b c : Int) : Value := .agg #[.int .i64 a, .int .i64 b, .int .i64 c]
theorem KV.inj {a b c a' b' c' : Int} (h : KV a b c = KV a' b' c') : a = a' ∧ b = b' ∧ c = c' := by
  simpa [KV] using h
theorem findAsking_arr3 {t e : TypeId} (ht : P.underlying t = some (.array 3 e)) (he : P.underlying e = some (.int .i64)) (hc : P.cellsOf e = 1) (a b c : Int) : ∀ (es : List MapEntry) (i : Nat),
    (∀ (j : Nat) (x : MapEntry), es[j]? = some x → ∃ p q r, x.key = KV p q r) → ∃ r, (∀ w, (Instr.findAsking t (KV a b c) es i).run P w = .ok r w) ∧ (r = none ∨ ∃ j x, r = some (i + j, x.val) ∧ es[j]? = some x ∧ x.key = KV a b c)
  | [], i, _ => ⟨none, fun w => by simp [Instr.findAsking], .inl rfl⟩
  | x :: es, i, h => by
    obtain ⟨p, q, r, hx⟩ := h 0 x rfl
    have he2 : ∀ w, (Op.equal t (KV a b c) x.key).run P w = .ok (a == p && b == q && c == r) w := fun w => by
      rw [hx]; exact equalIn_arr3 (d := 9998) ht he hc a b c p q r w
    by_cases hq : (a == p && b == q && c == r) = true
    · refine ⟨some (i, x.val), fun w => by simp only [Instr.findAsking, Sem.run_bind, he2, hq, Result.andThen_ok, if_true, Sem.run_pure], .inr ⟨0, x, rfl, rfl, ?_⟩⟩
      simp only [Bool.and_eq_true, beq_iff_eq] at hq
      rw [hx, hq.1.1, hq.1.2, hq.2]
    · obtain ⟨r2, h1, h2⟩ := findAsking_arr3 ht he hc a b c es (i + 1) (fun j y hy => h (j + 1) y (by simpa using hy))
      refine ⟨r2, fun w => by simp only [Instr.findAsking, Sem.run_bind, he2, hq, Result.andThen_ok, Bool.false_eq_true, if_false, h1], ?_⟩
      rcases h2 with h2 | ⟨j, y, h2, h3, h4⟩
      · exact .inl h2
      · exact .inr ⟨j + 1, y, by rw [h2]; congr 2; omega, by simpa using h3, h4⟩
theorem findKey_arr3 {t e : TypeId} (ht : P.underlying t = some (.array 3 e)) (he : P.underlying e = some (.int .i64)) (hc : P.cellsOf e = 1) (a b c : Int) (es : List MapEntry)
    (h : ∀ (j : Nat) (x : MapEntry), es[j]? = some x → ∃ p q r, x.key = KV p q r) : ∃ r, (∀ w, (Instr.findKey t (KV a b c) es).run P w = .ok r w) ∧ (r = none ∨ ∃ j x, r = some (j, x.val) ∧ es[j]? = some x ∧ x.key = KV a b c) := by
  cases es with
  | nil => exact ⟨none, fun w => by simp [Instr.findKey, run_underlying ht, Instr.findNow], .inl rfl⟩
  | cons x es =>
    obtain ⟨r, h1, h2⟩ := findAsking_arr3 ht he hc a b c (x :: es) 0 h
    refine ⟨r, fun w => ?_, ?_⟩
    · have hn : Instr.findNow (.array 3 e) (KV a b c) (x :: es) 0 = none := by simp [Instr.findNow, Instr.sameNow]
      simp only [Instr.findKey, Sem.run_bind, run_underlying ht, Result.andThen_ok, hn, h1]
    · rcases h2 with h2 | ⟨j, y, h2, h3, h4⟩
      · exact .inl h2
      · exact .inr ⟨j, y, by rw [h2]; congr 2; omega, h3, h4⟩

/-- a map with a fact for each entry -/
def MD (w : World) (b : Nat) (Q : Int → Int → Int → Int → Prop) : Prop := ∃ es clock, w.heap[b]? = some (.map es clock) ∧ ∀ (j : Nat) x, es.toList[j]? = some x → ∃ p q r y, x.key = KV p q r ∧ x.val = .int .i64 y ∧ Q p q r y
variable {w w' : World} {b : Nat} {Q : Int → Int → Int → Int → Prop}
theorem MD.lt (h : MD w b Q) : b < w.heap.size := by
  obtain ⟨es, clock, hb, _⟩ := h
  exact (Array.getElem?_eq_some_iff.1 hb).1
theorem MD.gr {S : Nat → Prop} (h : MD w b Q) (hg : Gr S w w') (hS : ¬ S b) : MD w' b Q := by
  have hl := h.lt
  obtain ⟨es, clock, hb, hq⟩ := h
  exact ⟨es, clock, (hg.block b hl hS).trans hb, hq⟩
theorem MD.ext (h : MD w b Q) (hx : Ext w w') : MD w' b Q := h.gr hx fun hf => hf
theorem MD.look {T t e : TypeId} {s n : Nat} (hT : P.underlying T = some (.map t e)) (ht : P.underlying t = some (.array 3 e)) (he : P.underlying e = some (.int .i64)) (hc : P.cellsOf e = 1) (hz : Elem P e (.int .i64 0) s n)
    (h : MD w b Q) {p q r : Int} {K : Value → Prop} (h0 : K (.tuple #[.int .i64 0, .bool false])) (h1 : ∀ y, Q p q r y → K (.tuple #[.int .i64 y, .bool true])) : VS P (Instr.lookup T (.map (some b)) (KV p q r) true) w K := by
  have hl := h.lt
  obtain ⟨es, clock, hb, hq⟩ := h
  obtain ⟨i, hi, hzz, _, _⟩ := hz.info
  obtain ⟨rr, hr1, hr2⟩ := findKey_arr3 ht he hc p q r es.toList (fun j x hx => by obtain ⟨p, q, r, y, h1, _, _⟩ := hq j x hx; exact ⟨p, q, r, h1⟩)
  have hb' : ∀ w1, Ext w w1 → w1.heap[b]? = some (.map es clock) := fun w1 hx => (hx.block b hl fun hf => hf).trans hb
  have hck : ∀ w1, (Instr.checkKey es.isEmpty 10000 t (KV p q r)).run P w1 = .ok () w1 := fun w1 => checkKey_arr3 (d := 9998) es.isEmpty ht he hc p q r w1
  rcases hr2 with rfl | ⟨j, x, rfl, hx, hk⟩
  · refine VS.mk (v := .tuple #[.int .i64 0, .bool false]) (fun w1 hx => ?_) h0
    simp [Instr.lookup, run_underlying hT, MapKept.run_getObj_map (hb' w1 hx), hck, hr1, Result.andThen, zeroValue, typeInfo, hi, hzz]
  · obtain ⟨p', q', r', y, h2, h3, h4⟩ := hq j x hx
    obtain ⟨rfl, rfl, rfl⟩ := KV.inj (h2.symm.trans hk)
    refine VS.mk (v := .tuple #[.int .i64 y, .bool true]) (fun w1 hx => ?_) (h1 y h4)
    simp [Instr.lookup, run_underlying hT, MapKept.run_getObj_map (hb' w1 hx), hck, hr1, Result.andThen, h3]
theorem sameBits_KV (p q r : Int) : Instr.sameBits 10000 (KV p q r) (KV p q r) = true := by
  show Instr.sameBits (9999 + 1) _ _ = true
  simp [Instr.sameBits]
theorem MD.set {o : Obj} (hl : b < w.heap.size) {es : Array MapEntry} {clock : Nat} (ho : o = .map es clock) (hq : ∀ (j : Nat) x, es.toList[j]? = some x → ∃ p q r y, x.key = KV p q r ∧ x.val = .int .i64 y ∧ Q p q r y) :
    Gr (fun j => j = b) w { w with heap := w.heap.setIfInBounds b o } ∧ MD { w with heap := w.heap.setIfInBounds b o } b Q := by
  refine ⟨⟨rfl, rfl, rfl, by simp, fun k _ hk => ?_⟩, es, clock, ?_, hq⟩
  · show (w.heap.setIfInBounds b o)[k]? = _
    rw [Array.getElem?_setIfInBounds_ne (fun e => hk e.symm)]
  · show (w.heap.setIfInBounds b o)[b]? = _
    rw [Array.getElem?_setIfInBounds_self_of_lt hl, ho]
theorem MD.put {T t e : TypeId} (hT : P.underlying T = some (.map t e)) (ht : P.underlying t = some (.array 3 e)) (he : P.underlying e = some (.int .i64)) (hc : P.cellsOf e = 1)
    (h : MD w b Q) {p q r y : Int} {K : World → Prop} (hy : Q p q r y) (hK : ∀ w', Gr (fun j => j = b) w w' → MD w' b Q → K w') : VU P (Instr.mapUpdate T (.map (some b)) (KV p q r) (.int .i64 y)) w K := by
  simp only [VU]
  intro w1 hw1
  have h' := h.ext hw1
  have hl := h'.lt
  obtain ⟨es, clock, hb, hq⟩ := h'
  obtain ⟨rr, hr1, hr2⟩ := findKey_arr3 ht he hc p q r es.toList (fun j x hx => by obtain ⟨p, q, r, y, h1, _, _⟩ := hq j x hx; exact ⟨p, q, r, h1⟩)
  have hck : ∀ w1, (Instr.checkKey false 10000 t (KV p q r)).run P w1 = .ok () w1 := fun w1 => checkKey_arr3 (d := 9998) false ht he hc p q r w1
  rcases hr2 with rfl | ⟨j, x, rfl, hx, hk⟩
  · obtain ⟨g1, g2⟩ := MD.set (w := w1) (Q := Q) (o := .map (es.push { key := KV p q r, val := .int .i64 y, born := clock }) (clock + 1)) hl rfl (fun j x hx => by
      rw [Array.toList_push, List.getElem?_append] at hx
      split at hx
      · exact hq j x hx
      · rename_i hj
        have : j - es.toList.length = 0 := by
          refine Classical.byContradiction fun hne => ?_
          rw [List.getElem?_eq_none (by simp only [List.length_singleton]; omega)] at hx; cases hx
        rw [this] at hx
        simp at hx
        subst hx
        exact ⟨p, q, r, y, rfl, rfl, hy⟩)
    refine ⟨_, ?_, _, Ext.refl _, hK _ ((Gr.ofExt hw1).trans g1) g2⟩
    simp [Instr.mapUpdate, run_underlying hT, MapKept.run_getObj_map hb, hck, hr1, MapKept.run_setObj_map _ hb, Result.andThen]
  · have hx2 : es[j]? = some x := by rw [← Array.getElem?_toList]; exact hx
    obtain ⟨g1, g2⟩ := MD.set (w := w1) (Q := Q) (o := .map (es.modify j fun e => { e with key := KV p q r, val := .int .i64 y }) clock) hl rfl (fun i z hz => by
      rw [Array.getElem?_toList, Array.getElem?_modify] at hz
      split at hz
      · rename_i e; subst e
        rw [hx2] at hz
        simp at hz
        subst hz
        exact ⟨p, q, r, y, rfl, rfl, hy⟩
      · exact hq i z (by rw [Array.getElem?_toList]; exact hz))
    refine ⟨_, ?_, _, Ext.refl _, hK _ ((Gr.ofExt hw1).trans g1) g2⟩
    simp [Instr.mapUpdate, run_underlying hT, MapKept.run_getObj_map hb, hck, hr1, MapKept.run_setObj_map _ hb, Result.andThen, hx2, hk, Instr.keyThatStays, sameBits_KV]
theorem VX.makeMap {T : TypeId} {K : Value → World → Prop} (Q : Int → Int → Int → Int → Prop) (hk : ∀ b w', Ext w w' → w.heap.size ≤ b → MD w' b Q → K (.map (some b)) w') : VX P (Instr.makeMap T none) w K := by
  refine VX.mk fun w1 hw1 => ?_
  refine ⟨_, _, ?_, (Ext.refl w1).alloc _, hk w1.heap.size (w1.alloc (.map #[] 0)) (hw1.alloc _) hw1.size ⟨#[], 0, heap_alloc_new w1 _, fun j x hx => by simp at hx⟩⟩
  simp [Instr.makeMap]
theorem VE.makeMap {T : TypeId} {K : Value → World → Prop} (Q : Int → Int → Int → Int → Prop) (hk : ∀ b w', Ext w w' → w.heap.size ≤ b → MD w' b Q → K (.map (some b)) w') : VE P (Instr.makeMap T none) w K := VX.toVE (VX.makeMap Q hk)
end
end Go.Eng
set_option linter.unusedVariables false
set_option linter.unusedSimpArgs false
namespace Go.Proofs.Ytclbiabiiknolaa
open Go.Eng
set_option maxRecDepth 100000
set_option maxHeartbeats 4000000

theorem eKey3 : Elem Try.prog 73 (.agg #[.int .i64 0, .int .i64 0, .int .i64 0]) 3 24 := by unfold Elem; kernel_rfl
theorem VS.arr3 {P : Program} {w : World} {t e : TypeId} {N b : Nat} {x y z z0 z1 z2 : Int} {K : Value → Prop} (ht : P.underlying t = some (.array 3 e)) (hz : Elem P t (.agg #[.int .i64 z0, .int .i64 z1, .int .i64 z2]) N b) (hce : P.cellsOf e = 1) (hk : K (.agg #[.int .i64 x, .int .i64 y, .int .i64 z])) :
    VS P (Instr.build t [(0, .int .i64 x), (1, .int .i64 y), (2, .int .i64 z)].toArray) w K :=
  VS.arr ht hz hce (by decide) rfl rfl (by intro v hv; simp at hv; rcases hv with rfl | rfl | rfl <;> rfl) hk
/-- nothing follows -/
def DQ (rr : List (List Int)) (L : Int) (m : Nat) (s p g y : Int) : Prop := ∀ l : List Int, (l.length : Int) + p = m → ¬ Cont rr L p.toNat g.toNat y s.toNat l
structure SSt (W0 w : World) (sb mb : Nat) (vv : Value) (rr : List (List Int)) (L : Int) (m : Nat) : Prop where
  ex : Ext W0 w
  bx : Blk w sb 67 [vv, .int .i64 L, .map (some mb)]
  md : MD w mb (DQ rr L m)
  bm : W0.heap.size ≤ mb
  ne : sb ≠ mb
theorem SSt.ext {W0 w w' : World} {sb mb : Nat} {vv : Value} {rr : List (List Int)} {L : Int} {m : Nat} (h : SSt W0 w sb mb vv rr L m) (hx : Ext w w') : SSt W0 w' sb mb vv rr L m := ⟨h.ex.trans hx, h.bx.ext hx, h.md.ext hx, h.bm, h.ne⟩
def FrR (rr : List (List Int)) (L : Int) (m p ag : Nat) (s : Int) (set : Nat) (w : World) (u : Value) : Prop :=
  (∃ lv l, u = .tuple #[lv, .bool true] ∧ OI w lv l ∧ l.length + p = m ∧ Cont rr L p ag s set l ∧ ∀ l', l'.length + p = m → Cont rr L p ag s set l' → ¬ lexlt l' l) ∨
  (u = .tuple #[.slice none 0 0, .bool false] ∧ ∀ l : List Int, l.length + p = m → ¬ Cont rr L p ag s set l)
theorem fr_dq {rr : List (List Int)} {L : Int} {m p ag set : Nat} {s : Int} (h : ∀ l : List Int, l.length + p = m → ¬ Cont rr L p ag s set l) : DQ rr L m (set : Int) (p : Int) (ag : Int) s := fun l hl => by
  rw [Int.toNat_natCast, Int.toNat_natCast, Int.toNat_natCast]; exact h l (by omega)
theorem dq_fr {rr : List (List Int)} {L : Int} {m p ag set : Nat} {s y : Int} (h : DQ rr L m (set : Int) (p : Int) (ag : Int) y) (hs : s ≤ y) : ∀ l : List Int, l.length + p = m → ¬ Cont rr L p ag s set l := fun l hl hc => by
  have h2 := h l (by omega)
  rw [Int.toNat_natCast, Int.toNat_natCast, Int.toNat_natCast] at h2
  exact h2 (cont_mono hs hc)
theorem lexlt_head {x y : Int} {a b : List Int} (h : lexlt (x :: a) (y :: b)) : x < y ∨ x = y ∧ lexlt a b := h
theorem fr_cons {rr : List (List Int)} {L : Int} {m p ag set c : Nat} {s : Int} (hno : ∀ i, i < c → ∀ l : List Int, l.length + 1 + p = m → ¬ Cont rr L p ag s set ((i : Int) :: l)) {l : List Int} (hl : l.length + 1 + p = m)
    (hc : Cont rr L p ag s set ((c : Int) :: l)) (hf : ∀ l' : List Int, l'.length + 1 + p = m → Cont rr L p ag s set ((c : Int) :: l') → ¬ lexlt l' l) (l' : List Int) (hl' : l'.length + p = m) (h' : Cont rr L p ag s set l') : ¬ lexlt l' ((c : Int) :: l) := by
  cases l' with
  | nil => simp only [List.length_nil] at hl'; omega
  | cons x t =>
    simp only [List.length_cons] at hl'
    intro hlt
    have hx : ∃ i : Nat, x = (i : Int) := by
      rcases h' with ⟨h, _⟩ | ⟨i, _, h, _⟩
      · exact ⟨ag, h⟩
      · exact ⟨i, h⟩
    obtain ⟨i, rfl⟩ := hx
    rcases lexlt_head hlt with h | ⟨h, h2⟩
    · exact hno i (by omega) t (by omega) h'
    · obtain rfl : i = c := by omega
      exact hf t (by omega) h' h2
theorem fr_none {rr : List (List Int)} {L : Int} {m p ag set : Nat} {s : Int} (hag : ag < rr.length) (hp : p < m) (hno : ∀ i, i < rr.length → ∀ l : List Int, l.length + 1 + p = m → ¬ Cont rr L p ag s set ((i : Int) :: l)) (l : List Int) (hl : l.length + p = m) : ¬ Cont rr L p ag s set l := by
  cases l with
  | nil => simp only [List.length_nil] at hl; omega
  | cons x t =>
    simp only [List.length_cons] at hl
    intro h'
    have hx : ∃ i : Nat, i < rr.length ∧ x = (i : Int) := by
      rcases h' with ⟨h, _⟩ | ⟨i, h0, h, _⟩
      · exact ⟨ag, hag, h⟩
      · exact ⟨i, h0, h⟩
    obtain ⟨i, hi, rfl⟩ := hx
    exact hno i hi t (by omega) h'
theorem cont_own {rr : List (List Int)} {L : Int} {p ag set : Nat} {s : Int} {l : List Int} : Cont rr L p ag s set ((ag : Int) :: l) ↔ Cont rr L (p + 1) ag (s + val rr ag p) set l := by
  constructor
  · rintro (⟨_, h⟩ | ⟨i, _, h, hne, _⟩)
    · exact h
    · exact absurd (by omega) hne
  · exact fun h => .inl ⟨rfl, h⟩
theorem cont_other {rr : List (List Int)} {L : Int} {p ag set c : Nat} {s : Int} {l : List Int} (hc : c < rr.length) (hne : c ≠ ag) : Cont rr L p ag s set ((c : Int) :: l) ↔ bit set c = true ∧ L ≤ s ∧ Cont rr L (p + 1) c (0 + val rr c p) (set - 2 ^ c) l := by
  rw [Int.zero_add]
  constructor
  · rintro (⟨h, _⟩ | ⟨i, _, h, _, h2, h3, h4⟩)
    · exact absurd (by omega) hne
    · obtain rfl : c = i := by omega
      exact ⟨h2, h3, h4⟩
  · exact fun h => .inr ⟨c, hc, rfl, hne, h.1, h.2.1, h.2.2⟩

theorem dn_t {L s : Int} {P : Nat → Prop} (h : L ≤ s) : true = tf (L ≤ s ∧ ∀ i, i < 0 → P i) := (tf_t ⟨h, fun i hi => absurd hi (Nat.not_lt_zero i)⟩).symm
theorem dn_f {L s : Int} {P : Nat → Prop} (h : ¬ L ≤ s) : false = tf (L ≤ s ∧ ∀ i, i < 0 → P i) := (tf_f fun hh => h hh.1).symm
theorem leaf_step {L : Int} {set c : Nat} (h : ∀ i, i < c → bit set i = true → L ≤ 0) (hb : bit set c = false) (i : Nat) (hi : i < c + 1) (hbi : bit set i = true) : L ≤ 0 := by
  by_cases e : i = c
  · subst e; rw [hb] at hbi; cases hbi
  · exact h i (by omega) hbi
theorem no_step {P : Nat → Prop} {c : Nat} (h : ∀ i, i < c → P i) (hc : P c) (i : Nat) (hi : i < c + 1) : P i := by
  by_cases e : i = c
  · subst e; exact hc
  · exact h i (by omega)
theorem OI.cons {w : World} {v : Value} {B : Nat} {x : Int} {l : List Int} (h : Go.Eng.Own B 3 1 w v (1 + l.length) ([x].map i64v ++ l.map i64v)) : OI w v (x :: l) := by
  have e : 1 + l.length = (x :: l).length := by simp only [List.length_cons]; omega
  rw [e] at h
  exact Own.base h (Nat.zero_le _)
theorem sfrom_rc {rr : List (List Int)} {mm : Nat} {L : Int} (hk : Sd rr mm) (hL : 0 ≤ L ∧ L ≤ 16000) : ∀ (j p : Nat), p + j = mm → ∀ {W0 w : World} {sb mb ag set : Nat} {vv : Value} {vs : List Value} {s : Int}, ag < rr.length → set < 2 ^ rr.length → 0 ≤ s ∧ s ≤ 1000 * p → Mat W0 vv vs rr → SSt W0 w sb mb vv rr L mm →
    RC Try.prog 43 [.pointer (some ⟨sb, 0, none⟩), .int .i64 (p : Int), .int .i64 (ag : Int), .int .i64 s, .int .i64 (set : Int)] w (fun k => k = mb) (fun u w' => SSt W0 w' sb mb vv rr L mm ∧ FrR rr L mm p ag s set w' u)
  | 0, p, hpj, W0, w, sb, mb, ag, set, vv, vs, s, hag, hset, hs, HV0, HS => by
    obtain rfl : p = mm := by omega
    have hn1 := hk.n1
    have hn6 := hk.n6
    have hm16 := hk.m16
    have hm0 := hk.m0
    have h64 := lt64 hk hset
    refine RC.mk tyOk Try.func43 rfl (by kernel_rfl) fun w1 E1 => ?_
    replace HS := HS.ext E1
    have EE := Ext.refl w1
    have HK := HS.bx
    have HV := HV0.ext HS.ex
    have HM := HS.md
    by_cases hLs : L ≤ s
    · repeat' ((conv => whnf); first | (refine Dr.quiet tyOk (by kernel_rfl) ?_) | (refine Blk.ldA HK rfl ?_) | (refine Mat.ld (c := 0) HV (by omega) ?_) | (refine Rng.mk (by omega) ?_) | (refine Split.pos (by omega) ?_) | (refine Split.neg (by omega) ?_) | (refine Split.mk (fun h => ?_) (fun h => ?_)) | (refine Need.mk (by omega) ?_) | (refine Ints.ln (by assumption) ?_) | (refine Mat.ln (by assumption) ?_) | (refine Ints.ln (Mat.row (by assumption) _ (by omega)) ?_) | (refine Ints.ix (by assumption) (by omega) ?_) | (refine Mat.ix (by assumption) (by omega) ?_) | (refine Ints.ix (Mat.row (by assumption) _ (by omega)) (by omega) ?_) | (refine Ints.ix (c := 0) (by assumption) (by omega) ?_) | (refine Mat.ix (c := 0) (by assumption) (by omega) ?_) | (refine Ints.ix (c := 0) (Mat.row (by assumption) _ (by omega)) (by omega) ?_) | (refine Ints.ixI (by assumption) (by omega) ?_) | (refine Mat.ixI (by assumption) (by omega) ?_) | (refine Ints.ixI (Mat.row (by assumption) _ (by omega)) (by omega) ?_) | (refine Ints.ld (by assumption) (by omega) ?_) | (refine Mat.ld (by assumption) (by omega) ?_) | (refine Ints.ld (Mat.row (by assumption) _ (by omega)) (by omega) ?_) | (refine At.ld (by assumption) rfl ?_) | (refine At.ldN (by assumption) rfl ?_) | (refine Prs.ln (by assumption) ?_) | (refine Trs.ln (by assumption) ?_) | (refine Prs.ix (by assumption) (by omega) ?_) | (refine Trs.ix (by assumption) (by omega) ?_) | (refine Prs.ldN (by assumption) (by omega) ?_) | (refine Trs.ldN (by assumption) (by omega) ?_) | (refine At.ldN (Blk.at (by assumption)) rfl ?_) | (refine At.ld (Blk.at (by assumption)) rfl ?_) | (refine IxA.mk (by omega) ?_) | (refine Sl.ln (Own.sl (by assumption)) ?_) | (refine Ints.ix (Own.sl (by assumption)) (by omega) ?_) | (refine Ints.ixI (Own.sl (by assumption)) (by omega) ?_) | (refine Ints.ld (Own.sl (by assumption)) (by omega) ?_))
      refine Lp.mk tyOk [false, false, false, false, false, false, false, false, false, false, false, false, true, true, false, false, false, false, false, false, false, false, false, false, false, false, false, false, false, false, false, false, false, false, false, false, false, false, false, false, false, false, false, true, true, true, true, true, true, true, true, true, true, true, true, true, true, true, true, true, true, true] (fun m fr wr => getK fr 43 fun i => getK fr 12 fun done => ∃ c : Nat, c ≤ rr.length ∧ m = rr.length - c ∧ i = .int .i64 (c : Int) ∧ done = .bool (tf (L ≤ s ∧ ∀ i, i < c → bit set i = true → L ≤ 0)) ∧ wr = w1) (rr.length) ?_ ?_
      · exact ⟨0, Nat.zero_le _, rfl, rfl, (congrArg Value.bool (dn_t hLs)), rfl⟩
      · intro m w2 u12 u13 u43 u44 u45 u46 u47 u48 u49 u50 u51 u52 u53 u54 u55 u56 u57 u58 u59 u60 u61 hR
        obtain ⟨c, hc, rfl, rfl, rfl, rfl⟩ := hR
        clear hLs
        by_cases hcl : c < rr.length
        · by_cases hD : L ≤ s ∧ ∀ i, i < c → bit set i = true → L ≤ 0
          · rw [tf_t hD]
            cases hb : bit set c with
            | true =>
              have hb1 := bit_t hb
              by_cases h0 : L ≤ 0
              · repeat' ((conv => whnf); first | (refine Dr.quiet tyOk (by kernel_rfl) ?_) | (refine VS.shr (s := set) (i := c) (by omega) ?_) | (refine VS.and1 (by have := Nat.div_le_self set (2 ^ c); omega) ?_) | (refine Blk.ldA HK rfl ?_) | (refine Rng.mk (by omega) ?_) | (refine Split.pos (by omega) ?_) | (refine Split.neg (by omega) ?_) | (refine Split.mk (fun h => ?_) (fun h => ?_)) | (refine Need.mk (by omega) ?_) | (refine Ints.ln (by assumption) ?_) | (refine Mat.ln (by assumption) ?_) | (refine Ints.ln (Mat.row (by assumption) _ (by omega)) ?_) | (refine Ints.ix (by assumption) (by omega) ?_) | (refine Mat.ix (by assumption) (by omega) ?_) | (refine Ints.ix (Mat.row (by assumption) _ (by omega)) (by omega) ?_) | (refine Ints.ix (c := 0) (by assumption) (by omega) ?_) | (refine Mat.ix (c := 0) (by assumption) (by omega) ?_) | (refine Ints.ix (c := 0) (Mat.row (by assumption) _ (by omega)) (by omega) ?_) | (refine Ints.ixI (by assumption) (by omega) ?_) | (refine Mat.ixI (by assumption) (by omega) ?_) | (refine Ints.ixI (Mat.row (by assumption) _ (by omega)) (by omega) ?_) | (refine Ints.ld (by assumption) (by omega) ?_) | (refine Mat.ld (by assumption) (by omega) ?_) | (refine Ints.ld (Mat.row (by assumption) _ (by omega)) (by omega) ?_) | (refine At.ld (by assumption) rfl ?_) | (refine At.ldN (by assumption) rfl ?_) | (refine Prs.ln (by assumption) ?_) | (refine Trs.ln (by assumption) ?_) | (refine Prs.ix (by assumption) (by omega) ?_) | (refine Trs.ix (by assumption) (by omega) ?_) | (refine Prs.ldN (by assumption) (by omega) ?_) | (refine Trs.ldN (by assumption) (by omega) ?_) | (refine At.ldN (Blk.at (by assumption)) rfl ?_) | (refine At.ld (Blk.at (by assumption)) rfl ?_) | (refine IxA.mk (by omega) ?_) | (refine Sl.ln (Own.sl (by assumption)) ?_) | (refine Ints.ix (Own.sl (by assumption)) (by omega) ?_) | (refine Ints.ixI (Own.sl (by assumption)) (by omega) ?_) | (refine Ints.ld (Own.sl (by assumption)) (by omega) ?_))
                refine ⟨_, (by omega : rr.length - (c + 1) < rr.length - c), rfl, c + 1, by omega, rfl, rfl, (congrArg Value.bool (tf_t ⟨hD.1, fun _ _ _ => h0⟩).symm), rfl⟩
              · repeat' ((conv => whnf); first | (refine Dr.quiet tyOk (by kernel_rfl) ?_) | (refine VS.shr (s := set) (i := c) (by omega) ?_) | (refine VS.and1 (by have := Nat.div_le_self set (2 ^ c); omega) ?_) | (refine Blk.ldA HK rfl ?_) | (refine Rng.mk (by omega) ?_) | (refine Split.pos (by omega) ?_) | (refine Split.neg (by omega) ?_) | (refine Split.mk (fun h => ?_) (fun h => ?_)) | (refine Need.mk (by omega) ?_) | (refine Ints.ln (by assumption) ?_) | (refine Mat.ln (by assumption) ?_) | (refine Ints.ln (Mat.row (by assumption) _ (by omega)) ?_) | (refine Ints.ix (by assumption) (by omega) ?_) | (refine Mat.ix (by assumption) (by omega) ?_) | (refine Ints.ix (Mat.row (by assumption) _ (by omega)) (by omega) ?_) | (refine Ints.ix (c := 0) (by assumption) (by omega) ?_) | (refine Mat.ix (c := 0) (by assumption) (by omega) ?_) | (refine Ints.ix (c := 0) (Mat.row (by assumption) _ (by omega)) (by omega) ?_) | (refine Ints.ixI (by assumption) (by omega) ?_) | (refine Mat.ixI (by assumption) (by omega) ?_) | (refine Ints.ixI (Mat.row (by assumption) _ (by omega)) (by omega) ?_) | (refine Ints.ld (by assumption) (by omega) ?_) | (refine Mat.ld (by assumption) (by omega) ?_) | (refine Ints.ld (Mat.row (by assumption) _ (by omega)) (by omega) ?_) | (refine At.ld (by assumption) rfl ?_) | (refine At.ldN (by assumption) rfl ?_) | (refine Prs.ln (by assumption) ?_) | (refine Trs.ln (by assumption) ?_) | (refine Prs.ix (by assumption) (by omega) ?_) | (refine Trs.ix (by assumption) (by omega) ?_) | (refine Prs.ldN (by assumption) (by omega) ?_) | (refine Trs.ldN (by assumption) (by omega) ?_) | (refine At.ldN (Blk.at (by assumption)) rfl ?_) | (refine At.ld (Blk.at (by assumption)) rfl ?_) | (refine IxA.mk (by omega) ?_) | (refine Sl.ln (Own.sl (by assumption)) ?_) | (refine Ints.ix (Own.sl (by assumption)) (by omega) ?_) | (refine Ints.ixI (Own.sl (by assumption)) (by omega) ?_) | (refine Ints.ld (Own.sl (by assumption)) (by omega) ?_))
                refine ⟨_, (by omega : rr.length - (c + 1) < rr.length - c), rfl, c + 1, by omega, rfl, rfl, (congrArg Value.bool (tf_f fun h => h0 (h.2 c (by omega) hb)).symm), rfl⟩
            | false =>
              have hb0 := bit_f hb
              repeat' ((conv => whnf); first | (refine Dr.quiet tyOk (by kernel_rfl) ?_) | (refine VS.shr (s := set) (i := c) (by omega) ?_) | (refine VS.and1 (by have := Nat.div_le_self set (2 ^ c); omega) ?_) | (refine Blk.ldA HK rfl ?_) | (refine Rng.mk (by omega) ?_) | (refine Split.pos (by omega) ?_) | (refine Split.neg (by omega) ?_) | (refine Split.mk (fun h => ?_) (fun h => ?_)) | (refine Need.mk (by omega) ?_) | (refine Ints.ln (by assumption) ?_) | (refine Mat.ln (by assumption) ?_) | (refine Ints.ln (Mat.row (by assumption) _ (by omega)) ?_) | (refine Ints.ix (by assumption) (by omega) ?_) | (refine Mat.ix (by assumption) (by omega) ?_) | (refine Ints.ix (Mat.row (by assumption) _ (by omega)) (by omega) ?_) | (refine Ints.ix (c := 0) (by assumption) (by omega) ?_) | (refine Mat.ix (c := 0) (by assumption) (by omega) ?_) | (refine Ints.ix (c := 0) (Mat.row (by assumption) _ (by omega)) (by omega) ?_) | (refine Ints.ixI (by assumption) (by omega) ?_) | (refine Mat.ixI (by assumption) (by omega) ?_) | (refine Ints.ixI (Mat.row (by assumption) _ (by omega)) (by omega) ?_) | (refine Ints.ld (by assumption) (by omega) ?_) | (refine Mat.ld (by assumption) (by omega) ?_) | (refine Ints.ld (Mat.row (by assumption) _ (by omega)) (by omega) ?_) | (refine At.ld (by assumption) rfl ?_) | (refine At.ldN (by assumption) rfl ?_) | (refine Prs.ln (by assumption) ?_) | (refine Trs.ln (by assumption) ?_) | (refine Prs.ix (by assumption) (by omega) ?_) | (refine Trs.ix (by assumption) (by omega) ?_) | (refine Prs.ldN (by assumption) (by omega) ?_) | (refine Trs.ldN (by assumption) (by omega) ?_) | (refine At.ldN (Blk.at (by assumption)) rfl ?_) | (refine At.ld (Blk.at (by assumption)) rfl ?_) | (refine IxA.mk (by omega) ?_) | (refine Sl.ln (Own.sl (by assumption)) ?_) | (refine Ints.ix (Own.sl (by assumption)) (by omega) ?_) | (refine Ints.ixI (Own.sl (by assumption)) (by omega) ?_) | (refine Ints.ld (Own.sl (by assumption)) (by omega) ?_))
              refine ⟨_, (by omega : rr.length - (c + 1) < rr.length - c), rfl, c + 1, by omega, rfl, rfl, (congrArg Value.bool (tf_t ⟨hD.1, fun i hi h => leaf_step hD.2 hb i hi h⟩).symm), rfl⟩
          · rw [tf_f hD]
            repeat' ((conv => whnf); first | (refine Dr.quiet tyOk (by kernel_rfl) ?_) | (refine Rng.mk (by omega) ?_) | (refine Split.pos (by omega) ?_) | (refine Split.neg (by omega) ?_) | (refine Split.mk (fun h => ?_) (fun h => ?_)) | (refine Need.mk (by omega) ?_) | (refine Ints.ln (by assumption) ?_) | (refine Mat.ln (by assumption) ?_) | (refine Ints.ln (Mat.row (by assumption) _ (by omega)) ?_) | (refine Ints.ix (by assumption) (by omega) ?_) | (refine Mat.ix (by assumption) (by omega) ?_) | (refine Ints.ix (Mat.row (by assumption) _ (by omega)) (by omega) ?_) | (refine Ints.ix (c := 0) (by assumption) (by omega) ?_) | (refine Mat.ix (c := 0) (by assumption) (by omega) ?_) | (refine Ints.ix (c := 0) (Mat.row (by assumption) _ (by omega)) (by omega) ?_) | (refine Ints.ixI (by assumption) (by omega) ?_) | (refine Mat.ixI (by assumption) (by omega) ?_) | (refine Ints.ixI (Mat.row (by assumption) _ (by omega)) (by omega) ?_) | (refine Ints.ld (by assumption) (by omega) ?_) | (refine Mat.ld (by assumption) (by omega) ?_) | (refine Ints.ld (Mat.row (by assumption) _ (by omega)) (by omega) ?_) | (refine At.ld (by assumption) rfl ?_) | (refine At.ldN (by assumption) rfl ?_) | (refine Prs.ln (by assumption) ?_) | (refine Trs.ln (by assumption) ?_) | (refine Prs.ix (by assumption) (by omega) ?_) | (refine Trs.ix (by assumption) (by omega) ?_) | (refine Prs.ldN (by assumption) (by omega) ?_) | (refine Trs.ldN (by assumption) (by omega) ?_) | (refine At.ldN (Blk.at (by assumption)) rfl ?_) | (refine At.ld (Blk.at (by assumption)) rfl ?_) | (refine IxA.mk (by omega) ?_) | (refine Sl.ln (Own.sl (by assumption)) ?_) | (refine Ints.ix (Own.sl (by assumption)) (by omega) ?_) | (refine Ints.ixI (Own.sl (by assumption)) (by omega) ?_) | (refine Ints.ld (Own.sl (by assumption)) (by omega) ?_))
            refine ⟨_, (by omega : rr.length - (c + 1) < rr.length - c), rfl, c + 1, by omega, rfl, rfl, (congrArg Value.bool (tf_f fun h => hD ⟨h.1, fun i hi hb => h.2 i (by omega) hb⟩).symm), rfl⟩
        · obtain rfl : c = rr.length := by omega
          by_cases hD : L ≤ s ∧ ∀ i, i < rr.length → bit set i = true → L ≤ 0
          · rw [tf_t hD]
            repeat' ((conv => whnf); first | (refine Dr.quiet tyOk (by kernel_rfl) ?_) | (refine Rng.mk (by omega) ?_) | (refine Split.pos (by omega) ?_) | (refine Split.neg (by omega) ?_) | (refine Split.mk (fun h => ?_) (fun h => ?_)) | (refine Need.mk (by omega) ?_) | (refine Ints.ln (by assumption) ?_) | (refine Mat.ln (by assumption) ?_) | (refine Ints.ln (Mat.row (by assumption) _ (by omega)) ?_) | (refine Ints.ix (by assumption) (by omega) ?_) | (refine Mat.ix (by assumption) (by omega) ?_) | (refine Ints.ix (Mat.row (by assumption) _ (by omega)) (by omega) ?_) | (refine Ints.ix (c := 0) (by assumption) (by omega) ?_) | (refine Mat.ix (c := 0) (by assumption) (by omega) ?_) | (refine Ints.ix (c := 0) (Mat.row (by assumption) _ (by omega)) (by omega) ?_) | (refine Ints.ixI (by assumption) (by omega) ?_) | (refine Mat.ixI (by assumption) (by omega) ?_) | (refine Ints.ixI (Mat.row (by assumption) _ (by omega)) (by omega) ?_) | (refine Ints.ld (by assumption) (by omega) ?_) | (refine Mat.ld (by assumption) (by omega) ?_) | (refine Ints.ld (Mat.row (by assumption) _ (by omega)) (by omega) ?_) | (refine At.ld (by assumption) rfl ?_) | (refine At.ldN (by assumption) rfl ?_) | (refine Prs.ln (by assumption) ?_) | (refine Trs.ln (by assumption) ?_) | (refine Prs.ix (by assumption) (by omega) ?_) | (refine Trs.ix (by assumption) (by omega) ?_) | (refine Prs.ldN (by assumption) (by omega) ?_) | (refine Trs.ldN (by assumption) (by omega) ?_) | (refine At.ldN (Blk.at (by assumption)) rfl ?_) | (refine At.ld (Blk.at (by assumption)) rfl ?_) | (refine IxA.mk (by omega) ?_) | (refine Sl.ln (Own.sl (by assumption)) ?_) | (refine Ints.ix (Own.sl (by assumption)) (by omega) ?_) | (refine Ints.ixI (Own.sl (by assumption)) (by omega) ?_) | (refine Ints.ld (Own.sl (by assumption)) (by omega) ?_))
            refine ⟨Gr.ofExt EE, HS, .inl ⟨_, [], rfl, Own.nil, by simp, hD, fun l' hl' _ hx => ?_⟩⟩
            cases l' with
            | nil => exact hx
            | cons x t => simp at hl'
          · rw [tf_f hD]
            repeat' ((conv => whnf); first | (refine Dr.quiet tyOk (by kernel_rfl) ?_) | (refine Rng.mk (by omega) ?_) | (refine Split.pos (by omega) ?_) | (refine Split.neg (by omega) ?_) | (refine Split.mk (fun h => ?_) (fun h => ?_)) | (refine Need.mk (by omega) ?_) | (refine Ints.ln (by assumption) ?_) | (refine Mat.ln (by assumption) ?_) | (refine Ints.ln (Mat.row (by assumption) _ (by omega)) ?_) | (refine Ints.ix (by assumption) (by omega) ?_) | (refine Mat.ix (by assumption) (by omega) ?_) | (refine Ints.ix (Mat.row (by assumption) _ (by omega)) (by omega) ?_) | (refine Ints.ix (c := 0) (by assumption) (by omega) ?_) | (refine Mat.ix (c := 0) (by assumption) (by omega) ?_) | (refine Ints.ix (c := 0) (Mat.row (by assumption) _ (by omega)) (by omega) ?_) | (refine Ints.ixI (by assumption) (by omega) ?_) | (refine Mat.ixI (by assumption) (by omega) ?_) | (refine Ints.ixI (Mat.row (by assumption) _ (by omega)) (by omega) ?_) | (refine Ints.ld (by assumption) (by omega) ?_) | (refine Mat.ld (by assumption) (by omega) ?_) | (refine Ints.ld (Mat.row (by assumption) _ (by omega)) (by omega) ?_) | (refine At.ld (by assumption) rfl ?_) | (refine At.ldN (by assumption) rfl ?_) | (refine Prs.ln (by assumption) ?_) | (refine Trs.ln (by assumption) ?_) | (refine Prs.ix (by assumption) (by omega) ?_) | (refine Trs.ix (by assumption) (by omega) ?_) | (refine Prs.ldN (by assumption) (by omega) ?_) | (refine Trs.ldN (by assumption) (by omega) ?_) | (refine At.ldN (Blk.at (by assumption)) rfl ?_) | (refine At.ld (Blk.at (by assumption)) rfl ?_) | (refine IxA.mk (by omega) ?_) | (refine Sl.ln (Own.sl (by assumption)) ?_) | (refine Ints.ix (Own.sl (by assumption)) (by omega) ?_) | (refine Ints.ixI (Own.sl (by assumption)) (by omega) ?_) | (refine Ints.ld (Own.sl (by assumption)) (by omega) ?_))
            refine ⟨Gr.ofExt EE, HS, .inr ⟨rfl, fun l hl hc => ?_⟩⟩
            cases l with
            | nil => exact hD hc
            | cons x t => simp at hl
    · repeat' ((conv => whnf); first | (refine Dr.quiet tyOk (by kernel_rfl) ?_) | (refine Blk.ldA HK rfl ?_) | (refine Mat.ld (c := 0) HV (by omega) ?_) | (refine Rng.mk (by omega) ?_) | (refine Split.pos (by omega) ?_) | (refine Split.neg (by omega) ?_) | (refine Split.mk (fun h => ?_) (fun h => ?_)) | (refine Need.mk (by omega) ?_) | (refine Ints.ln (by assumption) ?_) | (refine Mat.ln (by assumption) ?_) | (refine Ints.ln (Mat.row (by assumption) _ (by omega)) ?_) | (refine Ints.ix (by assumption) (by omega) ?_) | (refine Mat.ix (by assumption) (by omega) ?_) | (refine Ints.ix (Mat.row (by assumption) _ (by omega)) (by omega) ?_) | (refine Ints.ix (c := 0) (by assumption) (by omega) ?_) | (refine Mat.ix (c := 0) (by assumption) (by omega) ?_) | (refine Ints.ix (c := 0) (Mat.row (by assumption) _ (by omega)) (by omega) ?_) | (refine Ints.ixI (by assumption) (by omega) ?_) | (refine Mat.ixI (by assumption) (by omega) ?_) | (refine Ints.ixI (Mat.row (by assumption) _ (by omega)) (by omega) ?_) | (refine Ints.ld (by assumption) (by omega) ?_) | (refine Mat.ld (by assumption) (by omega) ?_) | (refine Ints.ld (Mat.row (by assumption) _ (by omega)) (by omega) ?_) | (refine At.ld (by assumption) rfl ?_) | (refine At.ldN (by assumption) rfl ?_) | (refine Prs.ln (by assumption) ?_) | (refine Trs.ln (by assumption) ?_) | (refine Prs.ix (by assumption) (by omega) ?_) | (refine Trs.ix (by assumption) (by omega) ?_) | (refine Prs.ldN (by assumption) (by omega) ?_) | (refine Trs.ldN (by assumption) (by omega) ?_) | (refine At.ldN (Blk.at (by assumption)) rfl ?_) | (refine At.ld (Blk.at (by assumption)) rfl ?_) | (refine IxA.mk (by omega) ?_) | (refine Sl.ln (Own.sl (by assumption)) ?_) | (refine Ints.ix (Own.sl (by assumption)) (by omega) ?_) | (refine Ints.ixI (Own.sl (by assumption)) (by omega) ?_) | (refine Ints.ld (Own.sl (by assumption)) (by omega) ?_))
      refine Lp.mk tyOk [false, false, false, false, false, false, false, false, false, false, false, false, true, true, false, false, false, false, false, false, false, false, false, false, false, false, false, false, false, false, false, false, false, false, false, false, false, false, false, false, false, false, false, true, true, true, true, true, true, true, true, true, true, true, true, true, true, true, true, true, true, true] (fun m fr wr => getK fr 43 fun i => getK fr 12 fun done => ∃ c : Nat, c ≤ rr.length ∧ m = rr.length - c ∧ i = .int .i64 (c : Int) ∧ done = .bool (tf (L ≤ s ∧ ∀ i, i < c → bit set i = true → L ≤ 0)) ∧ wr = w1) (rr.length) ?_ ?_
      · exact ⟨0, Nat.zero_le _, rfl, rfl, (congrArg Value.bool (dn_f hLs)), rfl⟩
      · intro m w3 u12 u13 u43 u44 u45 u46 u47 u48 u49 u50 u51 u52 u53 u54 u55 u56 u57 u58 u59 u60 u61 hR
        obtain ⟨c, hc, rfl, rfl, rfl, rfl⟩ := hR
        clear hLs
        by_cases hcl : c < rr.length
        · by_cases hD : L ≤ s ∧ ∀ i, i < c → bit set i = true → L ≤ 0
          · rw [tf_t hD]
            cases hb : bit set c with
            | true =>
              have hb1 := bit_t hb
              by_cases h0 : L ≤ 0
              · repeat' ((conv => whnf); first | (refine Dr.quiet tyOk (by kernel_rfl) ?_) | (refine VS.shr (s := set) (i := c) (by omega) ?_) | (refine VS.and1 (by have := Nat.div_le_self set (2 ^ c); omega) ?_) | (refine Blk.ldA HK rfl ?_) | (refine Rng.mk (by omega) ?_) | (refine Split.pos (by omega) ?_) | (refine Split.neg (by omega) ?_) | (refine Split.mk (fun h => ?_) (fun h => ?_)) | (refine Need.mk (by omega) ?_) | (refine Ints.ln (by assumption) ?_) | (refine Mat.ln (by assumption) ?_) | (refine Ints.ln (Mat.row (by assumption) _ (by omega)) ?_) | (refine Ints.ix (by assumption) (by omega) ?_) | (refine Mat.ix (by assumption) (by omega) ?_) | (refine Ints.ix (Mat.row (by assumption) _ (by omega)) (by omega) ?_) | (refine Ints.ix (c := 0) (by assumption) (by omega) ?_) | (refine Mat.ix (c := 0) (by assumption) (by omega) ?_) | (refine Ints.ix (c := 0) (Mat.row (by assumption) _ (by omega)) (by omega) ?_) | (refine Ints.ixI (by assumption) (by omega) ?_) | (refine Mat.ixI (by assumption) (by omega) ?_) | (refine Ints.ixI (Mat.row (by assumption) _ (by omega)) (by omega) ?_) | (refine Ints.ld (by assumption) (by omega) ?_) | (refine Mat.ld (by assumption) (by omega) ?_) | (refine Ints.ld (Mat.row (by assumption) _ (by omega)) (by omega) ?_) | (refine At.ld (by assumption) rfl ?_) | (refine At.ldN (by assumption) rfl ?_) | (refine Prs.ln (by assumption) ?_) | (refine Trs.ln (by assumption) ?_) | (refine Prs.ix (by assumption) (by omega) ?_) | (refine Trs.ix (by assumption) (by omega) ?_) | (refine Prs.ldN (by assumption) (by omega) ?_) | (refine Trs.ldN (by assumption) (by omega) ?_) | (refine At.ldN (Blk.at (by assumption)) rfl ?_) | (refine At.ld (Blk.at (by assumption)) rfl ?_) | (refine IxA.mk (by omega) ?_) | (refine Sl.ln (Own.sl (by assumption)) ?_) | (refine Ints.ix (Own.sl (by assumption)) (by omega) ?_) | (refine Ints.ixI (Own.sl (by assumption)) (by omega) ?_) | (refine Ints.ld (Own.sl (by assumption)) (by omega) ?_))
                refine ⟨_, (by omega : rr.length - (c + 1) < rr.length - c), rfl, c + 1, by omega, rfl, rfl, (congrArg Value.bool (tf_t ⟨hD.1, fun _ _ _ => h0⟩).symm), rfl⟩
              · repeat' ((conv => whnf); first | (refine Dr.quiet tyOk (by kernel_rfl) ?_) | (refine VS.shr (s := set) (i := c) (by omega) ?_) | (refine VS.and1 (by have := Nat.div_le_self set (2 ^ c); omega) ?_) | (refine Blk.ldA HK rfl ?_) | (refine Rng.mk (by omega) ?_) | (refine Split.pos (by omega) ?_) | (refine Split.neg (by omega) ?_) | (refine Split.mk (fun h => ?_) (fun h => ?_)) | (refine Need.mk (by omega) ?_) | (refine Ints.ln (by assumption) ?_) | (refine Mat.ln (by assumption) ?_) | (refine Ints.ln (Mat.row (by assumption) _ (by omega)) ?_) | (refine Ints.ix (by assumption) (by omega) ?_) | (refine Mat.ix (by assumption) (by omega) ?_) | (refine Ints.ix (Mat.row (by assumption) _ (by omega)) (by omega) ?_) | (refine Ints.ix (c := 0) (by assumption) (by omega) ?_) | (refine Mat.ix (c := 0) (by assumption) (by omega) ?_) | (refine Ints.ix (c := 0) (Mat.row (by assumption) _ (by omega)) (by omega) ?_) | (refine Ints.ixI (by assumption) (by omega) ?_) | (refine Mat.ixI (by assumption) (by omega) ?_) | (refine Ints.ixI (Mat.row (by assumption) _ (by omega)) (by omega) ?_) | (refine Ints.ld (by assumption) (by omega) ?_) | (refine Mat.ld (by assumption) (by omega) ?_) | (refine Ints.ld (Mat.row (by assumption) _ (by omega)) (by omega) ?_) | (refine At.ld (by assumption) rfl ?_) | (refine At.ldN (by assumption) rfl ?_) | (refine Prs.ln (by assumption) ?_) | (refine Trs.ln (by assumption) ?_) | (refine Prs.ix (by assumption) (by omega) ?_) | (refine Trs.ix (by assumption) (by omega) ?_) | (refine Prs.ldN (by assumption) (by omega) ?_) | (refine Trs.ldN (by assumption) (by omega) ?_) | (refine At.ldN (Blk.at (by assumption)) rfl ?_) | (refine At.ld (Blk.at (by assumption)) rfl ?_) | (refine IxA.mk (by omega) ?_) | (refine Sl.ln (Own.sl (by assumption)) ?_) | (refine Ints.ix (Own.sl (by assumption)) (by omega) ?_) | (refine Ints.ixI (Own.sl (by assumption)) (by omega) ?_) | (refine Ints.ld (Own.sl (by assumption)) (by omega) ?_))
                refine ⟨_, (by omega : rr.length - (c + 1) < rr.length - c), rfl, c + 1, by omega, rfl, rfl, (congrArg Value.bool (tf_f fun h => h0 (h.2 c (by omega) hb)).symm), rfl⟩
            | false =>
              have hb0 := bit_f hb
              repeat' ((conv => whnf); first | (refine Dr.quiet tyOk (by kernel_rfl) ?_) | (refine VS.shr (s := set) (i := c) (by omega) ?_) | (refine VS.and1 (by have := Nat.div_le_self set (2 ^ c); omega) ?_) | (refine Blk.ldA HK rfl ?_) | (refine Rng.mk (by omega) ?_) | (refine Split.pos (by omega) ?_) | (refine Split.neg (by omega) ?_) | (refine Split.mk (fun h => ?_) (fun h => ?_)) | (refine Need.mk (by omega) ?_) | (refine Ints.ln (by assumption) ?_) | (refine Mat.ln (by assumption) ?_) | (refine Ints.ln (Mat.row (by assumption) _ (by omega)) ?_) | (refine Ints.ix (by assumption) (by omega) ?_) | (refine Mat.ix (by assumption) (by omega) ?_) | (refine Ints.ix (Mat.row (by assumption) _ (by omega)) (by omega) ?_) | (refine Ints.ix (c := 0) (by assumption) (by omega) ?_) | (refine Mat.ix (c := 0) (by assumption) (by omega) ?_) | (refine Ints.ix (c := 0) (Mat.row (by assumption) _ (by omega)) (by omega) ?_) | (refine Ints.ixI (by assumption) (by omega) ?_) | (refine Mat.ixI (by assumption) (by omega) ?_) | (refine Ints.ixI (Mat.row (by assumption) _ (by omega)) (by omega) ?_) | (refine Ints.ld (by assumption) (by omega) ?_) | (refine Mat.ld (by assumption) (by omega) ?_) | (refine Ints.ld (Mat.row (by assumption) _ (by omega)) (by omega) ?_) | (refine At.ld (by assumption) rfl ?_) | (refine At.ldN (by assumption) rfl ?_) | (refine Prs.ln (by assumption) ?_) | (refine Trs.ln (by assumption) ?_) | (refine Prs.ix (by assumption) (by omega) ?_) | (refine Trs.ix (by assumption) (by omega) ?_) | (refine Prs.ldN (by assumption) (by omega) ?_) | (refine Trs.ldN (by assumption) (by omega) ?_) | (refine At.ldN (Blk.at (by assumption)) rfl ?_) | (refine At.ld (Blk.at (by assumption)) rfl ?_) | (refine IxA.mk (by omega) ?_) | (refine Sl.ln (Own.sl (by assumption)) ?_) | (refine Ints.ix (Own.sl (by assumption)) (by omega) ?_) | (refine Ints.ixI (Own.sl (by assumption)) (by omega) ?_) | (refine Ints.ld (Own.sl (by assumption)) (by omega) ?_))
              refine ⟨_, (by omega : rr.length - (c + 1) < rr.length - c), rfl, c + 1, by omega, rfl, rfl, (congrArg Value.bool (tf_t ⟨hD.1, fun i hi h => leaf_step hD.2 hb i hi h⟩).symm), rfl⟩
          · rw [tf_f hD]
            repeat' ((conv => whnf); first | (refine Dr.quiet tyOk (by kernel_rfl) ?_) | (refine Rng.mk (by omega) ?_) | (refine Split.pos (by omega) ?_) | (refine Split.neg (by omega) ?_) | (refine Split.mk (fun h => ?_) (fun h => ?_)) | (refine Need.mk (by omega) ?_) | (refine Ints.ln (by assumption) ?_) | (refine Mat.ln (by assumption) ?_) | (refine Ints.ln (Mat.row (by assumption) _ (by omega)) ?_) | (refine Ints.ix (by assumption) (by omega) ?_) | (refine Mat.ix (by assumption) (by omega) ?_) | (refine Ints.ix (Mat.row (by assumption) _ (by omega)) (by omega) ?_) | (refine Ints.ix (c := 0) (by assumption) (by omega) ?_) | (refine Mat.ix (c := 0) (by assumption) (by omega) ?_) | (refine Ints.ix (c := 0) (Mat.row (by assumption) _ (by omega)) (by omega) ?_) | (refine Ints.ixI (by assumption) (by omega) ?_) | (refine Mat.ixI (by assumption) (by omega) ?_) | (refine Ints.ixI (Mat.row (by assumption) _ (by omega)) (by omega) ?_) | (refine Ints.ld (by assumption) (by omega) ?_) | (refine Mat.ld (by assumption) (by omega) ?_) | (refine Ints.ld (Mat.row (by assumption) _ (by omega)) (by omega) ?_) | (refine At.ld (by assumption) rfl ?_) | (refine At.ldN (by assumption) rfl ?_) | (refine Prs.ln (by assumption) ?_) | (refine Trs.ln (by assumption) ?_) | (refine Prs.ix (by assumption) (by omega) ?_) | (refine Trs.ix (by assumption) (by omega) ?_) | (refine Prs.ldN (by assumption) (by omega) ?_) | (refine Trs.ldN (by assumption) (by omega) ?_) | (refine At.ldN (Blk.at (by assumption)) rfl ?_) | (refine At.ld (Blk.at (by assumption)) rfl ?_) | (refine IxA.mk (by omega) ?_) | (refine Sl.ln (Own.sl (by assumption)) ?_) | (refine Ints.ix (Own.sl (by assumption)) (by omega) ?_) | (refine Ints.ixI (Own.sl (by assumption)) (by omega) ?_) | (refine Ints.ld (Own.sl (by assumption)) (by omega) ?_))
            refine ⟨_, (by omega : rr.length - (c + 1) < rr.length - c), rfl, c + 1, by omega, rfl, rfl, (congrArg Value.bool (tf_f fun h => hD ⟨h.1, fun i hi hb => h.2 i (by omega) hb⟩).symm), rfl⟩
        · obtain rfl : c = rr.length := by omega
          by_cases hD : L ≤ s ∧ ∀ i, i < rr.length → bit set i = true → L ≤ 0
          · rw [tf_t hD]
            repeat' ((conv => whnf); first | (refine Dr.quiet tyOk (by kernel_rfl) ?_) | (refine Rng.mk (by omega) ?_) | (refine Split.pos (by omega) ?_) | (refine Split.neg (by omega) ?_) | (refine Split.mk (fun h => ?_) (fun h => ?_)) | (refine Need.mk (by omega) ?_) | (refine Ints.ln (by assumption) ?_) | (refine Mat.ln (by assumption) ?_) | (refine Ints.ln (Mat.row (by assumption) _ (by omega)) ?_) | (refine Ints.ix (by assumption) (by omega) ?_) | (refine Mat.ix (by assumption) (by omega) ?_) | (refine Ints.ix (Mat.row (by assumption) _ (by omega)) (by omega) ?_) | (refine Ints.ix (c := 0) (by assumption) (by omega) ?_) | (refine Mat.ix (c := 0) (by assumption) (by omega) ?_) | (refine Ints.ix (c := 0) (Mat.row (by assumption) _ (by omega)) (by omega) ?_) | (refine Ints.ixI (by assumption) (by omega) ?_) | (refine Mat.ixI (by assumption) (by omega) ?_) | (refine Ints.ixI (Mat.row (by assumption) _ (by omega)) (by omega) ?_) | (refine Ints.ld (by assumption) (by omega) ?_) | (refine Mat.ld (by assumption) (by omega) ?_) | (refine Ints.ld (Mat.row (by assumption) _ (by omega)) (by omega) ?_) | (refine At.ld (by assumption) rfl ?_) | (refine At.ldN (by assumption) rfl ?_) | (refine Prs.ln (by assumption) ?_) | (refine Trs.ln (by assumption) ?_) | (refine Prs.ix (by assumption) (by omega) ?_) | (refine Trs.ix (by assumption) (by omega) ?_) | (refine Prs.ldN (by assumption) (by omega) ?_) | (refine Trs.ldN (by assumption) (by omega) ?_) | (refine At.ldN (Blk.at (by assumption)) rfl ?_) | (refine At.ld (Blk.at (by assumption)) rfl ?_) | (refine IxA.mk (by omega) ?_) | (refine Sl.ln (Own.sl (by assumption)) ?_) | (refine Ints.ix (Own.sl (by assumption)) (by omega) ?_) | (refine Ints.ixI (Own.sl (by assumption)) (by omega) ?_) | (refine Ints.ld (Own.sl (by assumption)) (by omega) ?_))
            refine ⟨Gr.ofExt EE, HS, .inl ⟨_, [], rfl, Own.nil, by simp, hD, fun l' hl' _ hx => ?_⟩⟩
            cases l' with
            | nil => exact hx
            | cons x t => simp at hl'
          · rw [tf_f hD]
            repeat' ((conv => whnf); first | (refine Dr.quiet tyOk (by kernel_rfl) ?_) | (refine Rng.mk (by omega) ?_) | (refine Split.pos (by omega) ?_) | (refine Split.neg (by omega) ?_) | (refine Split.mk (fun h => ?_) (fun h => ?_)) | (refine Need.mk (by omega) ?_) | (refine Ints.ln (by assumption) ?_) | (refine Mat.ln (by assumption) ?_) | (refine Ints.ln (Mat.row (by assumption) _ (by omega)) ?_) | (refine Ints.ix (by assumption) (by omega) ?_) | (refine Mat.ix (by assumption) (by omega) ?_) | (refine Ints.ix (Mat.row (by assumption) _ (by omega)) (by omega) ?_) | (refine Ints.ix (c := 0) (by assumption) (by omega) ?_) | (refine Mat.ix (c := 0) (by assumption) (by omega) ?_) | (refine Ints.ix (c := 0) (Mat.row (by assumption) _ (by omega)) (by omega) ?_) | (refine Ints.ixI (by assumption) (by omega) ?_) | (refine Mat.ixI (by assumption) (by omega) ?_) | (refine Ints.ixI (Mat.row (by assumption) _ (by omega)) (by omega) ?_) | (refine Ints.ld (by assumption) (by omega) ?_) | (refine Mat.ld (by assumption) (by omega) ?_) | (refine Ints.ld (Mat.row (by assumption) _ (by omega)) (by omega) ?_) | (refine At.ld (by assumption) rfl ?_) | (refine At.ldN (by assumption) rfl ?_) | (refine Prs.ln (by assumption) ?_) | (refine Trs.ln (by assumption) ?_) | (refine Prs.ix (by assumption) (by omega) ?_) | (refine Trs.ix (by assumption) (by omega) ?_) | (refine Prs.ldN (by assumption) (by omega) ?_) | (refine Trs.ldN (by assumption) (by omega) ?_) | (refine At.ldN (Blk.at (by assumption)) rfl ?_) | (refine At.ld (Blk.at (by assumption)) rfl ?_) | (refine IxA.mk (by omega) ?_) | (refine Sl.ln (Own.sl (by assumption)) ?_) | (refine Ints.ix (Own.sl (by assumption)) (by omega) ?_) | (refine Ints.ixI (Own.sl (by assumption)) (by omega) ?_) | (refine Ints.ld (Own.sl (by assumption)) (by omega) ?_))
            refine ⟨Gr.ofExt EE, HS, .inr ⟨rfl, fun l hl hc => ?_⟩⟩
            cases l with
            | nil => exact hD hc
            | cons x t => simp at hl
  | j + 1, p, hpj, W0, w, sb, mb, ag, set, vv, vs, s, hag, hset, hs, HV0, HS => by
    have hn1 := hk.n1
    have hn6 := hk.n6
    have hm16 := hk.m16
    have hm0 := hk.m0
    have h64 := lt64 hk hset
    refine RC.mk tyOk Try.func43 rfl (by kernel_rfl) fun w1 E1 => ?_
    replace HS := HS.ext E1
    have EE := Ext.refl w1
    have HK := HS.bx
    have HV := HV0.ext HS.ex
    have HM := HS.md
    have hmbl := HS.md.lt
    repeat' ((conv => whnf); first | (refine Dr.quiet tyOk (by kernel_rfl) ?_) | (refine Blk.ldA HK rfl ?_) | (refine Mat.ld (c := 0) HV (by omega) ?_) | (refine VS.arr3 Try.underlying73 eKey3 (by kernel_rfl) ?_) | (refine Rng.mk (by omega) ?_) | (refine Split.pos (by omega) ?_) | (refine Split.neg (by omega) ?_) | (refine Split.mk (fun h => ?_) (fun h => ?_)) | (refine Need.mk (by omega) ?_) | (refine Ints.ln (by assumption) ?_) | (refine Mat.ln (by assumption) ?_) | (refine Ints.ln (Mat.row (by assumption) _ (by omega)) ?_) | (refine Ints.ix (by assumption) (by omega) ?_) | (refine Mat.ix (by assumption) (by omega) ?_) | (refine Ints.ix (Mat.row (by assumption) _ (by omega)) (by omega) ?_) | (refine Ints.ix (c := 0) (by assumption) (by omega) ?_) | (refine Mat.ix (c := 0) (by assumption) (by omega) ?_) | (refine Ints.ix (c := 0) (Mat.row (by assumption) _ (by omega)) (by omega) ?_) | (refine Ints.ixI (by assumption) (by omega) ?_) | (refine Mat.ixI (by assumption) (by omega) ?_) | (refine Ints.ixI (Mat.row (by assumption) _ (by omega)) (by omega) ?_) | (refine Ints.ld (by assumption) (by omega) ?_) | (refine Mat.ld (by assumption) (by omega) ?_) | (refine Ints.ld (Mat.row (by assumption) _ (by omega)) (by omega) ?_) | (refine At.ld (by assumption) rfl ?_) | (refine At.ldN (by assumption) rfl ?_) | (refine Prs.ln (by assumption) ?_) | (refine Trs.ln (by assumption) ?_) | (refine Prs.ix (by assumption) (by omega) ?_) | (refine Trs.ix (by assumption) (by omega) ?_) | (refine Prs.ldN (by assumption) (by omega) ?_) | (refine Trs.ldN (by assumption) (by omega) ?_) | (refine At.ldN (Blk.at (by assumption)) rfl ?_) | (refine At.ld (Blk.at (by assumption)) rfl ?_) | (refine IxA.mk (by omega) ?_) | (refine Sl.ln (Own.sl (by assumption)) ?_) | (refine Ints.ix (Own.sl (by assumption)) (by omega) ?_) | (refine Ints.ixI (Own.sl (by assumption)) (by omega) ?_) | (refine Ints.ld (Own.sl (by assumption)) (by omega) ?_))
    have HS__1 := HS
    have EE__1 := EE
    have HK__1 := HK
    have HV__1 := HV
    have HM__1 := HM
    conv => whnf
    refine VE.alloc eKey3 fun kb w2 E2 hb_kb HY => ?_
    replace HS := HS.ext E2
    replace EE := EE.ext E2
    replace HK := HK.ext E2
    replace HV := HV.ext E2
    replace HM := HM.ext E2
    have EL1 := E2
    have hkb : kb ≠ mb := by omega
    repeat' ((conv => whnf); first | (refine Dr.quiet tyOk (by kernel_rfl) ?_) | (refine Rng.mk (by omega) ?_) | (refine Split.pos (by omega) ?_) | (refine Split.neg (by omega) ?_) | (refine Split.mk (fun h => ?_) (fun h => ?_)) | (refine Need.mk (by omega) ?_) | (refine Ints.ln (by assumption) ?_) | (refine Mat.ln (by assumption) ?_) | (refine Ints.ln (Mat.row (by assumption) _ (by omega)) ?_) | (refine Ints.ix (by assumption) (by omega) ?_) | (refine Mat.ix (by assumption) (by omega) ?_) | (refine Ints.ix (Mat.row (by assumption) _ (by omega)) (by omega) ?_) | (refine Ints.ix (c := 0) (by assumption) (by omega) ?_) | (refine Mat.ix (c := 0) (by assumption) (by omega) ?_) | (refine Ints.ix (c := 0) (Mat.row (by assumption) _ (by omega)) (by omega) ?_) | (refine Ints.ixI (by assumption) (by omega) ?_) | (refine Mat.ixI (by assumption) (by omega) ?_) | (refine Ints.ixI (Mat.row (by assumption) _ (by omega)) (by omega) ?_) | (refine Ints.ld (by assumption) (by omega) ?_) | (refine Mat.ld (by assumption) (by omega) ?_) | (refine Ints.ld (Mat.row (by assumption) _ (by omega)) (by omega) ?_) | (refine At.ld (by assumption) rfl ?_) | (refine At.ldN (by assumption) rfl ?_) | (refine Prs.ln (by assumption) ?_) | (refine Trs.ln (by assumption) ?_) | (refine Prs.ix (by assumption) (by omega) ?_) | (refine Trs.ix (by assumption) (by omega) ?_) | (refine Prs.ldN (by assumption) (by omega) ?_) | (refine Trs.ldN (by assumption) (by omega) ?_) | (refine At.ldN (Blk.at (by assumption)) rfl ?_) | (refine At.ld (Blk.at (by assumption)) rfl ?_) | (refine IxA.mk (by omega) ?_) | (refine Sl.ln (Own.sl (by assumption)) ?_) | (refine Ints.ix (Own.sl (by assumption)) (by omega) ?_) | (refine Ints.ixI (Own.sl (by assumption)) (by omega) ?_) | (refine Ints.ld (Own.sl (by assumption)) (by omega) ?_))
    refine Blk.all HY (by kernel_rfl) (by first | decide | simp) rfl rfl (by intro v hv; simp at hv; rcases hv with rfl | rfl | rfl | rfl | rfl <;> rfl) fun w3 G3 HY' => ?_
    have E3 : Ext w1 w3 := EL1.new G3 fun i hi hk => by omega
    replace HY := HY'
    replace HS := HS__1.ext E3
    replace EE := EE__1.ext E3
    replace HK := HK__1.ext E3
    replace HV := HV__1.ext E3
    replace HM := HM__1.ext E3
    replace EL1 := E3
    repeat' ((conv => whnf); first | (refine Dr.quiet tyOk (by kernel_rfl) ?_) | (refine Blk.ldA HK rfl ?_) | (refine MD.look Try.underlying65 Try.underlying73 Try.underlying3 (by kernel_rfl) eInt HM ?_ ?_) | (refine Rng.mk (by omega) ?_) | (refine Split.pos (by omega) ?_) | (refine Split.neg (by omega) ?_) | (refine Split.mk (fun h => ?_) (fun h => ?_)) | (refine Need.mk (by omega) ?_) | (refine Ints.ln (by assumption) ?_) | (refine Mat.ln (by assumption) ?_) | (refine Ints.ln (Mat.row (by assumption) _ (by omega)) ?_) | (refine Ints.ix (by assumption) (by omega) ?_) | (refine Mat.ix (by assumption) (by omega) ?_) | (refine Ints.ix (Mat.row (by assumption) _ (by omega)) (by omega) ?_) | (refine Ints.ix (c := 0) (by assumption) (by omega) ?_) | (refine Mat.ix (c := 0) (by assumption) (by omega) ?_) | (refine Ints.ix (c := 0) (Mat.row (by assumption) _ (by omega)) (by omega) ?_) | (refine Ints.ixI (by assumption) (by omega) ?_) | (refine Mat.ixI (by assumption) (by omega) ?_) | (refine Ints.ixI (Mat.row (by assumption) _ (by omega)) (by omega) ?_) | (refine Ints.ld (by assumption) (by omega) ?_) | (refine Mat.ld (by assumption) (by omega) ?_) | (refine Ints.ld (Mat.row (by assumption) _ (by omega)) (by omega) ?_) | (refine At.ld (by assumption) rfl ?_) | (refine At.ldN (by assumption) rfl ?_) | (refine Prs.ln (by assumption) ?_) | (refine Trs.ln (by assumption) ?_) | (refine Prs.ix (by assumption) (by omega) ?_) | (refine Trs.ix (by assumption) (by omega) ?_) | (refine Prs.ldN (by assumption) (by omega) ?_) | (refine Trs.ldN (by assumption) (by omega) ?_) | (refine At.ldN (Blk.at (by assumption)) rfl ?_) | (refine At.ld (Blk.at (by assumption)) rfl ?_) | (refine IxA.mk (by omega) ?_) | (refine Sl.ln (Own.sl (by assumption)) ?_) | (refine Ints.ix (Own.sl (by assumption)) (by omega) ?_) | (refine Ints.ixI (Own.sl (by assumption)) (by omega) ?_) | (refine Ints.ld (Own.sl (by assumption)) (by omega) ?_))
    · have GS : Gr (fun k => k = mb) w1 w3 := Gr.ofExt EE
      refine Lp.mk tyOk [false, false, false, false, false, false, false, false, false, false, true, true, false, false, false, false, false, true, true, true, true, true, true, false, false, false, false, false, false, false, false, false, false, false, false, false, false, false, false, false, false, false, false, false, false, false, false, false, false, false, false, false, false, false, false, false, false, false, false, false, false, false, false, false, false, false, false, false, false, false, false, false, false, false, false, false, false, false, false, false, false, false, false, false, false, false, false, true, true, true, true, true, true, true, true, true, true, true, true, true, true, true, true, true, true, true, true, true, true, true, true, true, true, true, true, true, true, true, true, true, true, true, true, true, true, true, true, true, true, true, true, true, true, true, true, true, true, true, true, true, true, true] (fun m fr wr => getK fr 87 fun i => ∃ c : Nat, c ≤ rr.length ∧ m = rr.length - c ∧ i = .int .i64 (c : Int) ∧ (∀ i, i < c → ∀ l : List Int, l.length + 1 + p = mm → ¬ Cont rr L p ag s set ((i : Int) :: l)) ∧ (SSt W0 wr sb mb vv rr L mm) ∧ (Blk wr kb 73 [.int .i64 (set : Int), .int .i64 (p : Int), .int .i64 (ag : Int)]) ∧ (Gr (fun k => k = mb) w1 wr)) (rr.length) ?_ ?_
      · exact ⟨0, Nat.zero_le _, rfl, rfl, (fun i hi => absurd hi (Nat.not_lt_zero _)), HS, HY, GS⟩
      · intro m w4 u10 u11 u17 u18 u19 u20 u21 u22 u87 u88 u89 u90 u91 u92 u93 u94 u95 u96 u97 u98 u99 u100 u101 u102 u103 u104 u105 u106 u107 u108 u109 u110 u111 u112 u113 u114 u115 u116 u117 u118 u119 u120 u121 u122 u123 u124 u125 u126 u127 u128 u129 u130 u131 u132 u133 u134 u135 u136 u137 u138 u139 u140 u141 hR
        obtain ⟨c, hc, rfl, rfl, hno, HS, HY, GS⟩ := hR
        have HK := HS.bx
        have HV := HV0.ext HS.ex
        have HM := HS.md
        by_cases hcl : c < rr.length
        · have hrow := hk.row c hcl
          have hvv : 0 ≤ (rr.getD c []).getD p 0 ∧ (rr.getD c []).getD p 0 ≤ 1000 := hk.val c p
          have hvv2 : 0 ≤ val rr c p ∧ val rr c p ≤ 1000 := hk.val c p
          by_cases hca : c = ag
          · obtain rfl : c = ag := hca
            repeat' ((conv => whnf); first | (refine Dr.quiet tyOk (by kernel_rfl) ?_) | (refine Blk.ldA HK rfl ?_) | (refine Rng.mk (by omega) ?_) | (refine Split.pos (by omega) ?_) | (refine Split.neg (by omega) ?_) | (refine Split.mk (fun h => ?_) (fun h => ?_)) | (refine Need.mk (by omega) ?_) | (refine Ints.ln (by assumption) ?_) | (refine Mat.ln (by assumption) ?_) | (refine Ints.ln (Mat.row (by assumption) _ (by omega)) ?_) | (refine Ints.ix (by assumption) (by omega) ?_) | (refine Mat.ix (by assumption) (by omega) ?_) | (refine Ints.ix (Mat.row (by assumption) _ (by omega)) (by omega) ?_) | (refine Ints.ix (c := 0) (by assumption) (by omega) ?_) | (refine Mat.ix (c := 0) (by assumption) (by omega) ?_) | (refine Ints.ix (c := 0) (Mat.row (by assumption) _ (by omega)) (by omega) ?_) | (refine Ints.ixI (by assumption) (by omega) ?_) | (refine Mat.ixI (by assumption) (by omega) ?_) | (refine Ints.ixI (Mat.row (by assumption) _ (by omega)) (by omega) ?_) | (refine Ints.ld (by assumption) (by omega) ?_) | (refine Mat.ld (by assumption) (by omega) ?_) | (refine Ints.ld (Mat.row (by assumption) _ (by omega)) (by omega) ?_) | (refine At.ld (by assumption) rfl ?_) | (refine At.ldN (by assumption) rfl ?_) | (refine Prs.ln (by assumption) ?_) | (refine Trs.ln (by assumption) ?_) | (refine Prs.ix (by assumption) (by omega) ?_) | (refine Trs.ix (by assumption) (by omega) ?_) | (refine Prs.ldN (by assumption) (by omega) ?_) | (refine Trs.ldN (by assumption) (by omega) ?_) | (refine At.ldN (Blk.at (by assumption)) rfl ?_) | (refine At.ld (Blk.at (by assumption)) rfl ?_) | (refine IxA.mk (by omega) ?_) | (refine Sl.ln (Own.sl (by assumption)) ?_) | (refine Ints.ix (Own.sl (by assumption)) (by omega) ?_) | (refine Ints.ixI (Own.sl (by assumption)) (by omega) ?_) | (refine Ints.ld (Own.sl (by assumption)) (by omega) ?_))
            refine VC.rc (sfrom_rc hk hL j (p + 1) (by omega) (s := s + val rr c p) hcl hset (by omega) HV0 HS) ?_
            rintro _ w5 G5 ⟨HS, hfr⟩
            rcases hfr with ⟨lv, l, rfl, Hl, hl1, hl2, hl3⟩ | ⟨rfl, hl⟩
            · have hcc := (cont_own (set := set)).2 hl2
              have hff : ∀ l' : List Int, l'.length + 1 + p = mm → Cont rr L p c s set ((c : Int) :: l') → ¬ lexlt l' l := fun l' h1 h2 => hl3 l' (by omega) (cont_own.1 h2)
              repeat' ((conv => whnf); first | (refine Dr.quiet tyOk (by kernel_rfl) ?_) | (refine Rng.mk (by omega) ?_) | (refine Split.pos (by omega) ?_) | (refine Split.neg (by omega) ?_) | (refine Split.mk (fun h => ?_) (fun h => ?_)) | (refine Need.mk (by omega) ?_) | (refine Ints.ln (by assumption) ?_) | (refine Mat.ln (by assumption) ?_) | (refine Ints.ln (Mat.row (by assumption) _ (by omega)) ?_) | (refine Ints.ix (by assumption) (by omega) ?_) | (refine Mat.ix (by assumption) (by omega) ?_) | (refine Ints.ix (Mat.row (by assumption) _ (by omega)) (by omega) ?_) | (refine Ints.ix (c := 0) (by assumption) (by omega) ?_) | (refine Mat.ix (c := 0) (by assumption) (by omega) ?_) | (refine Ints.ix (c := 0) (Mat.row (by assumption) _ (by omega)) (by omega) ?_) | (refine Ints.ixI (by assumption) (by omega) ?_) | (refine Mat.ixI (by assumption) (by omega) ?_) | (refine Ints.ixI (Mat.row (by assumption) _ (by omega)) (by omega) ?_) | (refine Ints.ld (by assumption) (by omega) ?_) | (refine Mat.ld (by assumption) (by omega) ?_) | (refine Ints.ld (Mat.row (by assumption) _ (by omega)) (by omega) ?_) | (refine At.ld (by assumption) rfl ?_) | (refine At.ldN (by assumption) rfl ?_) | (refine Prs.ln (by assumption) ?_) | (refine Trs.ln (by assumption) ?_) | (refine Prs.ix (by assumption) (by omega) ?_) | (refine Trs.ix (by assumption) (by omega) ?_) | (refine Prs.ldN (by assumption) (by omega) ?_) | (refine Trs.ldN (by assumption) (by omega) ?_) | (refine At.ldN (Blk.at (by assumption)) rfl ?_) | (refine At.ld (Blk.at (by assumption)) rfl ?_) | (refine IxA.mk (by omega) ?_) | (refine Sl.ln (Own.sl (by assumption)) ?_) | (refine Ints.ix (Own.sl (by assumption)) (by omega) ?_) | (refine Ints.ixI (Own.sl (by assumption)) (by omega) ?_) | (refine Ints.ld (Own.sl (by assumption)) (by omega) ?_))
              refine VE.litI [(c : Int)] Try.underlying24 eInt (by simp) fun av w6 E6 HA0 _ => ?_
              have HA6 := HA0 _ (Nat.le_refl _)
              have Hl6 := Own.ext Hl E6
              conv => whnf
              refine VE.app Try.underlying24 eInt rfl (by omega) HA6 E6 rfl (Own.sl Hl6) (one_ints _) (by simp only [List.length_singleton]; omega) (by simp only [List.length_singleton]; omega) fun v7 w7 E7 G7 H7 => ?_
              repeat' ((conv => whnf); first | (refine Dr.quiet tyOk (by kernel_rfl) ?_) | (refine Rng.mk (by omega) ?_) | (refine Split.pos (by omega) ?_) | (refine Split.neg (by omega) ?_) | (refine Split.mk (fun h => ?_) (fun h => ?_)) | (refine Need.mk (by omega) ?_) | (refine Ints.ln (by assumption) ?_) | (refine Mat.ln (by assumption) ?_) | (refine Ints.ln (Mat.row (by assumption) _ (by omega)) ?_) | (refine Ints.ix (by assumption) (by omega) ?_) | (refine Mat.ix (by assumption) (by omega) ?_) | (refine Ints.ix (Mat.row (by assumption) _ (by omega)) (by omega) ?_) | (refine Ints.ix (c := 0) (by assumption) (by omega) ?_) | (refine Mat.ix (c := 0) (by assumption) (by omega) ?_) | (refine Ints.ix (c := 0) (Mat.row (by assumption) _ (by omega)) (by omega) ?_) | (refine Ints.ixI (by assumption) (by omega) ?_) | (refine Mat.ixI (by assumption) (by omega) ?_) | (refine Ints.ixI (Mat.row (by assumption) _ (by omega)) (by omega) ?_) | (refine Ints.ld (by assumption) (by omega) ?_) | (refine Mat.ld (by assumption) (by omega) ?_) | (refine Ints.ld (Mat.row (by assumption) _ (by omega)) (by omega) ?_) | (refine At.ld (by assumption) rfl ?_) | (refine At.ldN (by assumption) rfl ?_) | (refine Prs.ln (by assumption) ?_) | (refine Trs.ln (by assumption) ?_) | (refine Prs.ix (by assumption) (by omega) ?_) | (refine Trs.ix (by assumption) (by omega) ?_) | (refine Prs.ldN (by assumption) (by omega) ?_) | (refine Trs.ldN (by assumption) (by omega) ?_) | (refine At.ldN (Blk.at (by assumption)) rfl ?_) | (refine At.ld (Blk.at (by assumption)) rfl ?_) | (refine IxA.mk (by omega) ?_) | (refine Sl.ln (Own.sl (by assumption)) ?_) | (refine Ints.ix (Own.sl (by assumption)) (by omega) ?_) | (refine Ints.ixI (Own.sl (by assumption)) (by omega) ?_) | (refine Ints.ld (Own.sl (by assumption)) (by omega) ?_))
              refine ⟨(GS.trans G5).trans (Gr.ofExt E7), HS.ext E7, .inl ⟨v7, (c : Int) :: l, rfl, OI.cons H7, by simp only [List.length_cons]; omega, hcc, fr_cons hno (by omega) hcc hff⟩⟩
            · repeat' ((conv => whnf); first | (refine Dr.quiet tyOk (by kernel_rfl) ?_) | (refine Rng.mk (by omega) ?_) | (refine Split.pos (by omega) ?_) | (refine Split.neg (by omega) ?_) | (refine Split.mk (fun h => ?_) (fun h => ?_)) | (refine Need.mk (by omega) ?_) | (refine Ints.ln (by assumption) ?_) | (refine Mat.ln (by assumption) ?_) | (refine Ints.ln (Mat.row (by assumption) _ (by omega)) ?_) | (refine Ints.ix (by assumption) (by omega) ?_) | (refine Mat.ix (by assumption) (by omega) ?_) | (refine Ints.ix (Mat.row (by assumption) _ (by omega)) (by omega) ?_) | (refine Ints.ix (c := 0) (by assumption) (by omega) ?_) | (refine Mat.ix (c := 0) (by assumption) (by omega) ?_) | (refine Ints.ix (c := 0) (Mat.row (by assumption) _ (by omega)) (by omega) ?_) | (refine Ints.ixI (by assumption) (by omega) ?_) | (refine Mat.ixI (by assumption) (by omega) ?_) | (refine Ints.ixI (Mat.row (by assumption) _ (by omega)) (by omega) ?_) | (refine Ints.ld (by assumption) (by omega) ?_) | (refine Mat.ld (by assumption) (by omega) ?_) | (refine Ints.ld (Mat.row (by assumption) _ (by omega)) (by omega) ?_) | (refine At.ld (by assumption) rfl ?_) | (refine At.ldN (by assumption) rfl ?_) | (refine Prs.ln (by assumption) ?_) | (refine Trs.ln (by assumption) ?_) | (refine Prs.ix (by assumption) (by omega) ?_) | (refine Trs.ix (by assumption) (by omega) ?_) | (refine Prs.ldN (by assumption) (by omega) ?_) | (refine Trs.ldN (by assumption) (by omega) ?_) | (refine At.ldN (Blk.at (by assumption)) rfl ?_) | (refine At.ld (Blk.at (by assumption)) rfl ?_) | (refine IxA.mk (by omega) ?_) | (refine Sl.ln (Own.sl (by assumption)) ?_) | (refine Ints.ix (Own.sl (by assumption)) (by omega) ?_) | (refine Ints.ixI (Own.sl (by assumption)) (by omega) ?_) | (refine Ints.ld (Own.sl (by assumption)) (by omega) ?_))
              refine ⟨_, (by omega : rr.length - (c + 1) < rr.length - c), rfl, c + 1, by omega, rfl, rfl, no_step hno (fun l h1 h2 => hl l (by omega) (cont_own.1 h2)), HS, HY.gr G5 hkb, GS.trans G5⟩
          · cases hb : bit set c with
            | true =>
              have hb1 := bit_t hb
              have hble := bit_le hb
              have hpc : 1 ≤ 2 ^ c := Nat.pow_pos (by omega)
              by_cases hLs : L ≤ s
              · repeat' ((conv => whnf); first | (refine Dr.quiet tyOk (by kernel_rfl) ?_) | (refine Blk.ldA HK rfl ?_) | (refine VS.shr (s := set) (i := c) (by omega) ?_) | (refine VS.and1 (by have := Nat.div_le_self set (2 ^ c); omega) ?_) | (refine VS.shl1 (i := c) (by omega) ?_) | (refine VS.andNot (s := set) (i := c) (by omega) (by omega) hb1 ?_) | (refine Rng.mk (by omega) ?_) | (refine Split.pos (by omega) ?_) | (refine Split.neg (by omega) ?_) | (refine Split.mk (fun h => ?_) (fun h => ?_)) | (refine Need.mk (by omega) ?_) | (refine Ints.ln (by assumption) ?_) | (refine Mat.ln (by assumption) ?_) | (refine Ints.ln (Mat.row (by assumption) _ (by omega)) ?_) | (refine Ints.ix (by assumption) (by omega) ?_) | (refine Mat.ix (by assumption) (by omega) ?_) | (refine Ints.ix (Mat.row (by assumption) _ (by omega)) (by omega) ?_) | (refine Ints.ix (c := 0) (by assumption) (by omega) ?_) | (refine Mat.ix (c := 0) (by assumption) (by omega) ?_) | (refine Ints.ix (c := 0) (Mat.row (by assumption) _ (by omega)) (by omega) ?_) | (refine Ints.ixI (by assumption) (by omega) ?_) | (refine Mat.ixI (by assumption) (by omega) ?_) | (refine Ints.ixI (Mat.row (by assumption) _ (by omega)) (by omega) ?_) | (refine Ints.ld (by assumption) (by omega) ?_) | (refine Mat.ld (by assumption) (by omega) ?_) | (refine Ints.ld (Mat.row (by assumption) _ (by omega)) (by omega) ?_) | (refine At.ld (by assumption) rfl ?_) | (refine At.ldN (by assumption) rfl ?_) | (refine Prs.ln (by assumption) ?_) | (refine Trs.ln (by assumption) ?_) | (refine Prs.ix (by assumption) (by omega) ?_) | (refine Trs.ix (by assumption) (by omega) ?_) | (refine Prs.ldN (by assumption) (by omega) ?_) | (refine Trs.ldN (by assumption) (by omega) ?_) | (refine At.ldN (Blk.at (by assumption)) rfl ?_) | (refine At.ld (Blk.at (by assumption)) rfl ?_) | (refine IxA.mk (by omega) ?_) | (refine Sl.ln (Own.sl (by assumption)) ?_) | (refine Ints.ix (Own.sl (by assumption)) (by omega) ?_) | (refine Ints.ixI (Own.sl (by assumption)) (by omega) ?_) | (refine Ints.ld (Own.sl (by assumption)) (by omega) ?_))
                refine VC.rc (sfrom_rc hk hL j (p + 1) (by omega) (s := 0 + val rr c p) (set := set - 2 ^ c) hcl (by omega) (by omega) HV0 HS) ?_
                rintro _ w5 G5 ⟨HS, hfr⟩
                rcases hfr with ⟨lv, l, rfl, Hl, hl1, hl2, hl3⟩ | ⟨rfl, hl⟩
                · have hcc := (cont_other (set := set) hcl hca).2 ⟨hb, hLs, hl2⟩
                  have hff : ∀ l' : List Int, l'.length + 1 + p = mm → Cont rr L p ag s set ((c : Int) :: l') → ¬ lexlt l' l := fun l' h1 h2 => hl3 l' (by omega) ((cont_other hcl hca).1 h2).2.2
                  repeat' ((conv => whnf); first | (refine Dr.quiet tyOk (by kernel_rfl) ?_) | (refine Rng.mk (by omega) ?_) | (refine Split.pos (by omega) ?_) | (refine Split.neg (by omega) ?_) | (refine Split.mk (fun h => ?_) (fun h => ?_)) | (refine Need.mk (by omega) ?_) | (refine Ints.ln (by assumption) ?_) | (refine Mat.ln (by assumption) ?_) | (refine Ints.ln (Mat.row (by assumption) _ (by omega)) ?_) | (refine Ints.ix (by assumption) (by omega) ?_) | (refine Mat.ix (by assumption) (by omega) ?_) | (refine Ints.ix (Mat.row (by assumption) _ (by omega)) (by omega) ?_) | (refine Ints.ix (c := 0) (by assumption) (by omega) ?_) | (refine Mat.ix (c := 0) (by assumption) (by omega) ?_) | (refine Ints.ix (c := 0) (Mat.row (by assumption) _ (by omega)) (by omega) ?_) | (refine Ints.ixI (by assumption) (by omega) ?_) | (refine Mat.ixI (by assumption) (by omega) ?_) | (refine Ints.ixI (Mat.row (by assumption) _ (by omega)) (by omega) ?_) | (refine Ints.ld (by assumption) (by omega) ?_) | (refine Mat.ld (by assumption) (by omega) ?_) | (refine Ints.ld (Mat.row (by assumption) _ (by omega)) (by omega) ?_) | (refine At.ld (by assumption) rfl ?_) | (refine At.ldN (by assumption) rfl ?_) | (refine Prs.ln (by assumption) ?_) | (refine Trs.ln (by assumption) ?_) | (refine Prs.ix (by assumption) (by omega) ?_) | (refine Trs.ix (by assumption) (by omega) ?_) | (refine Prs.ldN (by assumption) (by omega) ?_) | (refine Trs.ldN (by assumption) (by omega) ?_) | (refine At.ldN (Blk.at (by assumption)) rfl ?_) | (refine At.ld (Blk.at (by assumption)) rfl ?_) | (refine IxA.mk (by omega) ?_) | (refine Sl.ln (Own.sl (by assumption)) ?_) | (refine Ints.ix (Own.sl (by assumption)) (by omega) ?_) | (refine Ints.ixI (Own.sl (by assumption)) (by omega) ?_) | (refine Ints.ld (Own.sl (by assumption)) (by omega) ?_))
                  refine VE.litI [(c : Int)] Try.underlying24 eInt (by simp) fun av w6 E6 HA0 _ => ?_
                  have HA6 := HA0 _ (Nat.le_refl _)
                  have Hl6 := Own.ext Hl E6
                  conv => whnf
                  refine VE.app Try.underlying24 eInt rfl (by omega) HA6 E6 rfl (Own.sl Hl6) (one_ints _) (by simp only [List.length_singleton]; omega) (by simp only [List.length_singleton]; omega) fun v7 w7 E7 G7 H7 => ?_
                  repeat' ((conv => whnf); first | (refine Dr.quiet tyOk (by kernel_rfl) ?_) | (refine Rng.mk (by omega) ?_) | (refine Split.pos (by omega) ?_) | (refine Split.neg (by omega) ?_) | (refine Split.mk (fun h => ?_) (fun h => ?_)) | (refine Need.mk (by omega) ?_) | (refine Ints.ln (by assumption) ?_) | (refine Mat.ln (by assumption) ?_) | (refine Ints.ln (Mat.row (by assumption) _ (by omega)) ?_) | (refine Ints.ix (by assumption) (by omega) ?_) | (refine Mat.ix (by assumption) (by omega) ?_) | (refine Ints.ix (Mat.row (by assumption) _ (by omega)) (by omega) ?_) | (refine Ints.ix (c := 0) (by assumption) (by omega) ?_) | (refine Mat.ix (c := 0) (by assumption) (by omega) ?_) | (refine Ints.ix (c := 0) (Mat.row (by assumption) _ (by omega)) (by omega) ?_) | (refine Ints.ixI (by assumption) (by omega) ?_) | (refine Mat.ixI (by assumption) (by omega) ?_) | (refine Ints.ixI (Mat.row (by assumption) _ (by omega)) (by omega) ?_) | (refine Ints.ld (by assumption) (by omega) ?_) | (refine Mat.ld (by assumption) (by omega) ?_) | (refine Ints.ld (Mat.row (by assumption) _ (by omega)) (by omega) ?_) | (refine At.ld (by assumption) rfl ?_) | (refine At.ldN (by assumption) rfl ?_) | (refine Prs.ln (by assumption) ?_) | (refine Trs.ln (by assumption) ?_) | (refine Prs.ix (by assumption) (by omega) ?_) | (refine Trs.ix (by assumption) (by omega) ?_) | (refine Prs.ldN (by assumption) (by omega) ?_) | (refine Trs.ldN (by assumption) (by omega) ?_) | (refine At.ldN (Blk.at (by assumption)) rfl ?_) | (refine At.ld (Blk.at (by assumption)) rfl ?_) | (refine IxA.mk (by omega) ?_) | (refine Sl.ln (Own.sl (by assumption)) ?_) | (refine Ints.ix (Own.sl (by assumption)) (by omega) ?_) | (refine Ints.ixI (Own.sl (by assumption)) (by omega) ?_) | (refine Ints.ld (Own.sl (by assumption)) (by omega) ?_))
                  refine ⟨(GS.trans G5).trans (Gr.ofExt E7), HS.ext E7, .inl ⟨v7, (c : Int) :: l, rfl, OI.cons H7, by simp only [List.length_cons]; omega, hcc, fr_cons hno (by omega) hcc hff⟩⟩
                · repeat' ((conv => whnf); first | (refine Dr.quiet tyOk (by kernel_rfl) ?_) | (refine Rng.mk (by omega) ?_) | (refine Split.pos (by omega) ?_) | (refine Split.neg (by omega) ?_) | (refine Split.mk (fun h => ?_) (fun h => ?_)) | (refine Need.mk (by omega) ?_) | (refine Ints.ln (by assumption) ?_) | (refine Mat.ln (by assumption) ?_) | (refine Ints.ln (Mat.row (by assumption) _ (by omega)) ?_) | (refine Ints.ix (by assumption) (by omega) ?_) | (refine Mat.ix (by assumption) (by omega) ?_) | (refine Ints.ix (Mat.row (by assumption) _ (by omega)) (by omega) ?_) | (refine Ints.ix (c := 0) (by assumption) (by omega) ?_) | (refine Mat.ix (c := 0) (by assumption) (by omega) ?_) | (refine Ints.ix (c := 0) (Mat.row (by assumption) _ (by omega)) (by omega) ?_) | (refine Ints.ixI (by assumption) (by omega) ?_) | (refine Mat.ixI (by assumption) (by omega) ?_) | (refine Ints.ixI (Mat.row (by assumption) _ (by omega)) (by omega) ?_) | (refine Ints.ld (by assumption) (by omega) ?_) | (refine Mat.ld (by assumption) (by omega) ?_) | (refine Ints.ld (Mat.row (by assumption) _ (by omega)) (by omega) ?_) | (refine At.ld (by assumption) rfl ?_) | (refine At.ldN (by assumption) rfl ?_) | (refine Prs.ln (by assumption) ?_) | (refine Trs.ln (by assumption) ?_) | (refine Prs.ix (by assumption) (by omega) ?_) | (refine Trs.ix (by assumption) (by omega) ?_) | (refine Prs.ldN (by assumption) (by omega) ?_) | (refine Trs.ldN (by assumption) (by omega) ?_) | (refine At.ldN (Blk.at (by assumption)) rfl ?_) | (refine At.ld (Blk.at (by assumption)) rfl ?_) | (refine IxA.mk (by omega) ?_) | (refine Sl.ln (Own.sl (by assumption)) ?_) | (refine Ints.ix (Own.sl (by assumption)) (by omega) ?_) | (refine Ints.ixI (Own.sl (by assumption)) (by omega) ?_) | (refine Ints.ld (Own.sl (by assumption)) (by omega) ?_))
                  refine ⟨_, (by omega : rr.length - (c + 1) < rr.length - c), rfl, c + 1, by omega, rfl, rfl, no_step hno (fun l h1 h2 => hl l (by omega) ((cont_other hcl hca).1 h2).2.2), HS, HY.gr G5 hkb, GS.trans G5⟩
              · repeat' ((conv => whnf); first | (refine Dr.quiet tyOk (by kernel_rfl) ?_) | (refine Blk.ldA HK rfl ?_) | (refine VS.shr (s := set) (i := c) (by omega) ?_) | (refine VS.and1 (by have := Nat.div_le_self set (2 ^ c); omega) ?_) | (refine Rng.mk (by omega) ?_) | (refine Split.pos (by omega) ?_) | (refine Split.neg (by omega) ?_) | (refine Split.mk (fun h => ?_) (fun h => ?_)) | (refine Need.mk (by omega) ?_) | (refine Ints.ln (by assumption) ?_) | (refine Mat.ln (by assumption) ?_) | (refine Ints.ln (Mat.row (by assumption) _ (by omega)) ?_) | (refine Ints.ix (by assumption) (by omega) ?_) | (refine Mat.ix (by assumption) (by omega) ?_) | (refine Ints.ix (Mat.row (by assumption) _ (by omega)) (by omega) ?_) | (refine Ints.ix (c := 0) (by assumption) (by omega) ?_) | (refine Mat.ix (c := 0) (by assumption) (by omega) ?_) | (refine Ints.ix (c := 0) (Mat.row (by assumption) _ (by omega)) (by omega) ?_) | (refine Ints.ixI (by assumption) (by omega) ?_) | (refine Mat.ixI (by assumption) (by omega) ?_) | (refine Ints.ixI (Mat.row (by assumption) _ (by omega)) (by omega) ?_) | (refine Ints.ld (by assumption) (by omega) ?_) | (refine Mat.ld (by assumption) (by omega) ?_) | (refine Ints.ld (Mat.row (by assumption) _ (by omega)) (by omega) ?_) | (refine At.ld (by assumption) rfl ?_) | (refine At.ldN (by assumption) rfl ?_) | (refine Prs.ln (by assumption) ?_) | (refine Trs.ln (by assumption) ?_) | (refine Prs.ix (by assumption) (by omega) ?_) | (refine Trs.ix (by assumption) (by omega) ?_) | (refine Prs.ldN (by assumption) (by omega) ?_) | (refine Trs.ldN (by assumption) (by omega) ?_) | (refine At.ldN (Blk.at (by assumption)) rfl ?_) | (refine At.ld (Blk.at (by assumption)) rfl ?_) | (refine IxA.mk (by omega) ?_) | (refine Sl.ln (Own.sl (by assumption)) ?_) | (refine Ints.ix (Own.sl (by assumption)) (by omega) ?_) | (refine Ints.ixI (Own.sl (by assumption)) (by omega) ?_) | (refine Ints.ld (Own.sl (by assumption)) (by omega) ?_))
                refine ⟨_, (by omega : rr.length - (c + 1) < rr.length - c), rfl, c + 1, by omega, rfl, rfl, no_step hno (fun l h1 h2 => hLs ((cont_other hcl hca).1 h2).2.1), HS, HY, GS⟩
            | false =>
              have hb0 := bit_f hb
              repeat' ((conv => whnf); first | (refine Dr.quiet tyOk (by kernel_rfl) ?_) | (refine Blk.ldA HK rfl ?_) | (refine VS.shr (s := set) (i := c) (by omega) ?_) | (refine VS.and1 (by have := Nat.div_le_self set (2 ^ c); omega) ?_) | (refine Rng.mk (by omega) ?_) | (refine Split.pos (by omega) ?_) | (refine Split.neg (by omega) ?_) | (refine Split.mk (fun h => ?_) (fun h => ?_)) | (refine Need.mk (by omega) ?_) | (refine Ints.ln (by assumption) ?_) | (refine Mat.ln (by assumption) ?_) | (refine Ints.ln (Mat.row (by assumption) _ (by omega)) ?_) | (refine Ints.ix (by assumption) (by omega) ?_) | (refine Mat.ix (by assumption) (by omega) ?_) | (refine Ints.ix (Mat.row (by assumption) _ (by omega)) (by omega) ?_) | (refine Ints.ix (c := 0) (by assumption) (by omega) ?_) | (refine Mat.ix (c := 0) (by assumption) (by omega) ?_) | (refine Ints.ix (c := 0) (Mat.row (by assumption) _ (by omega)) (by omega) ?_) | (refine Ints.ixI (by assumption) (by omega) ?_) | (refine Mat.ixI (by assumption) (by omega) ?_) | (refine Ints.ixI (Mat.row (by assumption) _ (by omega)) (by omega) ?_) | (refine Ints.ld (by assumption) (by omega) ?_) | (refine Mat.ld (by assumption) (by omega) ?_) | (refine Ints.ld (Mat.row (by assumption) _ (by omega)) (by omega) ?_) | (refine At.ld (by assumption) rfl ?_) | (refine At.ldN (by assumption) rfl ?_) | (refine Prs.ln (by assumption) ?_) | (refine Trs.ln (by assumption) ?_) | (refine Prs.ix (by assumption) (by omega) ?_) | (refine Trs.ix (by assumption) (by omega) ?_) | (refine Prs.ldN (by assumption) (by omega) ?_) | (refine Trs.ldN (by assumption) (by omega) ?_) | (refine At.ldN (Blk.at (by assumption)) rfl ?_) | (refine At.ld (Blk.at (by assumption)) rfl ?_) | (refine IxA.mk (by omega) ?_) | (refine Sl.ln (Own.sl (by assumption)) ?_) | (refine Ints.ix (Own.sl (by assumption)) (by omega) ?_) | (refine Ints.ixI (Own.sl (by assumption)) (by omega) ?_) | (refine Ints.ld (Own.sl (by assumption)) (by omega) ?_))
              refine ⟨_, (by omega : rr.length - (c + 1) < rr.length - c), rfl, c + 1, by omega, rfl, rfl, no_step hno (fun l h1 h2 => by have := ((cont_other hcl hca).1 h2).1; rw [hb] at this; cases this), HS, HY, GS⟩
        · obtain rfl : c = rr.length := by omega
          have hnone := fr_none hag (by omega) hno
          repeat' ((conv => whnf); first | (refine Dr.plan 142 [6] (.q 0 (.q 1 (.q 2 (.q 3 (.q 4 (.q 5 (.e 6 .nil .nil))))))) tyOk rfl (by kernel_rfl) ?_) | (refine Dr.quiet tyOk (by kernel_rfl) ?_) | (refine Blk.ldA HK rfl ?_) | (refine Rng.mk (by omega) ?_) | (refine Split.pos (by omega) ?_) | (refine Split.neg (by omega) ?_) | (refine Split.mk (fun h => ?_) (fun h => ?_)) | (refine Need.mk (by omega) ?_) | (refine Ints.ln (by assumption) ?_) | (refine Mat.ln (by assumption) ?_) | (refine Ints.ln (Mat.row (by assumption) _ (by omega)) ?_) | (refine Ints.ix (by assumption) (by omega) ?_) | (refine Mat.ix (by assumption) (by omega) ?_) | (refine Ints.ix (Mat.row (by assumption) _ (by omega)) (by omega) ?_) | (refine Ints.ix (c := 0) (by assumption) (by omega) ?_) | (refine Mat.ix (c := 0) (by assumption) (by omega) ?_) | (refine Ints.ix (c := 0) (Mat.row (by assumption) _ (by omega)) (by omega) ?_) | (refine Ints.ixI (by assumption) (by omega) ?_) | (refine Mat.ixI (by assumption) (by omega) ?_) | (refine Ints.ixI (Mat.row (by assumption) _ (by omega)) (by omega) ?_) | (refine Ints.ld (by assumption) (by omega) ?_) | (refine Mat.ld (by assumption) (by omega) ?_) | (refine Ints.ld (Mat.row (by assumption) _ (by omega)) (by omega) ?_) | (refine At.ld (by assumption) rfl ?_) | (refine At.ldN (by assumption) rfl ?_) | (refine Prs.ln (by assumption) ?_) | (refine Trs.ln (by assumption) ?_) | (refine Prs.ix (by assumption) (by omega) ?_) | (refine Trs.ix (by assumption) (by omega) ?_) | (refine Prs.ldN (by assumption) (by omega) ?_) | (refine Trs.ldN (by assumption) (by omega) ?_) | (refine At.ldN (Blk.at (by assumption)) rfl ?_) | (refine At.ld (Blk.at (by assumption)) rfl ?_) | (refine IxA.mk (by omega) ?_) | (refine Sl.ln (Own.sl (by assumption)) ?_) | (refine Ints.ix (Own.sl (by assumption)) (by omega) ?_) | (refine Ints.ixI (Own.sl (by assumption)) (by omega) ?_) | (refine Ints.ld (Own.sl (by assumption)) (by omega) ?_))
          refine MD.put Try.underlying65 Try.underlying73 Try.underlying3 (by kernel_rfl) HM (fr_dq hnone) fun w5 G5 HM5 => ?_
          repeat' ((conv => whnf); first | (refine Dr.quiet tyOk (by kernel_rfl) ?_) | (refine Rng.mk (by omega) ?_) | (refine Split.pos (by omega) ?_) | (refine Split.neg (by omega) ?_) | (refine Split.mk (fun h => ?_) (fun h => ?_)) | (refine Need.mk (by omega) ?_) | (refine Ints.ln (by assumption) ?_) | (refine Mat.ln (by assumption) ?_) | (refine Ints.ln (Mat.row (by assumption) _ (by omega)) ?_) | (refine Ints.ix (by assumption) (by omega) ?_) | (refine Mat.ix (by assumption) (by omega) ?_) | (refine Ints.ix (Mat.row (by assumption) _ (by omega)) (by omega) ?_) | (refine Ints.ix (c := 0) (by assumption) (by omega) ?_) | (refine Mat.ix (c := 0) (by assumption) (by omega) ?_) | (refine Ints.ix (c := 0) (Mat.row (by assumption) _ (by omega)) (by omega) ?_) | (refine Ints.ixI (by assumption) (by omega) ?_) | (refine Mat.ixI (by assumption) (by omega) ?_) | (refine Ints.ixI (Mat.row (by assumption) _ (by omega)) (by omega) ?_) | (refine Ints.ld (by assumption) (by omega) ?_) | (refine Mat.ld (by assumption) (by omega) ?_) | (refine Ints.ld (Mat.row (by assumption) _ (by omega)) (by omega) ?_) | (refine At.ld (by assumption) rfl ?_) | (refine At.ldN (by assumption) rfl ?_) | (refine Prs.ln (by assumption) ?_) | (refine Trs.ln (by assumption) ?_) | (refine Prs.ix (by assumption) (by omega) ?_) | (refine Trs.ix (by assumption) (by omega) ?_) | (refine Prs.ldN (by assumption) (by omega) ?_) | (refine Trs.ldN (by assumption) (by omega) ?_) | (refine At.ldN (Blk.at (by assumption)) rfl ?_) | (refine At.ld (Blk.at (by assumption)) rfl ?_) | (refine IxA.mk (by omega) ?_) | (refine Sl.ln (Own.sl (by assumption)) ?_) | (refine Ints.ix (Own.sl (by assumption)) (by omega) ?_) | (refine Ints.ixI (Own.sl (by assumption)) (by omega) ?_) | (refine Ints.ld (Own.sl (by assumption)) (by omega) ?_))
          exact ⟨GS.trans G5, ⟨HS.ex.new G5 (fun i hi e => by have := HS.bm; omega), HS.bx.gr G5 HS.ne, HM5, HS.bm, HS.ne⟩, .inr ⟨rfl, hnone⟩⟩
    · intro y hy
      by_cases hys : s ≤ y
      · repeat' ((conv => whnf); first | (refine Dr.quiet tyOk (by kernel_rfl) ?_) | (refine Rng.mk (by omega) ?_) | (refine Split.pos (by omega) ?_) | (refine Split.neg (by omega) ?_) | (refine Split.mk (fun h => ?_) (fun h => ?_)) | (refine Need.mk (by omega) ?_) | (refine Ints.ln (by assumption) ?_) | (refine Mat.ln (by assumption) ?_) | (refine Ints.ln (Mat.row (by assumption) _ (by omega)) ?_) | (refine Ints.ix (by assumption) (by omega) ?_) | (refine Mat.ix (by assumption) (by omega) ?_) | (refine Ints.ix (Mat.row (by assumption) _ (by omega)) (by omega) ?_) | (refine Ints.ix (c := 0) (by assumption) (by omega) ?_) | (refine Mat.ix (c := 0) (by assumption) (by omega) ?_) | (refine Ints.ix (c := 0) (Mat.row (by assumption) _ (by omega)) (by omega) ?_) | (refine Ints.ixI (by assumption) (by omega) ?_) | (refine Mat.ixI (by assumption) (by omega) ?_) | (refine Ints.ixI (Mat.row (by assumption) _ (by omega)) (by omega) ?_) | (refine Ints.ld (by assumption) (by omega) ?_) | (refine Mat.ld (by assumption) (by omega) ?_) | (refine Ints.ld (Mat.row (by assumption) _ (by omega)) (by omega) ?_) | (refine At.ld (by assumption) rfl ?_) | (refine At.ldN (by assumption) rfl ?_) | (refine Prs.ln (by assumption) ?_) | (refine Trs.ln (by assumption) ?_) | (refine Prs.ix (by assumption) (by omega) ?_) | (refine Trs.ix (by assumption) (by omega) ?_) | (refine Prs.ldN (by assumption) (by omega) ?_) | (refine Trs.ldN (by assumption) (by omega) ?_) | (refine At.ldN (Blk.at (by assumption)) rfl ?_) | (refine At.ld (Blk.at (by assumption)) rfl ?_) | (refine IxA.mk (by omega) ?_) | (refine Sl.ln (Own.sl (by assumption)) ?_) | (refine Ints.ix (Own.sl (by assumption)) (by omega) ?_) | (refine Ints.ixI (Own.sl (by assumption)) (by omega) ?_) | (refine Ints.ld (Own.sl (by assumption)) (by omega) ?_))
        exact ⟨Gr.ofExt EE, HS, .inr ⟨rfl, dq_fr hy hys⟩⟩
      · repeat' ((conv => whnf); first | (refine Dr.quiet tyOk (by kernel_rfl) ?_) | (refine Blk.ldA HK rfl ?_) | (refine Rng.mk (by omega) ?_) | (refine Split.pos (by omega) ?_) | (refine Split.neg (by omega) ?_) | (refine Split.mk (fun h => ?_) (fun h => ?_)) | (refine Need.mk (by omega) ?_) | (refine Ints.ln (by assumption) ?_) | (refine Mat.ln (by assumption) ?_) | (refine Ints.ln (Mat.row (by assumption) _ (by omega)) ?_) | (refine Ints.ix (by assumption) (by omega) ?_) | (refine Mat.ix (by assumption) (by omega) ?_) | (refine Ints.ix (Mat.row (by assumption) _ (by omega)) (by omega) ?_) | (refine Ints.ix (c := 0) (by assumption) (by omega) ?_) | (refine Mat.ix (c := 0) (by assumption) (by omega) ?_) | (refine Ints.ix (c := 0) (Mat.row (by assumption) _ (by omega)) (by omega) ?_) | (refine Ints.ixI (by assumption) (by omega) ?_) | (refine Mat.ixI (by assumption) (by omega) ?_) | (refine Ints.ixI (Mat.row (by assumption) _ (by omega)) (by omega) ?_) | (refine Ints.ld (by assumption) (by omega) ?_) | (refine Mat.ld (by assumption) (by omega) ?_) | (refine Ints.ld (Mat.row (by assumption) _ (by omega)) (by omega) ?_) | (refine At.ld (by assumption) rfl ?_) | (refine At.ldN (by assumption) rfl ?_) | (refine Prs.ln (by assumption) ?_) | (refine Trs.ln (by assumption) ?_) | (refine Prs.ix (by assumption) (by omega) ?_) | (refine Trs.ix (by assumption) (by omega) ?_) | (refine Prs.ldN (by assumption) (by omega) ?_) | (refine Trs.ldN (by assumption) (by omega) ?_) | (refine At.ldN (Blk.at (by assumption)) rfl ?_) | (refine At.ld (Blk.at (by assumption)) rfl ?_) | (refine IxA.mk (by omega) ?_) | (refine Sl.ln (Own.sl (by assumption)) ?_) | (refine Ints.ix (Own.sl (by assumption)) (by omega) ?_) | (refine Ints.ixI (Own.sl (by assumption)) (by omega) ?_) | (refine Ints.ld (Own.sl (by assumption)) (by omega) ?_))
        have GS : Gr (fun k => k = mb) w1 w3 := Gr.ofExt EE
        refine Lp.mk tyOk [false, false, false, false, false, false, false, false, false, false, true, true, false, false, false, false, false, true, true, true, true, true, true, false, false, false, false, false, false, false, false, false, false, false, false, false, false, false, false, false, false, false, false, false, false, false, false, false, false, false, false, false, false, false, false, false, false, false, false, false, false, false, false, false, false, false, false, false, false, false, false, false, false, false, false, false, false, false, false, false, false, false, false, false, false, false, false, true, true, true, true, true, true, true, true, true, true, true, true, true, true, true, true, true, true, true, true, true, true, true, true, true, true, true, true, true, true, true, true, true, true, true, true, true, true, true, true, true, true, true, true, true, true, true, true, true, true, true, true, true, true, true] (fun m fr wr => getK fr 87 fun i => ∃ c : Nat, c ≤ rr.length ∧ m = rr.length - c ∧ i = .int .i64 (c : Int) ∧ (∀ i, i < c → ∀ l : List Int, l.length + 1 + p = mm → ¬ Cont rr L p ag s set ((i : Int) :: l)) ∧ (SSt W0 wr sb mb vv rr L mm) ∧ (Blk wr kb 73 [.int .i64 (set : Int), .int .i64 (p : Int), .int .i64 (ag : Int)]) ∧ (Gr (fun k => k = mb) w1 wr)) (rr.length) ?_ ?_
        · exact ⟨0, Nat.zero_le _, rfl, rfl, (fun i hi => absurd hi (Nat.not_lt_zero _)), HS, HY, GS⟩
        · intro m w6 u10 u11 u17 u18 u19 u20 u21 u22 u87 u88 u89 u90 u91 u92 u93 u94 u95 u96 u97 u98 u99 u100 u101 u102 u103 u104 u105 u106 u107 u108 u109 u110 u111 u112 u113 u114 u115 u116 u117 u118 u119 u120 u121 u122 u123 u124 u125 u126 u127 u128 u129 u130 u131 u132 u133 u134 u135 u136 u137 u138 u139 u140 u141 hR
          obtain ⟨c, hc, rfl, rfl, hno, HS, HY, GS⟩ := hR
          have HK := HS.bx
          have HV := HV0.ext HS.ex
          have HM := HS.md
          by_cases hcl : c < rr.length
          · have hrow := hk.row c hcl
            have hvv : 0 ≤ (rr.getD c []).getD p 0 ∧ (rr.getD c []).getD p 0 ≤ 1000 := hk.val c p
            have hvv2 : 0 ≤ val rr c p ∧ val rr c p ≤ 1000 := hk.val c p
            by_cases hca : c = ag
            · obtain rfl : c = ag := hca
              repeat' ((conv => whnf); first | (refine Dr.quiet tyOk (by kernel_rfl) ?_) | (refine Blk.ldA HK rfl ?_) | (refine Rng.mk (by omega) ?_) | (refine Split.pos (by omega) ?_) | (refine Split.neg (by omega) ?_) | (refine Split.mk (fun h => ?_) (fun h => ?_)) | (refine Need.mk (by omega) ?_) | (refine Ints.ln (by assumption) ?_) | (refine Mat.ln (by assumption) ?_) | (refine Ints.ln (Mat.row (by assumption) _ (by omega)) ?_) | (refine Ints.ix (by assumption) (by omega) ?_) | (refine Mat.ix (by assumption) (by omega) ?_) | (refine Ints.ix (Mat.row (by assumption) _ (by omega)) (by omega) ?_) | (refine Ints.ix (c := 0) (by assumption) (by omega) ?_) | (refine Mat.ix (c := 0) (by assumption) (by omega) ?_) | (refine Ints.ix (c := 0) (Mat.row (by assumption) _ (by omega)) (by omega) ?_) | (refine Ints.ixI (by assumption) (by omega) ?_) | (refine Mat.ixI (by assumption) (by omega) ?_) | (refine Ints.ixI (Mat.row (by assumption) _ (by omega)) (by omega) ?_) | (refine Ints.ld (by assumption) (by omega) ?_) | (refine Mat.ld (by assumption) (by omega) ?_) | (refine Ints.ld (Mat.row (by assumption) _ (by omega)) (by omega) ?_) | (refine At.ld (by assumption) rfl ?_) | (refine At.ldN (by assumption) rfl ?_) | (refine Prs.ln (by assumption) ?_) | (refine Trs.ln (by assumption) ?_) | (refine Prs.ix (by assumption) (by omega) ?_) | (refine Trs.ix (by assumption) (by omega) ?_) | (refine Prs.ldN (by assumption) (by omega) ?_) | (refine Trs.ldN (by assumption) (by omega) ?_) | (refine At.ldN (Blk.at (by assumption)) rfl ?_) | (refine At.ld (Blk.at (by assumption)) rfl ?_) | (refine IxA.mk (by omega) ?_) | (refine Sl.ln (Own.sl (by assumption)) ?_) | (refine Ints.ix (Own.sl (by assumption)) (by omega) ?_) | (refine Ints.ixI (Own.sl (by assumption)) (by omega) ?_) | (refine Ints.ld (Own.sl (by assumption)) (by omega) ?_))
              refine VC.rc (sfrom_rc hk hL j (p + 1) (by omega) (s := s + val rr c p) hcl hset (by omega) HV0 HS) ?_
              rintro _ w5 G5 ⟨HS, hfr⟩
              rcases hfr with ⟨lv, l, rfl, Hl, hl1, hl2, hl3⟩ | ⟨rfl, hl⟩
              · have hcc := (cont_own (set := set)).2 hl2
                have hff : ∀ l' : List Int, l'.length + 1 + p = mm → Cont rr L p c s set ((c : Int) :: l') → ¬ lexlt l' l := fun l' h1 h2 => hl3 l' (by omega) (cont_own.1 h2)
                repeat' ((conv => whnf); first | (refine Dr.quiet tyOk (by kernel_rfl) ?_) | (refine Rng.mk (by omega) ?_) | (refine Split.pos (by omega) ?_) | (refine Split.neg (by omega) ?_) | (refine Split.mk (fun h => ?_) (fun h => ?_)) | (refine Need.mk (by omega) ?_) | (refine Ints.ln (by assumption) ?_) | (refine Mat.ln (by assumption) ?_) | (refine Ints.ln (Mat.row (by assumption) _ (by omega)) ?_) | (refine Ints.ix (by assumption) (by omega) ?_) | (refine Mat.ix (by assumption) (by omega) ?_) | (refine Ints.ix (Mat.row (by assumption) _ (by omega)) (by omega) ?_) | (refine Ints.ix (c := 0) (by assumption) (by omega) ?_) | (refine Mat.ix (c := 0) (by assumption) (by omega) ?_) | (refine Ints.ix (c := 0) (Mat.row (by assumption) _ (by omega)) (by omega) ?_) | (refine Ints.ixI (by assumption) (by omega) ?_) | (refine Mat.ixI (by assumption) (by omega) ?_) | (refine Ints.ixI (Mat.row (by assumption) _ (by omega)) (by omega) ?_) | (refine Ints.ld (by assumption) (by omega) ?_) | (refine Mat.ld (by assumption) (by omega) ?_) | (refine Ints.ld (Mat.row (by assumption) _ (by omega)) (by omega) ?_) | (refine At.ld (by assumption) rfl ?_) | (refine At.ldN (by assumption) rfl ?_) | (refine Prs.ln (by assumption) ?_) | (refine Trs.ln (by assumption) ?_) | (refine Prs.ix (by assumption) (by omega) ?_) | (refine Trs.ix (by assumption) (by omega) ?_) | (refine Prs.ldN (by assumption) (by omega) ?_) | (refine Trs.ldN (by assumption) (by omega) ?_) | (refine At.ldN (Blk.at (by assumption)) rfl ?_) | (refine At.ld (Blk.at (by assumption)) rfl ?_) | (refine IxA.mk (by omega) ?_) | (refine Sl.ln (Own.sl (by assumption)) ?_) | (refine Ints.ix (Own.sl (by assumption)) (by omega) ?_) | (refine Ints.ixI (Own.sl (by assumption)) (by omega) ?_) | (refine Ints.ld (Own.sl (by assumption)) (by omega) ?_))
                refine VE.litI [(c : Int)] Try.underlying24 eInt (by simp) fun av w6 E6 HA0 _ => ?_
                have HA6 := HA0 _ (Nat.le_refl _)
                have Hl6 := Own.ext Hl E6
                conv => whnf
                refine VE.app Try.underlying24 eInt rfl (by omega) HA6 E6 rfl (Own.sl Hl6) (one_ints _) (by simp only [List.length_singleton]; omega) (by simp only [List.length_singleton]; omega) fun v7 w7 E7 G7 H7 => ?_
                repeat' ((conv => whnf); first | (refine Dr.quiet tyOk (by kernel_rfl) ?_) | (refine Rng.mk (by omega) ?_) | (refine Split.pos (by omega) ?_) | (refine Split.neg (by omega) ?_) | (refine Split.mk (fun h => ?_) (fun h => ?_)) | (refine Need.mk (by omega) ?_) | (refine Ints.ln (by assumption) ?_) | (refine Mat.ln (by assumption) ?_) | (refine Ints.ln (Mat.row (by assumption) _ (by omega)) ?_) | (refine Ints.ix (by assumption) (by omega) ?_) | (refine Mat.ix (by assumption) (by omega) ?_) | (refine Ints.ix (Mat.row (by assumption) _ (by omega)) (by omega) ?_) | (refine Ints.ix (c := 0) (by assumption) (by omega) ?_) | (refine Mat.ix (c := 0) (by assumption) (by omega) ?_) | (refine Ints.ix (c := 0) (Mat.row (by assumption) _ (by omega)) (by omega) ?_) | (refine Ints.ixI (by assumption) (by omega) ?_) | (refine Mat.ixI (by assumption) (by omega) ?_) | (refine Ints.ixI (Mat.row (by assumption) _ (by omega)) (by omega) ?_) | (refine Ints.ld (by assumption) (by omega) ?_) | (refine Mat.ld (by assumption) (by omega) ?_) | (refine Ints.ld (Mat.row (by assumption) _ (by omega)) (by omega) ?_) | (refine At.ld (by assumption) rfl ?_) | (refine At.ldN (by assumption) rfl ?_) | (refine Prs.ln (by assumption) ?_) | (refine Trs.ln (by assumption) ?_) | (refine Prs.ix (by assumption) (by omega) ?_) | (refine Trs.ix (by assumption) (by omega) ?_) | (refine Prs.ldN (by assumption) (by omega) ?_) | (refine Trs.ldN (by assumption) (by omega) ?_) | (refine At.ldN (Blk.at (by assumption)) rfl ?_) | (refine At.ld (Blk.at (by assumption)) rfl ?_) | (refine IxA.mk (by omega) ?_) | (refine Sl.ln (Own.sl (by assumption)) ?_) | (refine Ints.ix (Own.sl (by assumption)) (by omega) ?_) | (refine Ints.ixI (Own.sl (by assumption)) (by omega) ?_) | (refine Ints.ld (Own.sl (by assumption)) (by omega) ?_))
                refine ⟨(GS.trans G5).trans (Gr.ofExt E7), HS.ext E7, .inl ⟨v7, (c : Int) :: l, rfl, OI.cons H7, by simp only [List.length_cons]; omega, hcc, fr_cons hno (by omega) hcc hff⟩⟩
              · repeat' ((conv => whnf); first | (refine Dr.quiet tyOk (by kernel_rfl) ?_) | (refine Rng.mk (by omega) ?_) | (refine Split.pos (by omega) ?_) | (refine Split.neg (by omega) ?_) | (refine Split.mk (fun h => ?_) (fun h => ?_)) | (refine Need.mk (by omega) ?_) | (refine Ints.ln (by assumption) ?_) | (refine Mat.ln (by assumption) ?_) | (refine Ints.ln (Mat.row (by assumption) _ (by omega)) ?_) | (refine Ints.ix (by assumption) (by omega) ?_) | (refine Mat.ix (by assumption) (by omega) ?_) | (refine Ints.ix (Mat.row (by assumption) _ (by omega)) (by omega) ?_) | (refine Ints.ix (c := 0) (by assumption) (by omega) ?_) | (refine Mat.ix (c := 0) (by assumption) (by omega) ?_) | (refine Ints.ix (c := 0) (Mat.row (by assumption) _ (by omega)) (by omega) ?_) | (refine Ints.ixI (by assumption) (by omega) ?_) | (refine Mat.ixI (by assumption) (by omega) ?_) | (refine Ints.ixI (Mat.row (by assumption) _ (by omega)) (by omega) ?_) | (refine Ints.ld (by assumption) (by omega) ?_) | (refine Mat.ld (by assumption) (by omega) ?_) | (refine Ints.ld (Mat.row (by assumption) _ (by omega)) (by omega) ?_) | (refine At.ld (by assumption) rfl ?_) | (refine At.ldN (by assumption) rfl ?_) | (refine Prs.ln (by assumption) ?_) | (refine Trs.ln (by assumption) ?_) | (refine Prs.ix (by assumption) (by omega) ?_) | (refine Trs.ix (by assumption) (by omega) ?_) | (refine Prs.ldN (by assumption) (by omega) ?_) | (refine Trs.ldN (by assumption) (by omega) ?_) | (refine At.ldN (Blk.at (by assumption)) rfl ?_) | (refine At.ld (Blk.at (by assumption)) rfl ?_) | (refine IxA.mk (by omega) ?_) | (refine Sl.ln (Own.sl (by assumption)) ?_) | (refine Ints.ix (Own.sl (by assumption)) (by omega) ?_) | (refine Ints.ixI (Own.sl (by assumption)) (by omega) ?_) | (refine Ints.ld (Own.sl (by assumption)) (by omega) ?_))
                refine ⟨_, (by omega : rr.length - (c + 1) < rr.length - c), rfl, c + 1, by omega, rfl, rfl, no_step hno (fun l h1 h2 => hl l (by omega) (cont_own.1 h2)), HS, HY.gr G5 hkb, GS.trans G5⟩
            · cases hb : bit set c with
              | true =>
                have hb1 := bit_t hb
                have hble := bit_le hb
                have hpc : 1 ≤ 2 ^ c := Nat.pow_pos (by omega)
                by_cases hLs : L ≤ s
                · repeat' ((conv => whnf); first | (refine Dr.quiet tyOk (by kernel_rfl) ?_) | (refine Blk.ldA HK rfl ?_) | (refine VS.shr (s := set) (i := c) (by omega) ?_) | (refine VS.and1 (by have := Nat.div_le_self set (2 ^ c); omega) ?_) | (refine VS.shl1 (i := c) (by omega) ?_) | (refine VS.andNot (s := set) (i := c) (by omega) (by omega) hb1 ?_) | (refine Rng.mk (by omega) ?_) | (refine Split.pos (by omega) ?_) | (refine Split.neg (by omega) ?_) | (refine Split.mk (fun h => ?_) (fun h => ?_)) | (refine Need.mk (by omega) ?_) | (refine Ints.ln (by assumption) ?_) | (refine Mat.ln (by assumption) ?_) | (refine Ints.ln (Mat.row (by assumption) _ (by omega)) ?_) | (refine Ints.ix (by assumption) (by omega) ?_) | (refine Mat.ix (by assumption) (by omega) ?_) | (refine Ints.ix (Mat.row (by assumption) _ (by omega)) (by omega) ?_) | (refine Ints.ix (c := 0) (by assumption) (by omega) ?_) | (refine Mat.ix (c := 0) (by assumption) (by omega) ?_) | (refine Ints.ix (c := 0) (Mat.row (by assumption) _ (by omega)) (by omega) ?_) | (refine Ints.ixI (by assumption) (by omega) ?_) | (refine Mat.ixI (by assumption) (by omega) ?_) | (refine Ints.ixI (Mat.row (by assumption) _ (by omega)) (by omega) ?_) | (refine Ints.ld (by assumption) (by omega) ?_) | (refine Mat.ld (by assumption) (by omega) ?_) | (refine Ints.ld (Mat.row (by assumption) _ (by omega)) (by omega) ?_) | (refine At.ld (by assumption) rfl ?_) | (refine At.ldN (by assumption) rfl ?_) | (refine Prs.ln (by assumption) ?_) | (refine Trs.ln (by assumption) ?_) | (refine Prs.ix (by assumption) (by omega) ?_) | (refine Trs.ix (by assumption) (by omega) ?_) | (refine Prs.ldN (by assumption) (by omega) ?_) | (refine Trs.ldN (by assumption) (by omega) ?_) | (refine At.ldN (Blk.at (by assumption)) rfl ?_) | (refine At.ld (Blk.at (by assumption)) rfl ?_) | (refine IxA.mk (by omega) ?_) | (refine Sl.ln (Own.sl (by assumption)) ?_) | (refine Ints.ix (Own.sl (by assumption)) (by omega) ?_) | (refine Ints.ixI (Own.sl (by assumption)) (by omega) ?_) | (refine Ints.ld (Own.sl (by assumption)) (by omega) ?_))
                  refine VC.rc (sfrom_rc hk hL j (p + 1) (by omega) (s := 0 + val rr c p) (set := set - 2 ^ c) hcl (by omega) (by omega) HV0 HS) ?_
                  rintro _ w5 G5 ⟨HS, hfr⟩
                  rcases hfr with ⟨lv, l, rfl, Hl, hl1, hl2, hl3⟩ | ⟨rfl, hl⟩
                  · have hcc := (cont_other (set := set) hcl hca).2 ⟨hb, hLs, hl2⟩
                    have hff : ∀ l' : List Int, l'.length + 1 + p = mm → Cont rr L p ag s set ((c : Int) :: l') → ¬ lexlt l' l := fun l' h1 h2 => hl3 l' (by omega) ((cont_other hcl hca).1 h2).2.2
                    repeat' ((conv => whnf); first | (refine Dr.quiet tyOk (by kernel_rfl) ?_) | (refine Rng.mk (by omega) ?_) | (refine Split.pos (by omega) ?_) | (refine Split.neg (by omega) ?_) | (refine Split.mk (fun h => ?_) (fun h => ?_)) | (refine Need.mk (by omega) ?_) | (refine Ints.ln (by assumption) ?_) | (refine Mat.ln (by assumption) ?_) | (refine Ints.ln (Mat.row (by assumption) _ (by omega)) ?_) | (refine Ints.ix (by assumption) (by omega) ?_) | (refine Mat.ix (by assumption) (by omega) ?_) | (refine Ints.ix (Mat.row (by assumption) _ (by omega)) (by omega) ?_) | (refine Ints.ix (c := 0) (by assumption) (by omega) ?_) | (refine Mat.ix (c := 0) (by assumption) (by omega) ?_) | (refine Ints.ix (c := 0) (Mat.row (by assumption) _ (by omega)) (by omega) ?_) | (refine Ints.ixI (by assumption) (by omega) ?_) | (refine Mat.ixI (by assumption) (by omega) ?_) | (refine Ints.ixI (Mat.row (by assumption) _ (by omega)) (by omega) ?_) | (refine Ints.ld (by assumption) (by omega) ?_) | (refine Mat.ld (by assumption) (by omega) ?_) | (refine Ints.ld (Mat.row (by assumption) _ (by omega)) (by omega) ?_) | (refine At.ld (by assumption) rfl ?_) | (refine At.ldN (by assumption) rfl ?_) | (refine Prs.ln (by assumption) ?_) | (refine Trs.ln (by assumption) ?_) | (refine Prs.ix (by assumption) (by omega) ?_) | (refine Trs.ix (by assumption) (by omega) ?_) | (refine Prs.ldN (by assumption) (by omega) ?_) | (refine Trs.ldN (by assumption) (by omega) ?_) | (refine At.ldN (Blk.at (by assumption)) rfl ?_) | (refine At.ld (Blk.at (by assumption)) rfl ?_) | (refine IxA.mk (by omega) ?_) | (refine Sl.ln (Own.sl (by assumption)) ?_) | (refine Ints.ix (Own.sl (by assumption)) (by omega) ?_) | (refine Ints.ixI (Own.sl (by assumption)) (by omega) ?_) | (refine Ints.ld (Own.sl (by assumption)) (by omega) ?_))
                    refine VE.litI [(c : Int)] Try.underlying24 eInt (by simp) fun av w6 E6 HA0 _ => ?_
                    have HA6 := HA0 _ (Nat.le_refl _)
                    have Hl6 := Own.ext Hl E6
                    conv => whnf
                    refine VE.app Try.underlying24 eInt rfl (by omega) HA6 E6 rfl (Own.sl Hl6) (one_ints _) (by simp only [List.length_singleton]; omega) (by simp only [List.length_singleton]; omega) fun v7 w7 E7 G7 H7 => ?_
                    repeat' ((conv => whnf); first | (refine Dr.quiet tyOk (by kernel_rfl) ?_) | (refine Rng.mk (by omega) ?_) | (refine Split.pos (by omega) ?_) | (refine Split.neg (by omega) ?_) | (refine Split.mk (fun h => ?_) (fun h => ?_)) | (refine Need.mk (by omega) ?_) | (refine Ints.ln (by assumption) ?_) | (refine Mat.ln (by assumption) ?_) | (refine Ints.ln (Mat.row (by assumption) _ (by omega)) ?_) | (refine Ints.ix (by assumption) (by omega) ?_) | (refine Mat.ix (by assumption) (by omega) ?_) | (refine Ints.ix (Mat.row (by assumption) _ (by omega)) (by omega) ?_) | (refine Ints.ix (c := 0) (by assumption) (by omega) ?_) | (refine Mat.ix (c := 0) (by assumption) (by omega) ?_) | (refine Ints.ix (c := 0) (Mat.row (by assumption) _ (by omega)) (by omega) ?_) | (refine Ints.ixI (by assumption) (by omega) ?_) | (refine Mat.ixI (by assumption) (by omega) ?_) | (refine Ints.ixI (Mat.row (by assumption) _ (by omega)) (by omega) ?_) | (refine Ints.ld (by assumption) (by omega) ?_) | (refine Mat.ld (by assumption) (by omega) ?_) | (refine Ints.ld (Mat.row (by assumption) _ (by omega)) (by omega) ?_) | (refine At.ld (by assumption) rfl ?_) | (refine At.ldN (by assumption) rfl ?_) | (refine Prs.ln (by assumption) ?_) | (refine Trs.ln (by assumption) ?_) | (refine Prs.ix (by assumption) (by omega) ?_) | (refine Trs.ix (by assumption) (by omega) ?_) | (refine Prs.ldN (by assumption) (by omega) ?_) | (refine Trs.ldN (by assumption) (by omega) ?_) | (refine At.ldN (Blk.at (by assumption)) rfl ?_) | (refine At.ld (Blk.at (by assumption)) rfl ?_) | (refine IxA.mk (by omega) ?_) | (refine Sl.ln (Own.sl (by assumption)) ?_) | (refine Ints.ix (Own.sl (by assumption)) (by omega) ?_) | (refine Ints.ixI (Own.sl (by assumption)) (by omega) ?_) | (refine Ints.ld (Own.sl (by assumption)) (by omega) ?_))
                    refine ⟨(GS.trans G5).trans (Gr.ofExt E7), HS.ext E7, .inl ⟨v7, (c : Int) :: l, rfl, OI.cons H7, by simp only [List.length_cons]; omega, hcc, fr_cons hno (by omega) hcc hff⟩⟩
                  · repeat' ((conv => whnf); first | (refine Dr.quiet tyOk (by kernel_rfl) ?_) | (refine Rng.mk (by omega) ?_) | (refine Split.pos (by omega) ?_) | (refine Split.neg (by omega) ?_) | (refine Split.mk (fun h => ?_) (fun h => ?_)) | (refine Need.mk (by omega) ?_) | (refine Ints.ln (by assumption) ?_) | (refine Mat.ln (by assumption) ?_) | (refine Ints.ln (Mat.row (by assumption) _ (by omega)) ?_) | (refine Ints.ix (by assumption) (by omega) ?_) | (refine Mat.ix (by assumption) (by omega) ?_) | (refine Ints.ix (Mat.row (by assumption) _ (by omega)) (by omega) ?_) | (refine Ints.ix (c := 0) (by assumption) (by omega) ?_) | (refine Mat.ix (c := 0) (by assumption) (by omega) ?_) | (refine Ints.ix (c := 0) (Mat.row (by assumption) _ (by omega)) (by omega) ?_) | (refine Ints.ixI (by assumption) (by omega) ?_) | (refine Mat.ixI (by assumption) (by omega) ?_) | (refine Ints.ixI (Mat.row (by assumption) _ (by omega)) (by omega) ?_) | (refine Ints.ld (by assumption) (by omega) ?_) | (refine Mat.ld (by assumption) (by omega) ?_) | (refine Ints.ld (Mat.row (by assumption) _ (by omega)) (by omega) ?_) | (refine At.ld (by assumption) rfl ?_) | (refine At.ldN (by assumption) rfl ?_) | (refine Prs.ln (by assumption) ?_) | (refine Trs.ln (by assumption) ?_) | (refine Prs.ix (by assumption) (by omega) ?_) | (refine Trs.ix (by assumption) (by omega) ?_) | (refine Prs.ldN (by assumption) (by omega) ?_) | (refine Trs.ldN (by assumption) (by omega) ?_) | (refine At.ldN (Blk.at (by assumption)) rfl ?_) | (refine At.ld (Blk.at (by assumption)) rfl ?_) | (refine IxA.mk (by omega) ?_) | (refine Sl.ln (Own.sl (by assumption)) ?_) | (refine Ints.ix (Own.sl (by assumption)) (by omega) ?_) | (refine Ints.ixI (Own.sl (by assumption)) (by omega) ?_) | (refine Ints.ld (Own.sl (by assumption)) (by omega) ?_))
                    refine ⟨_, (by omega : rr.length - (c + 1) < rr.length - c), rfl, c + 1, by omega, rfl, rfl, no_step hno (fun l h1 h2 => hl l (by omega) ((cont_other hcl hca).1 h2).2.2), HS, HY.gr G5 hkb, GS.trans G5⟩
                · repeat' ((conv => whnf); first | (refine Dr.quiet tyOk (by kernel_rfl) ?_) | (refine Blk.ldA HK rfl ?_) | (refine VS.shr (s := set) (i := c) (by omega) ?_) | (refine VS.and1 (by have := Nat.div_le_self set (2 ^ c); omega) ?_) | (refine Rng.mk (by omega) ?_) | (refine Split.pos (by omega) ?_) | (refine Split.neg (by omega) ?_) | (refine Split.mk (fun h => ?_) (fun h => ?_)) | (refine Need.mk (by omega) ?_) | (refine Ints.ln (by assumption) ?_) | (refine Mat.ln (by assumption) ?_) | (refine Ints.ln (Mat.row (by assumption) _ (by omega)) ?_) | (refine Ints.ix (by assumption) (by omega) ?_) | (refine Mat.ix (by assumption) (by omega) ?_) | (refine Ints.ix (Mat.row (by assumption) _ (by omega)) (by omega) ?_) | (refine Ints.ix (c := 0) (by assumption) (by omega) ?_) | (refine Mat.ix (c := 0) (by assumption) (by omega) ?_) | (refine Ints.ix (c := 0) (Mat.row (by assumption) _ (by omega)) (by omega) ?_) | (refine Ints.ixI (by assumption) (by omega) ?_) | (refine Mat.ixI (by assumption) (by omega) ?_) | (refine Ints.ixI (Mat.row (by assumption) _ (by omega)) (by omega) ?_) | (refine Ints.ld (by assumption) (by omega) ?_) | (refine Mat.ld (by assumption) (by omega) ?_) | (refine Ints.ld (Mat.row (by assumption) _ (by omega)) (by omega) ?_) | (refine At.ld (by assumption) rfl ?_) | (refine At.ldN (by assumption) rfl ?_) | (refine Prs.ln (by assumption) ?_) | (refine Trs.ln (by assumption) ?_) | (refine Prs.ix (by assumption) (by omega) ?_) | (refine Trs.ix (by assumption) (by omega) ?_) | (refine Prs.ldN (by assumption) (by omega) ?_) | (refine Trs.ldN (by assumption) (by omega) ?_) | (refine At.ldN (Blk.at (by assumption)) rfl ?_) | (refine At.ld (Blk.at (by assumption)) rfl ?_) | (refine IxA.mk (by omega) ?_) | (refine Sl.ln (Own.sl (by assumption)) ?_) | (refine Ints.ix (Own.sl (by assumption)) (by omega) ?_) | (refine Ints.ixI (Own.sl (by assumption)) (by omega) ?_) | (refine Ints.ld (Own.sl (by assumption)) (by omega) ?_))
                  refine ⟨_, (by omega : rr.length - (c + 1) < rr.length - c), rfl, c + 1, by omega, rfl, rfl, no_step hno (fun l h1 h2 => hLs ((cont_other hcl hca).1 h2).2.1), HS, HY, GS⟩
              | false =>
                have hb0 := bit_f hb
                repeat' ((conv => whnf); first | (refine Dr.quiet tyOk (by kernel_rfl) ?_) | (refine Blk.ldA HK rfl ?_) | (refine VS.shr (s := set) (i := c) (by omega) ?_) | (refine VS.and1 (by have := Nat.div_le_self set (2 ^ c); omega) ?_) | (refine Rng.mk (by omega) ?_) | (refine Split.pos (by omega) ?_) | (refine Split.neg (by omega) ?_) | (refine Split.mk (fun h => ?_) (fun h => ?_)) | (refine Need.mk (by omega) ?_) | (refine Ints.ln (by assumption) ?_) | (refine Mat.ln (by assumption) ?_) | (refine Ints.ln (Mat.row (by assumption) _ (by omega)) ?_) | (refine Ints.ix (by assumption) (by omega) ?_) | (refine Mat.ix (by assumption) (by omega) ?_) | (refine Ints.ix (Mat.row (by assumption) _ (by omega)) (by omega) ?_) | (refine Ints.ix (c := 0) (by assumption) (by omega) ?_) | (refine Mat.ix (c := 0) (by assumption) (by omega) ?_) | (refine Ints.ix (c := 0) (Mat.row (by assumption) _ (by omega)) (by omega) ?_) | (refine Ints.ixI (by assumption) (by omega) ?_) | (refine Mat.ixI (by assumption) (by omega) ?_) | (refine Ints.ixI (Mat.row (by assumption) _ (by omega)) (by omega) ?_) | (refine Ints.ld (by assumption) (by omega) ?_) | (refine Mat.ld (by assumption) (by omega) ?_) | (refine Ints.ld (Mat.row (by assumption) _ (by omega)) (by omega) ?_) | (refine At.ld (by assumption) rfl ?_) | (refine At.ldN (by assumption) rfl ?_) | (refine Prs.ln (by assumption) ?_) | (refine Trs.ln (by assumption) ?_) | (refine Prs.ix (by assumption) (by omega) ?_) | (refine Trs.ix (by assumption) (by omega) ?_) | (refine Prs.ldN (by assumption) (by omega) ?_) | (refine Trs.ldN (by assumption) (by omega) ?_) | (refine At.ldN (Blk.at (by assumption)) rfl ?_) | (refine At.ld (Blk.at (by assumption)) rfl ?_) | (refine IxA.mk (by omega) ?_) | (refine Sl.ln (Own.sl (by assumption)) ?_) | (refine Ints.ix (Own.sl (by assumption)) (by omega) ?_) | (refine Ints.ixI (Own.sl (by assumption)) (by omega) ?_) | (refine Ints.ld (Own.sl (by assumption)) (by omega) ?_))
                refine ⟨_, (by omega : rr.length - (c + 1) < rr.length - c), rfl, c + 1, by omega, rfl, rfl, no_step hno (fun l h1 h2 => by have := ((cont_other hcl hca).1 h2).1; rw [hb] at this; cases this), HS, HY, GS⟩
          · obtain rfl : c = rr.length := by omega
            have hnone := fr_none hag (by omega) hno
            repeat' ((conv => whnf); first | (refine Dr.plan 142 [6] (.q 0 (.q 1 (.q 2 (.q 3 (.q 4 (.q 5 (.e 6 .nil .nil))))))) tyOk rfl (by kernel_rfl) ?_) | (refine Dr.quiet tyOk (by kernel_rfl) ?_) | (refine Blk.ldA HK rfl ?_) | (refine Rng.mk (by omega) ?_) | (refine Split.pos (by omega) ?_) | (refine Split.neg (by omega) ?_) | (refine Split.mk (fun h => ?_) (fun h => ?_)) | (refine Need.mk (by omega) ?_) | (refine Ints.ln (by assumption) ?_) | (refine Mat.ln (by assumption) ?_) | (refine Ints.ln (Mat.row (by assumption) _ (by omega)) ?_) | (refine Ints.ix (by assumption) (by omega) ?_) | (refine Mat.ix (by assumption) (by omega) ?_) | (refine Ints.ix (Mat.row (by assumption) _ (by omega)) (by omega) ?_) | (refine Ints.ix (c := 0) (by assumption) (by omega) ?_) | (refine Mat.ix (c := 0) (by assumption) (by omega) ?_) | (refine Ints.ix (c := 0) (Mat.row (by assumption) _ (by omega)) (by omega) ?_) | (refine Ints.ixI (by assumption) (by omega) ?_) | (refine Mat.ixI (by assumption) (by omega) ?_) | (refine Ints.ixI (Mat.row (by assumption) _ (by omega)) (by omega) ?_) | (refine Ints.ld (by assumption) (by omega) ?_) | (refine Mat.ld (by assumption) (by omega) ?_) | (refine Ints.ld (Mat.row (by assumption) _ (by omega)) (by omega) ?_) | (refine At.ld (by assumption) rfl ?_) | (refine At.ldN (by assumption) rfl ?_) | (refine Prs.ln (by assumption) ?_) | (refine Trs.ln (by assumption) ?_) | (refine Prs.ix (by assumption) (by omega) ?_) | (refine Trs.ix (by assumption) (by omega) ?_) | (refine Prs.ldN (by assumption) (by omega) ?_) | (refine Trs.ldN (by assumption) (by omega) ?_) | (refine At.ldN (Blk.at (by assumption)) rfl ?_) | (refine At.ld (Blk.at (by assumption)) rfl ?_) | (refine IxA.mk (by omega) ?_) | (refine Sl.ln (Own.sl (by assumption)) ?_) | (refine Ints.ix (Own.sl (by assumption)) (by omega) ?_) | (refine Ints.ixI (Own.sl (by assumption)) (by omega) ?_) | (refine Ints.ld (Own.sl (by assumption)) (by omega) ?_))
            refine MD.put Try.underlying65 Try.underlying73 Try.underlying3 (by kernel_rfl) HM (fr_dq hnone) fun w5 G5 HM5 => ?_
            repeat' ((conv => whnf); first | (refine Dr.quiet tyOk (by kernel_rfl) ?_) | (refine Rng.mk (by omega) ?_) | (refine Split.pos (by omega) ?_) | (refine Split.neg (by omega) ?_) | (refine Split.mk (fun h => ?_) (fun h => ?_)) | (refine Need.mk (by omega) ?_) | (refine Ints.ln (by assumption) ?_) | (refine Mat.ln (by assumption) ?_) | (refine Ints.ln (Mat.row (by assumption) _ (by omega)) ?_) | (refine Ints.ix (by assumption) (by omega) ?_) | (refine Mat.ix (by assumption) (by omega) ?_) | (refine Ints.ix (Mat.row (by assumption) _ (by omega)) (by omega) ?_) | (refine Ints.ix (c := 0) (by assumption) (by omega) ?_) | (refine Mat.ix (c := 0) (by assumption) (by omega) ?_) | (refine Ints.ix (c := 0) (Mat.row (by assumption) _ (by omega)) (by omega) ?_) | (refine Ints.ixI (by assumption) (by omega) ?_) | (refine Mat.ixI (by assumption) (by omega) ?_) | (refine Ints.ixI (Mat.row (by assumption) _ (by omega)) (by omega) ?_) | (refine Ints.ld (by assumption) (by omega) ?_) | (refine Mat.ld (by assumption) (by omega) ?_) | (refine Ints.ld (Mat.row (by assumption) _ (by omega)) (by omega) ?_) | (refine At.ld (by assumption) rfl ?_) | (refine At.ldN (by assumption) rfl ?_) | (refine Prs.ln (by assumption) ?_) | (refine Trs.ln (by assumption) ?_) | (refine Prs.ix (by assumption) (by omega) ?_) | (refine Trs.ix (by assumption) (by omega) ?_) | (refine Prs.ldN (by assumption) (by omega) ?_) | (refine Trs.ldN (by assumption) (by omega) ?_) | (refine At.ldN (Blk.at (by assumption)) rfl ?_) | (refine At.ld (Blk.at (by assumption)) rfl ?_) | (refine IxA.mk (by omega) ?_) | (refine Sl.ln (Own.sl (by assumption)) ?_) | (refine Ints.ix (Own.sl (by assumption)) (by omega) ?_) | (refine Ints.ixI (Own.sl (by assumption)) (by omega) ?_) | (refine Ints.ld (Own.sl (by assumption)) (by omega) ?_))
            exact ⟨GS.trans G5, ⟨HS.ex.new G5 (fun i hi e => by have := HS.bm; omega), HS.bx.gr G5 HS.ne, HM5, HS.bm, HS.ne⟩, .inr ⟨rfl, hnone⟩⟩
end Go.Proofs.Ytclbiabiiknolaa
set_option linter.unusedVariables false
set_option linter.unusedSimpArgs false
namespace Go.Proofs.Ytclbiabiiknolaa
open Go.Eng
set_option maxRecDepth 100000
set_option maxHeartbeats 4000000

theorem VS.toU {P : Program} {w : World} {src dst : TypeId} {n : Int} {K : Value → Prop} (hs : P.underlying src = some (.int .i64)) (hd : P.underlying dst = some (.int .u64)) (hn : 0 ≤ n ∧ n < 18446744073709551616) (hk : K (.int .u64 n)) : VS P (convert src dst (.int .i64 n)) w K :=
  VS.mk (fun w1 _ => by
    have h : IntKind.u64.wrap n = n := by simp only [IntKind.wrap, IntKind.bits, IntKind.signed]; first | omega | (simp; omega)
    simp only [convert, Sem.run_bind, run_underlying hs, run_underlying hd, Result.andThen_ok, Conv.intToInt, Sem.run_pure, h]) hk
theorem VS.toI {P : Program} {w : World} {src dst : TypeId} {n : Int} {K : Value → Prop} (hs : P.underlying src = some (.int .u64)) (hd : P.underlying dst = some (.int .i64)) (hn : 0 ≤ n ∧ n ≤ 9223372036854775807) (hk : K (.int .i64 n)) : VS P (convert src dst (.int .u64 n)) w K :=
  VS.mk (fun w1 _ => by
    have h : IntKind.i64.wrap n = n := IntWalk.i64_in _ (by omega)
    simp only [convert, Sem.run_bind, run_underlying hs, run_underlying hd, Result.andThen_ok, Conv.intToInt, Sem.run_pure, h]) hk
theorem VS.half {P : Program} {w : World} {t : TypeId} {x y : Operand} {n : Int} {K : Value → Prop} (hk : K (.int .u64 (n / 2))) : VS P (binSem .shr t x y (.int .u64 n) (.int .u64 1)) w K :=
  VS.mk (fun w1 _ => by
    have h := shift_shr_u64 (x := n) (yk := .u64) (y := 1) (by omega) (by omega)
    simp only [binSem, Sem.run_bind]
    rw [show (eqGuard .shr t x y (.int .u64 n) (.int .u64 1)) = pure () from rfl, show binOp .shr t (.int .u64 n) (.int .u64 1) = Op.shift .shr .u64 n .u64 1 from rfl, h]
    simp) hk
/-- the search by halves -/
theorem search_rc {w : World} {c1 c2 : Value} {p : Nat → Bool} (hm : ∀ i j, i ≤ j → p i = true → p j = true) (Hf : ∀ w', Ext w w' → ∀ k : Nat, k < 16001 → RC Try.prog 28 [.int .i64 (k : Int), c1, c2] w' NoB (fun u _ => u = .bool (p k))) :
    RC Try.prog 27 [.int .i64 16001, .func (.func 28) #[] #[c1, c2]] w NoB (fun u _ => ∃ i : Nat, u = .int .i64 (i : Int) ∧ i ≤ 16001 ∧ (∀ k, k < i → p k = false) ∧ (∀ k, i ≤ k → k < 16001 → p k = true)) := by
  refine RC.mk tyOk Try.func27 rfl (by kernel_rfl) fun w1 E1 => ?_
  have EE := Ext.refl w1
  repeat' ((conv => whnf); first | (refine Dr.quiet tyOk (by kernel_rfl) ?_) | (refine Rng.mk (by omega) ?_) | (refine Split.pos (by omega) ?_) | (refine Split.neg (by omega) ?_) | (refine Split.mk (fun h => ?_) (fun h => ?_)) | (refine Need.mk (by omega) ?_) | (refine Ints.ln (by assumption) ?_) | (refine Mat.ln (by assumption) ?_) | (refine Ints.ln (Mat.row (by assumption) _ (by omega)) ?_) | (refine Ints.ix (by assumption) (by omega) ?_) | (refine Mat.ix (by assumption) (by omega) ?_) | (refine Ints.ix (Mat.row (by assumption) _ (by omega)) (by omega) ?_) | (refine Ints.ix (c := 0) (by assumption) (by omega) ?_) | (refine Mat.ix (c := 0) (by assumption) (by omega) ?_) | (refine Ints.ix (c := 0) (Mat.row (by assumption) _ (by omega)) (by omega) ?_) | (refine Ints.ixI (by assumption) (by omega) ?_) | (refine Mat.ixI (by assumption) (by omega) ?_) | (refine Ints.ixI (Mat.row (by assumption) _ (by omega)) (by omega) ?_) | (refine Ints.ld (by assumption) (by omega) ?_) | (refine Mat.ld (by assumption) (by omega) ?_) | (refine Ints.ld (Mat.row (by assumption) _ (by omega)) (by omega) ?_) | (refine At.ld (by assumption) rfl ?_) | (refine At.ldN (by assumption) rfl ?_) | (refine Prs.ln (by assumption) ?_) | (refine Trs.ln (by assumption) ?_) | (refine Prs.ix (by assumption) (by omega) ?_) | (refine Trs.ix (by assumption) (by omega) ?_) | (refine Prs.ldN (by assumption) (by omega) ?_) | (refine Trs.ldN (by assumption) (by omega) ?_) | (refine At.ldN (Blk.at (by assumption)) rfl ?_) | (refine At.ld (Blk.at (by assumption)) rfl ?_) | (refine IxA.mk (by omega) ?_) | (refine Sl.ln (Own.sl (by assumption)) ?_) | (refine Ints.ix (Own.sl (by assumption)) (by omega) ?_) | (refine Ints.ixI (Own.sl (by assumption)) (by omega) ?_) | (refine Ints.ld (Own.sl (by assumption)) (by omega) ?_))
  have EE__1 := EE
  have hz1 := Nat.le_trans E1.size EE.size
  refine Lp.mk tyOk [false, false, false, false, false, true, true, true, false, true, true, true, true, true, true, true, true, true, true, true, true, true, true, true, true] (fun m fr wr => getK fr 5 fun li => getK fr 6 fun lj => ∃ c : Nat, c ≤ 16001 ∧ m = 16001 - c ∧ ((∃ i j : Nat, li = .int .i64 (i : Int) ∧ lj = .int .i64 (j : Int) ∧ i ≤ j ∧ j ≤ 16001 ∧ j + c ≤ 16001 + i ∧ (∀ k, k < i → p k = false) ∧ (∀ k, j ≤ k → k < 16001 → p k = true))) ∧ Ext w1 wr) (16001) ?_ ?_
  · exact ⟨0, Nat.zero_le _, rfl, ⟨0, 16001, rfl, rfl, by omega, by omega, by omega, fun k hk => absurd hk (Nat.not_lt_zero _), fun k h1 h2 => by omega⟩, Ext.refl _⟩
  · intro m w2 u5 u6 u7 u9 u10 u11 u12 u13 u14 u15 u16 u17 u18 u19 u20 u21 u22 u23 u24 hR
    obtain ⟨c, hc, rfl, hI, EL1⟩ := hR
    replace EE := EE__1.ext EL1
    obtain ⟨i, j, rfl, rfl, hij, hj, hc2, h1, h2⟩ := hI
    by_cases hlt : i < j
    · obtain ⟨h, hh⟩ : ∃ h : Nat, ((i : Int) + j) / 2 = h := ⟨((i : Int) + j).toNat / 2, by omega⟩
      have hhb : i ≤ h ∧ h < j := by omega
      repeat' ((conv => whnf); first | (refine Dr.quiet tyOk (by kernel_rfl) ?_) | (refine VS.toU Try.underlying3 Try.underlying62 (by omega) ?_) | (refine VS.half ?_) | (refine VS.toI Try.underlying62 Try.underlying3 (by omega) ?_) | (refine Rng.mk (by omega) ?_) | (refine Split.pos (by omega) ?_) | (refine Split.neg (by omega) ?_) | (refine Split.mk (fun h => ?_) (fun h => ?_)) | (refine Need.mk (by omega) ?_) | (refine Ints.ln (by assumption) ?_) | (refine Mat.ln (by assumption) ?_) | (refine Ints.ln (Mat.row (by assumption) _ (by omega)) ?_) | (refine Ints.ix (by assumption) (by omega) ?_) | (refine Mat.ix (by assumption) (by omega) ?_) | (refine Ints.ix (Mat.row (by assumption) _ (by omega)) (by omega) ?_) | (refine Ints.ix (c := 0) (by assumption) (by omega) ?_) | (refine Mat.ix (c := 0) (by assumption) (by omega) ?_) | (refine Ints.ix (c := 0) (Mat.row (by assumption) _ (by omega)) (by omega) ?_) | (refine Ints.ixI (by assumption) (by omega) ?_) | (refine Mat.ixI (by assumption) (by omega) ?_) | (refine Ints.ixI (Mat.row (by assumption) _ (by omega)) (by omega) ?_) | (refine Ints.ld (by assumption) (by omega) ?_) | (refine Mat.ld (by assumption) (by omega) ?_) | (refine Ints.ld (Mat.row (by assumption) _ (by omega)) (by omega) ?_) | (refine At.ld (by assumption) rfl ?_) | (refine At.ldN (by assumption) rfl ?_) | (refine Prs.ln (by assumption) ?_) | (refine Trs.ln (by assumption) ?_) | (refine Prs.ix (by assumption) (by omega) ?_) | (refine Trs.ix (by assumption) (by omega) ?_) | (refine Prs.ldN (by assumption) (by omega) ?_) | (refine Trs.ldN (by assumption) (by omega) ?_) | (refine At.ldN (Blk.at (by assumption)) rfl ?_) | (refine At.ld (Blk.at (by assumption)) rfl ?_) | (refine IxA.mk (by omega) ?_) | (refine Sl.ln (Own.sl (by assumption)) ?_) | (refine Ints.ix (Own.sl (by assumption)) (by omega) ?_) | (refine Ints.ixI (Own.sl (by assumption)) (by omega) ?_) | (refine Ints.ld (Own.sl (by assumption)) (by omega) ?_))
      rw [hh]
      conv => whnf
      refine VC.rc (Hf _ (E1.trans EE) h (by omega)) ?_
      rintro _ w3 E3 rfl
      replace EE := EE.ext E3
      replace EL1 := EL1.ext E3
      cases hp : p h with
      | true =>
        repeat' ((conv => whnf); first | (refine Dr.quiet tyOk (by kernel_rfl) ?_) | (refine Rng.mk (by omega) ?_) | (refine Split.pos (by omega) ?_) | (refine Split.neg (by omega) ?_) | (refine Split.mk (fun h => ?_) (fun h => ?_)) | (refine Need.mk (by omega) ?_) | (refine Ints.ln (by assumption) ?_) | (refine Mat.ln (by assumption) ?_) | (refine Ints.ln (Mat.row (by assumption) _ (by omega)) ?_) | (refine Ints.ix (by assumption) (by omega) ?_) | (refine Mat.ix (by assumption) (by omega) ?_) | (refine Ints.ix (Mat.row (by assumption) _ (by omega)) (by omega) ?_) | (refine Ints.ix (c := 0) (by assumption) (by omega) ?_) | (refine Mat.ix (c := 0) (by assumption) (by omega) ?_) | (refine Ints.ix (c := 0) (Mat.row (by assumption) _ (by omega)) (by omega) ?_) | (refine Ints.ixI (by assumption) (by omega) ?_) | (refine Mat.ixI (by assumption) (by omega) ?_) | (refine Ints.ixI (Mat.row (by assumption) _ (by omega)) (by omega) ?_) | (refine Ints.ld (by assumption) (by omega) ?_) | (refine Mat.ld (by assumption) (by omega) ?_) | (refine Ints.ld (Mat.row (by assumption) _ (by omega)) (by omega) ?_) | (refine At.ld (by assumption) rfl ?_) | (refine At.ldN (by assumption) rfl ?_) | (refine Prs.ln (by assumption) ?_) | (refine Trs.ln (by assumption) ?_) | (refine Prs.ix (by assumption) (by omega) ?_) | (refine Trs.ix (by assumption) (by omega) ?_) | (refine Prs.ldN (by assumption) (by omega) ?_) | (refine Trs.ldN (by assumption) (by omega) ?_) | (refine At.ldN (Blk.at (by assumption)) rfl ?_) | (refine At.ld (Blk.at (by assumption)) rfl ?_) | (refine IxA.mk (by omega) ?_) | (refine Sl.ln (Own.sl (by assumption)) ?_) | (refine Ints.ix (Own.sl (by assumption)) (by omega) ?_) | (refine Ints.ixI (Own.sl (by assumption)) (by omega) ?_) | (refine Ints.ld (Own.sl (by assumption)) (by omega) ?_))
        refine ⟨_, (by omega : 16001 - (c + 1) < 16001 - c), rfl, c + 1, by omega, rfl, ⟨i, h, rfl, rfl, by omega, by omega, by omega, h1, fun k hk _ => hm h k hk hp⟩, EL1⟩
      | false =>
        repeat' ((conv => whnf); first | (refine Dr.quiet tyOk (by kernel_rfl) ?_) | (refine Rng.mk (by omega) ?_) | (refine Split.pos (by omega) ?_) | (refine Split.neg (by omega) ?_) | (refine Split.mk (fun h => ?_) (fun h => ?_)) | (refine Need.mk (by omega) ?_) | (refine Ints.ln (by assumption) ?_) | (refine Mat.ln (by assumption) ?_) | (refine Ints.ln (Mat.row (by assumption) _ (by omega)) ?_) | (refine Ints.ix (by assumption) (by omega) ?_) | (refine Mat.ix (by assumption) (by omega) ?_) | (refine Ints.ix (Mat.row (by assumption) _ (by omega)) (by omega) ?_) | (refine Ints.ix (c := 0) (by assumption) (by omega) ?_) | (refine Mat.ix (c := 0) (by assumption) (by omega) ?_) | (refine Ints.ix (c := 0) (Mat.row (by assumption) _ (by omega)) (by omega) ?_) | (refine Ints.ixI (by assumption) (by omega) ?_) | (refine Mat.ixI (by assumption) (by omega) ?_) | (refine Ints.ixI (Mat.row (by assumption) _ (by omega)) (by omega) ?_) | (refine Ints.ld (by assumption) (by omega) ?_) | (refine Mat.ld (by assumption) (by omega) ?_) | (refine Ints.ld (Mat.row (by assumption) _ (by omega)) (by omega) ?_) | (refine At.ld (by assumption) rfl ?_) | (refine At.ldN (by assumption) rfl ?_) | (refine Prs.ln (by assumption) ?_) | (refine Trs.ln (by assumption) ?_) | (refine Prs.ix (by assumption) (by omega) ?_) | (refine Trs.ix (by assumption) (by omega) ?_) | (refine Prs.ldN (by assumption) (by omega) ?_) | (refine Trs.ldN (by assumption) (by omega) ?_) | (refine At.ldN (Blk.at (by assumption)) rfl ?_) | (refine At.ld (Blk.at (by assumption)) rfl ?_) | (refine IxA.mk (by omega) ?_) | (refine Sl.ln (Own.sl (by assumption)) ?_) | (refine Ints.ix (Own.sl (by assumption)) (by omega) ?_) | (refine Ints.ixI (Own.sl (by assumption)) (by omega) ?_) | (refine Ints.ld (Own.sl (by assumption)) (by omega) ?_))
        refine ⟨_, (by omega : 16001 - (c + 1) < 16001 - c), rfl, c + 1, by omega, rfl, ⟨h + 1, j, rfl, rfl, by omega, by omega, by omega, fun k hk => ?_, h2⟩, EL1⟩
        cases hpk : p k with
        | false => rfl
        | true => rw [hm k h (by omega) hpk] at hp; cases hp
    · obtain rfl : i = j := by omega
      repeat' ((conv => whnf); first | (refine Dr.quiet tyOk (by kernel_rfl) ?_) | (refine Rng.mk (by omega) ?_) | (refine Split.pos (by omega) ?_) | (refine Split.neg (by omega) ?_) | (refine Split.mk (fun h => ?_) (fun h => ?_)) | (refine Need.mk (by omega) ?_) | (refine Ints.ln (by assumption) ?_) | (refine Mat.ln (by assumption) ?_) | (refine Ints.ln (Mat.row (by assumption) _ (by omega)) ?_) | (refine Ints.ix (by assumption) (by omega) ?_) | (refine Mat.ix (by assumption) (by omega) ?_) | (refine Ints.ix (Mat.row (by assumption) _ (by omega)) (by omega) ?_) | (refine Ints.ix (c := 0) (by assumption) (by omega) ?_) | (refine Mat.ix (c := 0) (by assumption) (by omega) ?_) | (refine Ints.ix (c := 0) (Mat.row (by assumption) _ (by omega)) (by omega) ?_) | (refine Ints.ixI (by assumption) (by omega) ?_) | (refine Mat.ixI (by assumption) (by omega) ?_) | (refine Ints.ixI (Mat.row (by assumption) _ (by omega)) (by omega) ?_) | (refine Ints.ld (by assumption) (by omega) ?_) | (refine Mat.ld (by assumption) (by omega) ?_) | (refine Ints.ld (Mat.row (by assumption) _ (by omega)) (by omega) ?_) | (refine At.ld (by assumption) rfl ?_) | (refine At.ldN (by assumption) rfl ?_) | (refine Prs.ln (by assumption) ?_) | (refine Trs.ln (by assumption) ?_) | (refine Prs.ix (by assumption) (by omega) ?_) | (refine Trs.ix (by assumption) (by omega) ?_) | (refine Prs.ldN (by assumption) (by omega) ?_) | (refine Trs.ldN (by assumption) (by omega) ?_) | (refine At.ldN (Blk.at (by assumption)) rfl ?_) | (refine At.ld (Blk.at (by assumption)) rfl ?_) | (refine IxA.mk (by omega) ?_) | (refine Sl.ln (Own.sl (by assumption)) ?_) | (refine Ints.ix (Own.sl (by assumption)) (by omega) ?_) | (refine Ints.ixI (Own.sl (by assumption)) (by omega) ?_) | (refine Ints.ld (Own.sl (by assumption)) (by omega) ?_))
      exact ⟨EE, i, rfl, hj, h1, h2⟩
/-- whether a level cannot be reached -/
def pT (rr : List (List Int)) (m : Nat) (k : Nat) : Bool := decide ((m : Int) < Te rr ((k : Int) + 1) (2 ^ rr.length - 1))
theorem bclo_rc {w : World} {vb mb : Nat} {vv : Value} {vs : List Value} {rr : List (List Int)} {m k : Nat} (Hv : Mat w vv vs rr) (hk : Sd rr m) (Hb : At w ⟨vb, 0, none⟩ [vv]) (Hm : At w ⟨mb, 0, none⟩ [.int .i64 (m : Int)]) (hk1 : k < 16001) :
    RC Try.prog 28 [.int .i64 (k : Int), .pointer (some ⟨vb, 0, none⟩), .pointer (some ⟨mb, 0, none⟩)] w NoB (fun u _ => u = .bool (pT rr m k)) := by
  refine RC.mk tyOk Try.func28 rfl (by kernel_rfl) fun w1 E1 => ?_
  replace Hv := Hv.ext E1
  replace Hb := Hb.ext E1
  replace Hm := Hm.ext E1
  have EE := Ext.refl w1
  have hn6 := hk.n6
  have hP := pow6 hn6
  have hP1 : 1 ≤ 2 ^ rr.length := Nat.pow_pos (by omega)
  repeat' ((conv => whnf); first | (refine Dr.quiet tyOk (by kernel_rfl) ?_) | (refine At.ld (i := 0) Hb rfl ?_) | (refine Rng.mk (by omega) ?_) | (refine Split.pos (by omega) ?_) | (refine Split.neg (by omega) ?_) | (refine Split.mk (fun h => ?_) (fun h => ?_)) | (refine Need.mk (by omega) ?_) | (refine Ints.ln (by assumption) ?_) | (refine Mat.ln (by assumption) ?_) | (refine Ints.ln (Mat.row (by assumption) _ (by omega)) ?_) | (refine Ints.ix (by assumption) (by omega) ?_) | (refine Mat.ix (by assumption) (by omega) ?_) | (refine Ints.ix (Mat.row (by assumption) _ (by omega)) (by omega) ?_) | (refine Ints.ix (c := 0) (by assumption) (by omega) ?_) | (refine Mat.ix (c := 0) (by assumption) (by omega) ?_) | (refine Ints.ix (c := 0) (Mat.row (by assumption) _ (by omega)) (by omega) ?_) | (refine Ints.ixI (by assumption) (by omega) ?_) | (refine Mat.ixI (by assumption) (by omega) ?_) | (refine Ints.ixI (Mat.row (by assumption) _ (by omega)) (by omega) ?_) | (refine Ints.ld (by assumption) (by omega) ?_) | (refine Mat.ld (by assumption) (by omega) ?_) | (refine Ints.ld (Mat.row (by assumption) _ (by omega)) (by omega) ?_) | (refine At.ld (by assumption) rfl ?_) | (refine At.ldN (by assumption) rfl ?_) | (refine Prs.ln (by assumption) ?_) | (refine Trs.ln (by assumption) ?_) | (refine Prs.ix (by assumption) (by omega) ?_) | (refine Trs.ix (by assumption) (by omega) ?_) | (refine Prs.ldN (by assumption) (by omega) ?_) | (refine Trs.ldN (by assumption) (by omega) ?_) | (refine At.ldN (Blk.at (by assumption)) rfl ?_) | (refine At.ld (Blk.at (by assumption)) rfl ?_) | (refine IxA.mk (by omega) ?_) | (refine Sl.ln (Own.sl (by assumption)) ?_) | (refine Ints.ix (Own.sl (by assumption)) (by omega) ?_) | (refine Ints.ixI (Own.sl (by assumption)) (by omega) ?_) | (refine Ints.ld (Own.sl (by assumption)) (by omega) ?_))
  conv => whnf
  refine VC.rc (gtabL (x := (k : Int)) Hv hk (by omega)) ?_
  rintro _ w2 E2 HO
  replace Hv := Hv.ext E2
  replace Hb := Hb.ext E2
  replace Hm := Hm.ext E2
  replace EE := EE.ext E2
  have hl := tabl_len rr ((k : Int) + 1)
  have hix : (((2 ^ rr.length : Nat) : Int) - 1).toNat = 2 ^ rr.length - 1 := by omega
  obtain ⟨t, ht⟩ : ∃ t, Te rr ((k : Int) + 1) (2 ^ rr.length - 1) = t := ⟨_, rfl⟩
  have hv : (tabl rr ((k : Int) + 1)).getD (((tabl rr ((k : Int) + 1)).length : Int) - 1).toNat 0 = t := by rw [hl, hix]; exact ht
  unfold pT
  rw [ht]
  by_cases hc : (m : Int) < t
  · rw [decide_eq_true hc]
    repeat' ((conv => whnf); first | (refine Dr.quiet tyOk (by kernel_rfl) ?_) | (refine At.ld (i := 0) Hm rfl ?_) | (refine ldw (Own.sl HO) hv (by omega) ?_) | (refine Rng.mk (by omega) ?_) | (refine Split.pos (by omega) ?_) | (refine Split.neg (by omega) ?_) | (refine Split.mk (fun h => ?_) (fun h => ?_)) | (refine Need.mk (by omega) ?_) | (refine Ints.ln (by assumption) ?_) | (refine Mat.ln (by assumption) ?_) | (refine Ints.ln (Mat.row (by assumption) _ (by omega)) ?_) | (refine Ints.ix (by assumption) (by omega) ?_) | (refine Mat.ix (by assumption) (by omega) ?_) | (refine Ints.ix (Mat.row (by assumption) _ (by omega)) (by omega) ?_) | (refine Ints.ix (c := 0) (by assumption) (by omega) ?_) | (refine Mat.ix (c := 0) (by assumption) (by omega) ?_) | (refine Ints.ix (c := 0) (Mat.row (by assumption) _ (by omega)) (by omega) ?_) | (refine Ints.ixI (by assumption) (by omega) ?_) | (refine Mat.ixI (by assumption) (by omega) ?_) | (refine Ints.ixI (Mat.row (by assumption) _ (by omega)) (by omega) ?_) | (refine Ints.ld (by assumption) (by omega) ?_) | (refine Mat.ld (by assumption) (by omega) ?_) | (refine Ints.ld (Mat.row (by assumption) _ (by omega)) (by omega) ?_) | (refine At.ld (by assumption) rfl ?_) | (refine At.ldN (by assumption) rfl ?_) | (refine Prs.ln (by assumption) ?_) | (refine Trs.ln (by assumption) ?_) | (refine Prs.ix (by assumption) (by omega) ?_) | (refine Trs.ix (by assumption) (by omega) ?_) | (refine Prs.ldN (by assumption) (by omega) ?_) | (refine Trs.ldN (by assumption) (by omega) ?_) | (refine At.ldN (Blk.at (by assumption)) rfl ?_) | (refine At.ld (Blk.at (by assumption)) rfl ?_) | (refine IxA.mk (by omega) ?_) | (refine Sl.ln (Own.sl (by assumption)) ?_) | (refine Ints.ix (Own.sl (by assumption)) (by omega) ?_) | (refine Ints.ixI (Own.sl (by assumption)) (by omega) ?_) | (refine Ints.ld (Own.sl (by assumption)) (by omega) ?_))
    exact ⟨EE, rfl⟩
  · rw [decide_eq_false hc]
    repeat' ((conv => whnf); first | (refine Dr.quiet tyOk (by kernel_rfl) ?_) | (refine At.ld (i := 0) Hm rfl ?_) | (refine ldw (Own.sl HO) hv (by omega) ?_) | (refine Rng.mk (by omega) ?_) | (refine Split.pos (by omega) ?_) | (refine Split.neg (by omega) ?_) | (refine Split.mk (fun h => ?_) (fun h => ?_)) | (refine Need.mk (by omega) ?_) | (refine Ints.ln (by assumption) ?_) | (refine Mat.ln (by assumption) ?_) | (refine Ints.ln (Mat.row (by assumption) _ (by omega)) ?_) | (refine Ints.ix (by assumption) (by omega) ?_) | (refine Mat.ix (by assumption) (by omega) ?_) | (refine Ints.ix (Mat.row (by assumption) _ (by omega)) (by omega) ?_) | (refine Ints.ix (c := 0) (by assumption) (by omega) ?_) | (refine Mat.ix (c := 0) (by assumption) (by omega) ?_) | (refine Ints.ix (c := 0) (Mat.row (by assumption) _ (by omega)) (by omega) ?_) | (refine Ints.ixI (by assumption) (by omega) ?_) | (refine Mat.ixI (by assumption) (by omega) ?_) | (refine Ints.ixI (Mat.row (by assumption) _ (by omega)) (by omega) ?_) | (refine Ints.ld (by assumption) (by omega) ?_) | (refine Mat.ld (by assumption) (by omega) ?_) | (refine Ints.ld (Mat.row (by assumption) _ (by omega)) (by omega) ?_) | (refine At.ld (by assumption) rfl ?_) | (refine At.ldN (by assumption) rfl ?_) | (refine Prs.ln (by assumption) ?_) | (refine Trs.ln (by assumption) ?_) | (refine Prs.ix (by assumption) (by omega) ?_) | (refine Trs.ix (by assumption) (by omega) ?_) | (refine Prs.ldN (by assumption) (by omega) ?_) | (refine Trs.ldN (by assumption) (by omega) ?_) | (refine At.ldN (Blk.at (by assumption)) rfl ?_) | (refine At.ld (Blk.at (by assumption)) rfl ?_) | (refine IxA.mk (by omega) ?_) | (refine Sl.ln (Own.sl (by assumption)) ?_) | (refine Ints.ix (Own.sl (by assumption)) (by omega) ?_) | (refine Ints.ixI (Own.sl (by assumption)) (by omega) ?_) | (refine Ints.ld (Own.sl (by assumption)) (by omega) ?_))
    exact ⟨EE, rfl⟩
end Go.Proofs.Ytclbiabiiknolaa
set_option linter.unusedVariables false
set_option linter.unusedSimpArgs false
namespace Go.Eng
open Go.RowKit Go.ChangeShapes Go.WideShapes Go.ChangeAt

section
variable {H : Type} {enc : TypeId × Value → H} {P : Program} {w : World} {base b0 : Nat} {spare : Nat → Bool} {held : Bool} {r : Reach} {v : Value} {d : DataW H} {ps : List MemPlace}

theorem open_M {t e q : TypeId} (ht : P.underlying t = some (.slice e)) (he : P.underlying e = some (.slice q)) (hq : P.underlying q = some (.int .i64)) (hs : P.cellsOf e = 1) (hs2 : P.cellsOf q = 1) (hv : Value.okWide P w r b0 t v) (hd : DataW.Trod enc P w base spare held t v d ps) :
    ∃ vs rr, Mat w v vs rr ∧ ∀ i j, I64 ((rr.getD i []).getD j 0) := by
  obtain ⟨a, n, c, rfl⟩ := okWide_slice ht hv
  obtain ⟨fuel, h⟩ := hd
  obtain ⟨m, vs, rr, hm, h1, h2⟩ := read_mat ht he hq hs hs2 h
  simp [Value.cells] at hm; subst hm
  exact ⟨vs, rr, h1, h2⟩

end
end Go.Eng
set_option linter.unusedVariables false
set_option linter.unusedSimpArgs false
namespace Go.Eng
open Go.RowKit

section
variable {P : Program} {w : World} {t e : TypeId} {x y : Operand} {v : Value} {K : Value → Prop}
end

/-- A new box, as a block. -/
theorem Bx.blk {T : TypeId} {l : List Value} {w : World} {K : Value → World → Prop} (h : ∀ (b : Nat) w', Ext w w' → w.heap.size ≤ b → Blk w' b T l → K (.pointer (some ⟨b, 0, none⟩)) w') : Bx T (.agg l.toArray) w K := by
  simp only [Bx]
  intro w1 hw1
  exact h w1.heap.size _ (hw1.alloc _) hw1.size (Blk.new w1 T l)

theorem places_run {P : Program} {w : World} : ∀ {l : List Field}, (∀ f ∈ l, P.cellsOf f.type ≠ 0) →
    ((l.toArray).mapM (m := Sem) fun f => do pure (f.offset, ← Go.sizeOf f.type)).run P w = .ok (l.map fun f => (f.offset, P.cellsOf f.type)).toArray w := by
  intro l hl
  rw [List.mapM_toArray]
  have h := mapM_run (P := P) (w := w) (fun f : Field => (do pure (f.offset, ← Go.sizeOf f.type) : Sem (Nat × Nat))) (fun f => (f.offset, P.cellsOf f.type)) l (fun f hf => by
    simp only [Sem.run_bind, sizeOf_run rfl (hl f hf), Result.andThen_ok, Sem.run_pure])
  simp only [Sem.run_bind, Sem.run_map, h, Result.andThen_ok, Sem.run_pure]
  try rfl
theorem fill_at (pl : Array (Nat × Nat)) (n : Nat) : ∀ (ps : List (Nat × Value)) (zc : Array Value), (∀ p ∈ ps, pl[p.1]? = some (p.1, 1) ∧ p.1 < n ∧ p.2.cells = #[p.2]) → zc.size = n →
    Instr.fill (pl[·]?) zc ps = some (ps.foldl (fun c p => c.setIfInBounds p.1 p.2) zc)
  | [], zc, _, _ => rfl
  | (i, v) :: ps, zc, h, hz => by
    obtain ⟨e2, h1, h2⟩ := h (i, v) (by simp)
    have h1 : i < n := h1
    have h2 : v.cells = #[v] := h2
    have e2 : pl[i]? = some (i, 1) := e2
    have e3 : ¬ (decide (#[v].size ≠ 1) || decide (i + #[v].size > zc.size)) = true := by simp; omega
    have e4 : Array.foldl (fun (cs : Array Value) (x : Value × Nat) => cs.setIfInBounds (i + x.snd) x.fst) zc #[v].zipIdx = zc.setIfInBounds i v := by simp [Array.zipIdx]
    simp only [Instr.fill, e2, h2, List.foldl_cons]
    rw [if_neg e3, e4]
    exact fill_at pl n ps _ (fun p hp => h p (by simp [hp])) (by simpa using hz)
/-- 'T{F: x, ..}', fields of several cells among the others. -/
theorem VS.sparse2 {P : Program} {w : World} {t : TypeId} {zc : Array Value} {N b : Nat} {l : List Field} {ps : List (Nat × Value)} {K : Value → Prop} (ht : P.underlying t = some (.struct l.toArray)) (hz : Elem P t (.agg zc) N b)
    (hg : ∀ f ∈ l, P.cellsOf f.type ≠ 0) (hv : ∀ p ∈ ps, (l.map fun f => (f.offset, P.cellsOf f.type)).toArray[p.1]? = some (p.1, 1) ∧ p.1 < zc.size ∧ p.2.cells = #[p.2])
    (hk : K (.agg (ps.foldl (fun c p => c.setIfInBounds p.1 p.2) zc))) : VS P (Instr.build t ps.toArray) w K := by
  refine VS.mk (v := .agg (ps.foldl (fun c p => c.setIfInBounds p.1 p.2) zc)) (fun w1 _ => ?_) hk
  obtain ⟨i, hi, hz1, _, _⟩ := hz.info
  have hfill := fill_at _ zc.size ps zc hv rfl
  simp only [Instr.build, Sem.run_bind, zeroValue, typeInfo, run_program, Result.andThen_ok, hi, hz1, Sem.run_pure, run_underlying ht, places_run hg, Value.cells, hfill]
theorem VS.sparseR {P : Program} {w : World} {t : TypeId} {zc : Array Value} {N b : Nat} {l : List Field} {ps : List (Nat × Value)} {K : Value → Prop} (r : Array Value) (ht : P.underlying t = some (.struct l.toArray)) (hz : Elem P t (.agg zc) N b)
    (hg : ∀ f ∈ l, P.cellsOf f.type ≠ 0) (hv : ∀ p ∈ ps, (l.map fun f => (f.offset, P.cellsOf f.type)).toArray[p.1]? = some (p.1, 1) ∧ p.1 < zc.size ∧ p.2.cells = #[p.2]) (hr : ps.foldl (fun c p => c.setIfInBounds p.1 p.2) zc = r)
    (hk : K (.agg r)) : VS P (Instr.build t ps.toArray) w K := VS.sparse2 ht hz hg hv (by rw [hr]; exact hk)
end Go.Eng
