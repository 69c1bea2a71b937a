/- The statement ShareNear. -/
import Derived.Test.YtkgogljfngplnaaJ4
import Derived.Test.YtkgogljfngplnaaRows
set_option linter.unusedVariables false
set_option linter.unusedSimpArgs false
namespace Go.Proofs.Ytkgogljfngplnaa
open Go.Eng

/-- the sum of the first c numbers -/
def sB (f : Nat → Int) : Nat → Int
  | 0 => 0
  | c + 1 => sB f c + f c
theorem mn_sum {f : Nat → Int} : ∀ {c : Nat}, mnTo f c * ((c + 1 : Nat) : Int) ≤ sB f (c + 1)
  | 0 => by simp [mnTo, sB]
  | c + 1 => by
    have ih := mn_sum (f := f) (c := c)
    have e : sB f (c + 1 + 1) = sB f (c + 1) + f (c + 1) := rfl
    rw [e]
    have h1 : mnTo f (c + 1) ≤ mnTo f c := by simp only [mnTo]; omega
    have h2 : mnTo f (c + 1) ≤ f (c + 1) := by simp only [mnTo]; omega
    have h3 := Int.mul_le_mul_of_nonneg_right h1 (Int.natCast_nonneg (c + 1))
    have e2 : ((c + 1 + 1 : Nat) : Int) = ((c + 1 : Nat) : Int) + 1 := by omega
    rw [e2, Int.mul_add, Int.mul_one]
    omega
theorem sB_pick {r : Int} {k : Nat} : ∀ {c : Nat}, sB (fun b : Nat => if (k : Int) = (b : Int) then r else 0) c = if k < c then r else 0
  | 0 => rfl
  | c + 1 => by
    have ih := sB_pick (r := r) (k := k) (c := c)
    simp only [sB]
    rw [ih]
    by_cases h : k = c
    · subst h; simp
    · rw [if_neg (show ¬ (k : Int) = (c : Int) by omega)]
      by_cases h2 : k < c
      · rw [if_pos h2, if_pos (by omega)]; omega
      · rw [if_neg h2, if_neg (by omega)]; omega
theorem sB_add {f g : Nat → Int} : ∀ {c : Nat}, sB (fun b => f b + g b) c = sB f c + sB g c
  | 0 => rfl
  | c + 1 => by have := sB_add (f := f) (g := g) (c := c); simp only [sB]; omega
theorem sB_zero {f : Nat → Int} : ∀ {c : Nat}, (∀ b, b < c → f b = 0) → sB f c = 0
  | 0, _ => rfl
  | c + 1, h => by simp only [sB]; rw [sB_zero (fun b hb => h b (by omega)), h c (by omega)]; rfl
theorem sB_worth {l r : List Int} {n : Nat} (h : rng l n) : ∀ {c : Nat}, c ≤ l.length → sB (fun b : Nat => worth l r b c) n = sumTo r c
  | 0, _ => sB_zero fun b _ => rfl
  | c + 1, hc => by
    have ih := sB_worth (r := r) h (c := c) (by omega)
    have hk := h c (by omega)
    have e : sB (fun b : Nat => worth l r b (c + 1)) n = sB (fun b : Nat => worth l r b c + if l.getD c 0 = (b : Int) then r.getD c 0 else 0) n := rfl
    rw [e, sB_add, ih]
    obtain ⟨k, hk2⟩ : ∃ k : Nat, l.getD c 0 = (k : Int) := ⟨(l.getD c 0).toNat, by omega⟩
    rw [hk2, sB_pick, if_pos (by omega)]
    rfl
theorem leastP_sum {r l : List Int} {n : Nat} (h : rng l n) (hn : 1 ≤ n) : leastP r l n * (n : Int) ≤ sumTo r l.length := by
  have h1 := mn_sum (f := fun b : Nat => worth l r b l.length) (c := n - 1)
  rw [show n - 1 + 1 = n by omega, sB_worth h (Nat.le_refl _)] at h1
  exact h1
theorem lexlt_tri : ∀ {a b : List Int}, a.length = b.length → a = b ∨ lexlt a b ∨ lexlt b a
  | [], [], _ => .inl rfl
  | [], _ :: _, h => by simp at h
  | _ :: _, [], h => by simp at h
  | x :: a, y :: b, h => by
    rcases Int.lt_trichotomy x y with e | e | e
    · exact .inr (.inl (.inl e))
    · subst e
      rcases lexlt_tri (a := a) (b := b) (by simpa using h) with e | e | e
      · subst e; exact .inl rfl
      · exact .inr (.inl (.inr ⟨rfl, e⟩))
      · exact .inr (.inr (.inr ⟨rfl, e⟩))
    · exact .inr (.inr (.inl e))
theorem shB_top {rr : List (List Int)} {i n : Nat} (h : chk rr = 0) (hn : 1 ≤ n) : top (fun l => leastP (rr.getD i []) l n) (lsts n (mOf rr) (n ^ mOf rr)) (shB rr i n).2 ∧ (shB rr i n).1 = leastP (rr.getD i []) (shB rr i n).2 n := by
  have hgd := gd_of_chk h
  have hm := hgd.m10
  rw [shB_all h hn]
  have hb : ∀ y, y ∈ lsts n (mOf rr) (n ^ mOf rr) → -1 < leastP (rr.getD i []) y n := fun y hy => by
    have := leastP_bd (n := n) (fun j => hgd.val i j) (show y.length ≤ 10 by rw [((lsts_mem hn).1 hy).1]; exact hm)
    have h2 : 0 ≤ leastP (rr.getD i []) y n := this.1
    omega
  have hne : lsts n (mOf rr) (n ^ mOf rr) ≠ [] := by
    have hT : 0 < n ^ mOf rr := Nat.pow_pos (by omega)
    have : digs n (mOf rr) 0 ∈ lsts n (mOf rr) (n ^ mOf rr) := List.mem_map.2 ⟨0, List.mem_range.2 hT, rfl⟩
    intro e; rw [e] at this; simp at this
  obtain ⟨x, hx, e⟩ := bst_top (f := fun l => leastP (rr.getD i []) l n) (lsts_pair hn) hb hne
  rw [e]; exact ⟨hx, rfl⟩
/-- a partition of the goods -/
def isP (l : List Int) (m n : Nat) : Prop := l.length = m ∧ rng l n
theorem shB_is {rr : List (List Int)} {i n : Nat} (h : chk rr = 0) (hn : 1 ≤ n) : isP (shB rr i n).2 (mOf rr) n := (lsts_mem hn).1 (shB_top h hn).1.1
theorem shB_ge {rr : List (List Int)} {i n : Nat} (h : chk rr = 0) (hn : 1 ≤ n) {l : List Int} (hl : isP l (mOf rr) n) : leastP (rr.getD i []) l n ≤ (shB rr i n).1 := by
  rw [(shB_top h hn).2]; exact (shB_top h hn).1.2.1 l ((lsts_mem hn).2 hl)
theorem shB_first {rr : List (List Int)} {i n : Nat} (h : chk rr = 0) (hn : 1 ≤ n) {l : List Int} (hl : isP l (mOf rr) n) (he : leastP (rr.getD i []) l n = (shB rr i n).1) : l = (shB rr i n).2 ∨ lexlt (shB rr i n).2 l := by
  have ht := (shB_top (i := i) h hn)
  rcases lexlt_tri (a := l) (b := (shB rr i n).2) (by rw [hl.1, (shB_is h hn).1]) with e | e | e
  · exact .inl e
  · have h2 : leastP (rr.getD i []) l n < leastP (rr.getD i []) (shB rr i n).2 n := ht.1.2.2 l ((lsts_mem hn).2 hl) e
    rw [he, ht.2] at h2; omega
  · exact .inr e
theorem shB_sum {rr : List (List Int)} {i n : Nat} (h : chk rr = 0) (hi : i < rr.length) (hn : 1 ≤ n) : (shB rr i n).1 * (n : Int) ≤ allv rr i := by
  have hp := shB_is (i := i) h hn
  have hrow := (gd_of_chk h).row i hi
  rw [(shB_top h hn).2]
  have := leastP_sum (r := rr.getD i []) hp.2 hn
  unfold allv
  rw [hrow]
  rw [hp.1] at this
  exact this
end Go.Proofs.Ytkgogljfngplnaa
set_option linter.unusedVariables false
set_option linter.unusedSimpArgs false
namespace Go.Proofs.Ytkgogljfngplnaa
open Go.Eng

theorem filt_mem {p : Nat → Bool} {x : Int} : ∀ {c : Nat}, x ∈ filt p c ↔ ∃ i : Nat, i < c ∧ x = (i : Int) ∧ p i = true
  | 0 => by simp [filt]
  | c + 1 => by
    have ih := filt_mem (p := p) (x := x) (c := c)
    simp only [filt, List.mem_append]
    rw [ih]
    constructor
    · rintro (⟨i, h1, h2, h3⟩ | h)
      · exact ⟨i, by omega, h2, h3⟩
      · by_cases hp : p c = true
        · rw [if_pos hp] at h; simp at h; exact ⟨c, by omega, h, hp⟩
        · rw [if_neg hp] at h; simp at h
    · rintro ⟨i, h1, h2, h3⟩
      by_cases e : i = c
      · subst e; right; rw [if_pos h3]; simp [h2]
      · exact .inl ⟨i, by omega, h2, h3⟩
/-- who is short is poor -/
theorem short_poor {rr : List (List Int)} {a : List Int} (hv : vld rr a = 0) {x : Int} (h : x ∈ shortL rr a (shA rr)) : x ∈ poor rr a := by
  have hc := (vld_zero hv).1
  have hgd := gd_of_chk hc
  obtain ⟨i, hi, rfl, hs⟩ := filt_mem.1 h
  refine filt_mem.2 ⟨i, hi, rfl, ?_⟩
  have hs := of_decide_eq_true hs
  rw [shA, if_pos hc, show ((List.range rr.length).map fun i => (shB rr i rr.length).1).getD i 0 = (shB rr i rr.length).1 by simp [List.getD, hi]] at hs
  have h1 := shB_sum hc hi hgd.n1
  have h2 := Int.mul_le_mul_of_nonneg_right (show wth rr a i i + 1 ≤ (shB rr i rr.length).1 by omega) (Int.natCast_nonneg rr.length)
  rw [Int.add_mul, Int.one_mul] at h2
  have hn := hgd.n1
  refine decide_eq_true ?_
  rw [Int.mul_comm]; omega

/-- goods that lie in bundle j of one division and in bundle b of another -/
def both (a p r : List Int) (j b : Int) : Nat → Int
  | 0 => 0
  | c + 1 => both a p r j b c + if a.getD c 0 = j ∧ p.getD c 0 = b then r.getD c 0 else 0
theorem both_sum {a p r : List Int} {b : Int} {n : Nat} (h : rng a n) : ∀ {c : Nat}, c ≤ a.length → sB (fun j : Nat => both a p r j b c) n = worth p r b c
  | 0, _ => sB_zero fun _ _ => rfl
  | c + 1, hc => by
    have ih := both_sum (p := p) (r := r) (b := b) h (c := c) (by omega)
    have hk := h c (by omega)
    obtain ⟨k, hk2⟩ : ∃ k : Nat, a.getD c 0 = (k : Int) := ⟨(a.getD c 0).toNat, by omega⟩
    by_cases hb : p.getD c 0 = b
    · rw [show (fun j : Nat => both a p r j b (c + 1)) = fun j : Nat => both a p r j b c + if (k : Int) = (j : Int) then r.getD c 0 else 0 from funext fun j => by simp only [both, hk2, hb, and_true]]
      rw [sB_add, ih, sB_pick, if_pos (by omega)]
      simp only [worth]; rw [if_pos hb]
    · rw [show (fun j : Nat => both a p r j b (c + 1)) = fun j : Nat => both a p r j b c from funext fun j => by simp only [both, hb, and_false, if_false, Int.add_zero]]
      rw [ih]; simp only [worth]; rw [if_neg hb]; omega
theorem both_le {a p r : List Int} {j b : Int} (hr : ∀ i, 0 ≤ r.getD i 0) : ∀ {c : Nat}, both a p r j b c ≤ worth a r j c
  | 0 => Int.le_refl _
  | c + 1 => by
    have := both_le (a := a) (p := p) (j := j) (b := b) hr (c := c)
    have := hr c
    simp only [both, worth]
    by_cases h1 : a.getD c 0 = j
    · rw [if_pos h1]; split <;> omega
    · rw [if_neg (fun h => h1 h.1), if_neg h1]; omega
theorem both_less {a p r : List Int} {j b : Int} {q : Nat} (hr : ∀ i, 0 ≤ r.getD i 0) (hq : a.getD q 0 = j) (hp : p.getD q 0 ≠ b) : ∀ {c : Nat}, q < c → both a p r j b c ≤ worth a r j c - r.getD q 0
  | 0, h => absurd h (Nat.not_lt_zero _)
  | c + 1, h => by
    have := hr c
    by_cases e : q = c
    · subst e
      have := both_le (a := a) (p := p) (j := j) (b := b) hr (c := q)
      simp only [both, worth]
      rw [if_neg (fun h => hp h.2), if_pos hq]; omega
    · have := both_less (p := p) (b := b) hr hq hp (c := c) (by omega)
      simp only [both, worth]
      by_cases h1 : a.getD c 0 = j
      · rw [if_pos h1]; split <;> omega
      · rw [if_neg (fun h => h1 h.1), if_neg h1]; omega
theorem sB_le {f : Nat → Int} {x : Int} : ∀ {n : Nat}, (∀ j, j < n → f j ≤ x) → sB f n ≤ (n : Int) * x
  | 0, _ => by simp [sB]
  | n + 1, h => by
    have := sB_le (f := f) (x := x) (n := n) (fun j hj => h j (by omega))
    have := h n (by omega)
    have e : ((n + 1 : Nat) : Int) * x = (n : Int) * x + x := by rw [Int.natCast_add, Int.add_mul]; simp
    simp only [sB]; omega
theorem sB_ge {f : Nat → Int} : ∀ {n : Nat}, (∀ j, j < n → 1 ≤ f j) → (n : Int) ≤ sB f n
  | 0, _ => by simp [sB]
  | n + 1, h => by
    have := sB_ge (f := f) (n := n) (fun j hj => h j (by omega))
    have := h n (by omega)
    simp only [sB]; omega
/-- how many of the first c indices, other than k, have the value b -/
def hits (f : Nat → Int) (k : Nat) (b : Int) : Nat → Int
  | 0 => 0
  | c + 1 => hits f k b c + if c ≠ k ∧ f c = b then 1 else 0
theorem hits_pos {f : Nat → Int} {k j : Nat} {b : Int} (hj : j ≠ k) (hf : f j = b) : ∀ {c : Nat}, 0 ≤ hits f k b c ∧ (j < c → 1 ≤ hits f k b c)
  | 0 => ⟨Int.le_refl _, fun h => absurd h (Nat.not_lt_zero _)⟩
  | c + 1 => by
    obtain ⟨h1, h2⟩ := hits_pos (k := k) hj hf (c := c)
    simp only [hits]
    by_cases e : j = c
    · subst e; rw [if_pos ⟨hj, hf⟩]; omega
    · refine ⟨by split <;> omega, fun h => ?_⟩
      have := h2 (by omega)
      split <;> omega
theorem hits_one {f : Nat → Int} {k : Nat} {b : Int} : ∀ {c : Nat}, 0 ≤ hits f k b c ∧ (hits f k b c ≠ 0 → ∃ j, j < c ∧ j ≠ k ∧ f j = b)
  | 0 => ⟨Int.le_refl _, fun h => absurd rfl h⟩
  | c + 1 => by
    obtain ⟨h1, h2⟩ := hits_one (f := f) (k := k) (b := b) (c := c)
    simp only [hits]
    by_cases e : c ≠ k ∧ f c = b
    · rw [if_pos e]; exact ⟨by omega, fun _ => ⟨c, by omega, e⟩⟩
    · rw [if_neg e]
      refine ⟨by omega, fun h => ?_⟩
      obtain ⟨j, h3, h4⟩ := h2 (by omega)
      exact ⟨j, by omega, h4⟩
theorem hits_sum {f : Nat → Int} {k n : Nat} : ∀ {c : Nat}, sB (fun b : Nat => hits f k b c) n ≤ (c : Int) - if k < c then 1 else 0
  | 0 => by rw [sB_zero (f := fun b : Nat => hits f k b 0) (fun _ _ => rfl)]; simp
  | c + 1 => by
    have ih := hits_sum (f := f) (k := k) (n := n) (c := c)
    rw [show (fun b : Nat => hits f k b (c + 1)) = fun b : Nat => hits f k b c + if c ≠ k ∧ f c = (b : Int) then 1 else 0 from rfl, sB_add]
    by_cases e : c = k
    · rw [show (fun b : Nat => if c ≠ k ∧ f c = (b : Int) then (1 : Int) else 0) = fun _ => 0 from funext fun b => if_neg fun h => h.1 e, sB_zero fun _ _ => rfl]
      rw [if_neg (by omega)] at ih
      rw [if_pos (by omega)]; omega
    · have h1 : sB (fun b : Nat => if c ≠ k ∧ f c = (b : Int) then (1 : Int) else 0) n ≤ 1 := by
        by_cases hf : 0 ≤ f c
        · obtain ⟨q, hq⟩ : ∃ q : Nat, f c = (q : Int) := ⟨(f c).toNat, by omega⟩
          rw [show (fun b : Nat => if c ≠ k ∧ f c = (b : Int) then (1 : Int) else 0) = fun b : Nat => if (q : Int) = (b : Int) then 1 else 0 from funext fun b => by rw [hq]; simp [e], sB_pick]
          split <;> omega
        · rw [sB_zero fun b _ => if_neg fun h => by have := h.2; omega]; omega
      have h2 : (if k < c + 1 then (1 : Int) else 0) = if k < c then 1 else 0 := by
        by_cases h : k < c
        · rw [if_pos h, if_pos (by omega)]
        · rw [if_neg h, if_neg (by omega)]
      rw [h2]; omega
/-- some value is not hit -/
theorem no_hit {f : Nat → Int} {k n : Nat} (hk : k < n) : ∃ b : Nat, b < n ∧ ∀ j, j < n → j ≠ k → f j ≠ (b : Int) := by
  refine Classical.byContradiction fun hn => ?_
  have h1 : ∀ b, b < n → 1 ≤ hits f k (b : Int) n := fun b hb => by
    have : ∃ j, j < n ∧ j ≠ k ∧ f j = (b : Int) := Classical.byContradiction fun h => hn ⟨b, hb, fun j h1 h2 h3 => h ⟨j, h1, h2, h3⟩⟩
    obtain ⟨j, h2, h3, h4⟩ := this
    exact (hits_pos h3 h4).2 h2
  have h2 := sB_ge (f := fun b : Nat => hits f k b n) h1
  have h3 := hits_sum (f := f) (k := k) (n := n) (c := n)
  rw [if_pos hk] at h3
  omega
/-- fair up to one good: each agent has its share, divided by the number of agents -/
theorem ef1_share {rr : List (List Int)} {a : List Int} {k : Nat} (hv : vld rr a = 0) (hc : compl a) (h1 : oneX rr a = []) (hk : k < rr.length) : (shB rr k rr.length).1 ≤ (rr.length : Int) * wth rr a k k := by
  have hck := (vld_zero hv).1
  have hal := al_of_vld hv
  have hlen : a.length = mOf rr := hal.len
  have hn := hal.n1
  have hp := shB_is (i := k) hck hn
  have ht := (shB_top (i := k) hck hn).2
  have hr : ∀ i, 0 ≤ (rr.getD k []).getD i 0 := fun i => (hal.val k i).1
  have hra : rng a rr.length := fun i hi => ⟨hc i hi, (hal.rng i (by rw [← hal.len]; exact hi)).2⟩
  have hex : ∀ j : Nat, ∃ q : Nat, j < rr.length → j ≠ k → wth rr a k k < wth rr a k j → q < a.length ∧ a.getD q 0 = j ∧ moreV rr a k j ≤ val rr k q := fun j => by
    by_cases h : j < rr.length ∧ j ≠ k ∧ wth rr a k k < wth rr a k j
    · obtain ⟨q, h2⟩ := (oneX_nil hv).1 h1 k j hk h.1 h.2.2
      exact ⟨q, fun _ _ _ => h2⟩
    · exact ⟨0, fun h2 h3 h4 => absurd ⟨h2, h3, h4⟩ h⟩
  obtain ⟨b, hb, hno⟩ := no_hit (f := fun j => (shB rr k rr.length).2.getD (Classical.choose (hex j)) 0) hk
  have hbest : (shB rr k rr.length).1 ≤ worth (shB rr k rr.length).2 (rr.getD k []) b (shB rr k rr.length).2.length := by
    rw [ht]; exact mnTo_le (f := fun b : Nat => worth (shB rr k rr.length).2 (rr.getD k []) b (shB rr k rr.length).2.length) (i := b) (by omega)
  rw [hp.1, ← hlen, ← both_sum (p := (shB rr k rr.length).2) (r := rr.getD k []) (b := (b : Int)) hra (Nat.le_refl _)] at hbest
  refine Int.le_trans hbest (sB_le fun j hj => ?_)
  have hw : worth a (rr.getD k []) (j : Int) a.length = wth rr a k j := rfl
  by_cases hjk : j = k
  · subst hjk; rw [← hw]; exact both_le hr
  · by_cases hlt : wth rr a k k < wth rr a k j
    · obtain ⟨h2, h3, h4⟩ := Classical.choose_spec (hex j) hj hjk hlt
      have h5 := both_less (p := (shB rr k rr.length).2) (b := (b : Int)) hr h3 (hno j hj hjk) h2
      rw [hw] at h5
      have h6 : moreV rr a k j = wth rr a k j - wth rr a k k := rfl
      have h7 : val rr k (Classical.choose (hex j)) = (rr.getD k []).getD (Classical.choose (hex j)) 0 := rfl
      omega
    · have := both_le (a := a) (p := (shB rr k rr.length).2) (j := (j : Int)) (b := (b : Int)) hr (c := a.length)
      rw [hw] at this; omega
end Go.Proofs.Ytkgogljfngplnaa
set_option linter.unusedVariables false
set_option linter.unusedSimpArgs false
namespace Go.Proofs.Ytkgogljfngplnaa
open Go.Eng
set_option maxRecDepth 100000
set_option maxHeartbeats 4000000

theorem tfq_old {p : Nat → Prop} {c : Nat} (h : ∃ i, i < c ∧ p i) : true = tf (∃ i, i < c + 1 ∧ p i) := by
  obtain ⟨i, h1, h2⟩ := h
  rw [tf_t ⟨i, by omega, h2⟩]
theorem tfq_new {p : Nat → Prop} {c : Nat} (h : p c) : true = tf (∃ i, i < c + 1 ∧ p i) := by rw [tf_t ⟨c, by omega, h⟩]
theorem tfq_no {p : Nat → Prop} {c : Nat} (h : ¬ ∃ i, i < c ∧ p i) (h1 : ¬ p c) : false = tf (∃ i, i < c + 1 ∧ p i) := by
  rw [tf_f]
  rintro ⟨i, hi, hp⟩
  by_cases e : i = c
  · subst e; exact h1 hp
  · exact h ⟨i, by omega, hp⟩
theorem tfq_zero {p : Nat → Prop} : false = tf (∃ i, i < 0 ∧ p i) := by
  rw [tf_f]
  rintro ⟨i, hi, _⟩; omega
theorem Ints.lde {w : World} {v : Value} {l : List Int} {K : Value → Prop} {c : Nat} {x : Int} (h : Ints w v l) (hv : l.getD c 0 = x) (hc : c < l.length) (hk : K (.int .i64 x)) : Ld w (ea v c) K :=
  Ints.ld h hc (by rw [hv]; exact hk)
theorem mem_at {l : List Int} {x : Int} (h : x ∈ l) : ∃ i, i < l.length ∧ l.getD i 0 = x := by
  obtain ⟨i, hi, e⟩ := List.getElem_of_mem h
  exact ⟨i, hi, by simp [List.getD, hi, e]⟩
theorem at_mem {l : List Int} {i : Nat} (h : i < l.length) : l.getD i 0 ∈ l := by
  rw [show l.getD i 0 = l[i] by simp [List.getD, h]]; exact List.getElem_mem h

theorem sharenear_pc {w : World} {gv lv : Value} {vs : List Value} {rr : List (List Int)} {l : List Int} (Hg : Mat w gv vs rr) (Hl : Ints w lv l) : PC Try.prog 15 [.agg #[gv], lv] w (.bool true) := by
  refine PC.mk tyOk Try.func15 rfl (by kernel_rfl) fun w1 E1 => ?_
  replace Hg := Hg.ext E1
  replace Hl := Hl.ext E1
  have EE := Ext.refl w1
  refine Bx.agg fun b2 w2 E2 hb2 Hb _ => ?_
  replace Hg := Hg.ext E2
  replace Hl := Hl.ext E2
  replace EE := EE.ext E2
  have cf := fit20_pc Hg Hl
  by_cases hf : ¬ great rr l ∧ chk rr = 0
  · rw [tf_t hf] at cf
    have hck := hf.2
    have hgd := gd_of_chk hck
    have hn1 := hgd.n1
    have hn6 := hgd.n6
    have hm10 := hgd.m10
    have hmO : mOf rr = (rr.getD 0 []).length := rfl
    have hll := Hl.le
    have cvl := rvalid_pc Hg Hl
    by_cases hvl : vld rr l = 0
    · rw [hvl] at cvl
      have hal := al_of_vld hvl
      have hlen := hal.len
      repeat' ((conv => whnf); first | (refine Dr.quiet tyOk (by kernel_rfl) ?_) | (refine VC.pure alive20_pc ?_) | (refine VC.pure cf ?_) | (refine VC.pure cvl ?_) | (refine Rng.mk (by omega) ?_) | (refine Split.pos (by omega) ?_) | (refine Split.neg (by omega) ?_) | (refine Split.mk (fun h => ?_) (fun h => ?_)) | (refine Need.mk (by omega) ?_) | (refine Ints.ln (by assumption) ?_) | (refine Mat.ln (by assumption) ?_) | (refine Ints.ln (Mat.row (by assumption) _ (by omega)) ?_) | (refine Ints.ix (by assumption) (by omega) ?_) | (refine Mat.ix (by assumption) (by omega) ?_) | (refine Ints.ix (Mat.row (by assumption) _ (by omega)) (by omega) ?_) | (refine Ints.ix (c := 0) (by assumption) (by omega) ?_) | (refine Mat.ix (c := 0) (by assumption) (by omega) ?_) | (refine Ints.ix (c := 0) (Mat.row (by assumption) _ (by omega)) (by omega) ?_) | (refine Ints.ixI (by assumption) (by omega) ?_) | (refine Mat.ixI (by assumption) (by omega) ?_) | (refine Ints.ixI (Mat.row (by assumption) _ (by omega)) (by omega) ?_) | (refine Ints.ld (by assumption) (by omega) ?_) | (refine Mat.ld (by assumption) (by omega) ?_) | (refine Ints.ld (Mat.row (by assumption) _ (by omega)) (by omega) ?_) | (refine At.ld (by assumption) rfl ?_) | (refine At.ldN (by assumption) rfl ?_) | (refine Prs.ln (by assumption) ?_) | (refine Trs.ln (by assumption) ?_) | (refine Prs.ix (by assumption) (by omega) ?_) | (refine Trs.ix (by assumption) (by omega) ?_) | (refine Prs.ldN (by assumption) (by omega) ?_) | (refine Trs.ldN (by assumption) (by omega) ?_) | (refine At.ldN (Blk.at (by assumption)) rfl ?_) | (refine At.ld (Blk.at (by assumption)) rfl ?_) | (refine IxA.mk (by omega) ?_) | (refine Sl.ln (Own.sl (by assumption)) ?_) | (refine Ints.ix (Own.sl (by assumption)) (by omega) ?_) | (refine Ints.ixI (Own.sl (by assumption)) (by omega) ?_) | (refine Ints.ld (Own.sl (by assumption)) (by omega) ?_))
      conv => whnf
      refine VC.rc (sall_rc Hg) ?_
      rintro _ w3 E3 ⟨av, rfl, HA⟩
      replace Hg := Hg.ext E3
      replace Hl := Hl.ext E3
      replace EE := EE.ext E3
      replace Hb := Hb.ext E3
      repeat' ((conv => whnf); first | (refine Dr.quiet tyOk (by kernel_rfl) ?_) | (refine Rng.mk (by omega) ?_) | (refine Split.pos (by omega) ?_) | (refine Split.neg (by omega) ?_) | (refine Split.mk (fun h => ?_) (fun h => ?_)) | (refine Need.mk (by omega) ?_) | (refine Ints.ln (by assumption) ?_) | (refine Mat.ln (by assumption) ?_) | (refine Ints.ln (Mat.row (by assumption) _ (by omega)) ?_) | (refine Ints.ix (by assumption) (by omega) ?_) | (refine Mat.ix (by assumption) (by omega) ?_) | (refine Ints.ix (Mat.row (by assumption) _ (by omega)) (by omega) ?_) | (refine Ints.ix (c := 0) (by assumption) (by omega) ?_) | (refine Mat.ix (c := 0) (by assumption) (by omega) ?_) | (refine Ints.ix (c := 0) (Mat.row (by assumption) _ (by omega)) (by omega) ?_) | (refine Ints.ixI (by assumption) (by omega) ?_) | (refine Mat.ixI (by assumption) (by omega) ?_) | (refine Ints.ixI (Mat.row (by assumption) _ (by omega)) (by omega) ?_) | (refine Ints.ld (by assumption) (by omega) ?_) | (refine Mat.ld (by assumption) (by omega) ?_) | (refine Ints.ld (Mat.row (by assumption) _ (by omega)) (by omega) ?_) | (refine At.ld (by assumption) rfl ?_) | (refine At.ldN (by assumption) rfl ?_) | (refine Prs.ln (by assumption) ?_) | (refine Trs.ln (by assumption) ?_) | (refine Prs.ix (by assumption) (by omega) ?_) | (refine Trs.ix (by assumption) (by omega) ?_) | (refine Prs.ldN (by assumption) (by omega) ?_) | (refine Trs.ldN (by assumption) (by omega) ?_) | (refine At.ldN (Blk.at (by assumption)) rfl ?_) | (refine At.ld (Blk.at (by assumption)) rfl ?_) | (refine IxA.mk (by omega) ?_) | (refine Sl.ln (Own.sl (by assumption)) ?_) | (refine Ints.ix (Own.sl (by assumption)) (by omega) ?_) | (refine Ints.ixI (Own.sl (by assumption)) (by omega) ?_) | (refine Ints.ld (Own.sl (by assumption)) (by omega) ?_))
      conv => whnf
      refine VC.rc (sshort_rc Hg Hl) ?_
      rintro _ w4 E4 ⟨sv, rfl, HS⟩
      replace Hg := Hg.ext E4
      replace Hl := Hl.ext E4
      replace EE := EE.ext E4
      replace Hb := Hb.ext E4
      replace HA := HA.ext E4
      repeat' ((conv => whnf); first | (refine Dr.quiet tyOk (by kernel_rfl) ?_) | (refine Rng.mk (by omega) ?_) | (refine Split.pos (by omega) ?_) | (refine Split.neg (by omega) ?_) | (refine Split.mk (fun h => ?_) (fun h => ?_)) | (refine Need.mk (by omega) ?_) | (refine Ints.ln (by assumption) ?_) | (refine Mat.ln (by assumption) ?_) | (refine Ints.ln (Mat.row (by assumption) _ (by omega)) ?_) | (refine Ints.ix (by assumption) (by omega) ?_) | (refine Mat.ix (by assumption) (by omega) ?_) | (refine Ints.ix (Mat.row (by assumption) _ (by omega)) (by omega) ?_) | (refine Ints.ix (c := 0) (by assumption) (by omega) ?_) | (refine Mat.ix (c := 0) (by assumption) (by omega) ?_) | (refine Ints.ix (c := 0) (Mat.row (by assumption) _ (by omega)) (by omega) ?_) | (refine Ints.ixI (by assumption) (by omega) ?_) | (refine Mat.ixI (by assumption) (by omega) ?_) | (refine Ints.ixI (Mat.row (by assumption) _ (by omega)) (by omega) ?_) | (refine Ints.ld (by assumption) (by omega) ?_) | (refine Mat.ld (by assumption) (by omega) ?_) | (refine Ints.ld (Mat.row (by assumption) _ (by omega)) (by omega) ?_) | (refine At.ld (by assumption) rfl ?_) | (refine At.ldN (by assumption) rfl ?_) | (refine Prs.ln (by assumption) ?_) | (refine Trs.ln (by assumption) ?_) | (refine Prs.ix (by assumption) (by omega) ?_) | (refine Trs.ix (by assumption) (by omega) ?_) | (refine Prs.ldN (by assumption) (by omega) ?_) | (refine Trs.ldN (by assumption) (by omega) ?_) | (refine At.ldN (Blk.at (by assumption)) rfl ?_) | (refine At.ld (Blk.at (by assumption)) rfl ?_) | (refine IxA.mk (by omega) ?_) | (refine Sl.ln (Own.sl (by assumption)) ?_) | (refine Ints.ix (Own.sl (by assumption)) (by omega) ?_) | (refine Ints.ixI (Own.sl (by assumption)) (by omega) ?_) | (refine Ints.ld (Own.sl (by assumption)) (by omega) ?_))
      conv => whnf
      refine VC.rc (gpoor_rc Hg Hl) ?_
      rintro _ w5 E5 ⟨pv, rfl, HP⟩
      replace Hg := Hg.ext E5
      replace Hl := Hl.ext E5
      replace EE := EE.ext E5
      replace Hb := Hb.ext E5
      replace HA := HA.ext E5
      replace HS := HS.ext E5
      repeat' ((conv => whnf); first | (refine Dr.quiet tyOk (by kernel_rfl) ?_) | (refine Rng.mk (by omega) ?_) | (refine Split.pos (by omega) ?_) | (refine Split.neg (by omega) ?_) | (refine Split.mk (fun h => ?_) (fun h => ?_)) | (refine Need.mk (by omega) ?_) | (refine Ints.ln (by assumption) ?_) | (refine Mat.ln (by assumption) ?_) | (refine Ints.ln (Mat.row (by assumption) _ (by omega)) ?_) | (refine Ints.ix (by assumption) (by omega) ?_) | (refine Mat.ix (by assumption) (by omega) ?_) | (refine Ints.ix (Mat.row (by assumption) _ (by omega)) (by omega) ?_) | (refine Ints.ix (c := 0) (by assumption) (by omega) ?_) | (refine Mat.ix (c := 0) (by assumption) (by omega) ?_) | (refine Ints.ix (c := 0) (Mat.row (by assumption) _ (by omega)) (by omega) ?_) | (refine Ints.ixI (by assumption) (by omega) ?_) | (refine Mat.ixI (by assumption) (by omega) ?_) | (refine Ints.ixI (Mat.row (by assumption) _ (by omega)) (by omega) ?_) | (refine Ints.ld (by assumption) (by omega) ?_) | (refine Mat.ld (by assumption) (by omega) ?_) | (refine Ints.ld (Mat.row (by assumption) _ (by omega)) (by omega) ?_) | (refine At.ld (by assumption) rfl ?_) | (refine At.ldN (by assumption) rfl ?_) | (refine Prs.ln (by assumption) ?_) | (refine Trs.ln (by assumption) ?_) | (refine Prs.ix (by assumption) (by omega) ?_) | (refine Trs.ix (by assumption) (by omega) ?_) | (refine Prs.ldN (by assumption) (by omega) ?_) | (refine Trs.ldN (by assumption) (by omega) ?_) | (refine At.ldN (Blk.at (by assumption)) rfl ?_) | (refine At.ld (Blk.at (by assumption)) rfl ?_) | (refine IxA.mk (by omega) ?_) | (refine Sl.ln (Own.sl (by assumption)) ?_) | (refine Ints.ix (Own.sl (by assumption)) (by omega) ?_) | (refine Ints.ixI (Own.sl (by assumption)) (by omega) ?_) | (refine Ints.ld (Own.sl (by assumption)) (by omega) ?_))
      conv => whnf
      refine VC.rc (none_rc Hg Hl) ?_
      rintro _ w6 E6 ⟨mv, xv, rfl, HM, HX⟩
      replace Hg := Hg.ext E6
      replace Hl := Hl.ext E6
      replace EE := EE.ext E6
      replace Hb := Hb.ext E6
      replace HA := HA.ext E6
      replace HS := HS.ext E6
      replace HP := HP.ext E6
      rw [shortR, if_pos hvl] at HS
      rw [poorR, if_pos hvl] at HP
      have hSl := filt_len (isShort rr l (shA rr)) rr.length
      have hPl := filt_len (isPoor rr l) rr.length
      have hSl : (shortL rr l (shA rr)).length ≤ rr.length := hSl
      have hPl : (poor rr l).length ≤ rr.length := hPl
      have hAl := shA_len hck
      have HSI : Ints w6 sv (shortL rr l (shA rr)) := Own.sl HS
      have HPI : Ints w6 pv (poor rr l) := Own.sl HP
      have HAI : Ints w6 av (shA rr) := Own.sl HA
      have HXI : Prs w6 xv (oneX rr l) := Own.sl HX
      have hXl := HXI.le
      rw [hck, hvl]
      repeat' ((conv => whnf); first | (refine Dr.quiet tyOk (by kernel_rfl) ?_) | (refine Rng.mk (by omega) ?_) | (refine Split.pos (by omega) ?_) | (refine Split.neg (by omega) ?_) | (refine Split.mk (fun h => ?_) (fun h => ?_)) | (refine Need.mk (by omega) ?_) | (refine Ints.ln (by assumption) ?_) | (refine Mat.ln (by assumption) ?_) | (refine Ints.ln (Mat.row (by assumption) _ (by omega)) ?_) | (refine Ints.ix (by assumption) (by omega) ?_) | (refine Mat.ix (by assumption) (by omega) ?_) | (refine Ints.ix (Mat.row (by assumption) _ (by omega)) (by omega) ?_) | (refine Ints.ix (c := 0) (by assumption) (by omega) ?_) | (refine Mat.ix (c := 0) (by assumption) (by omega) ?_) | (refine Ints.ix (c := 0) (Mat.row (by assumption) _ (by omega)) (by omega) ?_) | (refine Ints.ixI (by assumption) (by omega) ?_) | (refine Mat.ixI (by assumption) (by omega) ?_) | (refine Ints.ixI (Mat.row (by assumption) _ (by omega)) (by omega) ?_) | (refine Ints.ld (by assumption) (by omega) ?_) | (refine Mat.ld (by assumption) (by omega) ?_) | (refine Ints.ld (Mat.row (by assumption) _ (by omega)) (by omega) ?_) | (refine At.ld (by assumption) rfl ?_) | (refine At.ldN (by assumption) rfl ?_) | (refine Prs.ln (by assumption) ?_) | (refine Trs.ln (by assumption) ?_) | (refine Prs.ix (by assumption) (by omega) ?_) | (refine Trs.ix (by assumption) (by omega) ?_) | (refine Prs.ldN (by assumption) (by omega) ?_) | (refine Trs.ldN (by assumption) (by omega) ?_) | (refine At.ldN (Blk.at (by assumption)) rfl ?_) | (refine At.ld (Blk.at (by assumption)) rfl ?_) | (refine IxA.mk (by omega) ?_) | (refine Sl.ln (Own.sl (by assumption)) ?_) | (refine Ints.ix (Own.sl (by assumption)) (by omega) ?_) | (refine Ints.ixI (Own.sl (by assumption)) (by omega) ?_) | (refine Ints.ld (Own.sl (by assumption)) (by omega) ?_))
      refine Lp.mk tyOk [false, false, false, false, true, false, false, false, false, false, false, false, false, false, false, true, true, true, false, false, false, false, false, false, false, false, false, false, false, false, false, false, false, false, false, false, false, false, false, false, false, false, false, false, false, false, false, false, false, false, false, false, false, false, false, false, false, false, false, false, false, false, false, false, false, false, false, false, false, false, false, false, false, false, false, false, false, false, false, false, false, false, true, true, true, true, true, true, true, true, true, true, true, true, true, true, true, true, true, true, true, true, true, true, true, true, true, true] (fun m fr wr => getK fr 15 fun k => ∃ c : Nat, c ≤ (shortL rr l (shA rr)).length ∧ m = (shortL rr l (shA rr)).length - c ∧ k = .int .i64 (c : Int) ∧ wr = w6) ((shortL rr l (shA rr)).length) ?_ ?_
      · exact ⟨0, Nat.zero_le _, rfl, rfl, rfl⟩
      · intro m w7 u4 u15 u16 u17 u82 u83 u84 u85 u86 u87 u88 u89 u90 u91 u92 u93 u94 u95 u96 u97 u98 u99 u100 u101 u102 u103 u104 u105 u106 u107 hR
        obtain ⟨c, hc, rfl, rfl, rfl⟩ := hR
        by_cases hcl : c < (shortL rr l (shA rr)).length
        · have hmem := mem_at (short_poor hvl (at_mem hcl))
          obtain ⟨X, hX⟩ : ∃ X, (shortL rr l (shA rr)).getD c 0 = X := ⟨_, rfl⟩
          rw [hX] at hmem
          repeat' ((conv => whnf); first | (refine Dr.quiet tyOk (by kernel_rfl) ?_) | (refine Ints.lde HSI hX hcl ?_) | (refine Rng.mk (by omega) ?_) | (refine Split.pos (by omega) ?_) | (refine Split.neg (by omega) ?_) | (refine Split.mk (fun h => ?_) (fun h => ?_)) | (refine Need.mk (by omega) ?_) | (refine Ints.ln (by assumption) ?_) | (refine Mat.ln (by assumption) ?_) | (refine Ints.ln (Mat.row (by assumption) _ (by omega)) ?_) | (refine Ints.ix (by assumption) (by omega) ?_) | (refine Mat.ix (by assumption) (by omega) ?_) | (refine Ints.ix (Mat.row (by assumption) _ (by omega)) (by omega) ?_) | (refine Ints.ix (c := 0) (by assumption) (by omega) ?_) | (refine Mat.ix (c := 0) (by assumption) (by omega) ?_) | (refine Ints.ix (c := 0) (Mat.row (by assumption) _ (by omega)) (by omega) ?_) | (refine Ints.ixI (by assumption) (by omega) ?_) | (refine Mat.ixI (by assumption) (by omega) ?_) | (refine Ints.ixI (Mat.row (by assumption) _ (by omega)) (by omega) ?_) | (refine Ints.ld (by assumption) (by omega) ?_) | (refine Mat.ld (by assumption) (by omega) ?_) | (refine Ints.ld (Mat.row (by assumption) _ (by omega)) (by omega) ?_) | (refine At.ld (by assumption) rfl ?_) | (refine At.ldN (by assumption) rfl ?_) | (refine Prs.ln (by assumption) ?_) | (refine Trs.ln (by assumption) ?_) | (refine Prs.ix (by assumption) (by omega) ?_) | (refine Trs.ix (by assumption) (by omega) ?_) | (refine Prs.ldN (by assumption) (by omega) ?_) | (refine Trs.ldN (by assumption) (by omega) ?_) | (refine At.ldN (Blk.at (by assumption)) rfl ?_) | (refine At.ld (Blk.at (by assumption)) rfl ?_) | (refine IxA.mk (by omega) ?_) | (refine Sl.ln (Own.sl (by assumption)) ?_) | (refine Ints.ix (Own.sl (by assumption)) (by omega) ?_) | (refine Ints.ixI (Own.sl (by assumption)) (by omega) ?_) | (refine Ints.ld (Own.sl (by assumption)) (by omega) ?_))
          refine Lp.mk tyOk [false, false, false, false, false, false, false, false, false, false, false, false, false, false, false, false, true, true, false, false, false, false, false, false, false, false, false, false, false, false, false, false, false, false, false, false, false, false, false, false, false, false, false, false, false, false, false, false, false, false, false, false, false, false, false, false, false, false, false, false, false, false, false, false, false, false, false, false, false, false, false, false, false, false, false, false, false, false, false, false, false, false, false, false, false, false, false, false, true, true, true, true, true, true, true, true, true, true, true, true, true, true, true, true, true, true] (fun m fr wr => getK fr 17 fun mq => getK fr 16 fun fo => ∃ d : Nat, d ≤ (poor rr l).length ∧ m = (poor rr l).length - d ∧ mq = .int .i64 (d : Int) ∧ fo = .bool (tf (∃ i, i < d ∧ (poor rr l).getD i 0 = X)) ∧ wr = w7) ((poor rr l).length) ?_ ?_
          · exact ⟨0, Nat.zero_le _, rfl, rfl, (congrArg Value.bool tfq_zero), rfl⟩
          · intro m w8 u16 u17 u88 u89 u90 u91 u92 u93 u94 u95 u96 u97 u98 u99 u100 u101 u102 u103 u104 u105 hR
            obtain ⟨d, hd, rfl, rfl, rfl, rfl⟩ := hR
            by_cases hdl : d < (poor rr l).length
            · by_cases hpo : ∃ i, i < d ∧ (poor rr l).getD i 0 = X
              · rw [tf_t hpo]
                repeat' ((conv => whnf); first | (refine Dr.quiet tyOk (by kernel_rfl) ?_) | (refine Ints.lde HSI hX hcl ?_) | (refine Rng.mk (by omega) ?_) | (refine Split.pos (by omega) ?_) | (refine Split.neg (by omega) ?_) | (refine Split.mk (fun h => ?_) (fun h => ?_)) | (refine Need.mk (by omega) ?_) | (refine Ints.ln (by assumption) ?_) | (refine Mat.ln (by assumption) ?_) | (refine Ints.ln (Mat.row (by assumption) _ (by omega)) ?_) | (refine Ints.ix (by assumption) (by omega) ?_) | (refine Mat.ix (by assumption) (by omega) ?_) | (refine Ints.ix (Mat.row (by assumption) _ (by omega)) (by omega) ?_) | (refine Ints.ix (c := 0) (by assumption) (by omega) ?_) | (refine Mat.ix (c := 0) (by assumption) (by omega) ?_) | (refine Ints.ix (c := 0) (Mat.row (by assumption) _ (by omega)) (by omega) ?_) | (refine Ints.ixI (by assumption) (by omega) ?_) | (refine Mat.ixI (by assumption) (by omega) ?_) | (refine Ints.ixI (Mat.row (by assumption) _ (by omega)) (by omega) ?_) | (refine Ints.ld (by assumption) (by omega) ?_) | (refine Mat.ld (by assumption) (by omega) ?_) | (refine Ints.ld (Mat.row (by assumption) _ (by omega)) (by omega) ?_) | (refine At.ld (by assumption) rfl ?_) | (refine At.ldN (by assumption) rfl ?_) | (refine Prs.ln (by assumption) ?_) | (refine Trs.ln (by assumption) ?_) | (refine Prs.ix (by assumption) (by omega) ?_) | (refine Trs.ix (by assumption) (by omega) ?_) | (refine Prs.ldN (by assumption) (by omega) ?_) | (refine Trs.ldN (by assumption) (by omega) ?_) | (refine At.ldN (Blk.at (by assumption)) rfl ?_) | (refine At.ld (Blk.at (by assumption)) rfl ?_) | (refine IxA.mk (by omega) ?_) | (refine Sl.ln (Own.sl (by assumption)) ?_) | (refine Ints.ix (Own.sl (by assumption)) (by omega) ?_) | (refine Ints.ixI (Own.sl (by assumption)) (by omega) ?_) | (refine Ints.ld (Own.sl (by assumption)) (by omega) ?_))
                all_goals (refine ⟨_, (by omega : (poor rr l).length - (d + 1) < (poor rr l).length - d), rfl, d + 1, by omega, rfl, rfl, (congrArg Value.bool (tfq_old hpo)), rfl⟩)
              · rw [tf_f hpo]
                repeat' ((conv => whnf); first | (refine Dr.quiet tyOk (by kernel_rfl) ?_) | (refine Ints.lde HSI hX hcl ?_) | (refine Rng.mk (by omega) ?_) | (refine Split.pos (by omega) ?_) | (refine Split.neg (by omega) ?_) | (refine Split.mk (fun h => ?_) (fun h => ?_)) | (refine Need.mk (by omega) ?_) | (refine Ints.ln (by assumption) ?_) | (refine Mat.ln (by assumption) ?_) | (refine Ints.ln (Mat.row (by assumption) _ (by omega)) ?_) | (refine Ints.ix (by assumption) (by omega) ?_) | (refine Mat.ix (by assumption) (by omega) ?_) | (refine Ints.ix (Mat.row (by assumption) _ (by omega)) (by omega) ?_) | (refine Ints.ix (c := 0) (by assumption) (by omega) ?_) | (refine Mat.ix (c := 0) (by assumption) (by omega) ?_) | (refine Ints.ix (c := 0) (Mat.row (by assumption) _ (by omega)) (by omega) ?_) | (refine Ints.ixI (by assumption) (by omega) ?_) | (refine Mat.ixI (by assumption) (by omega) ?_) | (refine Ints.ixI (Mat.row (by assumption) _ (by omega)) (by omega) ?_) | (refine Ints.ld (by assumption) (by omega) ?_) | (refine Mat.ld (by assumption) (by omega) ?_) | (refine Ints.ld (Mat.row (by assumption) _ (by omega)) (by omega) ?_) | (refine At.ld (by assumption) rfl ?_) | (refine At.ldN (by assumption) rfl ?_) | (refine Prs.ln (by assumption) ?_) | (refine Trs.ln (by assumption) ?_) | (refine Prs.ix (by assumption) (by omega) ?_) | (refine Trs.ix (by assumption) (by omega) ?_) | (refine Prs.ldN (by assumption) (by omega) ?_) | (refine Trs.ldN (by assumption) (by omega) ?_) | (refine At.ldN (Blk.at (by assumption)) rfl ?_) | (refine At.ld (Blk.at (by assumption)) rfl ?_) | (refine IxA.mk (by omega) ?_) | (refine Sl.ln (Own.sl (by assumption)) ?_) | (refine Ints.ix (Own.sl (by assumption)) (by omega) ?_) | (refine Ints.ixI (Own.sl (by assumption)) (by omega) ?_) | (refine Ints.ld (Own.sl (by assumption)) (by omega) ?_))
                all_goals first | (refine ⟨_, (by omega : (poor rr l).length - (d + 1) < (poor rr l).length - d), rfl, d + 1, by omega, rfl, rfl, (congrArg Value.bool (tfq_new (by omega))), rfl⟩) | (refine ⟨_, (by omega : (poor rr l).length - (d + 1) < (poor rr l).length - d), rfl, d + 1, by omega, rfl, rfl, (congrArg Value.bool (tfq_no hpo (by omega))), rfl⟩)
            · obtain rfl : d = (poor rr l).length := by omega
              rw [tf_t hmem]
              repeat' ((conv => whnf); first | (refine Dr.quiet tyOk (by kernel_rfl) ?_) | (refine Rng.mk (by omega) ?_) | (refine Split.pos (by omega) ?_) | (refine Split.neg (by omega) ?_) | (refine Split.mk (fun h => ?_) (fun h => ?_)) | (refine Need.mk (by omega) ?_) | (refine Ints.ln (by assumption) ?_) | (refine Mat.ln (by assumption) ?_) | (refine Ints.ln (Mat.row (by assumption) _ (by omega)) ?_) | (refine Ints.ix (by assumption) (by omega) ?_) | (refine Mat.ix (by assumption) (by omega) ?_) | (refine Ints.ix (Mat.row (by assumption) _ (by omega)) (by omega) ?_) | (refine Ints.ix (c := 0) (by assumption) (by omega) ?_) | (refine Mat.ix (c := 0) (by assumption) (by omega) ?_) | (refine Ints.ix (c := 0) (Mat.row (by assumption) _ (by omega)) (by omega) ?_) | (refine Ints.ixI (by assumption) (by omega) ?_) | (refine Mat.ixI (by assumption) (by omega) ?_) | (refine Ints.ixI (Mat.row (by assumption) _ (by omega)) (by omega) ?_) | (refine Ints.ld (by assumption) (by omega) ?_) | (refine Mat.ld (by assumption) (by omega) ?_) | (refine Ints.ld (Mat.row (by assumption) _ (by omega)) (by omega) ?_) | (refine At.ld (by assumption) rfl ?_) | (refine At.ldN (by assumption) rfl ?_) | (refine Prs.ln (by assumption) ?_) | (refine Trs.ln (by assumption) ?_) | (refine Prs.ix (by assumption) (by omega) ?_) | (refine Trs.ix (by assumption) (by omega) ?_) | (refine Prs.ldN (by assumption) (by omega) ?_) | (refine Trs.ldN (by assumption) (by omega) ?_) | (refine At.ldN (Blk.at (by assumption)) rfl ?_) | (refine At.ld (Blk.at (by assumption)) rfl ?_) | (refine IxA.mk (by omega) ?_) | (refine Sl.ln (Own.sl (by assumption)) ?_) | (refine Ints.ix (Own.sl (by assumption)) (by omega) ?_) | (refine Ints.ixI (Own.sl (by assumption)) (by omega) ?_) | (refine Ints.ld (Own.sl (by assumption)) (by omega) ?_))
              refine ⟨_, (by omega : (shortL rr l (shA rr)).length - (c + 1) < (shortL rr l (shA rr)).length - c), rfl, c + 1, by omega, rfl, rfl, rfl⟩
        · repeat' ((conv => whnf); first | (refine Dr.quiet tyOk (by kernel_rfl) ?_) | (refine Rng.mk (by omega) ?_) | (refine Split.pos (by omega) ?_) | (refine Split.neg (by omega) ?_) | (refine Split.mk (fun h => ?_) (fun h => ?_)) | (refine Need.mk (by omega) ?_) | (refine Ints.ln (by assumption) ?_) | (refine Mat.ln (by assumption) ?_) | (refine Ints.ln (Mat.row (by assumption) _ (by omega)) ?_) | (refine Ints.ix (by assumption) (by omega) ?_) | (refine Mat.ix (by assumption) (by omega) ?_) | (refine Ints.ix (Mat.row (by assumption) _ (by omega)) (by omega) ?_) | (refine Ints.ix (c := 0) (by assumption) (by omega) ?_) | (refine Mat.ix (c := 0) (by assumption) (by omega) ?_) | (refine Ints.ix (c := 0) (Mat.row (by assumption) _ (by omega)) (by omega) ?_) | (refine Ints.ixI (by assumption) (by omega) ?_) | (refine Mat.ixI (by assumption) (by omega) ?_) | (refine Ints.ixI (Mat.row (by assumption) _ (by omega)) (by omega) ?_) | (refine Ints.ld (by assumption) (by omega) ?_) | (refine Mat.ld (by assumption) (by omega) ?_) | (refine Ints.ld (Mat.row (by assumption) _ (by omega)) (by omega) ?_) | (refine At.ld (by assumption) rfl ?_) | (refine At.ldN (by assumption) rfl ?_) | (refine Prs.ln (by assumption) ?_) | (refine Trs.ln (by assumption) ?_) | (refine Prs.ix (by assumption) (by omega) ?_) | (refine Trs.ix (by assumption) (by omega) ?_) | (refine Prs.ldN (by assumption) (by omega) ?_) | (refine Trs.ldN (by assumption) (by omega) ?_) | (refine At.ldN (Blk.at (by assumption)) rfl ?_) | (refine At.ld (Blk.at (by assumption)) rfl ?_) | (refine IxA.mk (by omega) ?_) | (refine Sl.ln (Own.sl (by assumption)) ?_) | (refine Ints.ix (Own.sl (by assumption)) (by omega) ?_) | (refine Ints.ixI (Own.sl (by assumption)) (by omega) ?_) | (refine Ints.ld (Own.sl (by assumption)) (by omega) ?_))
          refine Lp.mk tyOk [false, false, false, false, true, false, false, false, false, false, false, false, false, false, false, false, false, false, true, true, false, false, false, false, false, false, false, false, false, false, false, false, false, false, false, false, false, false, false, false, false, false, false, false, false, false, false, false, false, false, false, false, false, false, false, false, false, false, false, false, false, false, false, false, false, false, false, false, false, false, false, false, false, false, false, false, false, false, false, false, false, false, false, false, false, false, false, false, false, false, false, false, false, false, false, false, false, false, false, false, false, false, false, false, false, false, false, false, true, true, true, true, true, true, true, true, true, true, true, true, true, true, true, true, true, true, true, true, true, true, true, true, true, true, true, true, true] (fun m fr wr => getK fr 18 fun k => ∃ d : Nat, d ≤ rr.length ∧ m = rr.length - d ∧ k = .int .i64 (d : Int) ∧ wr = w7) (rr.length) ?_ ?_
          · exact ⟨0, Nat.zero_le _, rfl, rfl, rfl⟩
          · intro m w9 u4 u18 u19 u108 u109 u110 u111 u112 u113 u114 u115 u116 u117 u118 u119 u120 u121 u122 u123 u124 u125 u126 u127 u128 u129 u130 u131 u132 u133 u134 u135 u136 hR
            obtain ⟨d, hd, rfl, rfl, rfl⟩ := hR
            by_cases hdl : d < rr.length
            · have cw := worth_pc (k := (d : Int)) Hg Hl hdl (by have := hal.row d hdl; omega) hal.val (by omega)
              have cc := complete_pc Hl
              have hS := shA_get hck hdl
              have hb := shB_bd (i := d) hck hn1
              have hwb := wth_bd (a := l) hgd d d
              have hmul := mul_bd (n := ((shA rr).length : Int)) (N := 6) (x := wth rr l d d) (X := 10000) (by omega) (by omega) hwb.1 (by omega)
              by_cases hcm : compl l
              · rw [tf_t hcm] at cc
                by_cases hx : (oneX rr l).length = 0
                · have hef : (shB rr d rr.length).1 ≤ ((shA rr).length : Int) * wth rr l d d := by rw [hAl]; exact ef1_share hvl hcm (List.length_eq_zero_iff.1 hx) hdl
                  repeat' ((conv => whnf); first | (refine Dr.quiet tyOk (by kernel_rfl) ?_) | (refine VC.pure cw ?_) | (refine VC.pure cc ?_) | (refine Ints.lde HAI hS (by omega) ?_) | (refine Rng.mk (by omega) ?_) | (refine Split.pos (by omega) ?_) | (refine Split.neg (by omega) ?_) | (refine Split.mk (fun h => ?_) (fun h => ?_)) | (refine Need.mk (by omega) ?_) | (refine Ints.ln (by assumption) ?_) | (refine Mat.ln (by assumption) ?_) | (refine Ints.ln (Mat.row (by assumption) _ (by omega)) ?_) | (refine Ints.ix (by assumption) (by omega) ?_) | (refine Mat.ix (by assumption) (by omega) ?_) | (refine Ints.ix (Mat.row (by assumption) _ (by omega)) (by omega) ?_) | (refine Ints.ix (c := 0) (by assumption) (by omega) ?_) | (refine Mat.ix (c := 0) (by assumption) (by omega) ?_) | (refine Ints.ix (c := 0) (Mat.row (by assumption) _ (by omega)) (by omega) ?_) | (refine Ints.ixI (by assumption) (by omega) ?_) | (refine Mat.ixI (by assumption) (by omega) ?_) | (refine Ints.ixI (Mat.row (by assumption) _ (by omega)) (by omega) ?_) | (refine Ints.ld (by assumption) (by omega) ?_) | (refine Mat.ld (by assumption) (by omega) ?_) | (refine Ints.ld (Mat.row (by assumption) _ (by omega)) (by omega) ?_) | (refine At.ld (by assumption) rfl ?_) | (refine At.ldN (by assumption) rfl ?_) | (refine Prs.ln (by assumption) ?_) | (refine Trs.ln (by assumption) ?_) | (refine Prs.ix (by assumption) (by omega) ?_) | (refine Trs.ix (by assumption) (by omega) ?_) | (refine Prs.ldN (by assumption) (by omega) ?_) | (refine Trs.ldN (by assumption) (by omega) ?_) | (refine At.ldN (Blk.at (by assumption)) rfl ?_) | (refine At.ld (Blk.at (by assumption)) rfl ?_) | (refine IxA.mk (by omega) ?_) | (refine Sl.ln (Own.sl (by assumption)) ?_) | (refine Ints.ix (Own.sl (by assumption)) (by omega) ?_) | (refine Ints.ixI (Own.sl (by assumption)) (by omega) ?_) | (refine Ints.ld (Own.sl (by assumption)) (by omega) ?_))
                  refine ⟨_, (by omega : rr.length - (d + 1) < rr.length - d), rfl, d + 1, by omega, rfl, rfl, rfl⟩
                · repeat' ((conv => whnf); first | (refine Dr.quiet tyOk (by kernel_rfl) ?_) | (refine VC.pure cw ?_) | (refine VC.pure cc ?_) | (refine Rng.mk (by omega) ?_) | (refine Split.pos (by omega) ?_) | (refine Split.neg (by omega) ?_) | (refine Split.mk (fun h => ?_) (fun h => ?_)) | (refine Need.mk (by omega) ?_) | (refine Ints.ln (by assumption) ?_) | (refine Mat.ln (by assumption) ?_) | (refine Ints.ln (Mat.row (by assumption) _ (by omega)) ?_) | (refine Ints.ix (by assumption) (by omega) ?_) | (refine Mat.ix (by assumption) (by omega) ?_) | (refine Ints.ix (Mat.row (by assumption) _ (by omega)) (by omega) ?_) | (refine Ints.ix (c := 0) (by assumption) (by omega) ?_) | (refine Mat.ix (c := 0) (by assumption) (by omega) ?_) | (refine Ints.ix (c := 0) (Mat.row (by assumption) _ (by omega)) (by omega) ?_) | (refine Ints.ixI (by assumption) (by omega) ?_) | (refine Mat.ixI (by assumption) (by omega) ?_) | (refine Ints.ixI (Mat.row (by assumption) _ (by omega)) (by omega) ?_) | (refine Ints.ld (by assumption) (by omega) ?_) | (refine Mat.ld (by assumption) (by omega) ?_) | (refine Ints.ld (Mat.row (by assumption) _ (by omega)) (by omega) ?_) | (refine At.ld (by assumption) rfl ?_) | (refine At.ldN (by assumption) rfl ?_) | (refine Prs.ln (by assumption) ?_) | (refine Trs.ln (by assumption) ?_) | (refine Prs.ix (by assumption) (by omega) ?_) | (refine Trs.ix (by assumption) (by omega) ?_) | (refine Prs.ldN (by assumption) (by omega) ?_) | (refine Trs.ldN (by assumption) (by omega) ?_) | (refine At.ldN (Blk.at (by assumption)) rfl ?_) | (refine At.ld (Blk.at (by assumption)) rfl ?_) | (refine IxA.mk (by omega) ?_) | (refine Sl.ln (Own.sl (by assumption)) ?_) | (refine Ints.ix (Own.sl (by assumption)) (by omega) ?_) | (refine Ints.ixI (Own.sl (by assumption)) (by omega) ?_) | (refine Ints.ld (Own.sl (by assumption)) (by omega) ?_))
                  refine ⟨_, (by omega : rr.length - (d + 1) < rr.length - d), rfl, d + 1, by omega, rfl, rfl, rfl⟩
              · rw [tf_f hcm] at cc
                repeat' ((conv => whnf); first | (refine Dr.quiet tyOk (by kernel_rfl) ?_) | (refine VC.pure cw ?_) | (refine VC.pure cc ?_) | (refine Rng.mk (by omega) ?_) | (refine Split.pos (by omega) ?_) | (refine Split.neg (by omega) ?_) | (refine Split.mk (fun h => ?_) (fun h => ?_)) | (refine Need.mk (by omega) ?_) | (refine Ints.ln (by assumption) ?_) | (refine Mat.ln (by assumption) ?_) | (refine Ints.ln (Mat.row (by assumption) _ (by omega)) ?_) | (refine Ints.ix (by assumption) (by omega) ?_) | (refine Mat.ix (by assumption) (by omega) ?_) | (refine Ints.ix (Mat.row (by assumption) _ (by omega)) (by omega) ?_) | (refine Ints.ix (c := 0) (by assumption) (by omega) ?_) | (refine Mat.ix (c := 0) (by assumption) (by omega) ?_) | (refine Ints.ix (c := 0) (Mat.row (by assumption) _ (by omega)) (by omega) ?_) | (refine Ints.ixI (by assumption) (by omega) ?_) | (refine Mat.ixI (by assumption) (by omega) ?_) | (refine Ints.ixI (Mat.row (by assumption) _ (by omega)) (by omega) ?_) | (refine Ints.ld (by assumption) (by omega) ?_) | (refine Mat.ld (by assumption) (by omega) ?_) | (refine Ints.ld (Mat.row (by assumption) _ (by omega)) (by omega) ?_) | (refine At.ld (by assumption) rfl ?_) | (refine At.ldN (by assumption) rfl ?_) | (refine Prs.ln (by assumption) ?_) | (refine Trs.ln (by assumption) ?_) | (refine Prs.ix (by assumption) (by omega) ?_) | (refine Trs.ix (by assumption) (by omega) ?_) | (refine Prs.ldN (by assumption) (by omega) ?_) | (refine Trs.ldN (by assumption) (by omega) ?_) | (refine At.ldN (Blk.at (by assumption)) rfl ?_) | (refine At.ld (Blk.at (by assumption)) rfl ?_) | (refine IxA.mk (by omega) ?_) | (refine Sl.ln (Own.sl (by assumption)) ?_) | (refine Ints.ix (Own.sl (by assumption)) (by omega) ?_) | (refine Ints.ixI (Own.sl (by assumption)) (by omega) ?_) | (refine Ints.ld (Own.sl (by assumption)) (by omega) ?_))
                refine ⟨_, (by omega : rr.length - (d + 1) < rr.length - d), rfl, d + 1, by omega, rfl, rfl, rfl⟩
            · repeat' ((conv => whnf); first | (refine Dr.quiet tyOk (by kernel_rfl) ?_) | (refine Rng.mk (by omega) ?_) | (refine Split.pos (by omega) ?_) | (refine Split.neg (by omega) ?_) | (refine Split.mk (fun h => ?_) (fun h => ?_)) | (refine Need.mk (by omega) ?_) | (refine Ints.ln (by assumption) ?_) | (refine Mat.ln (by assumption) ?_) | (refine Ints.ln (Mat.row (by assumption) _ (by omega)) ?_) | (refine Ints.ix (by assumption) (by omega) ?_) | (refine Mat.ix (by assumption) (by omega) ?_) | (refine Ints.ix (Mat.row (by assumption) _ (by omega)) (by omega) ?_) | (refine Ints.ix (c := 0) (by assumption) (by omega) ?_) | (refine Mat.ix (c := 0) (by assumption) (by omega) ?_) | (refine Ints.ix (c := 0) (Mat.row (by assumption) _ (by omega)) (by omega) ?_) | (refine Ints.ixI (by assumption) (by omega) ?_) | (refine Mat.ixI (by assumption) (by omega) ?_) | (refine Ints.ixI (Mat.row (by assumption) _ (by omega)) (by omega) ?_) | (refine Ints.ld (by assumption) (by omega) ?_) | (refine Mat.ld (by assumption) (by omega) ?_) | (refine Ints.ld (Mat.row (by assumption) _ (by omega)) (by omega) ?_) | (refine At.ld (by assumption) rfl ?_) | (refine At.ldN (by assumption) rfl ?_) | (refine Prs.ln (by assumption) ?_) | (refine Trs.ln (by assumption) ?_) | (refine Prs.ix (by assumption) (by omega) ?_) | (refine Trs.ix (by assumption) (by omega) ?_) | (refine Prs.ldN (by assumption) (by omega) ?_) | (refine Trs.ldN (by assumption) (by omega) ?_) | (refine At.ldN (Blk.at (by assumption)) rfl ?_) | (refine At.ld (Blk.at (by assumption)) rfl ?_) | (refine IxA.mk (by omega) ?_) | (refine Sl.ln (Own.sl (by assumption)) ?_) | (refine Ints.ix (Own.sl (by assumption)) (by omega) ?_) | (refine Ints.ixI (Own.sl (by assumption)) (by omega) ?_) | (refine Ints.ld (Own.sl (by assumption)) (by omega) ?_))
              exact ⟨rfl, EE⟩
    · repeat' ((conv => whnf); first | (refine Dr.quiet tyOk (by kernel_rfl) ?_) | (refine VC.pure alive20_pc ?_) | (refine VC.pure cf ?_) | (refine VC.pure cvl ?_) | (refine Rng.mk (by omega) ?_) | (refine Split.pos (by omega) ?_) | (refine Split.neg (by omega) ?_) | (refine Split.mk (fun h => ?_) (fun h => ?_)) | (refine Need.mk (by omega) ?_) | (refine Ints.ln (by assumption) ?_) | (refine Mat.ln (by assumption) ?_) | (refine Ints.ln (Mat.row (by assumption) _ (by omega)) ?_) | (refine Ints.ix (by assumption) (by omega) ?_) | (refine Mat.ix (by assumption) (by omega) ?_) | (refine Ints.ix (Mat.row (by assumption) _ (by omega)) (by omega) ?_) | (refine Ints.ix (c := 0) (by assumption) (by omega) ?_) | (refine Mat.ix (c := 0) (by assumption) (by omega) ?_) | (refine Ints.ix (c := 0) (Mat.row (by assumption) _ (by omega)) (by omega) ?_) | (refine Ints.ixI (by assumption) (by omega) ?_) | (refine Mat.ixI (by assumption) (by omega) ?_) | (refine Ints.ixI (Mat.row (by assumption) _ (by omega)) (by omega) ?_) | (refine Ints.ld (by assumption) (by omega) ?_) | (refine Mat.ld (by assumption) (by omega) ?_) | (refine Ints.ld (Mat.row (by assumption) _ (by omega)) (by omega) ?_) | (refine At.ld (by assumption) rfl ?_) | (refine At.ldN (by assumption) rfl ?_) | (refine Prs.ln (by assumption) ?_) | (refine Trs.ln (by assumption) ?_) | (refine Prs.ix (by assumption) (by omega) ?_) | (refine Trs.ix (by assumption) (by omega) ?_) | (refine Prs.ldN (by assumption) (by omega) ?_) | (refine Trs.ldN (by assumption) (by omega) ?_) | (refine At.ldN (Blk.at (by assumption)) rfl ?_) | (refine At.ld (Blk.at (by assumption)) rfl ?_) | (refine IxA.mk (by omega) ?_) | (refine Sl.ln (Own.sl (by assumption)) ?_) | (refine Ints.ix (Own.sl (by assumption)) (by omega) ?_) | (refine Ints.ixI (Own.sl (by assumption)) (by omega) ?_) | (refine Ints.ld (Own.sl (by assumption)) (by omega) ?_))
      exact ⟨rfl, EE⟩
  · rw [tf_f hf] at cf
    repeat' ((conv => whnf); first | (refine Dr.quiet tyOk (by kernel_rfl) ?_) | (refine VC.pure alive20_pc ?_) | (refine VC.pure cf ?_) | (refine Rng.mk (by omega) ?_) | (refine Split.pos (by omega) ?_) | (refine Split.neg (by omega) ?_) | (refine Split.mk (fun h => ?_) (fun h => ?_)) | (refine Need.mk (by omega) ?_) | (refine Ints.ln (by assumption) ?_) | (refine Mat.ln (by assumption) ?_) | (refine Ints.ln (Mat.row (by assumption) _ (by omega)) ?_) | (refine Ints.ix (by assumption) (by omega) ?_) | (refine Mat.ix (by assumption) (by omega) ?_) | (refine Ints.ix (Mat.row (by assumption) _ (by omega)) (by omega) ?_) | (refine Ints.ix (c := 0) (by assumption) (by omega) ?_) | (refine Mat.ix (c := 0) (by assumption) (by omega) ?_) | (refine Ints.ix (c := 0) (Mat.row (by assumption) _ (by omega)) (by omega) ?_) | (refine Ints.ixI (by assumption) (by omega) ?_) | (refine Mat.ixI (by assumption) (by omega) ?_) | (refine Ints.ixI (Mat.row (by assumption) _ (by omega)) (by omega) ?_) | (refine Ints.ld (by assumption) (by omega) ?_) | (refine Mat.ld (by assumption) (by omega) ?_) | (refine Ints.ld (Mat.row (by assumption) _ (by omega)) (by omega) ?_) | (refine At.ld (by assumption) rfl ?_) | (refine At.ldN (by assumption) rfl ?_) | (refine Prs.ln (by assumption) ?_) | (refine Trs.ln (by assumption) ?_) | (refine Prs.ix (by assumption) (by omega) ?_) | (refine Trs.ix (by assumption) (by omega) ?_) | (refine Prs.ldN (by assumption) (by omega) ?_) | (refine Trs.ldN (by assumption) (by omega) ?_) | (refine At.ldN (Blk.at (by assumption)) rfl ?_) | (refine At.ld (Blk.at (by assumption)) rfl ?_) | (refine IxA.mk (by omega) ?_) | (refine Sl.ln (Own.sl (by assumption)) ?_) | (refine Ints.ix (Own.sl (by assumption)) (by omega) ?_) | (refine Ints.ixI (Own.sl (by assumption)) (by omega) ?_) | (refine Ints.ld (Own.sl (by assumption)) (by omega) ?_))
    exact ⟨rfl, EE⟩

open Go.ChangeShapes Go.WideShapes Go.ChangeAt Go.RowKit Go.Eng in
theorem shareNear_lifted (os : Os) (started : os.Started) (H : Type) (enc : TypeId × Value → H) :
    ReturnsInHanded {} Try.checked os 15 .any (Rows.shareNearSpec.pre6 enc Try.prog Try.f15 Rows.shareNearRow.domain false) (Rows.shareNearSpec.post enc Try.prog Try.f15 false true false false) := by
  refine returnsInHanded_of_change (C := Try.checked) own started (by kernel_rfl) Try.func15
    (ChangeSpec.witness6 (enc := enc) (C := Try.checked) false ⟨#[], #[.agg #[.slice none 0 0], .slice none 0 0], []⟩ 8 (by kernel_rfl) (by kernel_rfl) (by kernel_rfl) (by kernel_rfl)) ?_
  intro W base args ds gs before hval0 hW hcnd _
  have hval : ∀ (j : Nat) t v, Try.f15.params[j]? = some t → args[j]? = some v → Value.okWide Try.prog W .any base t v := hval0
  have hW' := hW
  obtain ⟨p, q, hA0, hV, e0, hfz, hnd⟩ := hW
  have hA : DataW.TrodAll enc Try.prog W 0 (fun _ => true) true Try.f15.params.toList args.toList ds p := hA0
  rw [Try.params15] at hA hval
  clear hfz hnd hV e0 hval0
  obtain ⟨v0, vs0, d0, ds0, p0, q0, e0, rfl, f0, h0, t0⟩ := trodAll_cons hA
  obtain ⟨v1, vs1, d1, ds1, p1, q1, e1, rfl, f1, h1, t1⟩ := trodAll_cons t0
  subst e1
  obtain ⟨ee, rfl, _⟩ := trodAll_nil t1
  subst ee
  obtain rfl : args = #[v0, v1] := Array.toList_inj.1 (by simpa using e0)
  obtain ⟨g0, s0, r0, rfl, H0, R0⟩ := open_G Try.underlying24 rfl (by kernel_rfl) (by kernel_rfl) Try.underlying22 Try.underlying27 Try.underlying3 (by kernel_rfl) (by kernel_rfl) (hval 0 24 _ rfl rfl) h0
  obtain ⟨l1, H1, R1⟩ := open_L Try.underlying27 Try.underlying3 (by kernel_rfl) (hval 1 27 _ rfl rfl) h1
  exact law_calls laidOut (by rw [Try.params15]; intro t ht; revert t; decide +kernel) rfl Try.underlying4 rfl ⟨rfl, rfl, rfl⟩ hW' (sharenear_pc H0 H1)

theorem shareNear_holds : Rows.ShareNearSaid :=
  OpenClaim.holds_of_wide 15 Try.f15 rfl rfl rfl rfl rfl rfl rfl ⟨rfl, rfl, rfl, rfl, rfl⟩ rfl rfl rfl rfl rfl (by kernel_rfl) Try.func15 (by kernel_rfl)
    (of_decide_eq_true (by kernel_rfl)) (by unfold Func.isWrapper; first | (rw [if_pos (by decide +kernel)]; kernel_rfl) | (rw [if_neg (by decide +kernel)]; exact ⟨rfl, rfl⟩))
    (fun os started H enc _ => shareNear_lifted os started H enc)
end Go.Proofs.Ytkgogljfngplnaa
