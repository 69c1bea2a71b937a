/- The statement ShareKept. -/
import Derived.Test.YtkgogljfngplnaaJ4
import Derived.Test.YtkgogljfngplnaaRows
set_option linter.unusedVariables false
set_option linter.unusedSimpArgs false
namespace Go.Proofs.Ytkgogljfngplnaa
open Go.Eng

/-- the sum of the first c numbers -/
def sB (f : Nat → Int) : Nat → Int
  | 0 => 0
  | c + 1 => sB f c + f c
theorem mn_sum {f : Nat → Int} : ∀ {c : Nat}, mnTo f c * ((c + 1 : Nat) : Int) ≤ sB f (c + 1)
  | 0 => by simp [mnTo, sB]
  | c + 1 => by
    have ih := mn_sum (f := f) (c := c)
    have e : sB f (c + 1 + 1) = sB f (c + 1) + f (c + 1) := rfl
    rw [e]
    have h1 : mnTo f (c + 1) ≤ mnTo f c := by simp only [mnTo]; omega
    have h2 : mnTo f (c + 1) ≤ f (c + 1) := by simp only [mnTo]; omega
    have h3 := Int.mul_le_mul_of_nonneg_right h1 (Int.natCast_nonneg (c + 1))
    have e2 : ((c + 1 + 1 : Nat) : Int) = ((c + 1 : Nat) : Int) + 1 := by omega
    rw [e2, Int.mul_add, Int.mul_one]
    omega
theorem sB_pick {r : Int} {k : Nat} : ∀ {c : Nat}, sB (fun b : Nat => if (k : Int) = (b : Int) then r else 0) c = if k < c then r else 0
  | 0 => rfl
  | c + 1 => by
    have ih := sB_pick (r := r) (k := k) (c := c)
    simp only [sB]
    rw [ih]
    by_cases h : k = c
    · subst h; simp
    · rw [if_neg (show ¬ (k : Int) = (c : Int) by omega)]
      by_cases h2 : k < c
      · rw [if_pos h2, if_pos (by omega)]; omega
      · rw [if_neg h2, if_neg (by omega)]; omega
theorem sB_add {f g : Nat → Int} : ∀ {c : Nat}, sB (fun b => f b + g b) c = sB f c + sB g c
  | 0 => rfl
  | c + 1 => by have := sB_add (f := f) (g := g) (c := c); simp only [sB]; omega
theorem sB_zero {f : Nat → Int} : ∀ {c : Nat}, (∀ b, b < c → f b = 0) → sB f c = 0
  | 0, _ => rfl
  | c + 1, h => by simp only [sB]; rw [sB_zero (fun b hb => h b (by omega)), h c (by omega)]; rfl
theorem sB_worth {l r : List Int} {n : Nat} (h : rng l n) : ∀ {c : Nat}, c ≤ l.length → sB (fun b : Nat => worth l r b c) n = sumTo r c
  | 0, _ => sB_zero fun b _ => rfl
  | c + 1, hc => by
    have ih := sB_worth (r := r) h (c := c) (by omega)
    have hk := h c (by omega)
    have e : sB (fun b : Nat => worth l r b (c + 1)) n = sB (fun b : Nat => worth l r b c + if l.getD c 0 = (b : Int) then r.getD c 0 else 0) n := rfl
    rw [e, sB_add, ih]
    obtain ⟨k, hk2⟩ : ∃ k : Nat, l.getD c 0 = (k : Int) := ⟨(l.getD c 0).toNat, by omega⟩
    rw [hk2, sB_pick, if_pos (by omega)]
    rfl
theorem leastP_sum {r l : List Int} {n : Nat} (h : rng l n) (hn : 1 ≤ n) : leastP r l n * (n : Int) ≤ sumTo r l.length := by
  have h1 := mn_sum (f := fun b : Nat => worth l r b l.length) (c := n - 1)
  rw [show n - 1 + 1 = n by omega, sB_worth h (Nat.le_refl _)] at h1
  exact h1
theorem lexlt_tri : ∀ {a b : List Int}, a.length = b.length → a = b ∨ lexlt a b ∨ lexlt b a
  | [], [], _ => .inl rfl
  | [], _ :: _, h => by simp at h
  | _ :: _, [], h => by simp at h
  | x :: a, y :: b, h => by
    rcases Int.lt_trichotomy x y with e | e | e
    · exact .inr (.inl (.inl e))
    · subst e
      rcases lexlt_tri (a := a) (b := b) (by simpa using h) with e | e | e
      · subst e; exact .inl rfl
      · exact .inr (.inl (.inr ⟨rfl, e⟩))
      · exact .inr (.inr (.inr ⟨rfl, e⟩))
    · exact .inr (.inr (.inl e))
theorem shB_top {rr : List (List Int)} {i n : Nat} (h : chk rr = 0) (hn : 1 ≤ n) : top (fun l => leastP (rr.getD i []) l n) (lsts n (mOf rr) (n ^ mOf rr)) (shB rr i n).2 ∧ (shB rr i n).1 = leastP (rr.getD i []) (shB rr i n).2 n := by
  have hgd := gd_of_chk h
  have hm := hgd.m10
  rw [shB_all h hn]
  have hb : ∀ y, y ∈ lsts n (mOf rr) (n ^ mOf rr) → -1 < leastP (rr.getD i []) y n := fun y hy => by
    have := leastP_bd (n := n) (fun j => hgd.val i j) (show y.length ≤ 10 by rw [((lsts_mem hn).1 hy).1]; exact hm)
    have h2 : 0 ≤ leastP (rr.getD i []) y n := this.1
    omega
  have hne : lsts n (mOf rr) (n ^ mOf rr) ≠ [] := by
    have hT : 0 < n ^ mOf rr := Nat.pow_pos (by omega)
    have : digs n (mOf rr) 0 ∈ lsts n (mOf rr) (n ^ mOf rr) := List.mem_map.2 ⟨0, List.mem_range.2 hT, rfl⟩
    intro e; rw [e] at this; simp at this
  obtain ⟨x, hx, e⟩ := bst_top (f := fun l => leastP (rr.getD i []) l n) (lsts_pair hn) hb hne
  rw [e]; exact ⟨hx, rfl⟩
/-- a partition of the goods -/
def isP (l : List Int) (m n : Nat) : Prop := l.length = m ∧ rng l n
theorem shB_is {rr : List (List Int)} {i n : Nat} (h : chk rr = 0) (hn : 1 ≤ n) : isP (shB rr i n).2 (mOf rr) n := (lsts_mem hn).1 (shB_top h hn).1.1
theorem shB_ge {rr : List (List Int)} {i n : Nat} (h : chk rr = 0) (hn : 1 ≤ n) {l : List Int} (hl : isP l (mOf rr) n) : leastP (rr.getD i []) l n ≤ (shB rr i n).1 := by
  rw [(shB_top h hn).2]; exact (shB_top h hn).1.2.1 l ((lsts_mem hn).2 hl)
theorem shB_first {rr : List (List Int)} {i n : Nat} (h : chk rr = 0) (hn : 1 ≤ n) {l : List Int} (hl : isP l (mOf rr) n) (he : leastP (rr.getD i []) l n = (shB rr i n).1) : l = (shB rr i n).2 ∨ lexlt (shB rr i n).2 l := by
  have ht := (shB_top (i := i) h hn)
  rcases lexlt_tri (a := l) (b := (shB rr i n).2) (by rw [hl.1, (shB_is h hn).1]) with e | e | e
  · exact .inl e
  · have h2 : leastP (rr.getD i []) l n < leastP (rr.getD i []) (shB rr i n).2 n := ht.1.2.2 l ((lsts_mem hn).2 hl) e
    rw [he, ht.2] at h2; omega
  · exact .inr e
theorem shB_sum {rr : List (List Int)} {i n : Nat} (h : chk rr = 0) (hi : i < rr.length) (hn : 1 ≤ n) : (shB rr i n).1 * (n : Int) ≤ allv rr i := by
  have hp := shB_is (i := i) h hn
  have hrow := (gd_of_chk h).row i hi
  rw [(shB_top h hn).2]
  have := leastP_sum (r := rr.getD i []) hp.2 hn
  unfold allv
  rw [hrow]
  rw [hp.1] at this
  exact this
end Go.Proofs.Ytkgogljfngplnaa
set_option linter.unusedVariables false
set_option linter.unusedSimpArgs false
namespace Go.Proofs.Ytkgogljfngplnaa
open Go.Eng

theorem least_of {p : Nat → Prop} {k : Nat} : p k → ∃ j, j ≤ k ∧ p j ∧ ∀ q, q < j → ¬ p q := by
  induction k using Nat.strongRecOn with
  | ind k ih =>
    intro h
    by_cases e : ∃ q, q < k ∧ p q
    · obtain ⟨q, hq, hp⟩ := e
      obtain ⟨j, h1, h2, h3⟩ := ih q hq hp
      exact ⟨j, by omega, h2, h3⟩
    · exact ⟨k, Nat.le_refl _, h, fun q hq hp => e ⟨q, hq, hp⟩⟩

theorem fk_cases (rr : List (List Int)) : (∃ k, k < tot rr ∧ fkO rr = some (digs rr.length (mOf rr) k) ∧ kp rr (shA rr) (digs rr.length (mOf rr) k) ∧ ∀ q, q < k → ¬ kp rr (shA rr) (digs rr.length (mOf rr) q)) ∨
    (fkO rr = none ∧ ∀ q, q < tot rr → ¬ kp rr (shA rr) (digs rr.length (mOf rr) q)) := by
  by_cases h : ∃ k, k < tot rr ∧ kp rr (shA rr) (digs rr.length (mOf rr) k)
  · obtain ⟨k, hk, hp⟩ := h
    obtain ⟨j, hj, h2, h3⟩ := least_of (p := fun q => kp rr (shA rr) (digs rr.length (mOf rr) q)) hp
    exact .inl ⟨j, by omega, fk_at (by omega) h3 h2, h2, h3⟩
  · exact .inr ⟨fk_no fun q hq hp => h ⟨q, hq, hp⟩, fun q hq hp => h ⟨q, hq, hp⟩⟩

/-- what Find answers -/
theorem fk_what {rr : List (List Int)} (h : chk rr = 0) : (20000 < tot rr ∧ fkE rr = 4) ∨
    (¬ 20000 < tot rr ∧ fkE rr = 6 ∧ ∀ q, q < tot rr → ¬ kp rr (shA rr) (digs rr.length (mOf rr) q)) ∨
    (¬ 20000 < tot rr ∧ fkE rr = 0 ∧ ∃ k, k < tot rr ∧ fkR rr = digs rr.length (mOf rr) k ∧ kp rr (shA rr) (digs rr.length (mOf rr) k) ∧ ∀ q, q < k → ¬ kp rr (shA rr) (digs rr.length (mOf rr) q)) := by
  by_cases ht : 20000 < tot rr
  · exact .inl ⟨ht, fkE_many h ht⟩
  · rcases fk_cases rr with ⟨k, hk, hf, h1, h2⟩ | ⟨hf, h1⟩
    · have e := fkE_some h ht hf
      exact .inr (.inr ⟨ht, e, k, hk, by rw [fkR, if_pos e, hf]; rfl, h1, h2⟩)
    · exact .inr (.inl ⟨ht, fkE_none h ht hf, h1⟩)

/-- two agents: one cuts, the other one chooses -/
theorem two_kept {rr : List (List Int)} (h : chk rr = 0) (h2 : rr.length = 2) : ∃ l : List Int, l.length = mOf rr ∧ rng l 2 ∧ kp rr (shA rr) l := by
  have hgd := gd_of_chk h
  have hp := shB_is (i := 0) (n := 2) h (by decide)
  have ht := (shB_top (i := 0) (n := 2) h (by decide)).2
  have hs := shB_sum (i := 1) (n := 2) h (by omega) (by decide)
  have hrow := hgd.row 1 (by omega)
  have hmO : mOf rr = (rr.getD 0 []).length := rfl
  have hw := sB_worth (l := (shB rr 0 2).2) (r := rr.getD 1 []) hp.2 (Nat.le_refl _)
  have e0 := shA_get h (i := 0) (by omega)
  have e1 := shA_get h (i := 1) (by omega)
  rw [h2] at e0 e1
  have hw2 : (0 + worth (shB rr 0 2).2 (rr.getD 1 []) ((0 : Nat) : Int) (shB rr 0 2).2.length) + worth (shB rr 0 2).2 (rr.getD 1 []) ((1 : Nat) : Int) (shB rr 0 2).2.length = sumTo (rr.getD 1 []) (shB rr 0 2).2.length := hw
  have hm2 : (shB rr 0 2).1 = min (worth (shB rr 0 2).2 (rr.getD 0 []) ((0 : Nat) : Int) (shB rr 0 2).2.length) (worth (shB rr 0 2).2 (rr.getD 0 []) ((1 : Nat) : Int) (shB rr 0 2).2.length) := ht
  have hal : allv rr 1 = sumTo (rr.getD 1 []) (shB rr 0 2).2.length := by unfold allv; rw [hrow, hp.1]; rfl
  rw [hal] at hs
  by_cases hc : worth (shB rr 0 2).2 (rr.getD 1 []) ((0 : Nat) : Int) (shB rr 0 2).2.length ≤ worth (shB rr 0 2).2 (rr.getD 1 []) ((1 : Nat) : Int) (shB rr 0 2).2.length
  · refine ⟨_, hp.1, hp.2, fun i hi => ?_⟩
    have : i = 0 ∨ i = 1 := by omega
    rcases this with rfl | rfl
    · rw [e0]; omega
    · rw [e1]; omega
  · refine ⟨(shB rr 0 2).2.map (sw 0 1), by rw [List.length_map]; exact hp.1, fun k hk => ?_, fun i hi => ?_⟩
    · rw [List.length_map] at hk
      rw [map_getD hk]
      exact sw_rng (n := 2) (by decide) (by decide) (hp.2 k hk)
    · rw [List.length_map, worth_sw (Nat.le_refl _), sw_cast]
      have : i = 0 ∨ i = 1 := by omega
      rcases this with rfl | rfl
      · rw [e0, show swN 0 1 0 = 1 from rfl]; omega
      · rw [e1, show swN 0 1 1 = 0 from rfl]; omega

/-! ### fair up to one good -/
/-- a bundle from which no good was taken -/
theorem pigeon {n : Nat} {f : Nat → Int} {i : Nat} (hi : i < n) (hfi : f i = -1) : ∃ b : Nat, b < n ∧ ∀ k, k < n → f k ≠ (b : Int) := by
  refine Classical.byContradiction fun hno => ?_
  have hall : ∀ b : Nat, b < n → 1 ≤ cntTo ((List.range n).map f) (b : Int) n := fun b hb => by
    refine cntTo_pos.2 (Classical.byContradiction fun h => hno ⟨b, hb, fun k hk e => h ⟨k, hk, ?_⟩⟩)
    simpa [List.getD, hk] using e
  have h1 := (sumK_ones (f := fun b : Nat => cntTo ((List.range n).map f) (b : Int) n) hall).1
  rw [sum_cnt] at h1
  have h2 := inTo_bd ((List.range n).map f) n n
  have h3 := inTo_all (o := (List.range n).map f) (n := n) (c := n) (by omega) i hi
  rw [show ((List.range n).map f).getD i 0 = f i by simp [List.getD, hi], hfi] at h3
  omega

/-- the values without some goods -/
def cutR (r : List Int) (t : Nat → Prop) [DecidablePred t] : List Int := (List.range r.length).map fun j => if t j then 0 else r.getD j 0
theorem cutR_get {r : List Int} {t : Nat → Prop} [DecidablePred t] {j : Nat} : (cutR r t).getD j 0 = if t j then 0 else r.getD j 0 := by
  unfold cutR
  by_cases h : j < r.length
  · simp [List.getD, h]
  · rw [getD_out (by simp; omega), getD_out (by omega)]; split <;> rfl
theorem worth_cut_le {l r : List Int} {t : Nat → Prop} [DecidablePred t] {k : Int} (h : ∀ j, 0 ≤ r.getD j 0) : ∀ c, worth l (cutR r t) k c ≤ worth l r k c
  | 0 => Int.le_refl _
  | c + 1 => by
    have ih := worth_cut_le (l := l) (t := t) (k := k) h c
    have := h c
    simp only [worth]
    rw [cutR_get]
    by_cases e : l.getD c 0 = k
    · rw [if_pos e, if_pos e]; split <;> omega
    · rw [if_neg e, if_neg e]; omega
theorem worth_cut_one {l r : List Int} {t : Nat → Prop} [DecidablePred t] {k : Int} {g : Nat} (h : ∀ j, 0 ≤ r.getD j 0) (ht : t g) (hl : l.getD g 0 = k) : ∀ c, g < c → worth l (cutR r t) k c + r.getD g 0 ≤ worth l r k c
  | 0, hg => absurd hg (Nat.not_lt_zero _)
  | c + 1, hg => by
    have := h c
    simp only [worth]
    rw [cutR_get]
    by_cases e : g = c
    · subst e
      have ih := worth_cut_le (l := l) (t := t) (k := k) h g
      rw [if_pos hl, if_pos hl, if_pos ht]; omega
    · have ih := worth_cut_one (l := l) (t := t) (k := k) h ht hl c (by omega)
      by_cases e : l.getD c 0 = k
      · rw [if_pos e, if_pos e]; split <;> omega
      · rw [if_neg e, if_neg e]; omega
theorem worth_cut_eq {l r : List Int} {t : Nat → Prop} [DecidablePred t] {k : Int} : ∀ c, (∀ j, j < c → t j → l.getD j 0 ≠ k) → worth l (cutR r t) k c = worth l r k c
  | 0, _ => rfl
  | c + 1, h => by
    have ih := worth_cut_eq (l := l) (r := r) (t := t) (k := k) c (fun j hj => h j (by omega))
    simp only [worth]
    rw [cutR_get, ih]
    by_cases ht : t c
    · rw [if_neg (h c (by omega) ht)]; rw [if_neg (h c (by omega) ht)]
    · rw [if_neg ht]
theorem worth_le_sum {l r : List Int} {k : Int} (h : ∀ j, 0 ≤ r.getD j 0) : ∀ c, worth l r k c ≤ sumTo r c
  | 0 => Int.le_refl _
  | c + 1 => by
    have ih := worth_le_sum (l := l) (k := k) h c
    have := h c
    simp only [worth, sumTo]
    split <;> omega

open Classical in
theorem near_share {rr : List (List Int)} {a : List Int} (hv : vld rr a = 0) (hc : compl a) (h : oneX rr a = []) {i : Nat} (hi : i < rr.length) : (shB rr i rr.length).1 ≤ (rr.length : Int) * wth rr a i i := by
  have hck := (vld_zero hv).1
  have hgd := gd_of_chk hck
  have hal := al_of_vld hv
  have hlen : a.length = mOf rr := hal.len
  have hr : ∀ j, 0 ≤ (rr.getD i []).getD j 0 := fun j => (hgd.val i j).1
  have hp := shB_is (i := i) (n := rr.length) hck hgd.n1
  have htop := (shB_top (i := i) (n := rr.length) hck hgd.n1).2
  -- the good that is taken from each bundle
  have hex : ∀ k : Nat, ∃ g : Nat, (k < rr.length → wth rr a i i < wth rr a i k → g < a.length ∧ a.getD g 0 = (k : Int) ∧ wth rr a i k - wth rr a i i ≤ val rr i g) := fun k => by
    by_cases hk : k < rr.length ∧ wth rr a i i < wth rr a i k
    · obtain ⟨j, h1⟩ := (oneX_nil hv).1 h i k hi hk.1 hk.2
      exact ⟨j, fun _ _ => h1⟩
    · exact ⟨0, fun h1 h2 => absurd ⟨h1, h2⟩ hk⟩
  obtain ⟨G, hG⟩ : ∃ G : Nat → Nat, ∀ k, k < rr.length → wth rr a i i < wth rr a i k → G k < a.length ∧ a.getD (G k) 0 = (k : Int) ∧ wth rr a i k - wth rr a i i ≤ val rr i (G k) := ⟨fun k => (hex k).choose, fun k => (hex k).choose_spec⟩
  obtain ⟨b, hb, hnb⟩ := pigeon (n := rr.length) (f := fun k : Nat => if wth rr a i i < wth rr a i k then (shB rr i rr.length).2.getD (G k) 0 else -1) hi (by rw [if_neg (by omega)])
  let t : Nat → Prop := fun j => ∃ k : Nat, k < rr.length ∧ wth rr a i i < wth rr a i k ∧ G k = j
  have h1 : (shB rr i rr.length).1 ≤ worth (shB rr i rr.length).2 (rr.getD i []) (b : Int) (shB rr i rr.length).2.length := by
    rw [htop]; exact mnTo_le (f := fun b : Nat => worth (shB rr i rr.length).2 (rr.getD i []) (b : Int) (shB rr i rr.length).2.length) (by omega)
  have h2 : worth (shB rr i rr.length).2 (cutR (rr.getD i []) t) (b : Int) (shB rr i rr.length).2.length = worth (shB rr i rr.length).2 (rr.getD i []) (b : Int) (shB rr i rr.length).2.length := by
    refine worth_cut_eq _ fun j _ ⟨k, hk, he, hj⟩ e => ?_
    have := hnb k hk
    rw [if_pos he, hj] at this
    exact this e
  have hcr : ∀ j, 0 ≤ (cutR (rr.getD i []) t).getD j 0 := fun j => by rw [cutR_get]; have := hr j; split <;> omega
  have h3 := worth_le_sum (l := (shB rr i rr.length).2) (k := (b : Int)) hcr (shB rr i rr.length).2.length
  have hal2 : ∀ j, j < a.length → a.getD j 0 < rr.length := fun j hj => (hal.rng j (by rw [← hal.len]; exact hj)).2
  have h4 : sumK (fun k : Nat => worth a (cutR (rr.getD i []) t) k a.length) rr.length = sumTo (cutR (rr.getD i []) t) a.length := by
    rw [sumK_worth hal2, someTo_all hc]
  have h5 : sumK (fun k : Nat => worth a (cutR (rr.getD i []) t) k a.length) rr.length ≤ sumK (fun _ => wth rr a i i) rr.length := by
    refine sumK_le fun k hk => ?_
    by_cases he : wth rr a i i < wth rr a i k
    · obtain ⟨g1, g2, g3⟩ := hG k hk he
      have := worth_cut_one (l := a) (t := t) (k := (k : Int)) (g := G k) hr ⟨k, hk, he, rfl⟩ g2 a.length g1
      have e3 : wth rr a i k = worth a (rr.getD i []) k a.length := rfl
      have e4 : val rr i (G k) = (rr.getD i []).getD (G k) 0 := rfl
      omega
    · have := worth_cut_le (l := a) (t := t) (k := (k : Int)) hr a.length
      have e3 : wth rr a i k = worth a (rr.getD i []) k a.length := rfl
      omega
  rw [sumK_const] at h5
  have h6 : (shB rr i rr.length).2.length = a.length := by rw [hp.1, hlen]
  rw [h6] at h1 h2 h3
  omega
/-- who is short is poor -/
theorem short_poor {rr : List (List Int)} {a : List Int} (hv : vld rr a = 0) {i : Nat} (hi : i < rr.length) (h : isShort rr a (shA rr) i = true) : isPoor rr a i = true := by
  have hck := (vld_zero hv).1
  have hgd := gd_of_chk hck
  have h1 : wth rr a i i < (shA rr).getD i 0 := of_decide_eq_true h
  rw [shA_get hck hi] at h1
  have h2 := shB_sum hck hi hgd.n1
  refine decide_eq_true ?_
  have h3 : (wth rr a i i + 1) * (rr.length : Int) ≤ (shB rr i rr.length).1 * (rr.length : Int) := Int.mul_le_mul_of_nonneg_right (by omega) (Int.natCast_nonneg _)
  rw [Int.add_mul, Int.one_mul, Int.mul_comm] at h3
  have := hgd.n1
  omega
end Go.Proofs.Ytkgogljfngplnaa
set_option linter.unusedVariables false
set_option linter.unusedSimpArgs false
namespace Go.Proofs.Ytkgogljfngplnaa
open Go.Eng
set_option maxRecDepth 100000
set_option maxHeartbeats 4000000

theorem sharekept_pc {w : World} {gv lv : Value} {vs : List Value} {rr : List (List Int)} {l : List Int} (Hg : Mat w gv vs rr) (Hl : Ints w lv l) : PC Try.prog 13 [.agg #[gv], lv] w (.bool true) := by
  refine PC.mk tyOk Try.func13 rfl (by kernel_rfl) fun w1 E1 => ?_
  replace Hg := Hg.ext E1
  replace Hl := Hl.ext E1
  have EE := Ext.refl w1
  refine Bx.agg fun b2 w2 E2 hb2 Hb _ => ?_
  replace Hg := Hg.ext E2
  replace Hl := Hl.ext E2
  replace EE := EE.ext E2
  have cf := fit20_pc Hg Hl
  by_cases hf : ¬ great rr l ∧ chk rr = 0
  · rw [tf_t hf] at cf
    have hck := hf.2
    have hgd := gd_of_chk hck
    have hn6 := hgd.n6
    have hm10 := hgd.m10
    have hmO : mOf rr = (rr.getD 0 []).length := rfl
    have hll := Hl.le
    repeat' ((conv => whnf); first | (refine Dr.quiet tyOk (by kernel_rfl) ?_) | (refine VC.pure alive20_pc ?_) | (refine VC.pure cf ?_) | (refine Rng.mk (by omega) ?_) | (refine Split.pos (by omega) ?_) | (refine Split.neg (by omega) ?_) | (refine Split.mk (fun h => ?_) (fun h => ?_)) | (refine Need.mk (by omega) ?_) | (refine Ints.ln (by assumption) ?_) | (refine Mat.ln (by assumption) ?_) | (refine Ints.ln (Mat.row (by assumption) _ (by omega)) ?_) | (refine Ints.ix (by assumption) (by omega) ?_) | (refine Mat.ix (by assumption) (by omega) ?_) | (refine Ints.ix (Mat.row (by assumption) _ (by omega)) (by omega) ?_) | (refine Ints.ix (c := 0) (by assumption) (by omega) ?_) | (refine Mat.ix (c := 0) (by assumption) (by omega) ?_) | (refine Ints.ix (c := 0) (Mat.row (by assumption) _ (by omega)) (by omega) ?_) | (refine Ints.ixI (by assumption) (by omega) ?_) | (refine Mat.ixI (by assumption) (by omega) ?_) | (refine Ints.ixI (Mat.row (by assumption) _ (by omega)) (by omega) ?_) | (refine Ints.ld (by assumption) (by omega) ?_) | (refine Mat.ld (by assumption) (by omega) ?_) | (refine Ints.ld (Mat.row (by assumption) _ (by omega)) (by omega) ?_) | (refine At.ld (by assumption) rfl ?_) | (refine At.ldN (by assumption) rfl ?_) | (refine Prs.ln (by assumption) ?_) | (refine Trs.ln (by assumption) ?_) | (refine Prs.ix (by assumption) (by omega) ?_) | (refine Trs.ix (by assumption) (by omega) ?_) | (refine Prs.ldN (by assumption) (by omega) ?_) | (refine Trs.ldN (by assumption) (by omega) ?_) | (refine At.ldN (Blk.at (by assumption)) rfl ?_) | (refine At.ld (Blk.at (by assumption)) rfl ?_) | (refine IxA.mk (by omega) ?_) | (refine Sl.ln (Own.sl (by assumption)) ?_) | (refine Ints.ix (Own.sl (by assumption)) (by omega) ?_) | (refine Ints.ixI (Own.sl (by assumption)) (by omega) ?_) | (refine Ints.ld (Own.sl (by assumption)) (by omega) ?_))
    conv => whnf
    refine VC.rc (sfind_rc Hg) ?_
    rintro _ w3 E3 ⟨av, rfl, HA⟩
    replace Hg := Hg.ext E3
    replace Hl := Hl.ext E3
    replace EE := EE.ext E3
    replace Hb := Hb.ext E3
    rcases fk_what hck with ⟨ht, hE⟩ | ⟨ht, hE, hno⟩ | ⟨ht, hE, k, hk, hR, hkp, hfst⟩
    · rw [hE]
      repeat' ((conv => whnf); first | (refine Dr.quiet tyOk (by kernel_rfl) ?_) | (refine Rng.mk (by omega) ?_) | (refine Split.pos (by omega) ?_) | (refine Split.neg (by omega) ?_) | (refine Split.mk (fun h => ?_) (fun h => ?_)) | (refine Need.mk (by omega) ?_) | (refine Ints.ln (by assumption) ?_) | (refine Mat.ln (by assumption) ?_) | (refine Ints.ln (Mat.row (by assumption) _ (by omega)) ?_) | (refine Ints.ix (by assumption) (by omega) ?_) | (refine Mat.ix (by assumption) (by omega) ?_) | (refine Ints.ix (Mat.row (by assumption) _ (by omega)) (by omega) ?_) | (refine Ints.ix (c := 0) (by assumption) (by omega) ?_) | (refine Mat.ix (c := 0) (by assumption) (by omega) ?_) | (refine Ints.ix (c := 0) (Mat.row (by assumption) _ (by omega)) (by omega) ?_) | (refine Ints.ixI (by assumption) (by omega) ?_) | (refine Mat.ixI (by assumption) (by omega) ?_) | (refine Ints.ixI (Mat.row (by assumption) _ (by omega)) (by omega) ?_) | (refine Ints.ld (by assumption) (by omega) ?_) | (refine Mat.ld (by assumption) (by omega) ?_) | (refine Ints.ld (Mat.row (by assumption) _ (by omega)) (by omega) ?_) | (refine At.ld (by assumption) rfl ?_) | (refine At.ldN (by assumption) rfl ?_) | (refine Prs.ln (by assumption) ?_) | (refine Trs.ln (by assumption) ?_) | (refine Prs.ix (by assumption) (by omega) ?_) | (refine Trs.ix (by assumption) (by omega) ?_) | (refine Prs.ldN (by assumption) (by omega) ?_) | (refine Trs.ldN (by assumption) (by omega) ?_) | (refine At.ldN (Blk.at (by assumption)) rfl ?_) | (refine At.ld (Blk.at (by assumption)) rfl ?_) | (refine IxA.mk (by omega) ?_) | (refine Sl.ln (Own.sl (by assumption)) ?_) | (refine Ints.ix (Own.sl (by assumption)) (by omega) ?_) | (refine Ints.ixI (Own.sl (by assumption)) (by omega) ?_) | (refine Ints.ld (Own.sl (by assumption)) (by omega) ?_))
      conv => whnf
      refine VC.rc (sshort_rc Hg Hl) ?_
      rintro _ w4 E4 ⟨sv, rfl, HS⟩
      replace Hg := Hg.ext E4
      replace Hl := Hl.ext E4
      replace EE := EE.ext E4
      replace Hb := Hb.ext E4
      replace HA := HA.ext E4
      have ct := tries_pc Hg hck
      rw [tf_t ht] at ct
      have cv := rvalid_pc Hg Hl
      have cc := complete_pc Hl
      by_cases hv : vld rr l = 0
      · rw [hv] at cv ⊢
        by_cases hcl : compl l
        · rw [tf_t hcl] at cc
          have hs := filt_len (isShort rr l (shA rr)) rr.length
          rw [shortR, if_pos hv] at HS
          have HSI : Ints w4 sv (shortL rr l (shA rr)) := Own.sl HS
          repeat' ((conv => whnf); first | (refine Dr.quiet tyOk (by kernel_rfl) ?_) | (refine VC.pure cv ?_) | (refine VC.pure cc ?_) | (refine VC.pure ct ?_) | (refine Ints.ln HSI ?_) | (refine Rng.mk (by omega) ?_) | (refine Split.pos (by omega) ?_) | (refine Split.neg (by omega) ?_) | (refine Split.mk (fun h => ?_) (fun h => ?_)) | (refine Need.mk (by omega) ?_) | (refine Ints.ln (by assumption) ?_) | (refine Mat.ln (by assumption) ?_) | (refine Ints.ln (Mat.row (by assumption) _ (by omega)) ?_) | (refine Ints.ix (by assumption) (by omega) ?_) | (refine Mat.ix (by assumption) (by omega) ?_) | (refine Ints.ix (Mat.row (by assumption) _ (by omega)) (by omega) ?_) | (refine Ints.ix (c := 0) (by assumption) (by omega) ?_) | (refine Mat.ix (c := 0) (by assumption) (by omega) ?_) | (refine Ints.ix (c := 0) (Mat.row (by assumption) _ (by omega)) (by omega) ?_) | (refine Ints.ixI (by assumption) (by omega) ?_) | (refine Mat.ixI (by assumption) (by omega) ?_) | (refine Ints.ixI (Mat.row (by assumption) _ (by omega)) (by omega) ?_) | (refine Ints.ld (by assumption) (by omega) ?_) | (refine Mat.ld (by assumption) (by omega) ?_) | (refine Ints.ld (Mat.row (by assumption) _ (by omega)) (by omega) ?_) | (refine At.ld (by assumption) rfl ?_) | (refine At.ldN (by assumption) rfl ?_) | (refine Prs.ln (by assumption) ?_) | (refine Trs.ln (by assumption) ?_) | (refine Prs.ix (by assumption) (by omega) ?_) | (refine Trs.ix (by assumption) (by omega) ?_) | (refine Prs.ldN (by assumption) (by omega) ?_) | (refine Trs.ldN (by assumption) (by omega) ?_) | (refine At.ldN (Blk.at (by assumption)) rfl ?_) | (refine At.ld (Blk.at (by assumption)) rfl ?_) | (refine IxA.mk (by omega) ?_) | (refine Sl.ln (Own.sl (by assumption)) ?_) | (refine Ints.ix (Own.sl (by assumption)) (by omega) ?_) | (refine Ints.ixI (Own.sl (by assumption)) (by omega) ?_) | (refine Ints.ld (Own.sl (by assumption)) (by omega) ?_))
          all_goals exact ⟨rfl, EE⟩
        · rw [tf_f hcl] at cc
          repeat' ((conv => whnf); first | (refine Dr.quiet tyOk (by kernel_rfl) ?_) | (refine VC.pure cv ?_) | (refine VC.pure cc ?_) | (refine VC.pure ct ?_) | (refine Rng.mk (by omega) ?_) | (refine Split.pos (by omega) ?_) | (refine Split.neg (by omega) ?_) | (refine Split.mk (fun h => ?_) (fun h => ?_)) | (refine Need.mk (by omega) ?_) | (refine Ints.ln (by assumption) ?_) | (refine Mat.ln (by assumption) ?_) | (refine Ints.ln (Mat.row (by assumption) _ (by omega)) ?_) | (refine Ints.ix (by assumption) (by omega) ?_) | (refine Mat.ix (by assumption) (by omega) ?_) | (refine Ints.ix (Mat.row (by assumption) _ (by omega)) (by omega) ?_) | (refine Ints.ix (c := 0) (by assumption) (by omega) ?_) | (refine Mat.ix (c := 0) (by assumption) (by omega) ?_) | (refine Ints.ix (c := 0) (Mat.row (by assumption) _ (by omega)) (by omega) ?_) | (refine Ints.ixI (by assumption) (by omega) ?_) | (refine Mat.ixI (by assumption) (by omega) ?_) | (refine Ints.ixI (Mat.row (by assumption) _ (by omega)) (by omega) ?_) | (refine Ints.ld (by assumption) (by omega) ?_) | (refine Mat.ld (by assumption) (by omega) ?_) | (refine Ints.ld (Mat.row (by assumption) _ (by omega)) (by omega) ?_) | (refine At.ld (by assumption) rfl ?_) | (refine At.ldN (by assumption) rfl ?_) | (refine Prs.ln (by assumption) ?_) | (refine Trs.ln (by assumption) ?_) | (refine Prs.ix (by assumption) (by omega) ?_) | (refine Trs.ix (by assumption) (by omega) ?_) | (refine Prs.ldN (by assumption) (by omega) ?_) | (refine Trs.ldN (by assumption) (by omega) ?_) | (refine At.ldN (Blk.at (by assumption)) rfl ?_) | (refine At.ld (Blk.at (by assumption)) rfl ?_) | (refine IxA.mk (by omega) ?_) | (refine Sl.ln (Own.sl (by assumption)) ?_) | (refine Ints.ix (Own.sl (by assumption)) (by omega) ?_) | (refine Ints.ixI (Own.sl (by assumption)) (by omega) ?_) | (refine Ints.ld (Own.sl (by assumption)) (by omega) ?_))
          all_goals exact ⟨rfl, EE⟩
      · repeat' ((conv => whnf); first | (refine Dr.quiet tyOk (by kernel_rfl) ?_) | (refine VC.pure cv ?_) | (refine VC.pure ct ?_) | (refine Rng.mk (by omega) ?_) | (refine Split.pos (by omega) ?_) | (refine Split.neg (by omega) ?_) | (refine Split.mk (fun h => ?_) (fun h => ?_)) | (refine Need.mk (by omega) ?_) | (refine Ints.ln (by assumption) ?_) | (refine Mat.ln (by assumption) ?_) | (refine Ints.ln (Mat.row (by assumption) _ (by omega)) ?_) | (refine Ints.ix (by assumption) (by omega) ?_) | (refine Mat.ix (by assumption) (by omega) ?_) | (refine Ints.ix (Mat.row (by assumption) _ (by omega)) (by omega) ?_) | (refine Ints.ix (c := 0) (by assumption) (by omega) ?_) | (refine Mat.ix (c := 0) (by assumption) (by omega) ?_) | (refine Ints.ix (c := 0) (Mat.row (by assumption) _ (by omega)) (by omega) ?_) | (refine Ints.ixI (by assumption) (by omega) ?_) | (refine Mat.ixI (by assumption) (by omega) ?_) | (refine Ints.ixI (Mat.row (by assumption) _ (by omega)) (by omega) ?_) | (refine Ints.ld (by assumption) (by omega) ?_) | (refine Mat.ld (by assumption) (by omega) ?_) | (refine Ints.ld (Mat.row (by assumption) _ (by omega)) (by omega) ?_) | (refine At.ld (by assumption) rfl ?_) | (refine At.ldN (by assumption) rfl ?_) | (refine Prs.ln (by assumption) ?_) | (refine Trs.ln (by assumption) ?_) | (refine Prs.ix (by assumption) (by omega) ?_) | (refine Trs.ix (by assumption) (by omega) ?_) | (refine Prs.ldN (by assumption) (by omega) ?_) | (refine Trs.ldN (by assumption) (by omega) ?_) | (refine At.ldN (Blk.at (by assumption)) rfl ?_) | (refine At.ld (Blk.at (by assumption)) rfl ?_) | (refine IxA.mk (by omega) ?_) | (refine Sl.ln (Own.sl (by assumption)) ?_) | (refine Ints.ix (Own.sl (by assumption)) (by omega) ?_) | (refine Ints.ixI (Own.sl (by assumption)) (by omega) ?_) | (refine Ints.ld (Own.sl (by assumption)) (by omega) ?_))
        all_goals exact ⟨rfl, EE⟩
    · rw [hE]
      have h2 : rr.length ≠ 2 := fun h2 => by
        obtain ⟨l2, hl2, hr2, hk2⟩ := two_kept hck h2
        rw [← h2] at hr2
        obtain ⟨q, hq, e⟩ := digs_all hgd.n1 (l := l2) hr2
        rw [hl2] at hq e
        rw [← e] at hk2
        exact hno q hq hk2
      repeat' ((conv => whnf); first | (refine Dr.quiet tyOk (by kernel_rfl) ?_) | (refine Rng.mk (by omega) ?_) | (refine Split.pos (by omega) ?_) | (refine Split.neg (by omega) ?_) | (refine Split.mk (fun h => ?_) (fun h => ?_)) | (refine Need.mk (by omega) ?_) | (refine Ints.ln (by assumption) ?_) | (refine Mat.ln (by assumption) ?_) | (refine Ints.ln (Mat.row (by assumption) _ (by omega)) ?_) | (refine Ints.ix (by assumption) (by omega) ?_) | (refine Mat.ix (by assumption) (by omega) ?_) | (refine Ints.ix (Mat.row (by assumption) _ (by omega)) (by omega) ?_) | (refine Ints.ix (c := 0) (by assumption) (by omega) ?_) | (refine Mat.ix (c := 0) (by assumption) (by omega) ?_) | (refine Ints.ix (c := 0) (Mat.row (by assumption) _ (by omega)) (by omega) ?_) | (refine Ints.ixI (by assumption) (by omega) ?_) | (refine Mat.ixI (by assumption) (by omega) ?_) | (refine Ints.ixI (Mat.row (by assumption) _ (by omega)) (by omega) ?_) | (refine Ints.ld (by assumption) (by omega) ?_) | (refine Mat.ld (by assumption) (by omega) ?_) | (refine Ints.ld (Mat.row (by assumption) _ (by omega)) (by omega) ?_) | (refine At.ld (by assumption) rfl ?_) | (refine At.ldN (by assumption) rfl ?_) | (refine Prs.ln (by assumption) ?_) | (refine Trs.ln (by assumption) ?_) | (refine Prs.ix (by assumption) (by omega) ?_) | (refine Trs.ix (by assumption) (by omega) ?_) | (refine Prs.ldN (by assumption) (by omega) ?_) | (refine Trs.ldN (by assumption) (by omega) ?_) | (refine At.ldN (Blk.at (by assumption)) rfl ?_) | (refine At.ld (Blk.at (by assumption)) rfl ?_) | (refine IxA.mk (by omega) ?_) | (refine Sl.ln (Own.sl (by assumption)) ?_) | (refine Ints.ix (Own.sl (by assumption)) (by omega) ?_) | (refine Ints.ixI (Own.sl (by assumption)) (by omega) ?_) | (refine Ints.ld (Own.sl (by assumption)) (by omega) ?_))
      conv => whnf
      refine VC.rc (sshort_rc Hg Hl) ?_
      rintro _ w5 E5 ⟨sv, rfl, HS⟩
      replace Hg := Hg.ext E5
      replace Hl := Hl.ext E5
      replace EE := EE.ext E5
      replace Hb := Hb.ext E5
      replace HA := HA.ext E5
      have cv := rvalid_pc Hg Hl
      have cc := complete_pc Hl
      by_cases hv : vld rr l = 0
      · rw [hv] at cv ⊢
        by_cases hcl : compl l
        · rw [tf_t hcl] at cc
          have hs := filt_len (isShort rr l (shA rr)) rr.length
          rw [shortR, if_pos hv] at HS
          have hpos : 0 < (shortL rr l (shA rr)).length := by
            refine List.length_pos_iff.2 fun h => ?_
            have hkl := short_kp.1 h
            obtain ⟨q, hq, e⟩ := compl_digs hv hcl
            rw [e] at hkl
            exact hno q hq hkl
          have HSI : Ints w5 sv (shortL rr l (shA rr)) := Own.sl HS
          repeat' ((conv => whnf); first | (refine Dr.quiet tyOk (by kernel_rfl) ?_) | (refine VC.pure cv ?_) | (refine VC.pure cc ?_) | (refine Ints.ln HSI ?_) | (refine Rng.mk (by omega) ?_) | (refine Split.pos (by omega) ?_) | (refine Split.neg (by omega) ?_) | (refine Split.mk (fun h => ?_) (fun h => ?_)) | (refine Need.mk (by omega) ?_) | (refine Ints.ln (by assumption) ?_) | (refine Mat.ln (by assumption) ?_) | (refine Ints.ln (Mat.row (by assumption) _ (by omega)) ?_) | (refine Ints.ix (by assumption) (by omega) ?_) | (refine Mat.ix (by assumption) (by omega) ?_) | (refine Ints.ix (Mat.row (by assumption) _ (by omega)) (by omega) ?_) | (refine Ints.ix (c := 0) (by assumption) (by omega) ?_) | (refine Mat.ix (c := 0) (by assumption) (by omega) ?_) | (refine Ints.ix (c := 0) (Mat.row (by assumption) _ (by omega)) (by omega) ?_) | (refine Ints.ixI (by assumption) (by omega) ?_) | (refine Mat.ixI (by assumption) (by omega) ?_) | (refine Ints.ixI (Mat.row (by assumption) _ (by omega)) (by omega) ?_) | (refine Ints.ld (by assumption) (by omega) ?_) | (refine Mat.ld (by assumption) (by omega) ?_) | (refine Ints.ld (Mat.row (by assumption) _ (by omega)) (by omega) ?_) | (refine At.ld (by assumption) rfl ?_) | (refine At.ldN (by assumption) rfl ?_) | (refine Prs.ln (by assumption) ?_) | (refine Trs.ln (by assumption) ?_) | (refine Prs.ix (by assumption) (by omega) ?_) | (refine Trs.ix (by assumption) (by omega) ?_) | (refine Prs.ldN (by assumption) (by omega) ?_) | (refine Trs.ldN (by assumption) (by omega) ?_) | (refine At.ldN (Blk.at (by assumption)) rfl ?_) | (refine At.ld (Blk.at (by assumption)) rfl ?_) | (refine IxA.mk (by omega) ?_) | (refine Sl.ln (Own.sl (by assumption)) ?_) | (refine Ints.ix (Own.sl (by assumption)) (by omega) ?_) | (refine Ints.ixI (Own.sl (by assumption)) (by omega) ?_) | (refine Ints.ld (Own.sl (by assumption)) (by omega) ?_))
          all_goals exact ⟨rfl, EE⟩
        · rw [tf_f hcl] at cc
          repeat' ((conv => whnf); first | (refine Dr.quiet tyOk (by kernel_rfl) ?_) | (refine VC.pure cv ?_) | (refine VC.pure cc ?_) | (refine Rng.mk (by omega) ?_) | (refine Split.pos (by omega) ?_) | (refine Split.neg (by omega) ?_) | (refine Split.mk (fun h => ?_) (fun h => ?_)) | (refine Need.mk (by omega) ?_) | (refine Ints.ln (by assumption) ?_) | (refine Mat.ln (by assumption) ?_) | (refine Ints.ln (Mat.row (by assumption) _ (by omega)) ?_) | (refine Ints.ix (by assumption) (by omega) ?_) | (refine Mat.ix (by assumption) (by omega) ?_) | (refine Ints.ix (Mat.row (by assumption) _ (by omega)) (by omega) ?_) | (refine Ints.ix (c := 0) (by assumption) (by omega) ?_) | (refine Mat.ix (c := 0) (by assumption) (by omega) ?_) | (refine Ints.ix (c := 0) (Mat.row (by assumption) _ (by omega)) (by omega) ?_) | (refine Ints.ixI (by assumption) (by omega) ?_) | (refine Mat.ixI (by assumption) (by omega) ?_) | (refine Ints.ixI (Mat.row (by assumption) _ (by omega)) (by omega) ?_) | (refine Ints.ld (by assumption) (by omega) ?_) | (refine Mat.ld (by assumption) (by omega) ?_) | (refine Ints.ld (Mat.row (by assumption) _ (by omega)) (by omega) ?_) | (refine At.ld (by assumption) rfl ?_) | (refine At.ldN (by assumption) rfl ?_) | (refine Prs.ln (by assumption) ?_) | (refine Trs.ln (by assumption) ?_) | (refine Prs.ix (by assumption) (by omega) ?_) | (refine Trs.ix (by assumption) (by omega) ?_) | (refine Prs.ldN (by assumption) (by omega) ?_) | (refine Trs.ldN (by assumption) (by omega) ?_) | (refine At.ldN (Blk.at (by assumption)) rfl ?_) | (refine At.ld (Blk.at (by assumption)) rfl ?_) | (refine IxA.mk (by omega) ?_) | (refine Sl.ln (Own.sl (by assumption)) ?_) | (refine Ints.ix (Own.sl (by assumption)) (by omega) ?_) | (refine Ints.ixI (Own.sl (by assumption)) (by omega) ?_) | (refine Ints.ld (Own.sl (by assumption)) (by omega) ?_))
          all_goals exact ⟨rfl, EE⟩
      · repeat' ((conv => whnf); first | (refine Dr.quiet tyOk (by kernel_rfl) ?_) | (refine VC.pure cv ?_) | (refine Rng.mk (by omega) ?_) | (refine Split.pos (by omega) ?_) | (refine Split.neg (by omega) ?_) | (refine Split.mk (fun h => ?_) (fun h => ?_)) | (refine Need.mk (by omega) ?_) | (refine Ints.ln (by assumption) ?_) | (refine Mat.ln (by assumption) ?_) | (refine Ints.ln (Mat.row (by assumption) _ (by omega)) ?_) | (refine Ints.ix (by assumption) (by omega) ?_) | (refine Mat.ix (by assumption) (by omega) ?_) | (refine Ints.ix (Mat.row (by assumption) _ (by omega)) (by omega) ?_) | (refine Ints.ix (c := 0) (by assumption) (by omega) ?_) | (refine Mat.ix (c := 0) (by assumption) (by omega) ?_) | (refine Ints.ix (c := 0) (Mat.row (by assumption) _ (by omega)) (by omega) ?_) | (refine Ints.ixI (by assumption) (by omega) ?_) | (refine Mat.ixI (by assumption) (by omega) ?_) | (refine Ints.ixI (Mat.row (by assumption) _ (by omega)) (by omega) ?_) | (refine Ints.ld (by assumption) (by omega) ?_) | (refine Mat.ld (by assumption) (by omega) ?_) | (refine Ints.ld (Mat.row (by assumption) _ (by omega)) (by omega) ?_) | (refine At.ld (by assumption) rfl ?_) | (refine At.ldN (by assumption) rfl ?_) | (refine Prs.ln (by assumption) ?_) | (refine Trs.ln (by assumption) ?_) | (refine Prs.ix (by assumption) (by omega) ?_) | (refine Trs.ix (by assumption) (by omega) ?_) | (refine Prs.ldN (by assumption) (by omega) ?_) | (refine Trs.ldN (by assumption) (by omega) ?_) | (refine At.ldN (Blk.at (by assumption)) rfl ?_) | (refine At.ld (Blk.at (by assumption)) rfl ?_) | (refine IxA.mk (by omega) ?_) | (refine Sl.ln (Own.sl (by assumption)) ?_) | (refine Ints.ix (Own.sl (by assumption)) (by omega) ?_) | (refine Ints.ixI (Own.sl (by assumption)) (by omega) ?_) | (refine Ints.ld (Own.sl (by assumption)) (by omega) ?_))
        all_goals exact ⟨rfl, EE⟩
    · rw [hE]
      rw [hR] at HA
      have hdl := digs_len rr.length (mOf rr) k
      have HAI : Ints w3 av (digs rr.length (mOf rr) k) := Own.sl HA
      obtain ⟨hva, hca⟩ := digs_ok hck hk
      repeat' ((conv => whnf); first | (refine Dr.quiet tyOk (by kernel_rfl) ?_) | (refine Rng.mk (by omega) ?_) | (refine Split.pos (by omega) ?_) | (refine Split.neg (by omega) ?_) | (refine Split.mk (fun h => ?_) (fun h => ?_)) | (refine Need.mk (by omega) ?_) | (refine Ints.ln (by assumption) ?_) | (refine Mat.ln (by assumption) ?_) | (refine Ints.ln (Mat.row (by assumption) _ (by omega)) ?_) | (refine Ints.ix (by assumption) (by omega) ?_) | (refine Mat.ix (by assumption) (by omega) ?_) | (refine Ints.ix (Mat.row (by assumption) _ (by omega)) (by omega) ?_) | (refine Ints.ix (c := 0) (by assumption) (by omega) ?_) | (refine Mat.ix (c := 0) (by assumption) (by omega) ?_) | (refine Ints.ix (c := 0) (Mat.row (by assumption) _ (by omega)) (by omega) ?_) | (refine Ints.ixI (by assumption) (by omega) ?_) | (refine Mat.ixI (by assumption) (by omega) ?_) | (refine Ints.ixI (Mat.row (by assumption) _ (by omega)) (by omega) ?_) | (refine Ints.ld (by assumption) (by omega) ?_) | (refine Mat.ld (by assumption) (by omega) ?_) | (refine Ints.ld (Mat.row (by assumption) _ (by omega)) (by omega) ?_) | (refine At.ld (by assumption) rfl ?_) | (refine At.ldN (by assumption) rfl ?_) | (refine Prs.ln (by assumption) ?_) | (refine Trs.ln (by assumption) ?_) | (refine Prs.ix (by assumption) (by omega) ?_) | (refine Trs.ix (by assumption) (by omega) ?_) | (refine Prs.ldN (by assumption) (by omega) ?_) | (refine Trs.ldN (by assumption) (by omega) ?_) | (refine At.ldN (Blk.at (by assumption)) rfl ?_) | (refine At.ld (Blk.at (by assumption)) rfl ?_) | (refine IxA.mk (by omega) ?_) | (refine Sl.ln (Own.sl (by assumption)) ?_) | (refine Ints.ix (Own.sl (by assumption)) (by omega) ?_) | (refine Ints.ixI (Own.sl (by assumption)) (by omega) ?_) | (refine Ints.ld (Own.sl (by assumption)) (by omega) ?_))
      conv => whnf
      refine VC.rc (sshort_rc Hg HAI) ?_
      rintro _ w6 E6 ⟨sv, rfl, HS⟩
      replace Hg := Hg.ext E6
      replace Hl := Hl.ext E6
      replace EE := EE.ext E6
      replace Hb := Hb.ext E6
      replace HAI := HAI.ext E6
      rw [shortR, if_pos hva, show shortL rr (digs rr.length (mOf rr) k) (shA rr) = [] from short_kp.2 hkp] at HS
      rw [hva]
      have cva := rvalid_pc Hg HAI
      rw [hva] at cva
      have cca := complete_pc HAI
      rw [tf_t hca] at cca
      have ct := tries_pc Hg hck
      rw [tf_f ht] at ct
      have HSI : Ints w6 sv [] := Own.sl HS
      have hl00 : ([] : List Int).length = 0 := rfl
      repeat' ((conv => whnf); first | (refine Dr.quiet tyOk (by kernel_rfl) ?_) | (refine VC.pure cva ?_) | (refine VC.pure cca ?_) | (refine VC.pure ct ?_) | (refine Ints.ln HSI ?_) | (refine Rng.mk (by omega) ?_) | (refine Split.pos (by omega) ?_) | (refine Split.neg (by omega) ?_) | (refine Split.mk (fun h => ?_) (fun h => ?_)) | (refine Need.mk (by omega) ?_) | (refine Ints.ln (by assumption) ?_) | (refine Mat.ln (by assumption) ?_) | (refine Ints.ln (Mat.row (by assumption) _ (by omega)) ?_) | (refine Ints.ix (by assumption) (by omega) ?_) | (refine Mat.ix (by assumption) (by omega) ?_) | (refine Ints.ix (Mat.row (by assumption) _ (by omega)) (by omega) ?_) | (refine Ints.ix (c := 0) (by assumption) (by omega) ?_) | (refine Mat.ix (c := 0) (by assumption) (by omega) ?_) | (refine Ints.ix (c := 0) (Mat.row (by assumption) _ (by omega)) (by omega) ?_) | (refine Ints.ixI (by assumption) (by omega) ?_) | (refine Mat.ixI (by assumption) (by omega) ?_) | (refine Ints.ixI (Mat.row (by assumption) _ (by omega)) (by omega) ?_) | (refine Ints.ld (by assumption) (by omega) ?_) | (refine Mat.ld (by assumption) (by omega) ?_) | (refine Ints.ld (Mat.row (by assumption) _ (by omega)) (by omega) ?_) | (refine At.ld (by assumption) rfl ?_) | (refine At.ldN (by assumption) rfl ?_) | (refine Prs.ln (by assumption) ?_) | (refine Trs.ln (by assumption) ?_) | (refine Prs.ix (by assumption) (by omega) ?_) | (refine Trs.ix (by assumption) (by omega) ?_) | (refine Prs.ldN (by assumption) (by omega) ?_) | (refine Trs.ldN (by assumption) (by omega) ?_) | (refine At.ldN (Blk.at (by assumption)) rfl ?_) | (refine At.ld (Blk.at (by assumption)) rfl ?_) | (refine IxA.mk (by omega) ?_) | (refine Sl.ln (Own.sl (by assumption)) ?_) | (refine Ints.ix (Own.sl (by assumption)) (by omega) ?_) | (refine Ints.ixI (Own.sl (by assumption)) (by omega) ?_) | (refine Ints.ld (Own.sl (by assumption)) (by omega) ?_))
      conv => whnf
      refine VC.rc (sshort_rc Hg Hl) ?_
      rintro _ w7 E7 ⟨ov, rfl, HO⟩
      replace Hg := Hg.ext E7
      replace Hl := Hl.ext E7
      replace EE := EE.ext E7
      replace Hb := Hb.ext E7
      replace HAI := HAI.ext E7
      replace HS := HS.ext E7
      have cc := complete_pc Hl
      by_cases hv : vld rr l = 0
      · have hlm : l.length = mOf rr := (al_of_vld hv).len
        rw [hv]
        have hs := filt_len (isShort rr l (shA rr)) rr.length
        rw [shortR, if_pos hv] at HO
        have HOI : Ints w7 ov (shortL rr l (shA rr)) := Own.sl HO
        by_cases hz : shortL rr l (shA rr) = []
        · rw [hz] at HOI
          have hl01 : ([] : List Int).length = 0 := rfl
          by_cases hcl : compl l
          · rw [tf_t hcl] at cc
            have hkl := short_kp.1 hz
            obtain ⟨q, hq, e⟩ := compl_digs hv hcl
            have hkq : k ≤ q := Nat.le_of_not_lt fun h => hfst q h (by rw [← e]; exact hkl)
            repeat' ((conv => whnf); first | (refine Dr.quiet tyOk (by kernel_rfl) ?_) | (refine VC.pure cc ?_) | (refine Ints.ln HOI ?_) | (refine Rng.mk (by omega) ?_) | (refine Split.pos (by omega) ?_) | (refine Split.neg (by omega) ?_) | (refine Split.mk (fun h => ?_) (fun h => ?_)) | (refine Need.mk (by omega) ?_) | (refine Ints.ln (by assumption) ?_) | (refine Mat.ln (by assumption) ?_) | (refine Ints.ln (Mat.row (by assumption) _ (by omega)) ?_) | (refine Ints.ix (by assumption) (by omega) ?_) | (refine Mat.ix (by assumption) (by omega) ?_) | (refine Ints.ix (Mat.row (by assumption) _ (by omega)) (by omega) ?_) | (refine Ints.ix (c := 0) (by assumption) (by omega) ?_) | (refine Mat.ix (c := 0) (by assumption) (by omega) ?_) | (refine Ints.ix (c := 0) (Mat.row (by assumption) _ (by omega)) (by omega) ?_) | (refine Ints.ixI (by assumption) (by omega) ?_) | (refine Mat.ixI (by assumption) (by omega) ?_) | (refine Ints.ixI (Mat.row (by assumption) _ (by omega)) (by omega) ?_) | (refine Ints.ld (by assumption) (by omega) ?_) | (refine Mat.ld (by assumption) (by omega) ?_) | (refine Ints.ld (Mat.row (by assumption) _ (by omega)) (by omega) ?_) | (refine At.ld (by assumption) rfl ?_) | (refine At.ldN (by assumption) rfl ?_) | (refine Prs.ln (by assumption) ?_) | (refine Trs.ln (by assumption) ?_) | (refine Prs.ix (by assumption) (by omega) ?_) | (refine Trs.ix (by assumption) (by omega) ?_) | (refine Prs.ldN (by assumption) (by omega) ?_) | (refine Trs.ldN (by assumption) (by omega) ?_) | (refine At.ldN (Blk.at (by assumption)) rfl ?_) | (refine At.ld (Blk.at (by assumption)) rfl ?_) | (refine IxA.mk (by omega) ?_) | (refine Sl.ln (Own.sl (by assumption)) ?_) | (refine Ints.ix (Own.sl (by assumption)) (by omega) ?_) | (refine Ints.ixI (Own.sl (by assumption)) (by omega) ?_) | (refine Ints.ld (Own.sl (by assumption)) (by omega) ?_))
            refine Lp.mk tyOk [false, false, false, false, true, false, false, false, false, false, false, false, false, false, false, true, false, false, false, false, false, false, false, false, false, false, false, false, false, false, false, false, false, false, false, false, false, false, false, false, false, false, false, false, false, false, false, false, false, false, false, false, false, false, false, false, false, false, false, false, false, false, false, false, false, false, false, false, false, false, false, false, false, false, false, false, false, false, false, false, false, false, false, false, false, false, false, false, false, false, false, false, false, false, false, false, false, false, false, false, false, false, false, false, false, false, false, false, false, false, false, false, false, false, false, false, false, false, false, false, false, false, false, false, false, false, true, true, true, true, true, true, true, true, true, true, true, true, true, true, true, true, true, true, true, true, true, true, true, true, true, true, true, true, true, true, true] (fun m fr wr => getK fr 15 fun q9 => ∃ c : Nat, c ≤ (mOf rr) ∧ m = (mOf rr) - c ∧ q9 = .int .i64 (c : Int) ∧ ((∀ j, j < c → (digs rr.length (mOf rr) k).getD j 0 = l.getD j 0)) ∧ wr = w7) ((mOf rr)) ?_ ?_
            · exact ⟨0, Nat.zero_le _, rfl, rfl, (by first | exact fun _ hi => absurd hi (Nat.not_lt_zero _) | exact fun _ _ hi => absurd hi (Nat.not_lt_zero _) | assumption | exact Own.nil | omega | simp), rfl⟩
            · intro m w8 u4 u15 u126 u127 u128 u129 u130 u131 u132 u133 u134 u135 u136 u137 u138 u139 u140 u141 u142 u143 u144 u145 u146 u147 u148 u149 u150 u151 u152 u153 u154 u155 u156 hR
              obtain ⟨c, hc, rfl, rfl, hs, rfl⟩ := hR
              by_cases hcm : c < mOf rr
              · by_cases hd : (digs rr.length (mOf rr) k).getD c 0 = l.getD c 0
                · repeat' ((conv => whnf); first | (refine Dr.quiet tyOk (by kernel_rfl) ?_) | (refine Rng.mk (by omega) ?_) | (refine Split.pos (by omega) ?_) | (refine Split.neg (by omega) ?_) | (refine Split.mk (fun h => ?_) (fun h => ?_)) | (refine Need.mk (by omega) ?_) | (refine Ints.ln (by assumption) ?_) | (refine Mat.ln (by assumption) ?_) | (refine Ints.ln (Mat.row (by assumption) _ (by omega)) ?_) | (refine Ints.ix (by assumption) (by omega) ?_) | (refine Mat.ix (by assumption) (by omega) ?_) | (refine Ints.ix (Mat.row (by assumption) _ (by omega)) (by omega) ?_) | (refine Ints.ix (c := 0) (by assumption) (by omega) ?_) | (refine Mat.ix (c := 0) (by assumption) (by omega) ?_) | (refine Ints.ix (c := 0) (Mat.row (by assumption) _ (by omega)) (by omega) ?_) | (refine Ints.ixI (by assumption) (by omega) ?_) | (refine Mat.ixI (by assumption) (by omega) ?_) | (refine Ints.ixI (Mat.row (by assumption) _ (by omega)) (by omega) ?_) | (refine Ints.ld (by assumption) (by omega) ?_) | (refine Mat.ld (by assumption) (by omega) ?_) | (refine Ints.ld (Mat.row (by assumption) _ (by omega)) (by omega) ?_) | (refine At.ld (by assumption) rfl ?_) | (refine At.ldN (by assumption) rfl ?_) | (refine Prs.ln (by assumption) ?_) | (refine Trs.ln (by assumption) ?_) | (refine Prs.ix (by assumption) (by omega) ?_) | (refine Trs.ix (by assumption) (by omega) ?_) | (refine Prs.ldN (by assumption) (by omega) ?_) | (refine Trs.ldN (by assumption) (by omega) ?_) | (refine At.ldN (Blk.at (by assumption)) rfl ?_) | (refine At.ld (Blk.at (by assumption)) rfl ?_) | (refine IxA.mk (by omega) ?_) | (refine Sl.ln (Own.sl (by assumption)) ?_) | (refine Ints.ix (Own.sl (by assumption)) (by omega) ?_) | (refine Ints.ixI (Own.sl (by assumption)) (by omega) ?_) | (refine Ints.ld (Own.sl (by assumption)) (by omega) ?_))
                  refine ⟨_, (by omega : (mOf rr) - (c + 1) < (mOf rr) - c), rfl, c + 1, by omega, rfl, rfl, all_succ hs hd, rfl⟩
                · have hlt : (digs rr.length (mOf rr) k).getD c 0 < l.getD c 0 := by
                    have hne : k ≠ q := fun h => hd (by rw [e, h])
                    have hlx := digs_lt hgd.n1 hk hq (by omega)
                    rw [← e] at hlx
                    obtain ⟨x, _, _, hx1, hx2⟩ := lexlt_at hlx
                    have : x = c := by
                      refine Classical.byContradiction fun hne => ?_
                      by_cases h3 : x < c
                      · have := hs x h3; omega
                      · exact hd (hx1 c (by omega))
                    subst this; exact hx2
                  repeat' ((conv => whnf); first | (refine Dr.quiet tyOk (by kernel_rfl) ?_) | (refine Rng.mk (by omega) ?_) | (refine Split.pos (by omega) ?_) | (refine Split.neg (by omega) ?_) | (refine Split.mk (fun h => ?_) (fun h => ?_)) | (refine Need.mk (by omega) ?_) | (refine Ints.ln (by assumption) ?_) | (refine Mat.ln (by assumption) ?_) | (refine Ints.ln (Mat.row (by assumption) _ (by omega)) ?_) | (refine Ints.ix (by assumption) (by omega) ?_) | (refine Mat.ix (by assumption) (by omega) ?_) | (refine Ints.ix (Mat.row (by assumption) _ (by omega)) (by omega) ?_) | (refine Ints.ix (c := 0) (by assumption) (by omega) ?_) | (refine Mat.ix (c := 0) (by assumption) (by omega) ?_) | (refine Ints.ix (c := 0) (Mat.row (by assumption) _ (by omega)) (by omega) ?_) | (refine Ints.ixI (by assumption) (by omega) ?_) | (refine Mat.ixI (by assumption) (by omega) ?_) | (refine Ints.ixI (Mat.row (by assumption) _ (by omega)) (by omega) ?_) | (refine Ints.ld (by assumption) (by omega) ?_) | (refine Mat.ld (by assumption) (by omega) ?_) | (refine Ints.ld (Mat.row (by assumption) _ (by omega)) (by omega) ?_) | (refine At.ld (by assumption) rfl ?_) | (refine At.ldN (by assumption) rfl ?_) | (refine Prs.ln (by assumption) ?_) | (refine Trs.ln (by assumption) ?_) | (refine Prs.ix (by assumption) (by omega) ?_) | (refine Trs.ix (by assumption) (by omega) ?_) | (refine Prs.ldN (by assumption) (by omega) ?_) | (refine Trs.ldN (by assumption) (by omega) ?_) | (refine At.ldN (Blk.at (by assumption)) rfl ?_) | (refine At.ld (Blk.at (by assumption)) rfl ?_) | (refine IxA.mk (by omega) ?_) | (refine Sl.ln (Own.sl (by assumption)) ?_) | (refine Ints.ix (Own.sl (by assumption)) (by omega) ?_) | (refine Ints.ixI (Own.sl (by assumption)) (by omega) ?_) | (refine Ints.ld (Own.sl (by assumption)) (by omega) ?_))
                  exact ⟨rfl, EE⟩
              · repeat' ((conv => whnf); first | (refine Dr.quiet tyOk (by kernel_rfl) ?_) | (refine Rng.mk (by omega) ?_) | (refine Split.pos (by omega) ?_) | (refine Split.neg (by omega) ?_) | (refine Split.mk (fun h => ?_) (fun h => ?_)) | (refine Need.mk (by omega) ?_) | (refine Ints.ln (by assumption) ?_) | (refine Mat.ln (by assumption) ?_) | (refine Ints.ln (Mat.row (by assumption) _ (by omega)) ?_) | (refine Ints.ix (by assumption) (by omega) ?_) | (refine Mat.ix (by assumption) (by omega) ?_) | (refine Ints.ix (Mat.row (by assumption) _ (by omega)) (by omega) ?_) | (refine Ints.ix (c := 0) (by assumption) (by omega) ?_) | (refine Mat.ix (c := 0) (by assumption) (by omega) ?_) | (refine Ints.ix (c := 0) (Mat.row (by assumption) _ (by omega)) (by omega) ?_) | (refine Ints.ixI (by assumption) (by omega) ?_) | (refine Mat.ixI (by assumption) (by omega) ?_) | (refine Ints.ixI (Mat.row (by assumption) _ (by omega)) (by omega) ?_) | (refine Ints.ld (by assumption) (by omega) ?_) | (refine Mat.ld (by assumption) (by omega) ?_) | (refine Ints.ld (Mat.row (by assumption) _ (by omega)) (by omega) ?_) | (refine At.ld (by assumption) rfl ?_) | (refine At.ldN (by assumption) rfl ?_) | (refine Prs.ln (by assumption) ?_) | (refine Trs.ln (by assumption) ?_) | (refine Prs.ix (by assumption) (by omega) ?_) | (refine Trs.ix (by assumption) (by omega) ?_) | (refine Prs.ldN (by assumption) (by omega) ?_) | (refine Trs.ldN (by assumption) (by omega) ?_) | (refine At.ldN (Blk.at (by assumption)) rfl ?_) | (refine At.ld (Blk.at (by assumption)) rfl ?_) | (refine IxA.mk (by omega) ?_) | (refine Sl.ln (Own.sl (by assumption)) ?_) | (refine Ints.ix (Own.sl (by assumption)) (by omega) ?_) | (refine Ints.ixI (Own.sl (by assumption)) (by omega) ?_) | (refine Ints.ld (Own.sl (by assumption)) (by omega) ?_))
                exact ⟨rfl, EE⟩
          · rw [tf_f hcl] at cc
            repeat' ((conv => whnf); first | (refine Dr.quiet tyOk (by kernel_rfl) ?_) | (refine VC.pure cc ?_) | (refine Ints.ln HOI ?_) | (refine Rng.mk (by omega) ?_) | (refine Split.pos (by omega) ?_) | (refine Split.neg (by omega) ?_) | (refine Split.mk (fun h => ?_) (fun h => ?_)) | (refine Need.mk (by omega) ?_) | (refine Ints.ln (by assumption) ?_) | (refine Mat.ln (by assumption) ?_) | (refine Ints.ln (Mat.row (by assumption) _ (by omega)) ?_) | (refine Ints.ix (by assumption) (by omega) ?_) | (refine Mat.ix (by assumption) (by omega) ?_) | (refine Ints.ix (Mat.row (by assumption) _ (by omega)) (by omega) ?_) | (refine Ints.ix (c := 0) (by assumption) (by omega) ?_) | (refine Mat.ix (c := 0) (by assumption) (by omega) ?_) | (refine Ints.ix (c := 0) (Mat.row (by assumption) _ (by omega)) (by omega) ?_) | (refine Ints.ixI (by assumption) (by omega) ?_) | (refine Mat.ixI (by assumption) (by omega) ?_) | (refine Ints.ixI (Mat.row (by assumption) _ (by omega)) (by omega) ?_) | (refine Ints.ld (by assumption) (by omega) ?_) | (refine Mat.ld (by assumption) (by omega) ?_) | (refine Ints.ld (Mat.row (by assumption) _ (by omega)) (by omega) ?_) | (refine At.ld (by assumption) rfl ?_) | (refine At.ldN (by assumption) rfl ?_) | (refine Prs.ln (by assumption) ?_) | (refine Trs.ln (by assumption) ?_) | (refine Prs.ix (by assumption) (by omega) ?_) | (refine Trs.ix (by assumption) (by omega) ?_) | (refine Prs.ldN (by assumption) (by omega) ?_) | (refine Trs.ldN (by assumption) (by omega) ?_) | (refine At.ldN (Blk.at (by assumption)) rfl ?_) | (refine At.ld (Blk.at (by assumption)) rfl ?_) | (refine IxA.mk (by omega) ?_) | (refine Sl.ln (Own.sl (by assumption)) ?_) | (refine Ints.ix (Own.sl (by assumption)) (by omega) ?_) | (refine Ints.ixI (Own.sl (by assumption)) (by omega) ?_) | (refine Ints.ld (Own.sl (by assumption)) (by omega) ?_))
            exact ⟨rfl, EE⟩
        · have hpos := List.length_pos_iff.2 hz
          repeat' ((conv => whnf); first | (refine Dr.quiet tyOk (by kernel_rfl) ?_) | (refine VC.pure cc ?_) | (refine Ints.ln HOI ?_) | (refine Rng.mk (by omega) ?_) | (refine Split.pos (by omega) ?_) | (refine Split.neg (by omega) ?_) | (refine Split.mk (fun h => ?_) (fun h => ?_)) | (refine Need.mk (by omega) ?_) | (refine Ints.ln (by assumption) ?_) | (refine Mat.ln (by assumption) ?_) | (refine Ints.ln (Mat.row (by assumption) _ (by omega)) ?_) | (refine Ints.ix (by assumption) (by omega) ?_) | (refine Mat.ix (by assumption) (by omega) ?_) | (refine Ints.ix (Mat.row (by assumption) _ (by omega)) (by omega) ?_) | (refine Ints.ix (c := 0) (by assumption) (by omega) ?_) | (refine Mat.ix (c := 0) (by assumption) (by omega) ?_) | (refine Ints.ix (c := 0) (Mat.row (by assumption) _ (by omega)) (by omega) ?_) | (refine Ints.ixI (by assumption) (by omega) ?_) | (refine Mat.ixI (by assumption) (by omega) ?_) | (refine Ints.ixI (Mat.row (by assumption) _ (by omega)) (by omega) ?_) | (refine Ints.ld (by assumption) (by omega) ?_) | (refine Mat.ld (by assumption) (by omega) ?_) | (refine Ints.ld (Mat.row (by assumption) _ (by omega)) (by omega) ?_) | (refine At.ld (by assumption) rfl ?_) | (refine At.ldN (by assumption) rfl ?_) | (refine Prs.ln (by assumption) ?_) | (refine Trs.ln (by assumption) ?_) | (refine Prs.ix (by assumption) (by omega) ?_) | (refine Trs.ix (by assumption) (by omega) ?_) | (refine Prs.ldN (by assumption) (by omega) ?_) | (refine Trs.ldN (by assumption) (by omega) ?_) | (refine At.ldN (Blk.at (by assumption)) rfl ?_) | (refine At.ld (Blk.at (by assumption)) rfl ?_) | (refine IxA.mk (by omega) ?_) | (refine Sl.ln (Own.sl (by assumption)) ?_) | (refine Ints.ix (Own.sl (by assumption)) (by omega) ?_) | (refine Ints.ixI (Own.sl (by assumption)) (by omega) ?_) | (refine Ints.ld (Own.sl (by assumption)) (by omega) ?_))
          exact ⟨rfl, EE⟩
      · repeat' ((conv => whnf); first | (refine Dr.quiet tyOk (by kernel_rfl) ?_) | (refine VC.pure cc ?_) | (refine Rng.mk (by omega) ?_) | (refine Split.pos (by omega) ?_) | (refine Split.neg (by omega) ?_) | (refine Split.mk (fun h => ?_) (fun h => ?_)) | (refine Need.mk (by omega) ?_) | (refine Ints.ln (by assumption) ?_) | (refine Mat.ln (by assumption) ?_) | (refine Ints.ln (Mat.row (by assumption) _ (by omega)) ?_) | (refine Ints.ix (by assumption) (by omega) ?_) | (refine Mat.ix (by assumption) (by omega) ?_) | (refine Ints.ix (Mat.row (by assumption) _ (by omega)) (by omega) ?_) | (refine Ints.ix (c := 0) (by assumption) (by omega) ?_) | (refine Mat.ix (c := 0) (by assumption) (by omega) ?_) | (refine Ints.ix (c := 0) (Mat.row (by assumption) _ (by omega)) (by omega) ?_) | (refine Ints.ixI (by assumption) (by omega) ?_) | (refine Mat.ixI (by assumption) (by omega) ?_) | (refine Ints.ixI (Mat.row (by assumption) _ (by omega)) (by omega) ?_) | (refine Ints.ld (by assumption) (by omega) ?_) | (refine Mat.ld (by assumption) (by omega) ?_) | (refine Ints.ld (Mat.row (by assumption) _ (by omega)) (by omega) ?_) | (refine At.ld (by assumption) rfl ?_) | (refine At.ldN (by assumption) rfl ?_) | (refine Prs.ln (by assumption) ?_) | (refine Trs.ln (by assumption) ?_) | (refine Prs.ix (by assumption) (by omega) ?_) | (refine Trs.ix (by assumption) (by omega) ?_) | (refine Prs.ldN (by assumption) (by omega) ?_) | (refine Trs.ldN (by assumption) (by omega) ?_) | (refine At.ldN (Blk.at (by assumption)) rfl ?_) | (refine At.ld (Blk.at (by assumption)) rfl ?_) | (refine IxA.mk (by omega) ?_) | (refine Sl.ln (Own.sl (by assumption)) ?_) | (refine Ints.ix (Own.sl (by assumption)) (by omega) ?_) | (refine Ints.ixI (Own.sl (by assumption)) (by omega) ?_) | (refine Ints.ld (Own.sl (by assumption)) (by omega) ?_))
        exact ⟨rfl, EE⟩
  · rw [tf_f hf] at cf
    repeat' ((conv => whnf); first | (refine Dr.quiet tyOk (by kernel_rfl) ?_) | (refine VC.pure alive20_pc ?_) | (refine VC.pure cf ?_) | (refine Rng.mk (by omega) ?_) | (refine Split.pos (by omega) ?_) | (refine Split.neg (by omega) ?_) | (refine Split.mk (fun h => ?_) (fun h => ?_)) | (refine Need.mk (by omega) ?_) | (refine Ints.ln (by assumption) ?_) | (refine Mat.ln (by assumption) ?_) | (refine Ints.ln (Mat.row (by assumption) _ (by omega)) ?_) | (refine Ints.ix (by assumption) (by omega) ?_) | (refine Mat.ix (by assumption) (by omega) ?_) | (refine Ints.ix (Mat.row (by assumption) _ (by omega)) (by omega) ?_) | (refine Ints.ix (c := 0) (by assumption) (by omega) ?_) | (refine Mat.ix (c := 0) (by assumption) (by omega) ?_) | (refine Ints.ix (c := 0) (Mat.row (by assumption) _ (by omega)) (by omega) ?_) | (refine Ints.ixI (by assumption) (by omega) ?_) | (refine Mat.ixI (by assumption) (by omega) ?_) | (refine Ints.ixI (Mat.row (by assumption) _ (by omega)) (by omega) ?_) | (refine Ints.ld (by assumption) (by omega) ?_) | (refine Mat.ld (by assumption) (by omega) ?_) | (refine Ints.ld (Mat.row (by assumption) _ (by omega)) (by omega) ?_) | (refine At.ld (by assumption) rfl ?_) | (refine At.ldN (by assumption) rfl ?_) | (refine Prs.ln (by assumption) ?_) | (refine Trs.ln (by assumption) ?_) | (refine Prs.ix (by assumption) (by omega) ?_) | (refine Trs.ix (by assumption) (by omega) ?_) | (refine Prs.ldN (by assumption) (by omega) ?_) | (refine Trs.ldN (by assumption) (by omega) ?_) | (refine At.ldN (Blk.at (by assumption)) rfl ?_) | (refine At.ld (Blk.at (by assumption)) rfl ?_) | (refine IxA.mk (by omega) ?_) | (refine Sl.ln (Own.sl (by assumption)) ?_) | (refine Ints.ix (Own.sl (by assumption)) (by omega) ?_) | (refine Ints.ixI (Own.sl (by assumption)) (by omega) ?_) | (refine Ints.ld (Own.sl (by assumption)) (by omega) ?_))
    exact ⟨rfl, EE⟩

open Go.ChangeShapes Go.WideShapes Go.ChangeAt Go.RowKit Go.Eng in
theorem shareKept_lifted (os : Os) (started : os.Started) (H : Type) (enc : TypeId × Value → H) :
    ReturnsInHanded {} Try.checked os 13 .any (Rows.shareKeptSpec.pre6 enc Try.prog Try.f13 Rows.shareKeptRow.domain false) (Rows.shareKeptSpec.post enc Try.prog Try.f13 false true false false) := by
  refine returnsInHanded_of_change (C := Try.checked) own started (by kernel_rfl) Try.func13
    (ChangeSpec.witness6 (enc := enc) (C := Try.checked) false ⟨#[], #[.agg #[.slice none 0 0], .slice none 0 0], []⟩ 8 (by kernel_rfl) (by kernel_rfl) (by kernel_rfl) (by kernel_rfl)) ?_
  intro W base args ds gs before hval0 hW hcnd _
  have hval : ∀ (j : Nat) t v, Try.f13.params[j]? = some t → args[j]? = some v → Value.okWide Try.prog W .any base t v := hval0
  have hW' := hW
  obtain ⟨p, q, hA0, hV, e0, hfz, hnd⟩ := hW
  have hA : DataW.TrodAll enc Try.prog W 0 (fun _ => true) true Try.f13.params.toList args.toList ds p := hA0
  rw [Try.params13] at hA hval
  clear hfz hnd hV e0 hval0
  obtain ⟨v0, vs0, d0, ds0, p0, q0, e0, rfl, f0, h0, t0⟩ := trodAll_cons hA
  obtain ⟨v1, vs1, d1, ds1, p1, q1, e1, rfl, f1, h1, t1⟩ := trodAll_cons t0
  subst e1
  obtain ⟨ee, rfl, _⟩ := trodAll_nil t1
  subst ee
  obtain rfl : args = #[v0, v1] := Array.toList_inj.1 (by simpa using e0)
  obtain ⟨g0, s0, r0, rfl, H0, R0⟩ := open_G Try.underlying24 rfl (by kernel_rfl) (by kernel_rfl) Try.underlying22 Try.underlying27 Try.underlying3 (by kernel_rfl) (by kernel_rfl) (hval 0 24 _ rfl rfl) h0
  obtain ⟨l1, H1, R1⟩ := open_L Try.underlying27 Try.underlying3 (by kernel_rfl) (hval 1 27 _ rfl rfl) h1
  exact law_calls laidOut (by rw [Try.params13]; intro t ht; revert t; decide +kernel) rfl Try.underlying4 rfl ⟨rfl, rfl, rfl⟩ hW' (sharekept_pc H0 H1)

theorem shareKept_holds : Rows.ShareKeptSaid :=
  OpenClaim.holds_of_wide 13 Try.f13 rfl rfl rfl rfl rfl rfl rfl ⟨rfl, rfl, rfl, rfl, rfl⟩ rfl rfl rfl rfl rfl (by kernel_rfl) Try.func13 (by kernel_rfl)
    (of_decide_eq_true (by kernel_rfl)) (by unfold Func.isWrapper; first | (rw [if_pos (by decide +kernel)]; kernel_rfl) | (rw [if_neg (by decide +kernel)]; exact ⟨rfl, rfl⟩))
    (fun os started H enc _ => shareKept_lifted os started H enc)
end Go.Proofs.Ytkgogljfngplnaa
