/- Joined texts: FlowMf FlowWy EngU Flow6 Flow7 FlowMx L25. -/
import Derived.Test.YtpdldifklgpikaaJ2
import Derived.WalkSpells
set_option linter.unusedVariables false
set_option linter.unusedSimpArgs false
namespace Go.Proofs.Ytpdldifklgpikaa
open Go.Eng

theorem lex_tri : ∀ {a b : List Int}, a.length = b.length → a = b ∨ lexlt a b ∨ lexlt b a
  | [], [], _ => .inl rfl
  | [], _ :: _, h => by simp at h
  | _ :: _, [], h => by simp at h
  | x :: a, y :: b, h => by
    rcases Int.lt_trichotomy x y with e | e | e
    · exact .inr (.inl (.inl e))
    · subst e
      rcases lex_tri (a := a) (b := b) (by simpa using h) with e | e | e
      · subst e; exact .inl rfl
      · exact .inr (.inl (.inr ⟨rfl, e⟩))
      · exact .inr (.inr (.inr ⟨rfl, e⟩))
    · exact .inr (.inr (.inl e))

theorem of_tf {p : Prop} (h : tf p = true) : p := Classical.byContradiction fun hn => by rw [tf_f hn] at h; cases h

section
open Classical
/-- what comes into a set of nodes by the first c arcs, less what goes out -/
noncomputable def setBal (A : List T3) (f : List Int) (S : Int → Prop) : Nat → Int
  | 0 => 0
  | c + 1 => setBal A f S c + (if S (too A c) then f.getD c 0 else 0) - (if S (frm A c) then f.getD c 0 else 0)
theorem sumK_sub (f g : Nat → Int) : ∀ n, sumK (fun k => f k - g k) n = sumK f n - sumK g n
  | 0 => rfl
  | n + 1 => by have := sumK_sub f g n; simp only [sumK]; omega
theorem sumK_in {S : Int → Prop} {x y : Int} {n : Nat} (h : 0 ≤ x ∧ x < n) : sumK (fun v : Nat => if S (v : Int) then (if x = (v : Int) then y else 0) else 0) n = if S x then y else 0 := by
  rw [sumK_congr (g := fun v : Nat => if x = (v : Int) then (if S x then y else 0) else 0)]
  · rw [sumK_ind, if_pos h]
  · intro v _
    by_cases e : x = (v : Int)
    · rw [if_pos e, if_pos e, e]
    · rw [if_neg e, if_neg e]; split <;> rfl
theorem setBal_sum {N : Nat} {A : List T3} {f : List Int} {S : Int → Prop} (hk : NetOk N A) : ∀ {c : Nat}, c ≤ A.length → sumK (fun v : Nat => if S (v : Int) then bal A f v c else 0) N = setBal A f S c
  | 0, _ => by
    rw [sumK_congr (g := fun _ => 0) (fun v _ => by simp [bal])]
    exact sumK_zero N
  | c + 1, h => by
    have ih := setBal_sum (f := f) (S := S) hk (c := c) (by omega)
    have ha := hk.arc c (by omega)
    have e : sumK (fun v : Nat => if S (v : Int) then bal A f v (c + 1) else 0) N = sumK (fun v : Nat => ((if S (v : Int) then bal A f v c else 0) + (if S (v : Int) then (if too A c = (v : Int) then f.getD c 0 else 0) else 0)) - (if S (v : Int) then (if frm A c = (v : Int) then f.getD c 0 else 0) else 0)) N := by
      refine sumK_congr fun v _ => ?_
      simp only [bal]
      by_cases hs : S (v : Int)
      · simp only [if_pos hs]
      · simp only [if_neg hs]; rfl
    rw [e, sumK_sub, sumK_add, ih, sumK_in ha.2.1, sumK_in ha.1]
    rfl
/-- nothing more goes out of a shut set than goes out now -/
theorem cut_le {A : List T3} {f g : List Int} {S : Int → Prop} {k : Nat} (hf : isF A f) (hg : isF A g)
    (hc : ∀ j, k ≤ j → j < A.length → ∀ u v, S u → Edg A f u v j → S v) : ∀ d : Nat, k + d ≤ A.length → setBal A f S (k + d) - setBal A f S k ≤ setBal A g S (k + d) - setBal A g S k
  | 0, _ => by simp
  | d + 1, h => by
    have ih := cut_le hf hg hc d (by omega)
    have h1 := hf.2 (k + d) (by have := hf.1; omega)
    have h2 := hg.2 (k + d) (by have := hg.1; omega)
    have hj := hc (k + d) (by omega) (by omega)
    rw [show k + (d + 1) = (k + d) + 1 by omega]
    simp only [setBal]
    by_cases ht : S (too A (k + d)) <;> by_cases hs : S (frm A (k + d))
    · rw [if_pos ht, if_pos hs, if_pos ht, if_pos hs]; omega
    · rw [if_pos ht, if_neg hs, if_pos ht, if_neg hs]
      have : ¬ 0 < f.getD (k + d) 0 := fun h0 => hs (hj _ _ ht (.inr ⟨rfl, rfl, h0⟩))
      omega
    · rw [if_neg ht, if_pos hs, if_neg ht, if_pos hs]
      have : ¬ f.getD (k + d) 0 < cpy A (k + d) := fun h0 => ht (hj _ _ hs (.inl ⟨rfl, rfl, h0⟩))
      omega
    · rw [if_neg ht, if_neg hs, if_neg ht, if_neg hs]; omega
theorem set_mid {N : Nat} {A : List T3} {f : List Int} {S : Int → Prop} (hk : NetOk N A) (hm : midZ N A f) (h0 : S 0) (h1 : ¬ S ((N - 1 : Nat) : Int)) : setBal A f S A.length = bal A f 0 A.length := by
  have h2 := hk.n2
  rw [← setBal_sum hk (Nat.le_refl _), sumK_congr (g := fun v : Nat => if (0 : Int) = (v : Int) then bal A f 0 A.length else 0)]
  · rw [sumK_ind, if_pos (by omega)]
  · intro v hv
    by_cases e : v = 0
    · subst e; rw [show ((0 : Nat) : Int) = 0 from rfl, if_pos h0, if_pos rfl]
    · rw [if_neg (show ¬ (0 : Int) = (v : Int) by omega)]
      by_cases e2 : v = N - 1
      · subst e2; rw [if_neg h1]
      · rw [hm v (by omega) (by omega)]; split <;> rfl
theorem setBal_all {A : List T3} {f : List Int} : ∀ c, setBal A f (fun _ => True) c = 0
  | 0 => rfl
  | c + 1 => by have := setBal_all (A := A) (f := f) c; simp only [setBal, if_true]; omega
/-- what the sink gets is what the source gives -/
theorem bal_sink {N : Nat} {A : List T3} {f : List Int} (hk : NetOk N A) (hm : midZ N A f) : bal A f ((N - 1 : Nat) : Int) A.length = - bal A f 0 A.length := by
  have h2 := hk.n2
  have h := setBal_sum (f := f) (S := fun _ => True) hk (Nat.le_refl _)
  rw [setBal_all, sumK_congr (g := fun v : Nat => (if (0 : Int) = (v : Int) then bal A f 0 A.length else 0) + (if ((N - 1 : Nat) : Int) = (v : Int) then bal A f ((N - 1 : Nat) : Int) A.length else 0))] at h
  · rw [sumK_add, sumK_ind, sumK_ind, if_pos (by omega), if_pos (by omega)] at h
    omega
  · intro v hv
    rw [if_pos (show (fun _ : Int => True) (v : Int) from trivial)]
    by_cases e : v = 0
    · subst e; rw [show ((0 : Nat) : Int) = 0 from rfl, if_pos rfl, if_neg (show ¬ ((N - 1 : Nat) : Int) = 0 by omega), Int.add_zero]
    · rw [if_neg (show ¬ (0 : Int) = (v : Int) by omega)]
      by_cases e2 : v = N - 1
      · subst e2; rw [if_pos rfl]; omega
      · rw [hm v (by omega) (by omega), if_neg (show ¬ ((N - 1 : Nat) : Int) = (v : Int) by omega)]; rfl
theorem setBal_same {N : Nat} {A : List T3} {f g : List Int} {S : Int → Prop} (hk : NetOk N A) (hf : midZ N A f) (hg : midZ N A g) (h0 : bal A g 0 A.length = bal A f 0 A.length) : setBal A g S A.length = setBal A f S A.length := by
  rw [← setBal_sum hk (Nat.le_refl _), ← setBal_sum hk (Nat.le_refl _)]
  refine sumK_congr fun v hv => ?_
  have h2 := hk.n2
  have e : bal A g (v : Int) A.length = bal A f (v : Int) A.length := by
    by_cases e : v = 0
    · subst e; exact h0
    · by_cases e2 : v = N - 1
      · subst e2; rw [bal_sink hk hf, bal_sink hk hg, h0]
      · rw [hf v (by omega) (by omega), hg v (by omega) (by omega)]
  rw [e]
theorem setBal_upto {A : List T3} {f g : List Int} {S : Int → Prop} : ∀ {c : Nat}, (∀ j, j < c → g.getD j 0 = f.getD j 0) → setBal A g S c = setBal A f S c
  | 0, _ => rfl
  | c + 1, h => by have ih := setBal_upto (S := S) (A := A) (c := c) (fun j hj => h j (by omega)); simp only [setBal]; rw [ih, h c (by omega)]

/-- no way from s to t through what is left of the arcs from k on -/
def NoWay (A : List T3) (f : List Int) (s t : Int) (k : Nat) : Prop := ∃ S : Int → Prop, S s ∧ ¬ S t ∧ ∀ j, k ≤ j → j < A.length → ∀ u v, S u → Edg A f u v j → S v

theorem most_flow {N : Nat} {A : List T3} {f g : List Int} (hk : NetOk N A) (hf : isW N A f) (hg : isW N A g) (h : NoWay A f 0 ((N - 1 : Nat) : Int) 0) : bal A f 0 A.length ≤ bal A g 0 A.length := by
  obtain ⟨S, h0, h1, hc⟩ := h
  have := cut_le hf.1 hg.1 hc A.length (by omega)
  rw [Nat.zero_add, set_mid hk hf.2 h0 h1, set_mid hk hg.2 h0 h1] at this
  simpa [setBal] using this

/-- a flow of the greatest value, the least list of these -/
def IsGf (N : Nat) (A : List T3) (f : List Int) : Prop := isW N A f ∧ (∀ g, isW N A g → bal A f 0 A.length ≤ bal A g 0 A.length) ∧ ∀ g, isW N A g → bal A g 0 A.length = bal A f 0 A.length → ¬ lexlt g f
theorem IsGf.one {N : Nat} {A : List T3} {f g : List Int} (hf : IsGf N A f) (hg : IsGf N A g) : f = g := by
  have e : bal A f 0 A.length = bal A g 0 A.length := Int.le_antisymm (hf.2.1 g hg.1) (hg.2.1 f hf.1)
  rcases lex_tri (a := f) (b := g) (by rw [hf.1.1.1, hg.1.1.1]) with h | h | h
  · exact h
  · exact absurd h (hg.2.2 f hf.1 e)
  · exact absurd h (hf.2.2 g hg.1 e.symm)

/-- as little as can be by the arcs up to i -/
def Tight (N : Nat) (A : List T3) (f : List Int) (b : Int) (i : Nat) : Prop := ∃ h : List Int, isW N A h ∧ bal A h 0 A.length = b ∧ (∀ j, j ≤ i → h.getD j 0 = f.getD j 0) ∧ (h.getD i 0 = 0 ∨ NoWay A h (frm A i) (too A i) (i + 1))
theorem Tight.pre {N : Nat} {A : List T3} {f g : List Int} {b : Int} {i : Nat} (h : Tight N A f b i) (e : ∀ j, j ≤ i → g.getD j 0 = f.getD j 0) : Tight N A g b i := by
  obtain ⟨x, h1, h2, h3, h4⟩ := h
  exact ⟨x, h1, h2, fun j hj => (h3 j hj).trans (e j hj).symm, h4⟩
theorem least_flow {N : Nat} {A : List T3} {f g : List Int} (hk : NetOk N A) (h : ∀ i, i < A.length → Tight N A f (bal A f 0 A.length) i) (hg : isW N A g) (hv : bal A g 0 A.length = bal A f 0 A.length) : ¬ lexlt g f := by
  intro hl
  obtain ⟨i, hi, _, hpre, hlt⟩ := lexlt_at hl
  rw [hg.1.1] at hi
  obtain ⟨x, hx, hxv, hxp, hx0⟩ := h i hi
  have hgi := hg.1.2 i (by rw [hg.1.1]; exact hi)
  have hxi := hxp i (Nat.le_refl _)
  rcases hx0 with h0 | ⟨S, hs, ht, hc⟩
  · omega
  · have e1 := setBal_same (S := S) hk hx.2 hg.2 (by rw [hv, hxv])
    have e2 : setBal A g S i = setBal A x S i := setBal_upto fun j hj => by rw [hpre j hj, hxp j (by omega)]
    have e3 : setBal A g S (i + 1) = setBal A g S i - g.getD i 0 := by simp only [setBal]; rw [if_neg ht, if_pos hs]; omega
    have e4 : setBal A x S (i + 1) = setBal A x S i - x.getD i 0 := by simp only [setBal]; rw [if_neg ht, if_pos hs]; omega
    have h5 := cut_le hx.1 hg.1 hc (A.length - (i + 1)) (by omega)
    rw [show i + 1 + (A.length - (i + 1)) = A.length by omega] at h5
    omega
theorem isGf_of {N : Nat} {A : List T3} {f : List Int} (hk : NetOk N A) (hf : isW N A f) (h1 : ∀ g, isW N A g → bal A f 0 A.length ≤ bal A g 0 A.length) (h2 : ∀ i, i < A.length → Tight N A f (bal A f 0 A.length) i) : IsGf N A f :=
  ⟨hf, h1, fun _ hg hv => least_flow hk h2 hg hv⟩
noncomputable def gf (N : Nat) (A : List T3) : List Int := if h : ∃ f, IsGf N A f then Classical.choose h else []
theorem gf_is {N : Nat} {A : List T3} {f : List Int} (h : IsGf N A f) : gf N A = f := by
  have hex : ∃ f, IsGf N A f := ⟨f, h⟩
  unfold gf
  rw [dif_pos hex]
  exact (Classical.choose_spec hex).one h

/-- more by x from s to t, through arcs from k on -/
structure Psh (A : List T3) (f g : List Int) (s t : Int) (k : Nat) (x : Int) : Prop where
  fl : isF A g
  pre : ∀ j, j < k → g.getD j 0 = f.getD j 0
  bl : ∀ v : Int, bal A g v A.length = bal A f v A.length + (if t = v then x else 0) - (if s = v then x else 0)
theorem Psh.refl {A : List T3} {f : List Int} {s t : Int} {k : Nat} (h : isF A f) : Psh A f f s t k 0 := ⟨h, fun _ _ => rfl, fun v => by split <;> split <;> omega⟩
theorem Psh.trans {A : List T3} {f g h : List Int} {s t : Int} {k : Nat} {x y : Int} (h1 : Psh A f g s t k x) (h2 : Psh A g h s t k y) : Psh A f h s t k (x + y) :=
  ⟨h2.fl, fun j hj => (h2.pre j hj).trans (h1.pre j hj), fun v => by rw [h2.bl, h1.bl]; split <;> split <;> omega⟩
theorem bal_set {A : List T3} {f : List Int} {v d : Int} {i : Nat} (hi : i < f.length) : ∀ c : Nat, bal A (f.set i (f.getD i 0 + d)) v c = bal A f v c + if i < c then (if too A i = v then d else 0) - (if frm A i = v then d else 0) else 0
  | 0 => by simp [bal]
  | c + 1 => by
    have ih := bal_set (A := A) (v := v) (d := d) hi c
    simp only [bal]
    rw [ih, set_getD' hi]
    by_cases e : i = c
    · subst e
      rw [if_pos rfl, if_neg (Nat.lt_irrefl i), if_pos (show i < i + 1 by omega)]
      split <;> split <;> omega
    · rw [if_neg e]
      by_cases h : i < c
      · rw [if_pos h, if_pos (show i < c + 1 by omega)]; omega
      · rw [if_neg h, if_neg (show ¬ i < c + 1 by omega)]; omega
theorem isF_set {A : List T3} {f : List Int} {i : Nat} {x : Int} (h : isF A f) (hi : i < A.length) (hx : 0 ≤ x ∧ x ≤ cpy A i) : isF A (f.set i x) := by
  refine ⟨by rw [List.length_set]; exact h.1, fun j hj => ?_⟩
  rw [List.length_set] at hj
  rw [set_getD' (by rw [h.1]; exact hi)]
  by_cases e : i = j
  · subst e; rw [if_pos rfl]; exact hx
  · rw [if_neg e]; exact h.2 j hj
/-- one arc, forth -/
theorem psh_forth {A : List T3} {f : List Int} {i k : Nat} {x : Int} (h : isF A f) (hi : i < A.length) (hk : k ≤ i) (hx : 0 ≤ x) (hc : f.getD i 0 + x ≤ cpy A i) : Psh A f (f.set i (f.getD i 0 + x)) (frm A i) (too A i) k x := by
  have hfl : i < f.length := by rw [h.1]; exact hi
  refine ⟨isF_set h hi (by have := h.2 i hfl; omega), fun j hj => by rw [set_getD' hfl, if_neg (by omega)], fun v => ?_⟩
  rw [bal_set hfl, if_pos hi]; omega
/-- one arc, back -/
theorem psh_back {A : List T3} {f : List Int} {i k : Nat} {x : Int} (h : isF A f) (hi : i < A.length) (hk : k ≤ i) (hx : 0 ≤ x) (hc : x ≤ f.getD i 0) : Psh A f (f.set i (f.getD i 0 - x)) (too A i) (frm A i) k x := by
  have hfl : i < f.length := by rw [h.1]; exact hi
  refine ⟨isF_set h hi (by have := h.2 i hfl; omega), fun j hj => by rw [set_getD' hfl, if_neg (by omega)], fun v => ?_⟩
  rw [show f.getD i 0 - x = f.getD i 0 + (-x) by omega, bal_set hfl, if_pos hi]
  split <;> split <;> omega
theorem Edg.congr {A : List T3} {f g : List Int} {u v : Int} {j : Nat} (e : g.getD j 0 = f.getD j 0) (h : Edg A g u v j) : Edg A f u v j := by unfold Edg at *; rw [e] at h; exact h
theorem NoWay.congr {A : List T3} {f g : List Int} {s t : Int} {k : Nat} (h : NoWay A f s t k) (e : ∀ j, k ≤ j → j < A.length → g.getD j 0 = f.getD j 0) : NoWay A g s t k := by
  obtain ⟨S, h1, h2, h3⟩ := h
  exact ⟨S, h1, h2, fun j hj hl u v hu he => h3 j hj hl u v hu (he.congr (e j hj hl))⟩

/-- the second part of the search: what can go by later arcs goes there -/
structure Grt (N : Nat) (A : List T3) (f : List Int) (i : Nat) : Prop where
  fw : isW N A f
  most : ∀ g, isW N A g → bal A f 0 A.length ≤ bal A g 0 A.length
  tight : ∀ j, j < i → Tight N A f (bal A f 0 A.length) j
theorem Grt.step {N : Nat} {A : List T3} {f g : List Int} {i : Nat} {x : Int} (hk : NetOk N A) (h : Grt N A f i) (hi : i < A.length) (hp : Psh A f g (frm A i) (too A i) (i + 1) x) (hx : 0 ≤ x ∧ x ≤ f.getD i 0) (hn : x = f.getD i 0 ∨ NoWay A g (frm A i) (too A i) (i + 1)) :
    Grt N A (g.set i (f.getD i 0 - x)) (i + 1) := by
  have hgi : g.getD i 0 = f.getD i 0 := hp.pre i (by omega)
  have hgl : g.length = A.length := hp.fl.1
  have hfi := h.fw.1.2 i (by rw [h.fw.1.1]; exact hi)
  have hb : ∀ v : Int, bal A (g.set i (f.getD i 0 - x)) v A.length = bal A f v A.length := fun v => by
    rw [← hgi, show g.getD i 0 - x = g.getD i 0 + (-x) by omega, bal_set (by omega), if_pos hi, hp.bl]
    split <;> split <;> omega
  have hF : isF A (g.set i (f.getD i 0 - x)) := isF_set hp.fl hi (by omega)
  have hW : isW N A (g.set i (f.getD i 0 - x)) := ⟨hF, fun v h1 h2 => by rw [hb]; exact h.fw.2 v h1 h2⟩
  have hget : ∀ j, j ≠ i → (g.set i (f.getD i 0 - x)).getD j 0 = g.getD j 0 := fun j hj => by rw [set_getD' (by omega), if_neg (fun e => hj e.symm)]
  refine ⟨hW, fun q hq => by rw [hb]; exact h.most q hq, fun j hj => ?_⟩
  rw [hb]
  by_cases e : j = i
  · subst e
    refine ⟨_, hW, hb 0, fun _ _ => rfl, ?_⟩
    rcases hn with hn | hn
    · left; rw [set_getD' (by omega), if_pos rfl]; omega
    · right; exact hn.congr fun q hq _ => hget q (by omega)
  · exact (h.tight j (by omega)).pre fun q hq => by rw [hget q (by omega), hp.pre q (by omega)]
theorem Grt.done {N : Nat} {A : List T3} {f : List Int} (hk : NetOk N A) (h : Grt N A f A.length) : gf N A = f := gf_is (isGf_of hk h.fw h.most h.tight)
theorem isF_zero {N : Nat} {A : List T3} (hk : NetOk N A) : isF A (List.replicate A.length 0) := by
  refine ⟨by simp, fun i hi => ?_⟩
  rw [List.length_replicate] at hi
  have := hk.arc i hi
  rw [show (List.replicate A.length (0 : Int)).getD i 0 = 0 by simp [List.getD, hi]]
  omega
theorem bal_zero {A : List T3} {n : Nat} {v : Int} : ∀ c, bal A (List.replicate n 0) v c = 0
  | 0 => rfl
  | c + 1 => by
    have := bal_zero (A := A) (n := n) (v := v) c
    have e : (List.replicate n (0 : Int)).getD c 0 = 0 := by
      by_cases h : c < n
      · simp [List.getD, h]
      · rw [getD_out (by simp; omega)]
    simp only [bal]; rw [this, e]; split <;> split <;> rfl
theorem val_le {A : List T3} {N : Nat} {f : List Int} {v : Int} (hk : NetOk N A) (h : isF A f) : -(1000000 * (A.length : Int)) ≤ bal A f v A.length ∧ bal A f v A.length ≤ 1000000 * A.length :=
  bal_bd fun i hi => by have := h.2 i (by rw [h.1]; exact hi); have := hk.arc i hi; omega
/-- the first part: all that can go from the source to the sink -/
theorem Grt.start {N : Nat} {A : List T3} {f : List Int} {x : Int} (hk : NetOk N A) (hp : Psh A (List.replicate A.length 0) f 0 ((N - 1 : Nat) : Int) 0 x) (hn : x = 200000000 ∨ NoWay A f 0 ((N - 1 : Nat) : Int) 0) : Grt N A f 0 := by
  have h2 := hk.n2
  have hW : isW N A f := ⟨hp.fl, fun v h1 h2 => by rw [hp.bl, bal_zero, if_neg (by omega), if_neg (by omega)]; rfl⟩
  refine ⟨hW, fun g hg => ?_, fun j hj => absurd hj (Nat.not_lt_zero _)⟩
  rcases hn with hn | hn
  · have h3 := (val_le (v := 0) hk hg.1).1
    have h4 := hk.a200
    rw [hp.bl, bal_zero, if_neg (by omega), if_pos rfl]
    omega
  · exact most_flow hk hW hg hn

/-! ### cuts -/
theorem cutTo_eq {A : List T3} {s : List Bool} {f : List Int} {c : Nat} (h : ∀ j, j < c → 0 ≤ f.getD j 0 ∧ f.getD j 0 ≤ cpy A j) : - setBal A f (fun v => s.getD v.toNat false = true) c ≤ cutTo A s c ∧
    (- setBal A f (fun v => s.getD v.toNat false = true) c = cutTo A s c ↔ ∀ j, j < c → ∀ u v : Int, s.getD u.toNat false = true → Edg A f u v j → s.getD v.toNat false = true) := by
  induction c with
  | zero => exact ⟨by simp [setBal, cutTo], fun _ j hj => absurd hj (Nat.not_lt_zero _), fun _ => by simp [setBal, cutTo]⟩
  | succ c ih =>
    have ih := ih fun j hj => h j (by omega)
    have hc := h c (by omega)
    have hone : (∀ u v : Int, s.getD u.toNat false = true → Edg A f u v c → s.getD v.toNat false = true) ↔
        (s.getD (frm A c).toNat false = true → s.getD (too A c).toNat false = false → f.getD c 0 = cpy A c) ∧ (s.getD (too A c).toNat false = true → s.getD (frm A c).toNat false = false → f.getD c 0 = 0) := by
      constructor
      · intro h1
        refine ⟨fun h2 h3 => ?_, fun h2 h3 => ?_⟩
        · refine Classical.byContradiction fun hne => ?_
          have := h1 _ _ h2 (.inl ⟨rfl, rfl, by omega⟩)
          rw [h3] at this; cases this
        · refine Classical.byContradiction fun hne => ?_
          have := h1 _ _ h2 (.inr ⟨rfl, rfl, by omega⟩)
          rw [h3] at this; cases this
      · rintro ⟨h1, h2⟩ u v hu (⟨rfl, rfl, hl⟩ | ⟨rfl, rfl, hl⟩)
        · refine Classical.byContradiction fun hne => ?_
          have := h1 hu (by simpa using hne); omega
        · refine Classical.byContradiction fun hne => ?_
          have := h2 hu (by simpa using hne); omega
    have hall : (∀ j, j < c + 1 → ∀ u v : Int, s.getD u.toNat false = true → Edg A f u v j → s.getD v.toNat false = true) ↔
        (∀ j, j < c → ∀ u v : Int, s.getD u.toNat false = true → Edg A f u v j → s.getD v.toNat false = true) ∧ (∀ u v : Int, s.getD u.toNat false = true → Edg A f u v c → s.getD v.toNat false = true) :=
      ⟨fun h1 => ⟨fun j hj => h1 j (by omega), h1 c (by omega)⟩, fun h1 j hj => by
        by_cases e : j = c
        · subst e; exact h1.2
        · exact h1.1 j (by omega)⟩
    rw [hall, hone, ← ih.2]
    simp only [setBal, cutTo]
    by_cases ht : s.getD (too A c).toNat false = true <;> by_cases hs : s.getD (frm A c).toNat false = true
    · rw [if_pos ht, if_pos hs, if_neg (fun h2 => by have h3 := h2.2; rw [ht] at h3; cases h3)]
      exact ⟨by omega, ⟨fun h2 => ⟨by omega, ⟨fun _ h3 => (by rw [ht] at h3; cases h3), fun _ h3 => (by rw [hs] at h3; cases h3)⟩⟩, fun h2 => by have := h2.1; omega⟩⟩
    · have hs' : s.getD (frm A c).toNat false = false := by simpa using hs
      rw [if_pos ht, if_neg hs, if_neg (fun h2 => hs h2.1)]
      exact ⟨by omega, fun h2 => ⟨by omega, fun h3 => absurd h3 hs, fun _ _ => by omega⟩, fun ⟨h1, _, h3⟩ => by have := h3 ht hs'; omega⟩
    · have ht' : s.getD (too A c).toNat false = false := by simpa using ht
      rw [if_neg ht, if_pos hs, if_pos ⟨hs, ht'⟩]
      exact ⟨by omega, fun h2 => ⟨by omega, fun _ _ => by omega, fun h3 => absurd h3 ht⟩, fun ⟨h1, h3, _⟩ => by have := h3 hs ht'; omega⟩
    · rw [if_neg ht, if_neg hs, if_neg (fun h2 => hs h2.1)]
      exact ⟨by omega, fun h2 => ⟨by omega, fun h3 => absurd h3 hs, fun h3 => absurd h3 ht⟩, fun h2 => by have := h2.1; omega⟩
theorem cut_weak {N : Nat} {A : List T3} {f : List Int} {s : List Bool} (hk : NetOk N A) (hf : isW N A f) (hs : sdOk N s) : - bal A f 0 A.length ≤ cutTo A s A.length ∧
    (- bal A f 0 A.length = cutTo A s A.length ↔ ∀ j, j < A.length → ∀ u v : Int, s.getD u.toNat false = true → Edg A f u v j → s.getD v.toNat false = true) := by
  have h := cutTo_eq (A := A) (s := s) (f := f) (c := A.length) (fun j hj => hf.1.2 j (by rw [hf.1.1]; exact hj))
  rw [set_mid hk hf.2 (S := fun v => s.getD v.toNat false = true) hs.2.1 (by rw [Int.toNat_natCast, hs.2.2]; decide)] at h
  exact h
theorem rch_get {N : Nat} {A : List T3} {f : List Int} {v : Nat} (h : v < N) : (rchL N A f).getD v false = tf (Rch A f v) := mk_get false h
theorem rch_sd {N : Nat} {A : List T3} {f : List Int} (hk : NetOk N A) (h : ¬ Rch A f ((N - 1 : Nat) : Int)) : sdOk N (rchL N A f) := by
  have h2 := hk.n2
  exact ⟨rchL_len _ _ _, by rw [rch_get (by omega)]; exact tf_t Rch.z, by rw [rch_get (by omega)]; exact tf_f h⟩
theorem rch_shut {N : Nat} {A : List T3} {f : List Int} (hk : NetOk N A) : ∀ j, j < A.length → ∀ u v : Int, (rchL N A f).getD u.toNat false = true → Edg A f u v j → (rchL N A f).getD v.toNat false = true := by
  intro j hj u v hu he
  have hr := edg_rng hk hj he
  rw [rch_get (by omega)] at hu ⊢
  rw [show ((u.toNat : Nat) : Int) = u by omega] at hu
  rw [show ((v.toNat : Nat) : Int) = v by omega]
  exact tf_t (Rch.s (of_tf hu) hj he)
/-- the sink is out of reach: the flow is as great as can be, and the nodes that are reached prove it -/
theorem rch_proves {N : Nat} {A : List T3} {f : List Int} (hk : NetOk N A) (hf : isW N A f) (h : ¬ Rch A f ((N - 1 : Nat) : Int)) : sdOk N (rchL N A f) ∧ - bal A f 0 A.length = cutTo A (rchL N A f) A.length :=
  ⟨rch_sd hk h, (cut_weak hk hf (rch_sd hk h)).2.2 (rch_shut hk)⟩
/-- what is reached lies in each side that proves the flow -/
theorem rch_sub {N : Nat} {A : List T3} {f : List Int} {s : List Bool} (hk : NetOk N A) (hf : isW N A f) (hs : sdOk N s) (he : - bal A f 0 A.length = cutTo A s A.length) {v : Int} (hv : Rch A f v) : s.getD v.toNat false = true := by
  have hc := (cut_weak hk hf hs).2.1 he
  induction hv with
  | z => exact hs.2.1
  | s _ hi hed ih => exact hc _ hi _ _ ih hed
theorem noway_of {N : Nat} {A : List T3} {f : List Int} (h : ¬ Rch A f ((N - 1 : Nat) : Int)) : NoWay A f 0 ((N - 1 : Nat) : Int) 0 := ⟨Rch A f, Rch.z, h, fun _ _ hl _ _ hu he => Rch.s hu hl he⟩
end
end Go.Proofs.Ytpdldifklgpikaa
set_option linter.unusedVariables false
set_option linter.unusedSimpArgs false
namespace Go.Proofs.Ytpdldifklgpikaa
open Go.Eng

/-- arc i leads on from u to v, with at least so much left -/
def EdgS (A : List T3) (f : List Int) (st : Int) (u v : Int) (i : Nat) : Prop := (frm A i = u ∧ too A i = v ∧ st ≤ cpy A i - f.getD i 0) ∨ (too A i = u ∧ frm A i = v ∧ st ≤ f.getD i 0)
theorem EdgS.one {A : List T3} {f : List Int} {u v : Int} {i : Nat} (h : Edg A f u v i) : EdgS A f 1 u v i := by
  unfold Edg at h; unfold EdgS; omega
theorem edgS_rng {N : Nat} {A : List T3} {f : List Int} {st u v : Int} {i : Nat} (hk : NetOk N A) (hi : i < A.length) (h : EdgS A f st u v i) : (0 ≤ u ∧ u < N) ∧ (0 ≤ v ∧ v < N) := by
  have := hk.arc i hi; unfold EdgS at h; omega

theorem cntF_pos : ∀ {l : List Bool} {t : Nat}, t < l.length → l.getD t false = false → 0 < cntF l := fun h h2 => by have := cntF_set h h2; omega
theorem cntF_mono : ∀ {a b : List Bool}, a.length = b.length → (∀ u, a.getD u false = true → b.getD u false = true) → cntF b ≤ cntF a
  | [], [], _, _ => Nat.le_refl _
  | [], _ :: _, h, _ => by simp at h
  | _ :: _, [], h, _ => by simp at h
  | x :: a, y :: b, h, h2 => by
    have ih := cntF_mono (a := a) (b := b) (by simpa using h) (fun u hu => h2 (u + 1) hu)
    have h0 : x = true → y = true := h2 0
    simp only [cntF]
    cases x <;> cases y <;> simp at h0 ⊢ <;> omega

/-- what a way leaves alone: arcs at nodes that were seen before -/
def Alone (A : List T3) (F F' : List Int) (Z : List Bool) : Prop := ∀ j, F'.getD j 0 = F.getD j 0 ∨ (Z.getD (frm A j).toNat false = false ∧ Z.getD (too A j).toNat false = false)
theorem Alone.refl {A : List T3} {F : List Int} {Z : List Bool} : Alone A F F Z := fun _ => .inl rfl
theorem Alone.at {A : List T3} {F F' : List Int} {Z : List Bool} {j : Nat} (h : Alone A F F' Z) (hs : Z.getD (frm A j).toNat false = true ∨ Z.getD (too A j).toNat false = true) : F'.getD j 0 = F.getD j 0 := by
  rcases h j with e | ⟨e1, e2⟩
  · exact e
  · rcases hs with hs | hs
    · rw [e1] at hs; cases hs
    · rw [e2] at hs; cases hs
theorem Alone.set {A : List T3} {F F' : List Int} {Z Z' : List Bool} {i : Nat} {x : Int} (h : Alone A F F' Z') (hz : ∀ u, Z.getD u false = true → Z'.getD u false = true) (h1 : Z.getD (frm A i).toNat false = false) (h2 : Z.getD (too A i).toNat false = false) (hi : i < F'.length) : Alone A F (F'.set i x) Z := by
  intro j
  by_cases e : i = j
  · subst e; exact .inr ⟨h1, h2⟩
  · rw [set_getD' hi, if_neg e]
    rcases h j with h3 | ⟨h3, h4⟩
    · exact .inl h3
    · refine .inr ⟨?_, ?_⟩
      · refine Classical.byContradiction fun hn => ?_
        have := hz _ (by simpa using hn); rw [h3] at this; cases this
      · refine Classical.byContradiction fun hn => ?_
        have := hz _ (by simpa using hn); rw [h4] at this; cases this
/-- the arcs before c are looked at, without finding a way -/
structure WayT (A : List T3) (F : List Int) (st : Int) (sk : Nat) (s t : Int) (Z Z' : List Bool) (c : Nat) : Prop where
  len : Z'.length = Z.length
  up : ∀ u, Z.getD u false = true → Z'.getD u false = true
  me : Z'.getD s.toNat false = true
  goal : Z'.getD t.toNat false = false
  cl : ∀ u : Nat, Z'.getD u false = true → Z.getD u false = true ∨ (u : Int) = s ∨ ∀ j, sk ≤ j → j < A.length → ∀ v : Int, EdgS A F st u v j → Z'.getD v.toNat false = true
  dn : ∀ j, sk ≤ j → j < c → ∀ v : Int, EdgS A F st s v j → Z'.getD v.toNat false = true
section
variable {A : List T3} {F : List Int} {st : Int} {sk : Nat} {s t : Int} {Z Z' Z'' : List Bool} {c : Nat}
theorem WayT.start (h0 : 0 ≤ s) (hs : s.toNat < Z.length) (hst : s ≠ t) (h1 : 0 ≤ t) (ht : Z.getD t.toNat false = false) : WayT A F st sk s t Z (Z.set s.toNat true) sk := by
  have hg : ∀ j, (Z.set s.toNat true).getD j false = if s.toNat = j then true else Z.getD j false := fun j => setB_getD hs
  refine ⟨List.length_set, fun u hu => by rw [hg]; split; rfl; exact hu, by rw [hg, if_pos rfl], by rw [hg, if_neg (by omega)]; exact ht, fun u hu => ?_, fun j h1 h2 => absurd h2 (by omega)⟩
  rw [hg] at hu
  by_cases e : s.toNat = u
  · exact .inr (.inl (by omega))
  · rw [if_neg e] at hu; exact .inl hu
theorem WayT.skip (h : WayT A F st sk s t Z Z' c) (hc : ∀ v : Int, EdgS A F st s v c → Z'.getD v.toNat false = true) : WayT A F st sk s t Z Z' (c + 1) :=
  ⟨h.len, h.up, h.me, h.goal, h.cl, fun j h1 h2 v hv => by
    by_cases e : j = c
    · subst e; exact hc v hv
    · exact h.dn j h1 (by omega) v hv⟩
theorem WayT.call {k : Int} (h : WayT A F st sk s t Z Z' c) (h2 : WayT A F st sk k t Z' Z'' A.length) (hc : ∀ v : Int, EdgS A F st s v c → v = k) : WayT A F st sk s t Z Z'' (c + 1) := by
  refine ⟨h2.len.trans h.len, fun u hu => h2.up u (h.up u hu), h2.up _ h.me, h2.goal, fun u hu => ?_, fun j h3 h4 v hv => ?_⟩
  · rcases h2.cl u hu with h5 | h5 | h5
    · rcases h.cl u h5 with h6 | h6 | h6
      · exact .inl h6
      · exact .inr (.inl h6)
      · exact .inr (.inr fun j h7 h8 v hv => h2.up _ (h6 j h7 h8 v hv))
    · exact .inr (.inr fun j h7 h8 v hv => h2.dn j h7 h8 v (by rw [h5] at hv; exact hv))
    · exact .inr (.inr h5)
  · by_cases e : j = c
    · subst e; rw [hc v hv]; exact h2.me
    · exact h2.up _ (h.dn j h3 (by omega) v hv)
theorem WayT.cnt (h : WayT A F st sk s t Z Z' c) (hs : s.toNat < Z.length) (h0 : Z.getD s.toNat false = false) : cntF Z' < cntF Z := by
  have h1 := cntF_set hs h0
  have h2 : cntF Z' ≤ cntF (Z.set s.toNat true) := cntF_mono (by rw [List.length_set]; exact h.len.symm) fun u hu => by
    rw [setB_getD hs] at hu
    by_cases e : s.toNat = u
    · subst e; exact h.me
    · rw [if_neg e] at hu; exact h.up u hu
  omega
theorem WayT.noway {N : Nat} (hk : NetOk N A) (h0 : 0 ≤ s) (h : WayT A F 1 sk s t (List.replicate N false) Z' A.length) : NoWay A F s t sk := by
  refine ⟨fun v => 0 ≤ v ∧ Z'.getD v.toNat false = true, ⟨h0, h.me⟩, fun h2 => ?_, fun j hj hl u v hu he => ?_⟩
  · have := h2.2; rw [h.goal] at this; cases this
  · have hr := edgS_rng hk hl (EdgS.one he)
    refine ⟨hr.2.1, ?_⟩
    have e : ((u.toNat : Nat) : Int) = u := by omega
    rcases h.cl u.toNat hu.2 with h5 | h5 | h5
    · exfalso
      rw [show (List.replicate N false).getD u.toNat false = false by simp only [List.getD, List.getElem?_replicate]; split <;> rfl] at h5
      cases h5
    · exact h.dn j hj hl v (by rw [← h5, e]; exact EdgS.one he)
    · exact h5 j hj hl v (by rw [e]; exact EdgS.one he)
/-- what one call of the search brings -/
structure WayR (A : List T3) (F F' : List Int) (st : Int) (sk : Nat) (s t : Int) (Z Z' : List Bool) (m x : Int) : Prop where
  rng : 0 ≤ x ∧ x ≤ m
  psh : Psh A F F' s t sk x
  alone : Alone A F F' Z
  none : x = 0 → F' = F ∧ WayT A F st sk s t Z Z' A.length
end
theorem Psh.leg2 {A : List T3} {f g h : List Int} {s u t : Int} {k : Nat} {x : Int} (h1 : Psh A f g u t k x) (h2 : Psh A g h s u k x) : Psh A f h s t k x :=
  ⟨h2.fl, fun j hj => (h2.pre j hj).trans (h1.pre j hj), fun v => by rw [h2.bl, h1.bl]; split <;> split <;> split <;> omega⟩
end Go.Proofs.Ytpdldifklgpikaa
set_option linter.unusedVariables false
set_option linter.unusedSimpArgs false
namespace Go.Eng
open Go.RowKit

section
variable {P : Program} {w : World} {t e : TypeId} {x y : Operand} {v : Value} {K : Value → Prop}
end

/-- A new box, as a block. -/
theorem Bx.blk {T : TypeId} {l : List Value} {w : World} {K : Value → World → Prop} (h : ∀ (b : Nat) w', Ext w w' → w.heap.size ≤ b → Blk w' b T l → K (.pointer (some ⟨b, 0, none⟩)) w') : Bx T (.agg l.toArray) w K := by
  simp only [Bx]
  intro w1 hw1
  exact h w1.heap.size _ (hw1.alloc _) hw1.size (Blk.new w1 T l)

theorem places_run {P : Program} {w : World} : ∀ {l : List Field}, (∀ f ∈ l, P.cellsOf f.type ≠ 0) →
    ((l.toArray).mapM (m := Sem) fun f => do pure (f.offset, ← Go.sizeOf f.type)).run P w = .ok (l.map fun f => (f.offset, P.cellsOf f.type)).toArray w := by
  intro l hl
  rw [List.mapM_toArray]
  have h := mapM_run (P := P) (w := w) (fun f : Field => (do pure (f.offset, ← Go.sizeOf f.type) : Sem (Nat × Nat))) (fun f => (f.offset, P.cellsOf f.type)) l (fun f hf => by
    simp only [Sem.run_bind, sizeOf_run rfl (hl f hf), Result.andThen_ok, Sem.run_pure])
  simp only [Sem.run_bind, Sem.run_map, h, Result.andThen_ok, Sem.run_pure]
  try rfl
theorem fill_at (pl : Array (Nat × Nat)) (n : Nat) : ∀ (ps : List (Nat × Value)) (zc : Array Value), (∀ p ∈ ps, pl[p.1]? = some (p.1, 1) ∧ p.1 < n ∧ p.2.cells = #[p.2]) → zc.size = n →
    Instr.fill (pl[·]?) zc ps = some (ps.foldl (fun c p => c.setIfInBounds p.1 p.2) zc)
  | [], zc, _, _ => rfl
  | (i, v) :: ps, zc, h, hz => by
    obtain ⟨e2, h1, h2⟩ := h (i, v) (by simp)
    have h1 : i < n := h1
    have h2 : v.cells = #[v] := h2
    have e2 : pl[i]? = some (i, 1) := e2
    have e3 : ¬ (decide (#[v].size ≠ 1) || decide (i + #[v].size > zc.size)) = true := by simp; omega
    have e4 : Array.foldl (fun (cs : Array Value) (x : Value × Nat) => cs.setIfInBounds (i + x.snd) x.fst) zc #[v].zipIdx = zc.setIfInBounds i v := by simp [Array.zipIdx]
    simp only [Instr.fill, e2, h2, List.foldl_cons]
    rw [if_neg e3, e4]
    exact fill_at pl n ps _ (fun p hp => h p (by simp [hp])) (by simpa using hz)
/-- 'T{F: x, ..}', fields of several cells among the others. -/
theorem VS.sparse2 {P : Program} {w : World} {t : TypeId} {zc : Array Value} {N b : Nat} {l : List Field} {ps : List (Nat × Value)} {K : Value → Prop} (ht : P.underlying t = some (.struct l.toArray)) (hz : Elem P t (.agg zc) N b)
    (hg : ∀ f ∈ l, P.cellsOf f.type ≠ 0) (hv : ∀ p ∈ ps, (l.map fun f => (f.offset, P.cellsOf f.type)).toArray[p.1]? = some (p.1, 1) ∧ p.1 < zc.size ∧ p.2.cells = #[p.2])
    (hk : K (.agg (ps.foldl (fun c p => c.setIfInBounds p.1 p.2) zc))) : VS P (Instr.build t ps.toArray) w K := by
  refine VS.mk (v := .agg (ps.foldl (fun c p => c.setIfInBounds p.1 p.2) zc)) (fun w1 _ => ?_) hk
  obtain ⟨i, hi, hz1, _, _⟩ := hz.info
  have hfill := fill_at _ zc.size ps zc hv rfl
  simp only [Instr.build, Sem.run_bind, zeroValue, typeInfo, run_program, Result.andThen_ok, hi, hz1, Sem.run_pure, run_underlying ht, places_run hg, Value.cells, hfill]
theorem VS.sparseR {P : Program} {w : World} {t : TypeId} {zc : Array Value} {N b : Nat} {l : List Field} {ps : List (Nat × Value)} {K : Value → Prop} (r : Array Value) (ht : P.underlying t = some (.struct l.toArray)) (hz : Elem P t (.agg zc) N b)
    (hg : ∀ f ∈ l, P.cellsOf f.type ≠ 0) (hv : ∀ p ∈ ps, (l.map fun f => (f.offset, P.cellsOf f.type)).toArray[p.1]? = some (p.1, 1) ∧ p.1 < zc.size ∧ p.2.cells = #[p.2]) (hr : ps.foldl (fun c p => c.setIfInBounds p.1 p.2) zc = r)
    (hk : K (.agg r)) : VS P (Instr.build t ps.toArray) w K := VS.sparse2 ht hz hg hv (by rw [hr]; exact hk)
end Go.Eng
set_option linter.unusedVariables false
set_option linter.unusedSimpArgs false
namespace Go.Proofs.Ytpdldifklgpikaa
open Go.Eng
set_option maxRecDepth 100000
set_option maxHeartbeats 4000000

theorem eWork : Elem Try.prog 73 (.agg #[.int .i64 0, .slice none 0 0, .slice none 0 0, .slice none 0 0, .int .i64 0, .int .i64 0]) 6 96 := by unfold Elem; kernel_rfl

/-- the record of the search: the network, the flow F, what is seen Z, the first arc and the step -/
structure WS (w0 w : World) (b N : Nat) (sv fv zv : Value) (sk : Nat) (st : Int) (F : List Int) (Z : List Bool) : Prop where
  ex : Ext w0 w
  bB : w0.heap.size ≤ b
  blk : Blk w b 73 [.int .i64 (N : Int), sv, fv, zv, .int .i64 (sk : Int), .int .i64 st]
  hf : OB w0.heap.size w fv F
  hz : OZ w0.heap.size w zv Z
section
variable {w0 w : World} {b N : Nat} {sv fv zv : Value} {sk : Nat} {st : Int} {F : List Int} {Z : List Bool}
theorem WS.ext (h : WS w0 w b N sv fv zv sk st F Z) {w' : World} (hx : Ext w w') : WS w0 w' b N sv fv zv sk st F Z :=
  ⟨h.ex.ext hx, h.bB, h.blk.ext hx, Own.ext h.hf hx, Own.ext h.hz hx⟩
theorem Gr.up {B : Nat} {v : Value} {n s : Nat} {e : TypeId} {xs : List Value} {w w' : World} (h : Go.Eng.Own B e s w v n xs) (hg : Gr (fun k => v.ownBlock = some k) w w') : Gr (fun k => B ≤ k) w w' :=
  hg.mono fun k _ hk => (Own.lt h k hk).1
theorem WS.stF (h : WS w0 w b N sv fv zv sk st F Z) {k : Nat} {x : Int} {K : World → Prop} (hk : k < F.length)
    (hK : ∀ w', Gr (fun k => w0.heap.size ≤ k) w w' → WS w0 w' b N sv fv zv sk st (F.set k x) Z → K w') : St w (ea fv k) (.int .i64 x) K :=
  OB.set h.hf hk fun w' hg h' => hK w' (Gr.up h.hf hg) ⟨Own.keep h.hf h.ex (Nat.le_refl _) hg, h.bB, h.blk.row h.hf (by decide) hg, h', Own.row h.hz h.hf (by decide) hg⟩
theorem WS.stZ (h : WS w0 w b N sv fv zv sk st F Z) {k : Nat} {x : Bool} {K : World → Prop} (hk : k < Z.length)
    (hK : ∀ w', Gr (fun k => w0.heap.size ≤ k) w w' → WS w0 w' b N sv fv zv sk st F (Z.set k x) → K w') : St w (ea zv k) (.bool x) K :=
  OZ.set h.hz hk fun w' hg h' => hK w' (Gr.up h.hz hg) ⟨Own.keep h.hz h.ex (Nat.le_refl _) hg, h.bB, h.blk.row h.hz (by decide) hg, Own.row h.hf h.hz (by decide) hg, h'⟩
end


theorem way_rc {N : Nat} {A : List T3} {sv : Value} {t : Int} {sk : Nat} {st : Int} (hk : NetOk N A) (ht : 0 ≤ t ∧ t < N) (hst : 1 ≤ st ∧ st ≤ 1048576) (hsk : sk ≤ A.length) : ∀ (j : Nat) {w0 w : World} {b : Nat} {fv zv : Value} {F : List Int} {Z : List Bool} {s m : Int},
    cntF Z ≤ j → 0 ≤ s ∧ s < N → 1 ≤ m ∧ m ≤ 200000000 → Z.getD s.toNat false = false → Z.getD t.toNat false = false → Z.length = N → isF A F → Trs w0 sv A → WS w0 w b N sv fv zv sk st F Z →
    RC Try.prog 49 [.pointer (some ⟨b, 0, none⟩), .int .i64 s, .int .i64 t, .int .i64 m] w (fun k => w0.heap.size ≤ k) (fun u w' => ∃ x F' Z', u = .int .i64 x ∧ WS w0 w' b N sv fv zv sk st F' Z' ∧ WayR A F F' st sk s t Z Z' m x)
  | 0, w0, w, b, fv, zv, F, Z, s, m, hj, hs, hm, h1, h2, hl, hF, HV0, HW => absurd (cntF_pos (by omega) h1) (by omega)
  | j + 1, w0, w, b, fv, zv, F, Z, s, m, hj, hs, hm, h1, h2, hl, hF, HV0, HW => by
    have hfl := hF.1
    have h40 := hk.n40
    have h200 := hk.a200
    refine RC.mk tyOk Try.func49 rfl (by kernel_rfl) fun w1 E1 => ?_
    replace HW := HW.ext E1
    have EE := Ext.refl w1
    have HK := HW.blk
    have HFI := Own.sl HW.hf
    have HZI := Own.sl HW.hz
    have HV := HV0.ext HW.ex
    have GS : Gr (fun k => w0.heap.size ≤ k) w1 w1 := Gr.refl _ _
    by_cases hst' : s = t
    · subst hst'
      repeat' ((conv => whnf); first | (refine Dr.quiet tyOk (by kernel_rfl) ?_) | (refine Rng.mk (by omega) ?_) | (refine Split.pos (by omega) ?_) | (refine Split.neg (by omega) ?_) | (refine Split.mk (fun h => ?_) (fun h => ?_)) | (refine Need.mk (by omega) ?_) | (refine Ints.ln (by assumption) ?_) | (refine Mat.ln (by assumption) ?_) | (refine Ints.ln (Mat.row (by assumption) _ (by omega)) ?_) | (refine Ints.ix (by assumption) (by omega) ?_) | (refine Mat.ix (by assumption) (by omega) ?_) | (refine Ints.ix (Mat.row (by assumption) _ (by omega)) (by omega) ?_) | (refine Ints.ix (c := 0) (by assumption) (by omega) ?_) | (refine Mat.ix (c := 0) (by assumption) (by omega) ?_) | (refine Ints.ix (c := 0) (Mat.row (by assumption) _ (by omega)) (by omega) ?_) | (refine Ints.ixI (by assumption) (by omega) ?_) | (refine Mat.ixI (by assumption) (by omega) ?_) | (refine Ints.ixI (Mat.row (by assumption) _ (by omega)) (by omega) ?_) | (refine Ints.ld (by assumption) (by omega) ?_) | (refine Mat.ld (by assumption) (by omega) ?_) | (refine Ints.ld (Mat.row (by assumption) _ (by omega)) (by omega) ?_) | (refine At.ld (by assumption) rfl ?_) | (refine At.ldN (by assumption) rfl ?_) | (refine Prs.ln (by assumption) ?_) | (refine Trs.ln (by assumption) ?_) | (refine Prs.ix (by assumption) (by omega) ?_) | (refine Trs.ix (by assumption) (by omega) ?_) | (refine Prs.ldN (by assumption) (by omega) ?_) | (refine Trs.ldN (by assumption) (by omega) ?_) | (refine At.ldN (Blk.at (by assumption)) rfl ?_) | (refine At.ld (Blk.at (by assumption)) rfl ?_) | (refine IxA.mk (by omega) ?_) | (refine Sl.ln (Own.sl (by assumption)) ?_) | (refine Ints.ix (Own.sl (by assumption)) (by omega) ?_) | (refine Ints.ixI (Own.sl (by assumption)) (by omega) ?_) | (refine Ints.ld (Own.sl (by assumption)) (by omega) ?_))
      exact ⟨GS, m, F, Z, rfl, HW, by omega, ⟨hF, fun _ _ => rfl, fun v => by omega⟩, Alone.refl, fun h => absurd h (by omega)⟩
    · repeat' ((conv => whnf); first | (refine Dr.quiet tyOk (by kernel_rfl) ?_) | (refine Bls.ixI HZI (by omega) ?_) | (refine Rng.mk (by omega) ?_) | (refine Split.pos (by omega) ?_) | (refine Split.neg (by omega) ?_) | (refine Split.mk (fun h => ?_) (fun h => ?_)) | (refine Need.mk (by omega) ?_) | (refine Ints.ln (by assumption) ?_) | (refine Mat.ln (by assumption) ?_) | (refine Ints.ln (Mat.row (by assumption) _ (by omega)) ?_) | (refine Ints.ix (by assumption) (by omega) ?_) | (refine Mat.ix (by assumption) (by omega) ?_) | (refine Ints.ix (Mat.row (by assumption) _ (by omega)) (by omega) ?_) | (refine Ints.ix (c := 0) (by assumption) (by omega) ?_) | (refine Mat.ix (c := 0) (by assumption) (by omega) ?_) | (refine Ints.ix (c := 0) (Mat.row (by assumption) _ (by omega)) (by omega) ?_) | (refine Ints.ixI (by assumption) (by omega) ?_) | (refine Mat.ixI (by assumption) (by omega) ?_) | (refine Ints.ixI (Mat.row (by assumption) _ (by omega)) (by omega) ?_) | (refine Ints.ld (by assumption) (by omega) ?_) | (refine Mat.ld (by assumption) (by omega) ?_) | (refine Ints.ld (Mat.row (by assumption) _ (by omega)) (by omega) ?_) | (refine At.ld (by assumption) rfl ?_) | (refine At.ldN (by assumption) rfl ?_) | (refine Prs.ln (by assumption) ?_) | (refine Trs.ln (by assumption) ?_) | (refine Prs.ix (by assumption) (by omega) ?_) | (refine Trs.ix (by assumption) (by omega) ?_) | (refine Prs.ldN (by assumption) (by omega) ?_) | (refine Trs.ldN (by assumption) (by omega) ?_) | (refine At.ldN (Blk.at (by assumption)) rfl ?_) | (refine At.ld (Blk.at (by assumption)) rfl ?_) | (refine IxA.mk (by omega) ?_) | (refine Sl.ln (Own.sl (by assumption)) ?_) | (refine Ints.ix (Own.sl (by assumption)) (by omega) ?_) | (refine Ints.ixI (Own.sl (by assumption)) (by omega) ?_) | (refine Ints.ld (Own.sl (by assumption)) (by omega) ?_))
      refine WS.stZ HW (by omega) fun w2 G2 HW => ?_
      have HK := HW.blk
      have HFI := Own.sl HW.hf
      have HZI := Own.sl HW.hz
      have HV := HV0.ext HW.ex
      have hT0 := WayT.start (A := A) (F := F) (st := st) (sk := sk) (Z := Z) hs.1 (by omega) hst' ht.1 h2
      repeat' ((conv => whnf); first | (refine Dr.quiet tyOk (by kernel_rfl) ?_) | (refine Rng.mk (by omega) ?_) | (refine Split.pos (by omega) ?_) | (refine Split.neg (by omega) ?_) | (refine Split.mk (fun h => ?_) (fun h => ?_)) | (refine Need.mk (by omega) ?_) | (refine Ints.ln (by assumption) ?_) | (refine Mat.ln (by assumption) ?_) | (refine Ints.ln (Mat.row (by assumption) _ (by omega)) ?_) | (refine Ints.ix (by assumption) (by omega) ?_) | (refine Mat.ix (by assumption) (by omega) ?_) | (refine Ints.ix (Mat.row (by assumption) _ (by omega)) (by omega) ?_) | (refine Ints.ix (c := 0) (by assumption) (by omega) ?_) | (refine Mat.ix (c := 0) (by assumption) (by omega) ?_) | (refine Ints.ix (c := 0) (Mat.row (by assumption) _ (by omega)) (by omega) ?_) | (refine Ints.ixI (by assumption) (by omega) ?_) | (refine Mat.ixI (by assumption) (by omega) ?_) | (refine Ints.ixI (Mat.row (by assumption) _ (by omega)) (by omega) ?_) | (refine Ints.ld (by assumption) (by omega) ?_) | (refine Mat.ld (by assumption) (by omega) ?_) | (refine Ints.ld (Mat.row (by assumption) _ (by omega)) (by omega) ?_) | (refine At.ld (by assumption) rfl ?_) | (refine At.ldN (by assumption) rfl ?_) | (refine Prs.ln (by assumption) ?_) | (refine Trs.ln (by assumption) ?_) | (refine Prs.ix (by assumption) (by omega) ?_) | (refine Trs.ix (by assumption) (by omega) ?_) | (refine Prs.ldN (by assumption) (by omega) ?_) | (refine Trs.ldN (by assumption) (by omega) ?_) | (refine At.ldN (Blk.at (by assumption)) rfl ?_) | (refine At.ld (Blk.at (by assumption)) rfl ?_) | (refine IxA.mk (by omega) ?_) | (refine Sl.ln (Own.sl (by assumption)) ?_) | (refine Ints.ix (Own.sl (by assumption)) (by omega) ?_) | (refine Ints.ixI (Own.sl (by assumption)) (by omega) ?_) | (refine Ints.ld (Own.sl (by assumption)) (by omega) ?_))
      refine Lp.mk tyOk [false, false, false, false, false, false, false, false, true, true, true, true, true, false, false, false, false, false, false, false, false, false, false, false, false, false, false, false, false, false, false, true, true, true, true, true, true, true, true, true, true, true, true, true, true, true, true, true, true, true, true, true, true, true, true, true, true, true, true, true, true, true, true, true, true, true, true, true, true, true, true, true, true, true, true, true, true, true, true, true, true, true, true, true, true, true, true, true, true, true, true, true, true, true, true, true, true, true, true, true, true, true, true, true, true, true, true, true, true, true, true, true, true, true, true, true, true, true, true, true, true, true, true, true, true, true, true, true, true, true, true, true, true, true, true, true, true, true, true, true, true, true, true, true, true, true, true, true, true, true, true, true, true, true, true, true, true, true, true, true, true, true, true, true, true, true, true, true] (fun m fr wr => getK fr 9 fun i => ∃ c : Nat, c ≤ (A.length - sk) ∧ m = (A.length - sk) - c ∧ i = .int .i64 ((sk + c : Nat) : Int) ∧ ((∃ Zc, WS w0 wr b N sv fv zv sk st F Zc ∧ WayT A F st sk s t Z Zc (sk + c))) ∧ (Gr (fun k => w0.heap.size ≤ k) w1 wr)) ((A.length - sk)) ?_ ?_
      · exact ⟨0, Nat.zero_le _, rfl, rfl, ⟨_, HW, hT0⟩, GS.trans G2⟩
      · intro m w2 u8 u9 u10 u11 u12 u31 u32 u33 u34 u35 u36 u37 u38 u39 u40 u41 u42 u43 u44 u45 u46 u47 u48 u49 u50 u51 u52 u53 u54 u55 u56 u57 u58 u59 u60 u61 u62 u63 u64 u65 u66 u67 u68 u69 u70 u71 u72 u73 u74 u75 u76 u77 u78 u79 u80 u81 u82 u83 u84 u85 u86 u87 u88 u89 u90 u91 u92 u93 u94 u95 u96 u97 u98 u99 u100 u101 u102 u103 u104 u105 u106 u107 u108 u109 u110 u111 u112 u113 u114 u115 u116 u117 u118 u119 u120 u121 u122 u123 u124 u125 u126 u127 u128 u129 u130 u131 u132 u133 u134 u135 u136 u137 u138 u139 u140 u141 u142 u143 u144 u145 u146 u147 u148 u149 u150 u151 u152 u153 u154 u155 u156 u157 u158 u159 u160 u161 u162 u163 u164 u165 u166 u167 hR
        obtain ⟨c, hc, rfl, rfl, HL, GS⟩ := hR
        obtain ⟨Zc, HW, hT⟩ := HL
        have HK := HW.blk
        have HFI := Own.sl HW.hf
        have HZI := Own.sl HW.hz
        have HV := HV0.ext HW.ex
        have hzl : Zc.length = N := hT.len.trans hl
        have hcnt := hT.cnt (by omega) h1
        have hgoal := hT.goal
        have hme := hT.me
        by_cases hcl : sk + c < A.length
        · obtain ⟨hf, hto, hne, hc0, hc1⟩ := hk.arc (sk + c) hcl
          have e1 : (A.getD (sk + c) (0, 0, 0)).1 = frm A (sk + c) := rfl
          have e2 : (A.getD (sk + c) (0, 0, 0)).2.1 = too A (sk + c) := rfl
          have e3 : (A.getD (sk + c) (0, 0, 0)).2.2 = cpy A (sk + c) := rfl
          have hFc := hF.2 (sk + c) (by omega)
          repeat' ((conv => whnf); first | (refine Dr.quiet tyOk (by kernel_rfl) ?_) | (refine Rng.mk (by omega) ?_) | (refine Split.pos (by omega) ?_) | (refine Split.neg (by omega) ?_) | (refine Split.mk (fun h => ?_) (fun h => ?_)) | (refine Need.mk (by omega) ?_) | (refine Ints.ln (by assumption) ?_) | (refine Mat.ln (by assumption) ?_) | (refine Ints.ln (Mat.row (by assumption) _ (by omega)) ?_) | (refine Ints.ix (by assumption) (by omega) ?_) | (refine Mat.ix (by assumption) (by omega) ?_) | (refine Ints.ix (Mat.row (by assumption) _ (by omega)) (by omega) ?_) | (refine Ints.ix (c := 0) (by assumption) (by omega) ?_) | (refine Mat.ix (c := 0) (by assumption) (by omega) ?_) | (refine Ints.ix (c := 0) (Mat.row (by assumption) _ (by omega)) (by omega) ?_) | (refine Ints.ixI (by assumption) (by omega) ?_) | (refine Mat.ixI (by assumption) (by omega) ?_) | (refine Ints.ixI (Mat.row (by assumption) _ (by omega)) (by omega) ?_) | (refine Ints.ld (by assumption) (by omega) ?_) | (refine Mat.ld (by assumption) (by omega) ?_) | (refine Ints.ld (Mat.row (by assumption) _ (by omega)) (by omega) ?_) | (refine At.ld (by assumption) rfl ?_) | (refine At.ldN (by assumption) rfl ?_) | (refine Prs.ln (by assumption) ?_) | (refine Trs.ln (by assumption) ?_) | (refine Prs.ix (by assumption) (by omega) ?_) | (refine Trs.ix (by assumption) (by omega) ?_) | (refine Prs.ldN (by assumption) (by omega) ?_) | (refine Trs.ldN (by assumption) (by omega) ?_) | (refine At.ldN (Blk.at (by assumption)) rfl ?_) | (refine At.ld (Blk.at (by assumption)) rfl ?_) | (refine IxA.mk (by omega) ?_) | (refine Sl.ln (Own.sl (by assumption)) ?_) | (refine Ints.ix (Own.sl (by assumption)) (by omega) ?_) | (refine Ints.ixI (Own.sl (by assumption)) (by omega) ?_) | (refine Ints.ld (Own.sl (by assumption)) (by omega) ?_))
          have HW__1 := HW
          conv => whnf
          refine VE.alloc eArc fun xb w3 E3 hb_xb Hk => ?_
          replace HW := HW.ext E3
          have EL1 := E3
          have HK := HW.blk
          have HFI := Own.sl HW.hf
          have HZI := Own.sl HW.hz
          have HV := HV0.ext HW.ex
          conv => whnf
          refine Blk.all Hk (by kernel_rfl) (by first | decide | simp) rfl rfl (by intro v hv; simp at hv; rcases hv with rfl | rfl | rfl | rfl | rfl <;> rfl) fun w4 G4 Hk' => ?_
          have E4 : Ext w2 w4 := EL1.new G4 fun i hi hk => by omega
          replace Hk := Hk'
          replace HW := HW__1.ext E4
          replace EL1 := E4
          have HK := HW.blk
          have HFI := Own.sl HW.hf
          have HZI := Own.sl HW.hz
          have HV := HV0.ext HW.ex
          have GS2 := GS.trans (Gr.ofExt EL1)
          by_cases ha : frm A (sk + c) = s
          · by_cases hm1 : Zc.getD (too A (sk + c)).toNat false = true
            · have hT2 := hT.skip (fun v hv => by unfold EdgS at hv; rw [show v = too A (sk + c) by omega]; exact hm1)
              repeat' ((conv => whnf); first | (refine Dr.quiet tyOk (by kernel_rfl) ?_) | (refine Bls.ixI HZI (by omega) ?_) | (refine Bls.ldv HZI hm1 (by omega) ?_) | (refine Rng.mk (by omega) ?_) | (refine Split.pos (by omega) ?_) | (refine Split.neg (by omega) ?_) | (refine Split.mk (fun h => ?_) (fun h => ?_)) | (refine Need.mk (by omega) ?_) | (refine Ints.ln (by assumption) ?_) | (refine Mat.ln (by assumption) ?_) | (refine Ints.ln (Mat.row (by assumption) _ (by omega)) ?_) | (refine Ints.ix (by assumption) (by omega) ?_) | (refine Mat.ix (by assumption) (by omega) ?_) | (refine Ints.ix (Mat.row (by assumption) _ (by omega)) (by omega) ?_) | (refine Ints.ix (c := 0) (by assumption) (by omega) ?_) | (refine Mat.ix (c := 0) (by assumption) (by omega) ?_) | (refine Ints.ix (c := 0) (Mat.row (by assumption) _ (by omega)) (by omega) ?_) | (refine Ints.ixI (by assumption) (by omega) ?_) | (refine Mat.ixI (by assumption) (by omega) ?_) | (refine Ints.ixI (Mat.row (by assumption) _ (by omega)) (by omega) ?_) | (refine Ints.ld (by assumption) (by omega) ?_) | (refine Mat.ld (by assumption) (by omega) ?_) | (refine Ints.ld (Mat.row (by assumption) _ (by omega)) (by omega) ?_) | (refine At.ld (by assumption) rfl ?_) | (refine At.ldN (by assumption) rfl ?_) | (refine Prs.ln (by assumption) ?_) | (refine Trs.ln (by assumption) ?_) | (refine Prs.ix (by assumption) (by omega) ?_) | (refine Trs.ix (by assumption) (by omega) ?_) | (refine Prs.ldN (by assumption) (by omega) ?_) | (refine Trs.ldN (by assumption) (by omega) ?_) | (refine At.ldN (Blk.at (by assumption)) rfl ?_) | (refine At.ld (Blk.at (by assumption)) rfl ?_) | (refine IxA.mk (by omega) ?_) | (refine Sl.ln (Own.sl (by assumption)) ?_) | (refine Ints.ix (Own.sl (by assumption)) (by omega) ?_) | (refine Ints.ixI (Own.sl (by assumption)) (by omega) ?_) | (refine Ints.ld (Own.sl (by assumption)) (by omega) ?_))
              refine ⟨_, (by omega : (A.length - sk) - (c + 1) < (A.length - sk) - c), rfl, c + 1, by omega, rfl, rfl, ⟨Zc, HW, hT2⟩, GS2⟩
            · have hm1 : Zc.getD (too A (sk + c)).toNat false = false := by simpa using hm1
              by_cases hr : st ≤ cpy A (sk + c) - F.getD (sk + c) 0
              · repeat' ((conv => whnf); first | (refine Dr.plan 81 [16] (.q 0 (.q 1 (.q 2 (.q 3 (.q 4 (.q 5 (.q 6 (.q 7 (.q 8 (.q 9 (.q 10 (.q 11 (.q 12 (.q 13 (.q 14 (.q 15 (.e 16 (.q 17 .nil) .nil))))))))))))))))) tyOk rfl (by kernel_rfl) ?_) | (refine Dr.plan 141 [13] (.q 0 (.q 1 (.q 2 (.q 3 (.q 4 (.q 5 (.q 6 (.q 7 (.q 8 (.q 9 (.q 10 (.q 11 (.q 12 (.e 13 (.q 14 .nil) .nil)))))))))))))) tyOk rfl (by kernel_rfl) ?_) | (refine Dr.quiet tyOk (by kernel_rfl) ?_) | (refine Bls.ixI HZI (by omega) ?_) | (refine Bls.ldv HZI hm1 (by omega) ?_) | (refine Rng.mk (by omega) ?_) | (refine Split.pos (by omega) ?_) | (refine Split.neg (by omega) ?_) | (refine Split.mk (fun h => ?_) (fun h => ?_)) | (refine Need.mk (by omega) ?_) | (refine Ints.ln (by assumption) ?_) | (refine Mat.ln (by assumption) ?_) | (refine Ints.ln (Mat.row (by assumption) _ (by omega)) ?_) | (refine Ints.ix (by assumption) (by omega) ?_) | (refine Mat.ix (by assumption) (by omega) ?_) | (refine Ints.ix (Mat.row (by assumption) _ (by omega)) (by omega) ?_) | (refine Ints.ix (c := 0) (by assumption) (by omega) ?_) | (refine Mat.ix (c := 0) (by assumption) (by omega) ?_) | (refine Ints.ix (c := 0) (Mat.row (by assumption) _ (by omega)) (by omega) ?_) | (refine Ints.ixI (by assumption) (by omega) ?_) | (refine Mat.ixI (by assumption) (by omega) ?_) | (refine Ints.ixI (Mat.row (by assumption) _ (by omega)) (by omega) ?_) | (refine Ints.ld (by assumption) (by omega) ?_) | (refine Mat.ld (by assumption) (by omega) ?_) | (refine Ints.ld (Mat.row (by assumption) _ (by omega)) (by omega) ?_) | (refine At.ld (by assumption) rfl ?_) | (refine At.ldN (by assumption) rfl ?_) | (refine Prs.ln (by assumption) ?_) | (refine Trs.ln (by assumption) ?_) | (refine Prs.ix (by assumption) (by omega) ?_) | (refine Trs.ix (by assumption) (by omega) ?_) | (refine Prs.ldN (by assumption) (by omega) ?_) | (refine Trs.ldN (by assumption) (by omega) ?_) | (refine At.ldN (Blk.at (by assumption)) rfl ?_) | (refine At.ld (Blk.at (by assumption)) rfl ?_) | (refine IxA.mk (by omega) ?_) | (refine Sl.ln (Own.sl (by assumption)) ?_) | (refine Ints.ix (Own.sl (by assumption)) (by omega) ?_) | (refine Ints.ixI (Own.sl (by assumption)) (by omega) ?_) | (refine Ints.ld (Own.sl (by assumption)) (by omega) ?_))
                all_goals
                  conv => whnf
                  refine VC.rc (way_rc hk ht hst hsk j (by omega) (by omega) (by omega) hm1 hgoal hzl hF HV0 HW) ?_
                  rintro _ w5 G5 ⟨x, F2, Z2, rfl, HW, hR⟩
                  have HK := HW.blk
                  have HFI := Own.sl HW.hf
                  have HZI := Own.sl HW.hz
                  have HV := HV0.ext HW.ex
                  have hx0 := hR.rng
                  have hal := hR.alone.at (j := sk + c) (by rw [ha]; exact .inl hme)
                  have hFl2 := hR.psh.fl.1
                  have hF2c := hR.psh.fl.2 (sk + c) (by omega)
                  by_cases hx : 0 < x
                  · repeat' ((conv => whnf); first | (refine Dr.quiet tyOk (by kernel_rfl) ?_) | (refine Rng.mk (by omega) ?_) | (refine Split.pos (by omega) ?_) | (refine Split.neg (by omega) ?_) | (refine Split.mk (fun h => ?_) (fun h => ?_)) | (refine Need.mk (by omega) ?_) | (refine Ints.ln (by assumption) ?_) | (refine Mat.ln (by assumption) ?_) | (refine Ints.ln (Mat.row (by assumption) _ (by omega)) ?_) | (refine Ints.ix (by assumption) (by omega) ?_) | (refine Mat.ix (by assumption) (by omega) ?_) | (refine Ints.ix (Mat.row (by assumption) _ (by omega)) (by omega) ?_) | (refine Ints.ix (c := 0) (by assumption) (by omega) ?_) | (refine Mat.ix (c := 0) (by assumption) (by omega) ?_) | (refine Ints.ix (c := 0) (Mat.row (by assumption) _ (by omega)) (by omega) ?_) | (refine Ints.ixI (by assumption) (by omega) ?_) | (refine Mat.ixI (by assumption) (by omega) ?_) | (refine Ints.ixI (Mat.row (by assumption) _ (by omega)) (by omega) ?_) | (refine Ints.ld (by assumption) (by omega) ?_) | (refine Mat.ld (by assumption) (by omega) ?_) | (refine Ints.ld (Mat.row (by assumption) _ (by omega)) (by omega) ?_) | (refine At.ld (by assumption) rfl ?_) | (refine At.ldN (by assumption) rfl ?_) | (refine Prs.ln (by assumption) ?_) | (refine Trs.ln (by assumption) ?_) | (refine Prs.ix (by assumption) (by omega) ?_) | (refine Trs.ix (by assumption) (by omega) ?_) | (refine Prs.ldN (by assumption) (by omega) ?_) | (refine Trs.ldN (by assumption) (by omega) ?_) | (refine At.ldN (Blk.at (by assumption)) rfl ?_) | (refine At.ld (Blk.at (by assumption)) rfl ?_) | (refine IxA.mk (by omega) ?_) | (refine Sl.ln (Own.sl (by assumption)) ?_) | (refine Ints.ix (Own.sl (by assumption)) (by omega) ?_) | (refine Ints.ixI (Own.sl (by assumption)) (by omega) ?_) | (refine Ints.ld (Own.sl (by assumption)) (by omega) ?_))
                    refine WS.stF HW (by omega) fun w6 G6 HW => ?_
                    repeat' ((conv => whnf); first | (refine Dr.quiet tyOk (by kernel_rfl) ?_) | (refine Rng.mk (by omega) ?_) | (refine Split.pos (by omega) ?_) | (refine Split.neg (by omega) ?_) | (refine Split.mk (fun h => ?_) (fun h => ?_)) | (refine Need.mk (by omega) ?_) | (refine Ints.ln (by assumption) ?_) | (refine Mat.ln (by assumption) ?_) | (refine Ints.ln (Mat.row (by assumption) _ (by omega)) ?_) | (refine Ints.ix (by assumption) (by omega) ?_) | (refine Mat.ix (by assumption) (by omega) ?_) | (refine Ints.ix (Mat.row (by assumption) _ (by omega)) (by omega) ?_) | (refine Ints.ix (c := 0) (by assumption) (by omega) ?_) | (refine Mat.ix (c := 0) (by assumption) (by omega) ?_) | (refine Ints.ix (c := 0) (Mat.row (by assumption) _ (by omega)) (by omega) ?_) | (refine Ints.ixI (by assumption) (by omega) ?_) | (refine Mat.ixI (by assumption) (by omega) ?_) | (refine Ints.ixI (Mat.row (by assumption) _ (by omega)) (by omega) ?_) | (refine Ints.ld (by assumption) (by omega) ?_) | (refine Mat.ld (by assumption) (by omega) ?_) | (refine Ints.ld (Mat.row (by assumption) _ (by omega)) (by omega) ?_) | (refine At.ld (by assumption) rfl ?_) | (refine At.ldN (by assumption) rfl ?_) | (refine Prs.ln (by assumption) ?_) | (refine Trs.ln (by assumption) ?_) | (refine Prs.ix (by assumption) (by omega) ?_) | (refine Trs.ix (by assumption) (by omega) ?_) | (refine Prs.ldN (by assumption) (by omega) ?_) | (refine Trs.ldN (by assumption) (by omega) ?_) | (refine At.ldN (Blk.at (by assumption)) rfl ?_) | (refine At.ld (Blk.at (by assumption)) rfl ?_) | (refine IxA.mk (by omega) ?_) | (refine Sl.ln (Own.sl (by assumption)) ?_) | (refine Ints.ix (Own.sl (by assumption)) (by omega) ?_) | (refine Ints.ixI (Own.sl (by assumption)) (by omega) ?_) | (refine Ints.ld (Own.sl (by assumption)) (by omega) ?_))
                    have h5 := psh_forth (x := x) (k := sk) hR.psh.fl hcl (Nat.le_add_right sk c) hx0.1 (by omega)
                    rw [ha] at h5
                    have hz2 : Z.getD (too A (sk + c)).toNat false = false := by
                      refine Classical.byContradiction fun hn => ?_
                      have := hT.up _ (by simpa using hn)
                      rw [hm1] at this; cases this
                    exact ⟨((GS2.trans G5).trans G6), x, _, Z2, rfl, HW, by omega, hR.psh.leg2 h5, hR.alone.set hT.up (by rw [ha]; exact h1) hz2 (by omega), fun h => absurd h (by omega)⟩
                  · obtain rfl : x = 0 := by omega
                    obtain ⟨hF2, hT3⟩ := hR.none rfl
                    rw [hF2] at HW
                    have hT2 := hT.call hT3 (fun v hv => by unfold EdgS at hv; omega)
                    repeat' ((conv => whnf); first | (refine Dr.quiet tyOk (by kernel_rfl) ?_) | (refine Rng.mk (by omega) ?_) | (refine Split.pos (by omega) ?_) | (refine Split.neg (by omega) ?_) | (refine Split.mk (fun h => ?_) (fun h => ?_)) | (refine Need.mk (by omega) ?_) | (refine Ints.ln (by assumption) ?_) | (refine Mat.ln (by assumption) ?_) | (refine Ints.ln (Mat.row (by assumption) _ (by omega)) ?_) | (refine Ints.ix (by assumption) (by omega) ?_) | (refine Mat.ix (by assumption) (by omega) ?_) | (refine Ints.ix (Mat.row (by assumption) _ (by omega)) (by omega) ?_) | (refine Ints.ix (c := 0) (by assumption) (by omega) ?_) | (refine Mat.ix (c := 0) (by assumption) (by omega) ?_) | (refine Ints.ix (c := 0) (Mat.row (by assumption) _ (by omega)) (by omega) ?_) | (refine Ints.ixI (by assumption) (by omega) ?_) | (refine Mat.ixI (by assumption) (by omega) ?_) | (refine Ints.ixI (Mat.row (by assumption) _ (by omega)) (by omega) ?_) | (refine Ints.ld (by assumption) (by omega) ?_) | (refine Mat.ld (by assumption) (by omega) ?_) | (refine Ints.ld (Mat.row (by assumption) _ (by omega)) (by omega) ?_) | (refine At.ld (by assumption) rfl ?_) | (refine At.ldN (by assumption) rfl ?_) | (refine Prs.ln (by assumption) ?_) | (refine Trs.ln (by assumption) ?_) | (refine Prs.ix (by assumption) (by omega) ?_) | (refine Trs.ix (by assumption) (by omega) ?_) | (refine Prs.ldN (by assumption) (by omega) ?_) | (refine Trs.ldN (by assumption) (by omega) ?_) | (refine At.ldN (Blk.at (by assumption)) rfl ?_) | (refine At.ld (Blk.at (by assumption)) rfl ?_) | (refine IxA.mk (by omega) ?_) | (refine Sl.ln (Own.sl (by assumption)) ?_) | (refine Ints.ix (Own.sl (by assumption)) (by omega) ?_) | (refine Ints.ixI (Own.sl (by assumption)) (by omega) ?_) | (refine Ints.ld (Own.sl (by assumption)) (by omega) ?_))
                    refine ⟨_, (by omega : (A.length - sk) - (c + 1) < (A.length - sk) - c), rfl, c + 1, by omega, rfl, rfl, ⟨Z2, HW, hT2⟩, GS2.trans G5⟩
              · have hT2 := hT.skip (fun v hv => by unfold EdgS at hv; omega)
                repeat' ((conv => whnf); first | (refine Dr.quiet tyOk (by kernel_rfl) ?_) | (refine Bls.ixI HZI (by omega) ?_) | (refine Bls.ldv HZI hm1 (by omega) ?_) | (refine Rng.mk (by omega) ?_) | (refine Split.pos (by omega) ?_) | (refine Split.neg (by omega) ?_) | (refine Split.mk (fun h => ?_) (fun h => ?_)) | (refine Need.mk (by omega) ?_) | (refine Ints.ln (by assumption) ?_) | (refine Mat.ln (by assumption) ?_) | (refine Ints.ln (Mat.row (by assumption) _ (by omega)) ?_) | (refine Ints.ix (by assumption) (by omega) ?_) | (refine Mat.ix (by assumption) (by omega) ?_) | (refine Ints.ix (Mat.row (by assumption) _ (by omega)) (by omega) ?_) | (refine Ints.ix (c := 0) (by assumption) (by omega) ?_) | (refine Mat.ix (c := 0) (by assumption) (by omega) ?_) | (refine Ints.ix (c := 0) (Mat.row (by assumption) _ (by omega)) (by omega) ?_) | (refine Ints.ixI (by assumption) (by omega) ?_) | (refine Mat.ixI (by assumption) (by omega) ?_) | (refine Ints.ixI (Mat.row (by assumption) _ (by omega)) (by omega) ?_) | (refine Ints.ld (by assumption) (by omega) ?_) | (refine Mat.ld (by assumption) (by omega) ?_) | (refine Ints.ld (Mat.row (by assumption) _ (by omega)) (by omega) ?_) | (refine At.ld (by assumption) rfl ?_) | (refine At.ldN (by assumption) rfl ?_) | (refine Prs.ln (by assumption) ?_) | (refine Trs.ln (by assumption) ?_) | (refine Prs.ix (by assumption) (by omega) ?_) | (refine Trs.ix (by assumption) (by omega) ?_) | (refine Prs.ldN (by assumption) (by omega) ?_) | (refine Trs.ldN (by assumption) (by omega) ?_) | (refine At.ldN (Blk.at (by assumption)) rfl ?_) | (refine At.ld (Blk.at (by assumption)) rfl ?_) | (refine IxA.mk (by omega) ?_) | (refine Sl.ln (Own.sl (by assumption)) ?_) | (refine Ints.ix (Own.sl (by assumption)) (by omega) ?_) | (refine Ints.ixI (Own.sl (by assumption)) (by omega) ?_) | (refine Ints.ld (Own.sl (by assumption)) (by omega) ?_))
                refine ⟨_, (by omega : (A.length - sk) - (c + 1) < (A.length - sk) - c), rfl, c + 1, by omega, rfl, rfl, ⟨Zc, HW, hT2⟩, GS2⟩
          · by_cases hb : too A (sk + c) = s
            · by_cases hm1 : Zc.getD (frm A (sk + c)).toNat false = true
              · have hT2 := hT.skip (fun v hv => by unfold EdgS at hv; rw [show v = frm A (sk + c) by omega]; exact hm1)
                repeat' ((conv => whnf); first | (refine Dr.quiet tyOk (by kernel_rfl) ?_) | (refine Bls.ixI HZI (by omega) ?_) | (refine Bls.ldv HZI hm1 (by omega) ?_) | (refine Rng.mk (by omega) ?_) | (refine Split.pos (by omega) ?_) | (refine Split.neg (by omega) ?_) | (refine Split.mk (fun h => ?_) (fun h => ?_)) | (refine Need.mk (by omega) ?_) | (refine Ints.ln (by assumption) ?_) | (refine Mat.ln (by assumption) ?_) | (refine Ints.ln (Mat.row (by assumption) _ (by omega)) ?_) | (refine Ints.ix (by assumption) (by omega) ?_) | (refine Mat.ix (by assumption) (by omega) ?_) | (refine Ints.ix (Mat.row (by assumption) _ (by omega)) (by omega) ?_) | (refine Ints.ix (c := 0) (by assumption) (by omega) ?_) | (refine Mat.ix (c := 0) (by assumption) (by omega) ?_) | (refine Ints.ix (c := 0) (Mat.row (by assumption) _ (by omega)) (by omega) ?_) | (refine Ints.ixI (by assumption) (by omega) ?_) | (refine Mat.ixI (by assumption) (by omega) ?_) | (refine Ints.ixI (Mat.row (by assumption) _ (by omega)) (by omega) ?_) | (refine Ints.ld (by assumption) (by omega) ?_) | (refine Mat.ld (by assumption) (by omega) ?_) | (refine Ints.ld (Mat.row (by assumption) _ (by omega)) (by omega) ?_) | (refine At.ld (by assumption) rfl ?_) | (refine At.ldN (by assumption) rfl ?_) | (refine Prs.ln (by assumption) ?_) | (refine Trs.ln (by assumption) ?_) | (refine Prs.ix (by assumption) (by omega) ?_) | (refine Trs.ix (by assumption) (by omega) ?_) | (refine Prs.ldN (by assumption) (by omega) ?_) | (refine Trs.ldN (by assumption) (by omega) ?_) | (refine At.ldN (Blk.at (by assumption)) rfl ?_) | (refine At.ld (Blk.at (by assumption)) rfl ?_) | (refine IxA.mk (by omega) ?_) | (refine Sl.ln (Own.sl (by assumption)) ?_) | (refine Ints.ix (Own.sl (by assumption)) (by omega) ?_) | (refine Ints.ixI (Own.sl (by assumption)) (by omega) ?_) | (refine Ints.ld (Own.sl (by assumption)) (by omega) ?_))
                refine ⟨_, (by omega : (A.length - sk) - (c + 1) < (A.length - sk) - c), rfl, c + 1, by omega, rfl, rfl, ⟨Zc, HW, hT2⟩, GS2⟩
              · have hm1 : Zc.getD (frm A (sk + c)).toNat false = false := by simpa using hm1
                by_cases hr : st ≤ F.getD (sk + c) 0
                · repeat' ((conv => whnf); first | (refine Dr.plan 81 [16] (.q 0 (.q 1 (.q 2 (.q 3 (.q 4 (.q 5 (.q 6 (.q 7 (.q 8 (.q 9 (.q 10 (.q 11 (.q 12 (.q 13 (.q 14 (.q 15 (.e 16 (.q 17 .nil) .nil))))))))))))))))) tyOk rfl (by kernel_rfl) ?_) | (refine Dr.plan 141 [13] (.q 0 (.q 1 (.q 2 (.q 3 (.q 4 (.q 5 (.q 6 (.q 7 (.q 8 (.q 9 (.q 10 (.q 11 (.q 12 (.e 13 (.q 14 .nil) .nil)))))))))))))) tyOk rfl (by kernel_rfl) ?_) | (refine Dr.quiet tyOk (by kernel_rfl) ?_) | (refine Bls.ixI HZI (by omega) ?_) | (refine Bls.ldv HZI hm1 (by omega) ?_) | (refine Rng.mk (by omega) ?_) | (refine Split.pos (by omega) ?_) | (refine Split.neg (by omega) ?_) | (refine Split.mk (fun h => ?_) (fun h => ?_)) | (refine Need.mk (by omega) ?_) | (refine Ints.ln (by assumption) ?_) | (refine Mat.ln (by assumption) ?_) | (refine Ints.ln (Mat.row (by assumption) _ (by omega)) ?_) | (refine Ints.ix (by assumption) (by omega) ?_) | (refine Mat.ix (by assumption) (by omega) ?_) | (refine Ints.ix (Mat.row (by assumption) _ (by omega)) (by omega) ?_) | (refine Ints.ix (c := 0) (by assumption) (by omega) ?_) | (refine Mat.ix (c := 0) (by assumption) (by omega) ?_) | (refine Ints.ix (c := 0) (Mat.row (by assumption) _ (by omega)) (by omega) ?_) | (refine Ints.ixI (by assumption) (by omega) ?_) | (refine Mat.ixI (by assumption) (by omega) ?_) | (refine Ints.ixI (Mat.row (by assumption) _ (by omega)) (by omega) ?_) | (refine Ints.ld (by assumption) (by omega) ?_) | (refine Mat.ld (by assumption) (by omega) ?_) | (refine Ints.ld (Mat.row (by assumption) _ (by omega)) (by omega) ?_) | (refine At.ld (by assumption) rfl ?_) | (refine At.ldN (by assumption) rfl ?_) | (refine Prs.ln (by assumption) ?_) | (refine Trs.ln (by assumption) ?_) | (refine Prs.ix (by assumption) (by omega) ?_) | (refine Trs.ix (by assumption) (by omega) ?_) | (refine Prs.ldN (by assumption) (by omega) ?_) | (refine Trs.ldN (by assumption) (by omega) ?_) | (refine At.ldN (Blk.at (by assumption)) rfl ?_) | (refine At.ld (Blk.at (by assumption)) rfl ?_) | (refine IxA.mk (by omega) ?_) | (refine Sl.ln (Own.sl (by assumption)) ?_) | (refine Ints.ix (Own.sl (by assumption)) (by omega) ?_) | (refine Ints.ixI (Own.sl (by assumption)) (by omega) ?_) | (refine Ints.ld (Own.sl (by assumption)) (by omega) ?_))
                  all_goals
                    conv => whnf
                    refine VC.rc (way_rc hk ht hst hsk j (by omega) (by omega) (by omega) hm1 hgoal hzl hF HV0 HW) ?_
                    rintro _ w5 G5 ⟨x, F2, Z2, rfl, HW, hR⟩
                    have HK := HW.blk
                    have HFI := Own.sl HW.hf
                    have HZI := Own.sl HW.hz
                    have HV := HV0.ext HW.ex
                    have hx0 := hR.rng
                    have hal := hR.alone.at (j := sk + c) (by rw [hb]; exact .inr hme)
                    have hFl2 := hR.psh.fl.1
                    have hF2c := hR.psh.fl.2 (sk + c) (by omega)
                    by_cases hx : 0 < x
                    · repeat' ((conv => whnf); first | (refine Dr.quiet tyOk (by kernel_rfl) ?_) | (refine Rng.mk (by omega) ?_) | (refine Split.pos (by omega) ?_) | (refine Split.neg (by omega) ?_) | (refine Split.mk (fun h => ?_) (fun h => ?_)) | (refine Need.mk (by omega) ?_) | (refine Ints.ln (by assumption) ?_) | (refine Mat.ln (by assumption) ?_) | (refine Ints.ln (Mat.row (by assumption) _ (by omega)) ?_) | (refine Ints.ix (by assumption) (by omega) ?_) | (refine Mat.ix (by assumption) (by omega) ?_) | (refine Ints.ix (Mat.row (by assumption) _ (by omega)) (by omega) ?_) | (refine Ints.ix (c := 0) (by assumption) (by omega) ?_) | (refine Mat.ix (c := 0) (by assumption) (by omega) ?_) | (refine Ints.ix (c := 0) (Mat.row (by assumption) _ (by omega)) (by omega) ?_) | (refine Ints.ixI (by assumption) (by omega) ?_) | (refine Mat.ixI (by assumption) (by omega) ?_) | (refine Ints.ixI (Mat.row (by assumption) _ (by omega)) (by omega) ?_) | (refine Ints.ld (by assumption) (by omega) ?_) | (refine Mat.ld (by assumption) (by omega) ?_) | (refine Ints.ld (Mat.row (by assumption) _ (by omega)) (by omega) ?_) | (refine At.ld (by assumption) rfl ?_) | (refine At.ldN (by assumption) rfl ?_) | (refine Prs.ln (by assumption) ?_) | (refine Trs.ln (by assumption) ?_) | (refine Prs.ix (by assumption) (by omega) ?_) | (refine Trs.ix (by assumption) (by omega) ?_) | (refine Prs.ldN (by assumption) (by omega) ?_) | (refine Trs.ldN (by assumption) (by omega) ?_) | (refine At.ldN (Blk.at (by assumption)) rfl ?_) | (refine At.ld (Blk.at (by assumption)) rfl ?_) | (refine IxA.mk (by omega) ?_) | (refine Sl.ln (Own.sl (by assumption)) ?_) | (refine Ints.ix (Own.sl (by assumption)) (by omega) ?_) | (refine Ints.ixI (Own.sl (by assumption)) (by omega) ?_) | (refine Ints.ld (Own.sl (by assumption)) (by omega) ?_))
                      refine WS.stF HW (by omega) fun w6 G6 HW => ?_
                      repeat' ((conv => whnf); first | (refine Dr.quiet tyOk (by kernel_rfl) ?_) | (refine Rng.mk (by omega) ?_) | (refine Split.pos (by omega) ?_) | (refine Split.neg (by omega) ?_) | (refine Split.mk (fun h => ?_) (fun h => ?_)) | (refine Need.mk (by omega) ?_) | (refine Ints.ln (by assumption) ?_) | (refine Mat.ln (by assumption) ?_) | (refine Ints.ln (Mat.row (by assumption) _ (by omega)) ?_) | (refine Ints.ix (by assumption) (by omega) ?_) | (refine Mat.ix (by assumption) (by omega) ?_) | (refine Ints.ix (Mat.row (by assumption) _ (by omega)) (by omega) ?_) | (refine Ints.ix (c := 0) (by assumption) (by omega) ?_) | (refine Mat.ix (c := 0) (by assumption) (by omega) ?_) | (refine Ints.ix (c := 0) (Mat.row (by assumption) _ (by omega)) (by omega) ?_) | (refine Ints.ixI (by assumption) (by omega) ?_) | (refine Mat.ixI (by assumption) (by omega) ?_) | (refine Ints.ixI (Mat.row (by assumption) _ (by omega)) (by omega) ?_) | (refine Ints.ld (by assumption) (by omega) ?_) | (refine Mat.ld (by assumption) (by omega) ?_) | (refine Ints.ld (Mat.row (by assumption) _ (by omega)) (by omega) ?_) | (refine At.ld (by assumption) rfl ?_) | (refine At.ldN (by assumption) rfl ?_) | (refine Prs.ln (by assumption) ?_) | (refine Trs.ln (by assumption) ?_) | (refine Prs.ix (by assumption) (by omega) ?_) | (refine Trs.ix (by assumption) (by omega) ?_) | (refine Prs.ldN (by assumption) (by omega) ?_) | (refine Trs.ldN (by assumption) (by omega) ?_) | (refine At.ldN (Blk.at (by assumption)) rfl ?_) | (refine At.ld (Blk.at (by assumption)) rfl ?_) | (refine IxA.mk (by omega) ?_) | (refine Sl.ln (Own.sl (by assumption)) ?_) | (refine Ints.ix (Own.sl (by assumption)) (by omega) ?_) | (refine Ints.ixI (Own.sl (by assumption)) (by omega) ?_) | (refine Ints.ld (Own.sl (by assumption)) (by omega) ?_))
                      have h5 := psh_back (x := x) (k := sk) hR.psh.fl hcl (Nat.le_add_right sk c) hx0.1 (by omega)
                      rw [hb] at h5
                      have hz2 : Z.getD (frm A (sk + c)).toNat false = false := by
                        refine Classical.byContradiction fun hn => ?_
                        have := hT.up _ (by simpa using hn)
                        rw [hm1] at this; cases this
                      exact ⟨((GS2.trans G5).trans G6), x, _, Z2, rfl, HW, by omega, hR.psh.leg2 h5, hR.alone.set hT.up hz2 (by rw [hb]; exact h1) (by omega), fun h => absurd h (by omega)⟩
                    · obtain rfl : x = 0 := by omega
                      obtain ⟨hF2, hT3⟩ := hR.none rfl
                      rw [hF2] at HW
                      have hT2 := hT.call hT3 (fun v hv => by unfold EdgS at hv; omega)
                      repeat' ((conv => whnf); first | (refine Dr.quiet tyOk (by kernel_rfl) ?_) | (refine Rng.mk (by omega) ?_) | (refine Split.pos (by omega) ?_) | (refine Split.neg (by omega) ?_) | (refine Split.mk (fun h => ?_) (fun h => ?_)) | (refine Need.mk (by omega) ?_) | (refine Ints.ln (by assumption) ?_) | (refine Mat.ln (by assumption) ?_) | (refine Ints.ln (Mat.row (by assumption) _ (by omega)) ?_) | (refine Ints.ix (by assumption) (by omega) ?_) | (refine Mat.ix (by assumption) (by omega) ?_) | (refine Ints.ix (Mat.row (by assumption) _ (by omega)) (by omega) ?_) | (refine Ints.ix (c := 0) (by assumption) (by omega) ?_) | (refine Mat.ix (c := 0) (by assumption) (by omega) ?_) | (refine Ints.ix (c := 0) (Mat.row (by assumption) _ (by omega)) (by omega) ?_) | (refine Ints.ixI (by assumption) (by omega) ?_) | (refine Mat.ixI (by assumption) (by omega) ?_) | (refine Ints.ixI (Mat.row (by assumption) _ (by omega)) (by omega) ?_) | (refine Ints.ld (by assumption) (by omega) ?_) | (refine Mat.ld (by assumption) (by omega) ?_) | (refine Ints.ld (Mat.row (by assumption) _ (by omega)) (by omega) ?_) | (refine At.ld (by assumption) rfl ?_) | (refine At.ldN (by assumption) rfl ?_) | (refine Prs.ln (by assumption) ?_) | (refine Trs.ln (by assumption) ?_) | (refine Prs.ix (by assumption) (by omega) ?_) | (refine Trs.ix (by assumption) (by omega) ?_) | (refine Prs.ldN (by assumption) (by omega) ?_) | (refine Trs.ldN (by assumption) (by omega) ?_) | (refine At.ldN (Blk.at (by assumption)) rfl ?_) | (refine At.ld (Blk.at (by assumption)) rfl ?_) | (refine IxA.mk (by omega) ?_) | (refine Sl.ln (Own.sl (by assumption)) ?_) | (refine Ints.ix (Own.sl (by assumption)) (by omega) ?_) | (refine Ints.ixI (Own.sl (by assumption)) (by omega) ?_) | (refine Ints.ld (Own.sl (by assumption)) (by omega) ?_))
                      refine ⟨_, (by omega : (A.length - sk) - (c + 1) < (A.length - sk) - c), rfl, c + 1, by omega, rfl, rfl, ⟨Z2, HW, hT2⟩, GS2.trans G5⟩
                · have hT2 := hT.skip (fun v hv => by unfold EdgS at hv; omega)
                  repeat' ((conv => whnf); first | (refine Dr.quiet tyOk (by kernel_rfl) ?_) | (refine Bls.ixI HZI (by omega) ?_) | (refine Bls.ldv HZI hm1 (by omega) ?_) | (refine Rng.mk (by omega) ?_) | (refine Split.pos (by omega) ?_) | (refine Split.neg (by omega) ?_) | (refine Split.mk (fun h => ?_) (fun h => ?_)) | (refine Need.mk (by omega) ?_) | (refine Ints.ln (by assumption) ?_) | (refine Mat.ln (by assumption) ?_) | (refine Ints.ln (Mat.row (by assumption) _ (by omega)) ?_) | (refine Ints.ix (by assumption) (by omega) ?_) | (refine Mat.ix (by assumption) (by omega) ?_) | (refine Ints.ix (Mat.row (by assumption) _ (by omega)) (by omega) ?_) | (refine Ints.ix (c := 0) (by assumption) (by omega) ?_) | (refine Mat.ix (c := 0) (by assumption) (by omega) ?_) | (refine Ints.ix (c := 0) (Mat.row (by assumption) _ (by omega)) (by omega) ?_) | (refine Ints.ixI (by assumption) (by omega) ?_) | (refine Mat.ixI (by assumption) (by omega) ?_) | (refine Ints.ixI (Mat.row (by assumption) _ (by omega)) (by omega) ?_) | (refine Ints.ld (by assumption) (by omega) ?_) | (refine Mat.ld (by assumption) (by omega) ?_) | (refine Ints.ld (Mat.row (by assumption) _ (by omega)) (by omega) ?_) | (refine At.ld (by assumption) rfl ?_) | (refine At.ldN (by assumption) rfl ?_) | (refine Prs.ln (by assumption) ?_) | (refine Trs.ln (by assumption) ?_) | (refine Prs.ix (by assumption) (by omega) ?_) | (refine Trs.ix (by assumption) (by omega) ?_) | (refine Prs.ldN (by assumption) (by omega) ?_) | (refine Trs.ldN (by assumption) (by omega) ?_) | (refine At.ldN (Blk.at (by assumption)) rfl ?_) | (refine At.ld (Blk.at (by assumption)) rfl ?_) | (refine IxA.mk (by omega) ?_) | (refine Sl.ln (Own.sl (by assumption)) ?_) | (refine Ints.ix (Own.sl (by assumption)) (by omega) ?_) | (refine Ints.ixI (Own.sl (by assumption)) (by omega) ?_) | (refine Ints.ld (Own.sl (by assumption)) (by omega) ?_))
                  refine ⟨_, (by omega : (A.length - sk) - (c + 1) < (A.length - sk) - c), rfl, c + 1, by omega, rfl, rfl, ⟨Zc, HW, hT2⟩, GS2⟩
            · have hT2 := hT.skip (fun v hv => by unfold EdgS at hv; omega)
              repeat' ((conv => whnf); first | (refine Dr.quiet tyOk (by kernel_rfl) ?_) | (refine Rng.mk (by omega) ?_) | (refine Split.pos (by omega) ?_) | (refine Split.neg (by omega) ?_) | (refine Split.mk (fun h => ?_) (fun h => ?_)) | (refine Need.mk (by omega) ?_) | (refine Ints.ln (by assumption) ?_) | (refine Mat.ln (by assumption) ?_) | (refine Ints.ln (Mat.row (by assumption) _ (by omega)) ?_) | (refine Ints.ix (by assumption) (by omega) ?_) | (refine Mat.ix (by assumption) (by omega) ?_) | (refine Ints.ix (Mat.row (by assumption) _ (by omega)) (by omega) ?_) | (refine Ints.ix (c := 0) (by assumption) (by omega) ?_) | (refine Mat.ix (c := 0) (by assumption) (by omega) ?_) | (refine Ints.ix (c := 0) (Mat.row (by assumption) _ (by omega)) (by omega) ?_) | (refine Ints.ixI (by assumption) (by omega) ?_) | (refine Mat.ixI (by assumption) (by omega) ?_) | (refine Ints.ixI (Mat.row (by assumption) _ (by omega)) (by omega) ?_) | (refine Ints.ld (by assumption) (by omega) ?_) | (refine Mat.ld (by assumption) (by omega) ?_) | (refine Ints.ld (Mat.row (by assumption) _ (by omega)) (by omega) ?_) | (refine At.ld (by assumption) rfl ?_) | (refine At.ldN (by assumption) rfl ?_) | (refine Prs.ln (by assumption) ?_) | (refine Trs.ln (by assumption) ?_) | (refine Prs.ix (by assumption) (by omega) ?_) | (refine Trs.ix (by assumption) (by omega) ?_) | (refine Prs.ldN (by assumption) (by omega) ?_) | (refine Trs.ldN (by assumption) (by omega) ?_) | (refine At.ldN (Blk.at (by assumption)) rfl ?_) | (refine At.ld (Blk.at (by assumption)) rfl ?_) | (refine IxA.mk (by omega) ?_) | (refine Sl.ln (Own.sl (by assumption)) ?_) | (refine Ints.ix (Own.sl (by assumption)) (by omega) ?_) | (refine Ints.ixI (Own.sl (by assumption)) (by omega) ?_) | (refine Ints.ld (Own.sl (by assumption)) (by omega) ?_))
              refine ⟨_, (by omega : (A.length - sk) - (c + 1) < (A.length - sk) - c), rfl, c + 1, by omega, rfl, rfl, ⟨Zc, HW, hT2⟩, GS2⟩
        · have hce : sk + c = A.length := by omega
          rw [hce] at hT
          repeat' ((conv => whnf); first | (refine Dr.quiet tyOk (by kernel_rfl) ?_) | (refine Rng.mk (by omega) ?_) | (refine Split.pos (by omega) ?_) | (refine Split.neg (by omega) ?_) | (refine Split.mk (fun h => ?_) (fun h => ?_)) | (refine Need.mk (by omega) ?_) | (refine Ints.ln (by assumption) ?_) | (refine Mat.ln (by assumption) ?_) | (refine Ints.ln (Mat.row (by assumption) _ (by omega)) ?_) | (refine Ints.ix (by assumption) (by omega) ?_) | (refine Mat.ix (by assumption) (by omega) ?_) | (refine Ints.ix (Mat.row (by assumption) _ (by omega)) (by omega) ?_) | (refine Ints.ix (c := 0) (by assumption) (by omega) ?_) | (refine Mat.ix (c := 0) (by assumption) (by omega) ?_) | (refine Ints.ix (c := 0) (Mat.row (by assumption) _ (by omega)) (by omega) ?_) | (refine Ints.ixI (by assumption) (by omega) ?_) | (refine Mat.ixI (by assumption) (by omega) ?_) | (refine Ints.ixI (Mat.row (by assumption) _ (by omega)) (by omega) ?_) | (refine Ints.ld (by assumption) (by omega) ?_) | (refine Mat.ld (by assumption) (by omega) ?_) | (refine Ints.ld (Mat.row (by assumption) _ (by omega)) (by omega) ?_) | (refine At.ld (by assumption) rfl ?_) | (refine At.ldN (by assumption) rfl ?_) | (refine Prs.ln (by assumption) ?_) | (refine Trs.ln (by assumption) ?_) | (refine Prs.ix (by assumption) (by omega) ?_) | (refine Trs.ix (by assumption) (by omega) ?_) | (refine Prs.ldN (by assumption) (by omega) ?_) | (refine Trs.ldN (by assumption) (by omega) ?_) | (refine At.ldN (Blk.at (by assumption)) rfl ?_) | (refine At.ld (Blk.at (by assumption)) rfl ?_) | (refine IxA.mk (by omega) ?_) | (refine Sl.ln (Own.sl (by assumption)) ?_) | (refine Ints.ix (Own.sl (by assumption)) (by omega) ?_) | (refine Ints.ixI (Own.sl (by assumption)) (by omega) ?_) | (refine Ints.ld (Own.sl (by assumption)) (by omega) ?_))
          exact ⟨GS, 0, F, Zc, rfl, HW, by omega, Psh.refl hF, Alone.refl, fun _ => ⟨rfl, hT⟩⟩
end Go.Proofs.Ytpdldifklgpikaa
set_option linter.unusedVariables false
set_option linter.unusedSimpArgs false
namespace Go.Proofs.Ytpdldifklgpikaa
open Go.Eng
set_option maxRecDepth 100000
set_option maxHeartbeats 4000000

section
variable {w0 w : World} {b N : Nat} {sv fv zv : Value} {sk : Nat} {st : Int} {F : List Int} {Z : List Bool}
theorem WS.stT (h : WS w0 w b N sv fv zv sk st F Z) {y z : Int} {K : World → Prop} (e : z = y) (hK : ∀ w', Gr (fun k => w0.heap.size ≤ k) w w' → WS w0 w' b N sv fv zv sk y F Z → K w') : St w ((⟨b, 0, none⟩ : Addr).add 5) (.int .i64 z) K := by
  subst e
  exact Blk.setA h.blk (by simp) rfl fun w' hg hb => hK w' (hg.mono fun k _ e => by have := h.bB; omega) ⟨h.ex.new hg (fun i hi e => by have := h.bB; omega), h.bB, hb, Own.blk h.hf h.blk (by decide) hg, Own.blk h.hz h.blk (by decide) hg⟩
theorem WS.stS (h : WS w0 w b N sv fv zv sk st F Z) {zu : Value} {Y : List Bool} {K : World → Prop} (hy : OZ w0.heap.size w zu Y) (hK : ∀ w', Gr (fun k => w0.heap.size ≤ k) w w' → WS w0 w' b N sv fv zu sk st F Y → K w') : St w ((⟨b, 0, none⟩ : Addr).add 3) zu K :=
  Blk.setA h.blk (by simp) (Sl.cells (Own.sl hy)).2 fun w' hg hb => hK w' (hg.mono fun k _ e => by have := h.bB; omega) ⟨h.ex.new hg (fun i hi e => by have := h.bB; omega), h.bB, hb, Own.blk h.hf h.blk (by decide) hg, Own.blk hy h.blk (by decide) hg⟩
end
theorem hv_rng : ∀ e : Nat, e ≤ 20 → 1 ≤ 1048576 / 2 ^ e ∧ 1048576 / 2 ^ e ≤ 1048576 := by decide
theorem hv_half : ∀ e : Nat, e ≤ 20 → 1048576 / 2 ^ e / 2 = 1048576 / 2 ^ (e + 1) := by decide
theorem rep_false (N u : Nat) : (List.replicate N false).getD u false = false := by simp only [List.getD, List.getElem?_replicate]; split <;> rfl

theorem push_rc {N : Nat} {A : List T3} {sv : Value} {s t : Int} {sk : Nat} {w0 w : World} {b : Nat} {fv zv : Value} {F : List Int} {Z : List Bool} {st mo : Int} (hk : NetOk N A) (hs : 0 ≤ s ∧ s < N) (ht : 0 ≤ t ∧ t < N) (hsk : sk ≤ A.length) (hm : 0 ≤ mo ∧ mo ≤ 200000000) (hF : isF A F) (HV0 : Trs w0 sv A) (HW : WS w0 w b N sv fv zv sk st F Z) :
    RC Try.prog 42 [.pointer (some ⟨b, 0, none⟩), .int .i64 s, .int .i64 t, .int .i64 mo] w (fun k => w0.heap.size ≤ k) (fun u w' => ∃ x F' zu Z' st', u = .int .i64 x ∧ WS w0 w' b N sv fv zu sk st' F' Z' ∧ (0 ≤ x ∧ x ≤ mo) ∧ Psh A F F' s t sk x ∧ (x = mo ∨ NoWay A F' s t sk)) := by
  have h40 := hk.n40
  refine RC.mk tyOk Try.func42 rfl (by kernel_rfl) fun w1 E1 => ?_
  replace HW := HW.ext E1
  have EE := Ext.refl w1
  have HK := HW.blk
  have HV := HV0.ext HW.ex
  have GS : Gr (fun k => w0.heap.size ≤ k) w1 w1 := Gr.refl _ _
  repeat' ((conv => whnf); first | (refine Dr.quiet tyOk (by kernel_rfl) ?_) | (refine Rng.mk (by omega) ?_) | (refine Split.pos (by omega) ?_) | (refine Split.neg (by omega) ?_) | (refine Split.mk (fun h => ?_) (fun h => ?_)) | (refine Need.mk (by omega) ?_) | (refine Ints.ln (by assumption) ?_) | (refine Mat.ln (by assumption) ?_) | (refine Ints.ln (Mat.row (by assumption) _ (by omega)) ?_) | (refine Ints.ix (by assumption) (by omega) ?_) | (refine Mat.ix (by assumption) (by omega) ?_) | (refine Ints.ix (Mat.row (by assumption) _ (by omega)) (by omega) ?_) | (refine Ints.ix (c := 0) (by assumption) (by omega) ?_) | (refine Mat.ix (c := 0) (by assumption) (by omega) ?_) | (refine Ints.ix (c := 0) (Mat.row (by assumption) _ (by omega)) (by omega) ?_) | (refine Ints.ixI (by assumption) (by omega) ?_) | (refine Mat.ixI (by assumption) (by omega) ?_) | (refine Ints.ixI (Mat.row (by assumption) _ (by omega)) (by omega) ?_) | (refine Ints.ld (by assumption) (by omega) ?_) | (refine Mat.ld (by assumption) (by omega) ?_) | (refine Ints.ld (Mat.row (by assumption) _ (by omega)) (by omega) ?_) | (refine At.ld (by assumption) rfl ?_) | (refine At.ldN (by assumption) rfl ?_) | (refine Prs.ln (by assumption) ?_) | (refine Trs.ln (by assumption) ?_) | (refine Prs.ix (by assumption) (by omega) ?_) | (refine Trs.ix (by assumption) (by omega) ?_) | (refine Prs.ldN (by assumption) (by omega) ?_) | (refine Trs.ldN (by assumption) (by omega) ?_) | (refine At.ldN (Blk.at (by assumption)) rfl ?_) | (refine At.ld (Blk.at (by assumption)) rfl ?_) | (refine IxA.mk (by omega) ?_) | (refine Sl.ln (Own.sl (by assumption)) ?_) | (refine Ints.ix (Own.sl (by assumption)) (by omega) ?_) | (refine Ints.ixI (Own.sl (by assumption)) (by omega) ?_) | (refine Ints.ld (Own.sl (by assumption)) (by omega) ?_))
  refine WS.stT HW (y := ((1048576 / 2 ^ 0 : Nat) : Int)) (by decide) fun w2 G2 HW => ?_
  repeat' ((conv => whnf); first | (refine Dr.quiet tyOk (by kernel_rfl) ?_) | (refine Rng.mk (by omega) ?_) | (refine Split.pos (by omega) ?_) | (refine Split.neg (by omega) ?_) | (refine Split.mk (fun h => ?_) (fun h => ?_)) | (refine Need.mk (by omega) ?_) | (refine Ints.ln (by assumption) ?_) | (refine Mat.ln (by assumption) ?_) | (refine Ints.ln (Mat.row (by assumption) _ (by omega)) ?_) | (refine Ints.ix (by assumption) (by omega) ?_) | (refine Mat.ix (by assumption) (by omega) ?_) | (refine Ints.ix (Mat.row (by assumption) _ (by omega)) (by omega) ?_) | (refine Ints.ix (c := 0) (by assumption) (by omega) ?_) | (refine Mat.ix (c := 0) (by assumption) (by omega) ?_) | (refine Ints.ix (c := 0) (Mat.row (by assumption) _ (by omega)) (by omega) ?_) | (refine Ints.ixI (by assumption) (by omega) ?_) | (refine Mat.ixI (by assumption) (by omega) ?_) | (refine Ints.ixI (Mat.row (by assumption) _ (by omega)) (by omega) ?_) | (refine Ints.ld (by assumption) (by omega) ?_) | (refine Mat.ld (by assumption) (by omega) ?_) | (refine Ints.ld (Mat.row (by assumption) _ (by omega)) (by omega) ?_) | (refine At.ld (by assumption) rfl ?_) | (refine At.ldN (by assumption) rfl ?_) | (refine Prs.ln (by assumption) ?_) | (refine Trs.ln (by assumption) ?_) | (refine Prs.ix (by assumption) (by omega) ?_) | (refine Trs.ix (by assumption) (by omega) ?_) | (refine Prs.ldN (by assumption) (by omega) ?_) | (refine Trs.ldN (by assumption) (by omega) ?_) | (refine At.ldN (Blk.at (by assumption)) rfl ?_) | (refine At.ld (Blk.at (by assumption)) rfl ?_) | (refine IxA.mk (by omega) ?_) | (refine Sl.ln (Own.sl (by assumption)) ?_) | (refine Ints.ix (Own.sl (by assumption)) (by omega) ?_) | (refine Ints.ixI (Own.sl (by assumption)) (by omega) ?_) | (refine Ints.ld (Own.sl (by assumption)) (by omega) ?_))
  refine Lp.mk tyOk [false, false, false, false, false, false, false, false, false, true, true, false, false, false, true, true, true, true, true, true, true, true, true, true, true, true, true, true, true, true, true, true, true, true, true, true, true, true, true, true, true, true, true, true, true, true, true, true, true, true, true, true] (fun m fr wr => getK fr 9 fun su => ∃ c : Nat, c ≤ (mo.toNat + 21) ∧ m = (mo.toNat + 21) - c ∧ ((∃ X e zu Y F', su = .int .i64 X ∧ WS w0 wr b N sv fv zu sk ((1048576 / 2 ^ e : Nat) : Int) F' Y ∧ (0 ≤ X ∧ X ≤ mo) ∧ Psh A F F' s t sk X ∧ e ≤ 21 ∧ c ≤ X.toNat + e ∧ (e = 21 → NoWay A F' s t sk))) ∧ (Gr (fun k => w0.heap.size ≤ k) w1 wr)) ((mo.toNat + 21)) ?_ ?_
  · exact ⟨0, Nat.zero_le _, rfl, ⟨0, 0, _, _, _, rfl, HW, by omega, Psh.refl hF, by omega, by omega, fun h => absurd h (by omega)⟩, GS.trans G2⟩
  · intro m w2 u9 u10 u14 u15 u16 u17 u18 u19 u20 u21 u22 u23 u24 u25 u26 u27 u28 u29 u30 u31 u32 u33 u34 u35 u36 u37 u38 u39 u40 u41 u42 u43 u44 u45 u46 u47 u48 u49 u50 u51 hR
    obtain ⟨c, hc, rfl, HL, GS⟩ := hR
    obtain ⟨X, e, zu, Y, F2, rfl, HW, hX, hP, he, hce, hno⟩ := HL
    have HK := HW.blk
    have HV := HV0.ext HW.ex
    by_cases hXm : X < mo
    · by_cases he2 : e ≤ 20
      · have h1 := hv_rng e he2
        obtain ⟨S, hS⟩ : ∃ S, 1048576 / 2 ^ e = S := ⟨_, rfl⟩
        have hSh := hv_half e he2
        rw [hS] at h1 hSh HW HK
        repeat' ((conv => whnf); first | (refine Dr.quiet tyOk (by kernel_rfl) ?_) | (refine Rng.mk (by omega) ?_) | (refine Split.pos (by omega) ?_) | (refine Split.neg (by omega) ?_) | (refine Split.mk (fun h => ?_) (fun h => ?_)) | (refine Need.mk (by omega) ?_) | (refine Ints.ln (by assumption) ?_) | (refine Mat.ln (by assumption) ?_) | (refine Ints.ln (Mat.row (by assumption) _ (by omega)) ?_) | (refine Ints.ix (by assumption) (by omega) ?_) | (refine Mat.ix (by assumption) (by omega) ?_) | (refine Ints.ix (Mat.row (by assumption) _ (by omega)) (by omega) ?_) | (refine Ints.ix (c := 0) (by assumption) (by omega) ?_) | (refine Mat.ix (c := 0) (by assumption) (by omega) ?_) | (refine Ints.ix (c := 0) (Mat.row (by assumption) _ (by omega)) (by omega) ?_) | (refine Ints.ixI (by assumption) (by omega) ?_) | (refine Mat.ixI (by assumption) (by omega) ?_) | (refine Ints.ixI (Mat.row (by assumption) _ (by omega)) (by omega) ?_) | (refine Ints.ld (by assumption) (by omega) ?_) | (refine Mat.ld (by assumption) (by omega) ?_) | (refine Ints.ld (Mat.row (by assumption) _ (by omega)) (by omega) ?_) | (refine At.ld (by assumption) rfl ?_) | (refine At.ldN (by assumption) rfl ?_) | (refine Prs.ln (by assumption) ?_) | (refine Trs.ln (by assumption) ?_) | (refine Prs.ix (by assumption) (by omega) ?_) | (refine Trs.ix (by assumption) (by omega) ?_) | (refine Prs.ldN (by assumption) (by omega) ?_) | (refine Trs.ldN (by assumption) (by omega) ?_) | (refine At.ldN (Blk.at (by assumption)) rfl ?_) | (refine At.ld (Blk.at (by assumption)) rfl ?_) | (refine IxA.mk (by omega) ?_) | (refine Sl.ln (Own.sl (by assumption)) ?_) | (refine Ints.ix (Own.sl (by assumption)) (by omega) ?_) | (refine Ints.ixI (Own.sl (by assumption)) (by omega) ?_) | (refine Ints.ld (Own.sl (by assumption)) (by omega) ?_))
        refine VE.made (n := N) Try.underlying32 eBool rfl (by omega) (by omega) fun zn w3 E3 H3 _ => ?_
        have hz3 := HW.ex.size
        have HW3 := HW.ext E3
        have HZ3 := OZ.made (H3 _ hz3)
        have HK := HW3.blk
        repeat' ((conv => whnf); first | (refine Dr.quiet tyOk (by kernel_rfl) ?_) | (refine Rng.mk (by omega) ?_) | (refine Split.pos (by omega) ?_) | (refine Split.neg (by omega) ?_) | (refine Split.mk (fun h => ?_) (fun h => ?_)) | (refine Need.mk (by omega) ?_) | (refine Ints.ln (by assumption) ?_) | (refine Mat.ln (by assumption) ?_) | (refine Ints.ln (Mat.row (by assumption) _ (by omega)) ?_) | (refine Ints.ix (by assumption) (by omega) ?_) | (refine Mat.ix (by assumption) (by omega) ?_) | (refine Ints.ix (Mat.row (by assumption) _ (by omega)) (by omega) ?_) | (refine Ints.ix (c := 0) (by assumption) (by omega) ?_) | (refine Mat.ix (c := 0) (by assumption) (by omega) ?_) | (refine Ints.ix (c := 0) (Mat.row (by assumption) _ (by omega)) (by omega) ?_) | (refine Ints.ixI (by assumption) (by omega) ?_) | (refine Mat.ixI (by assumption) (by omega) ?_) | (refine Ints.ixI (Mat.row (by assumption) _ (by omega)) (by omega) ?_) | (refine Ints.ld (by assumption) (by omega) ?_) | (refine Mat.ld (by assumption) (by omega) ?_) | (refine Ints.ld (Mat.row (by assumption) _ (by omega)) (by omega) ?_) | (refine At.ld (by assumption) rfl ?_) | (refine At.ldN (by assumption) rfl ?_) | (refine Prs.ln (by assumption) ?_) | (refine Trs.ln (by assumption) ?_) | (refine Prs.ix (by assumption) (by omega) ?_) | (refine Trs.ix (by assumption) (by omega) ?_) | (refine Prs.ldN (by assumption) (by omega) ?_) | (refine Trs.ldN (by assumption) (by omega) ?_) | (refine At.ldN (Blk.at (by assumption)) rfl ?_) | (refine At.ld (Blk.at (by assumption)) rfl ?_) | (refine IxA.mk (by omega) ?_) | (refine Sl.ln (Own.sl (by assumption)) ?_) | (refine Ints.ix (Own.sl (by assumption)) (by omega) ?_) | (refine Ints.ixI (Own.sl (by assumption)) (by omega) ?_) | (refine Ints.ld (Own.sl (by assumption)) (by omega) ?_))
        refine WS.stS HW3 HZ3 fun w4 G4 HW => ?_
        have HK := HW.blk
        have HV := HV0.ext HW.ex
        repeat' ((conv => whnf); first | (refine Dr.quiet tyOk (by kernel_rfl) ?_) | (refine Rng.mk (by omega) ?_) | (refine Split.pos (by omega) ?_) | (refine Split.neg (by omega) ?_) | (refine Split.mk (fun h => ?_) (fun h => ?_)) | (refine Need.mk (by omega) ?_) | (refine Ints.ln (by assumption) ?_) | (refine Mat.ln (by assumption) ?_) | (refine Ints.ln (Mat.row (by assumption) _ (by omega)) ?_) | (refine Ints.ix (by assumption) (by omega) ?_) | (refine Mat.ix (by assumption) (by omega) ?_) | (refine Ints.ix (Mat.row (by assumption) _ (by omega)) (by omega) ?_) | (refine Ints.ix (c := 0) (by assumption) (by omega) ?_) | (refine Mat.ix (c := 0) (by assumption) (by omega) ?_) | (refine Ints.ix (c := 0) (Mat.row (by assumption) _ (by omega)) (by omega) ?_) | (refine Ints.ixI (by assumption) (by omega) ?_) | (refine Mat.ixI (by assumption) (by omega) ?_) | (refine Ints.ixI (Mat.row (by assumption) _ (by omega)) (by omega) ?_) | (refine Ints.ld (by assumption) (by omega) ?_) | (refine Mat.ld (by assumption) (by omega) ?_) | (refine Ints.ld (Mat.row (by assumption) _ (by omega)) (by omega) ?_) | (refine At.ld (by assumption) rfl ?_) | (refine At.ldN (by assumption) rfl ?_) | (refine Prs.ln (by assumption) ?_) | (refine Trs.ln (by assumption) ?_) | (refine Prs.ix (by assumption) (by omega) ?_) | (refine Trs.ix (by assumption) (by omega) ?_) | (refine Prs.ldN (by assumption) (by omega) ?_) | (refine Trs.ldN (by assumption) (by omega) ?_) | (refine At.ldN (Blk.at (by assumption)) rfl ?_) | (refine At.ld (Blk.at (by assumption)) rfl ?_) | (refine IxA.mk (by omega) ?_) | (refine Sl.ln (Own.sl (by assumption)) ?_) | (refine Ints.ix (Own.sl (by assumption)) (by omega) ?_) | (refine Ints.ixI (Own.sl (by assumption)) (by omega) ?_) | (refine Ints.ld (Own.sl (by assumption)) (by omega) ?_))
        refine VC.rc (way_rc hk ht (st := (S : Int)) (by omega) hsk N (by have := cntF_le (List.replicate N false); simpa using this) hs (by omega) (rep_false _ _) (rep_false _ _) (by simp) hP.fl HV0 HW) ?_
        rintro _ w5 G5 ⟨x, F3, Z3, rfl, HW, hR⟩
        have HK := HW.blk
        have HV := HV0.ext HW.ex
        have hx0 := hR.rng
        by_cases hx : x = 0
        · subst hx
          obtain ⟨hF3, hT3⟩ := hR.none rfl
          rw [hF3] at HW
          repeat' ((conv => whnf); first | (refine Dr.quiet tyOk (by kernel_rfl) ?_) | (refine Rng.mk (by omega) ?_) | (refine Split.pos (by omega) ?_) | (refine Split.neg (by omega) ?_) | (refine Split.mk (fun h => ?_) (fun h => ?_)) | (refine Need.mk (by omega) ?_) | (refine Ints.ln (by assumption) ?_) | (refine Mat.ln (by assumption) ?_) | (refine Ints.ln (Mat.row (by assumption) _ (by omega)) ?_) | (refine Ints.ix (by assumption) (by omega) ?_) | (refine Mat.ix (by assumption) (by omega) ?_) | (refine Ints.ix (Mat.row (by assumption) _ (by omega)) (by omega) ?_) | (refine Ints.ix (c := 0) (by assumption) (by omega) ?_) | (refine Mat.ix (c := 0) (by assumption) (by omega) ?_) | (refine Ints.ix (c := 0) (Mat.row (by assumption) _ (by omega)) (by omega) ?_) | (refine Ints.ixI (by assumption) (by omega) ?_) | (refine Mat.ixI (by assumption) (by omega) ?_) | (refine Ints.ixI (Mat.row (by assumption) _ (by omega)) (by omega) ?_) | (refine Ints.ld (by assumption) (by omega) ?_) | (refine Mat.ld (by assumption) (by omega) ?_) | (refine Ints.ld (Mat.row (by assumption) _ (by omega)) (by omega) ?_) | (refine At.ld (by assumption) rfl ?_) | (refine At.ldN (by assumption) rfl ?_) | (refine Prs.ln (by assumption) ?_) | (refine Trs.ln (by assumption) ?_) | (refine Prs.ix (by assumption) (by omega) ?_) | (refine Trs.ix (by assumption) (by omega) ?_) | (refine Prs.ldN (by assumption) (by omega) ?_) | (refine Trs.ldN (by assumption) (by omega) ?_) | (refine At.ldN (Blk.at (by assumption)) rfl ?_) | (refine At.ld (Blk.at (by assumption)) rfl ?_) | (refine IxA.mk (by omega) ?_) | (refine Sl.ln (Own.sl (by assumption)) ?_) | (refine Ints.ix (Own.sl (by assumption)) (by omega) ?_) | (refine Ints.ixI (Own.sl (by assumption)) (by omega) ?_) | (refine Ints.ld (Own.sl (by assumption)) (by omega) ?_))
          refine WS.stT HW (y := ((1048576 / 2 ^ (e + 1) : Nat) : Int)) (by rw [← hSh]; omega) fun w6 G6 HW => ?_
          repeat' ((conv => whnf); first | (refine Dr.quiet tyOk (by kernel_rfl) ?_) | (refine Rng.mk (by omega) ?_) | (refine Split.pos (by omega) ?_) | (refine Split.neg (by omega) ?_) | (refine Split.mk (fun h => ?_) (fun h => ?_)) | (refine Need.mk (by omega) ?_) | (refine Ints.ln (by assumption) ?_) | (refine Mat.ln (by assumption) ?_) | (refine Ints.ln (Mat.row (by assumption) _ (by omega)) ?_) | (refine Ints.ix (by assumption) (by omega) ?_) | (refine Mat.ix (by assumption) (by omega) ?_) | (refine Ints.ix (Mat.row (by assumption) _ (by omega)) (by omega) ?_) | (refine Ints.ix (c := 0) (by assumption) (by omega) ?_) | (refine Mat.ix (c := 0) (by assumption) (by omega) ?_) | (refine Ints.ix (c := 0) (Mat.row (by assumption) _ (by omega)) (by omega) ?_) | (refine Ints.ixI (by assumption) (by omega) ?_) | (refine Mat.ixI (by assumption) (by omega) ?_) | (refine Ints.ixI (Mat.row (by assumption) _ (by omega)) (by omega) ?_) | (refine Ints.ld (by assumption) (by omega) ?_) | (refine Mat.ld (by assumption) (by omega) ?_) | (refine Ints.ld (Mat.row (by assumption) _ (by omega)) (by omega) ?_) | (refine At.ld (by assumption) rfl ?_) | (refine At.ldN (by assumption) rfl ?_) | (refine Prs.ln (by assumption) ?_) | (refine Trs.ln (by assumption) ?_) | (refine Prs.ix (by assumption) (by omega) ?_) | (refine Trs.ix (by assumption) (by omega) ?_) | (refine Prs.ldN (by assumption) (by omega) ?_) | (refine Trs.ldN (by assumption) (by omega) ?_) | (refine At.ldN (Blk.at (by assumption)) rfl ?_) | (refine At.ld (Blk.at (by assumption)) rfl ?_) | (refine IxA.mk (by omega) ?_) | (refine Sl.ln (Own.sl (by assumption)) ?_) | (refine Ints.ix (Own.sl (by assumption)) (by omega) ?_) | (refine Ints.ixI (Own.sl (by assumption)) (by omega) ?_) | (refine Ints.ld (Own.sl (by assumption)) (by omega) ?_))
          refine ⟨_, (by omega : (mo.toNat + 21) - (c + 1) < (mo.toNat + 21) - c), rfl, c + 1, by omega, rfl, ⟨_, e + 1, _, _, _, rfl, HW, by omega, by rw [Int.add_zero]; exact hP, by omega, by omega, fun h => ?_⟩, (((GS.trans (Gr.ofExt E3)).trans G4).trans G5).trans G6⟩
          have h20 : e = 20 := by omega
          subst h20
          have : S = 1 := by rw [← hS]
          subst this
          exact hT3.noway hk hs.1
        · repeat' ((conv => whnf); first | (refine Dr.quiet tyOk (by kernel_rfl) ?_) | (refine Rng.mk (by omega) ?_) | (refine Split.pos (by omega) ?_) | (refine Split.neg (by omega) ?_) | (refine Split.mk (fun h => ?_) (fun h => ?_)) | (refine Need.mk (by omega) ?_) | (refine Ints.ln (by assumption) ?_) | (refine Mat.ln (by assumption) ?_) | (refine Ints.ln (Mat.row (by assumption) _ (by omega)) ?_) | (refine Ints.ix (by assumption) (by omega) ?_) | (refine Mat.ix (by assumption) (by omega) ?_) | (refine Ints.ix (Mat.row (by assumption) _ (by omega)) (by omega) ?_) | (refine Ints.ix (c := 0) (by assumption) (by omega) ?_) | (refine Mat.ix (c := 0) (by assumption) (by omega) ?_) | (refine Ints.ix (c := 0) (Mat.row (by assumption) _ (by omega)) (by omega) ?_) | (refine Ints.ixI (by assumption) (by omega) ?_) | (refine Mat.ixI (by assumption) (by omega) ?_) | (refine Ints.ixI (Mat.row (by assumption) _ (by omega)) (by omega) ?_) | (refine Ints.ld (by assumption) (by omega) ?_) | (refine Mat.ld (by assumption) (by omega) ?_) | (refine Ints.ld (Mat.row (by assumption) _ (by omega)) (by omega) ?_) | (refine At.ld (by assumption) rfl ?_) | (refine At.ldN (by assumption) rfl ?_) | (refine Prs.ln (by assumption) ?_) | (refine Trs.ln (by assumption) ?_) | (refine Prs.ix (by assumption) (by omega) ?_) | (refine Trs.ix (by assumption) (by omega) ?_) | (refine Prs.ldN (by assumption) (by omega) ?_) | (refine Trs.ldN (by assumption) (by omega) ?_) | (refine At.ldN (Blk.at (by assumption)) rfl ?_) | (refine At.ld (Blk.at (by assumption)) rfl ?_) | (refine IxA.mk (by omega) ?_) | (refine Sl.ln (Own.sl (by assumption)) ?_) | (refine Ints.ix (Own.sl (by assumption)) (by omega) ?_) | (refine Ints.ixI (Own.sl (by assumption)) (by omega) ?_) | (refine Ints.ld (Own.sl (by assumption)) (by omega) ?_))
          refine ⟨_, (by omega : (mo.toNat + 21) - (c + 1) < (mo.toNat + 21) - c), rfl, c + 1, by omega, rfl, ⟨_, e, _, _, _, rfl, by rw [hS]; exact HW, by omega, hP.trans hR.psh, by omega, by omega, fun h => absurd h (by omega)⟩, ((GS.trans (Gr.ofExt E3)).trans G4).trans G5⟩
      · obtain rfl : e = 21 := by omega
        have e0 : ((1048576 / 2 ^ 21 : Nat) : Int) = 0 := by decide
        rw [e0] at HW HK
        repeat' ((conv => whnf); first | (refine Dr.quiet tyOk (by kernel_rfl) ?_) | (refine Rng.mk (by omega) ?_) | (refine Split.pos (by omega) ?_) | (refine Split.neg (by omega) ?_) | (refine Split.mk (fun h => ?_) (fun h => ?_)) | (refine Need.mk (by omega) ?_) | (refine Ints.ln (by assumption) ?_) | (refine Mat.ln (by assumption) ?_) | (refine Ints.ln (Mat.row (by assumption) _ (by omega)) ?_) | (refine Ints.ix (by assumption) (by omega) ?_) | (refine Mat.ix (by assumption) (by omega) ?_) | (refine Ints.ix (Mat.row (by assumption) _ (by omega)) (by omega) ?_) | (refine Ints.ix (c := 0) (by assumption) (by omega) ?_) | (refine Mat.ix (c := 0) (by assumption) (by omega) ?_) | (refine Ints.ix (c := 0) (Mat.row (by assumption) _ (by omega)) (by omega) ?_) | (refine Ints.ixI (by assumption) (by omega) ?_) | (refine Mat.ixI (by assumption) (by omega) ?_) | (refine Ints.ixI (Mat.row (by assumption) _ (by omega)) (by omega) ?_) | (refine Ints.ld (by assumption) (by omega) ?_) | (refine Mat.ld (by assumption) (by omega) ?_) | (refine Ints.ld (Mat.row (by assumption) _ (by omega)) (by omega) ?_) | (refine At.ld (by assumption) rfl ?_) | (refine At.ldN (by assumption) rfl ?_) | (refine Prs.ln (by assumption) ?_) | (refine Trs.ln (by assumption) ?_) | (refine Prs.ix (by assumption) (by omega) ?_) | (refine Trs.ix (by assumption) (by omega) ?_) | (refine Prs.ldN (by assumption) (by omega) ?_) | (refine Trs.ldN (by assumption) (by omega) ?_) | (refine At.ldN (Blk.at (by assumption)) rfl ?_) | (refine At.ld (Blk.at (by assumption)) rfl ?_) | (refine IxA.mk (by omega) ?_) | (refine Sl.ln (Own.sl (by assumption)) ?_) | (refine Ints.ix (Own.sl (by assumption)) (by omega) ?_) | (refine Ints.ixI (Own.sl (by assumption)) (by omega) ?_) | (refine Ints.ld (Own.sl (by assumption)) (by omega) ?_))
        exact ⟨GS, X, F2, zu, Y, _, rfl, HW, hX, hP, .inr (hno rfl)⟩
    · repeat' ((conv => whnf); first | (refine Dr.quiet tyOk (by kernel_rfl) ?_) | (refine Rng.mk (by omega) ?_) | (refine Split.pos (by omega) ?_) | (refine Split.neg (by omega) ?_) | (refine Split.mk (fun h => ?_) (fun h => ?_)) | (refine Need.mk (by omega) ?_) | (refine Ints.ln (by assumption) ?_) | (refine Mat.ln (by assumption) ?_) | (refine Ints.ln (Mat.row (by assumption) _ (by omega)) ?_) | (refine Ints.ix (by assumption) (by omega) ?_) | (refine Mat.ix (by assumption) (by omega) ?_) | (refine Ints.ix (Mat.row (by assumption) _ (by omega)) (by omega) ?_) | (refine Ints.ix (c := 0) (by assumption) (by omega) ?_) | (refine Mat.ix (c := 0) (by assumption) (by omega) ?_) | (refine Ints.ix (c := 0) (Mat.row (by assumption) _ (by omega)) (by omega) ?_) | (refine Ints.ixI (by assumption) (by omega) ?_) | (refine Mat.ixI (by assumption) (by omega) ?_) | (refine Ints.ixI (Mat.row (by assumption) _ (by omega)) (by omega) ?_) | (refine Ints.ld (by assumption) (by omega) ?_) | (refine Mat.ld (by assumption) (by omega) ?_) | (refine Ints.ld (Mat.row (by assumption) _ (by omega)) (by omega) ?_) | (refine At.ld (by assumption) rfl ?_) | (refine At.ldN (by assumption) rfl ?_) | (refine Prs.ln (by assumption) ?_) | (refine Trs.ln (by assumption) ?_) | (refine Prs.ix (by assumption) (by omega) ?_) | (refine Trs.ix (by assumption) (by omega) ?_) | (refine Prs.ldN (by assumption) (by omega) ?_) | (refine Trs.ldN (by assumption) (by omega) ?_) | (refine At.ldN (Blk.at (by assumption)) rfl ?_) | (refine At.ld (Blk.at (by assumption)) rfl ?_) | (refine IxA.mk (by omega) ?_) | (refine Sl.ln (Own.sl (by assumption)) ?_) | (refine Ints.ix (Own.sl (by assumption)) (by omega) ?_) | (refine Ints.ixI (Own.sl (by assumption)) (by omega) ?_) | (refine Ints.ld (Own.sl (by assumption)) (by omega) ?_))
      exact ⟨GS, X, F2, zu, Y, _, rfl, HW, hX, hP, .inl (by omega)⟩

theorem VS.buildF {P : Program} {w : World} {t : TypeId} {zc : Array Value} {n b : Nat} {l : List Field} {ps : List (Nat × Value)} {K : Value → Prop} (r : Array Value) (ht : P.underlying t = some (.struct l.toArray)) (hz : Elem P t (.agg zc) n b)
    (hg : ∀ f ∈ l, P.cellsOf f.type ≠ 0) (pl : Array (Nat × Nat)) (hpl : (l.map fun f => (f.offset, P.cellsOf f.type)).toArray = pl) (hf : Instr.fill (pl[·]?) zc ps = some r) (hk : K (.agg r)) : VS P (Instr.build t ps.toArray) w K := by
  refine VS.mk (v := .agg r) (fun w1 _ => ?_) hk
  obtain ⟨i, hi, hz1, _, _⟩ := hz.info
  subst hpl
  simp only [Instr.build, Sem.run_bind, zeroValue, typeInfo, run_program, Result.andThen_ok, hi, hz1, Sem.run_pure, run_underlying ht, places_run hg, Value.cells, hf]

theorem WS.stK2 {w0 w : World} {b N : Nat} {sv fv zv : Value} {sk : Nat} {st : Int} {F : List Int} {Z : List Bool} (h : WS w0 w b N sv fv zv sk st F Z) {y : Nat} {z : Int} {K : World → Prop} (e : z = (y : Int)) (hK : ∀ w', Gr (fun j => j = b) w w' → WS w0 w' b N sv fv zv y st F Z → K w') : St w ((⟨b, 0, none⟩ : Addr).add 4) (.int .i64 z) K := by
  subst e
  exact Blk.setA h.blk (by simp) rfl fun w' hg hb => hK w' hg ⟨h.ex.new hg (fun i hi e => by have := h.bB; omega), h.bB, hb, Own.blk h.hf h.blk (by decide) hg, Own.blk h.hz h.blk (by decide) hg⟩
/-- there is a greatest flow; a network of fewer than 200 arcs has one of its value after which no way is left -/
structure Mx (N : Nat) (A : List T3) : Prop where
  is : IsGf N A (gf N A)
  cut : A.length < 200 → ∃ g, isW N A g ∧ bal A g 0 A.length = bal A (gf N A) 0 A.length ∧ NoWay A g 0 ((N - 1 : Nat) : Int) 0
theorem mx_of {N : Nat} {A : List T3} {F0 F : List Int} {x : Int} (hk : NetOk N A) (h0 : Grt N A F0 0) (hp : Psh A (List.replicate A.length 0) F0 0 ((N - 1 : Nat) : Int) 0 x) (hn : x = 200000000 ∨ NoWay A F0 0 ((N - 1 : Nat) : Int) 0) (h : Grt N A F A.length) : Mx N A := by
  have e := h.done hk
  have hg : IsGf N A F := isGf_of hk h.fw h.most h.tight
  refine ⟨by rw [e]; exact hg, fun h200 => ⟨F0, h0.fw, by rw [e]; exact Int.le_antisymm (h0.most F h.fw) (h.most F0 h0.fw), ?_⟩⟩
  rcases hn with h1 | h1
  · exfalso
    have h2 := hp.bl 0
    have h3 := (val_le (v := 0) hk h0.fw.1).1
    have hn2 := hk.n2
    rw [bal_zero, if_neg (by omega), if_pos rfl] at h2
    omega
  · exact h1

theorem greatest_rc {w : World} {N : Nat} {sv : Value} {A : List T3} (HA : Trs w sv A) (hk : NetOk N A) :
    RC Try.prog 32 [.agg #[.int .i64 (N : Int), sv]] w NoB (fun u w' => OB w.heap.size w' u (gf N A) ∧ Mx N A) := by
  have h40 := hk.n40
  have h200 := hk.a200
  have hn2 := hk.n2
  have hle := HA.le
  refine RC.mk tyOk Try.func32 rfl (by kernel_rfl) fun w1 E1 => ?_
  replace HA := HA.ext E1
  have EE := Ext.refl w1
  refine Bx.agg fun b2 w2 E2 hb2 Hb _ => ?_
  replace HA := HA.ext E2
  replace EE := EE.ext E2
  repeat' ((conv => whnf); first | (refine Dr.plan 7 [] (.q 0 (.q 1 (.q 2 (.q 3 (.e 4 (.q 5 (.e 6 (.q 7 .nil) .nil)) .nil))))) tyOk rfl (by kernel_rfl) ?_) | (refine Dr.plan 39 [12, 15] (.q 0 (.q 1 (.q 2 (.q 3 (.q 4 (.q 5 (.q 6 (.q 7 (.q 8 (.q 9 (.q 10 (.q 11 (.e 12 (.q 13 (.q 14 (.e 15 .nil .nil))) .nil))))))))))))) tyOk rfl (by kernel_rfl) ?_) | (refine Dr.quiet tyOk (by kernel_rfl) ?_) | (refine Rng.mk (by omega) ?_) | (refine Split.pos (by omega) ?_) | (refine Split.neg (by omega) ?_) | (refine Split.mk (fun h => ?_) (fun h => ?_)) | (refine Need.mk (by omega) ?_) | (refine Ints.ln (by assumption) ?_) | (refine Mat.ln (by assumption) ?_) | (refine Ints.ln (Mat.row (by assumption) _ (by omega)) ?_) | (refine Ints.ix (by assumption) (by omega) ?_) | (refine Mat.ix (by assumption) (by omega) ?_) | (refine Ints.ix (Mat.row (by assumption) _ (by omega)) (by omega) ?_) | (refine Ints.ix (c := 0) (by assumption) (by omega) ?_) | (refine Mat.ix (c := 0) (by assumption) (by omega) ?_) | (refine Ints.ix (c := 0) (Mat.row (by assumption) _ (by omega)) (by omega) ?_) | (refine Ints.ixI (by assumption) (by omega) ?_) | (refine Mat.ixI (by assumption) (by omega) ?_) | (refine Ints.ixI (Mat.row (by assumption) _ (by omega)) (by omega) ?_) | (refine Ints.ld (by assumption) (by omega) ?_) | (refine Mat.ld (by assumption) (by omega) ?_) | (refine Ints.ld (Mat.row (by assumption) _ (by omega)) (by omega) ?_) | (refine At.ld (by assumption) rfl ?_) | (refine At.ldN (by assumption) rfl ?_) | (refine Prs.ln (by assumption) ?_) | (refine Trs.ln (by assumption) ?_) | (refine Prs.ix (by assumption) (by omega) ?_) | (refine Trs.ix (by assumption) (by omega) ?_) | (refine Prs.ldN (by assumption) (by omega) ?_) | (refine Trs.ldN (by assumption) (by omega) ?_) | (refine At.ldN (Blk.at (by assumption)) rfl ?_) | (refine At.ld (Blk.at (by assumption)) rfl ?_) | (refine IxA.mk (by omega) ?_) | (refine Sl.ln (Own.sl (by assumption)) ?_) | (refine Ints.ix (Own.sl (by assumption)) (by omega) ?_) | (refine Ints.ixI (Own.sl (by assumption)) (by omega) ?_) | (refine Ints.ld (Own.sl (by assumption)) (by omega) ?_))
  refine VX.made (n := A.length) Try.underlying26 eInt rfl (by omega) (by omega) fun fv w3 E3 H3 _ => ?_
  conv => whnf
  have HF3 := OB.made (H3 _ (Nat.le_refl _))
  obtain ⟨fa, fc, hfv, _⟩ := Own.sl HF3
  refine VS.buildF (ps := [(0, .agg #[.int .i64 (N : Int), sv]), (1, fv)]) #[.int .i64 (N : Int), sv, fv, .slice none 0 0, .int .i64 0, .int .i64 0] Try.underlying73 eWork (by decide +kernel) #[(0, 2), (2, 1), (3, 1), (4, 1), (5, 1)] (by kernel_rfl) (by rw [hfv]; rfl) ?_
  conv => whnf
  refine Bx.blk (l := [.int .i64 (N : Int), sv, fv, .slice none 0 0, .int .i64 0, .int .i64 0]) fun b w4 E4 hsb HK => ?_
  have HW : WS w2 w4 b N sv fv (.slice none 0 0) 0 0 (List.replicate A.length 0) [] := ⟨E3.trans E4, by have := E3.size; omega, HK, Own.ext HF3 E4, Own.nil⟩
  have HA0 := HA
  have Hb0 := Hb
  have hz2 : w.heap.size ≤ w2.heap.size := Nat.le_trans E1.size EE.size
  have hN1 : ((N - 1 : Nat) : Int) = (N : Int) - 1 := by omega
  replace Hb := Hb0.ext HW.ex
  repeat' ((conv => whnf); first | (refine Dr.quiet tyOk (by kernel_rfl) ?_) | (refine Rng.mk (by omega) ?_) | (refine Split.pos (by omega) ?_) | (refine Split.neg (by omega) ?_) | (refine Split.mk (fun h => ?_) (fun h => ?_)) | (refine Need.mk (by omega) ?_) | (refine Ints.ln (by assumption) ?_) | (refine Mat.ln (by assumption) ?_) | (refine Ints.ln (Mat.row (by assumption) _ (by omega)) ?_) | (refine Ints.ix (by assumption) (by omega) ?_) | (refine Mat.ix (by assumption) (by omega) ?_) | (refine Ints.ix (Mat.row (by assumption) _ (by omega)) (by omega) ?_) | (refine Ints.ix (c := 0) (by assumption) (by omega) ?_) | (refine Mat.ix (c := 0) (by assumption) (by omega) ?_) | (refine Ints.ix (c := 0) (Mat.row (by assumption) _ (by omega)) (by omega) ?_) | (refine Ints.ixI (by assumption) (by omega) ?_) | (refine Mat.ixI (by assumption) (by omega) ?_) | (refine Ints.ixI (Mat.row (by assumption) _ (by omega)) (by omega) ?_) | (refine Ints.ld (by assumption) (by omega) ?_) | (refine Mat.ld (by assumption) (by omega) ?_) | (refine Ints.ld (Mat.row (by assumption) _ (by omega)) (by omega) ?_) | (refine At.ld (by assumption) rfl ?_) | (refine At.ldN (by assumption) rfl ?_) | (refine Prs.ln (by assumption) ?_) | (refine Trs.ln (by assumption) ?_) | (refine Prs.ix (by assumption) (by omega) ?_) | (refine Trs.ix (by assumption) (by omega) ?_) | (refine Prs.ldN (by assumption) (by omega) ?_) | (refine Trs.ldN (by assumption) (by omega) ?_) | (refine At.ldN (Blk.at (by assumption)) rfl ?_) | (refine At.ld (Blk.at (by assumption)) rfl ?_) | (refine IxA.mk (by omega) ?_) | (refine Sl.ln (Own.sl (by assumption)) ?_) | (refine Ints.ix (Own.sl (by assumption)) (by omega) ?_) | (refine Ints.ixI (Own.sl (by assumption)) (by omega) ?_) | (refine Ints.ld (Own.sl (by assumption)) (by omega) ?_))
  refine VC.rc (push_rc hk (s := 0) (t := (N : Int) - 1) (mo := 200000000) (by omega) (by omega) (Nat.zero_le _) (by decide) (isF_zero hk) HA0 HW) ?_
  rintro _ w5 G5 ⟨x1, F1, z1, Z1, s1, rfl, HW, hx, hP, hn⟩
  rw [← hN1] at hP hn
  have hG0 : Grt N A F1 0 := Grt.start hk hP hn
  replace Hb := Hb0.ext HW.ex
  have HV := HA0.ext HW.ex
  repeat' ((conv => whnf); first | (refine Dr.quiet tyOk (by kernel_rfl) ?_) | (refine Rng.mk (by omega) ?_) | (refine Split.pos (by omega) ?_) | (refine Split.neg (by omega) ?_) | (refine Split.mk (fun h => ?_) (fun h => ?_)) | (refine Need.mk (by omega) ?_) | (refine Ints.ln (by assumption) ?_) | (refine Mat.ln (by assumption) ?_) | (refine Ints.ln (Mat.row (by assumption) _ (by omega)) ?_) | (refine Ints.ix (by assumption) (by omega) ?_) | (refine Mat.ix (by assumption) (by omega) ?_) | (refine Ints.ix (Mat.row (by assumption) _ (by omega)) (by omega) ?_) | (refine Ints.ix (c := 0) (by assumption) (by omega) ?_) | (refine Mat.ix (c := 0) (by assumption) (by omega) ?_) | (refine Ints.ix (c := 0) (Mat.row (by assumption) _ (by omega)) (by omega) ?_) | (refine Ints.ixI (by assumption) (by omega) ?_) | (refine Mat.ixI (by assumption) (by omega) ?_) | (refine Ints.ixI (Mat.row (by assumption) _ (by omega)) (by omega) ?_) | (refine Ints.ld (by assumption) (by omega) ?_) | (refine Mat.ld (by assumption) (by omega) ?_) | (refine Ints.ld (Mat.row (by assumption) _ (by omega)) (by omega) ?_) | (refine At.ld (by assumption) rfl ?_) | (refine At.ldN (by assumption) rfl ?_) | (refine Prs.ln (by assumption) ?_) | (refine Trs.ln (by assumption) ?_) | (refine Prs.ix (by assumption) (by omega) ?_) | (refine Trs.ix (by assumption) (by omega) ?_) | (refine Prs.ldN (by assumption) (by omega) ?_) | (refine Trs.ldN (by assumption) (by omega) ?_) | (refine At.ldN (Blk.at (by assumption)) rfl ?_) | (refine At.ld (Blk.at (by assumption)) rfl ?_) | (refine IxA.mk (by omega) ?_) | (refine Sl.ln (Own.sl (by assumption)) ?_) | (refine Ints.ix (Own.sl (by assumption)) (by omega) ?_) | (refine Ints.ixI (Own.sl (by assumption)) (by omega) ?_) | (refine Ints.ld (Own.sl (by assumption)) (by omega) ?_))
  refine Lp.mk tyOk [false, false, false, false, true, true, true, false, false, false, false, false, false, false, false, false, false, false, false, false, false, false, true, true, true, true, true, true, true, true, true, true, true, true, true, true, true, true, true, true, true, true, true, true, true, true, true, true, true, true, true, true, true, true, true] (fun m fr wr => getK fr 22 fun i => ∃ c : Nat, c ≤ A.length ∧ m = A.length - c ∧ i = .int .i64 (c : Int) ∧ ((∃ F zu Z st, WS w2 wr b N sv fv zu c st F Z ∧ Grt N A F c))) (A.length) ?_ ?_
  · exact ⟨0, Nat.zero_le _, rfl, rfl, ⟨_, _, _, _, HW, hG0⟩⟩
  · intro m w3 u4 u5 u6 u22 u23 u24 u25 u26 u27 u28 u29 u30 u31 u32 u33 u34 u35 u36 u37 u38 u39 u40 u41 u42 u43 u44 u45 u46 u47 u48 u49 u50 u51 u52 u53 u54 hR
    obtain ⟨c, hc, rfl, rfl, HL⟩ := hR
    obtain ⟨F, zu, Z, st, HW, hG⟩ := HL
    have hFl := hG.fw.1.1
    by_cases hcl : c < A.length
    · obtain ⟨hf, ht, hne, hc0, hc1⟩ := hk.arc c hcl
      have hFc := hG.fw.1.2 c (by omega)
      have HK := HW.blk
      have HV := HA0.ext HW.ex
      have HFI : Ints w3 fv F := Own.sl HW.hf
      have hbl := HK.lt
      repeat' ((conv => whnf); first | (refine Dr.quiet tyOk (by kernel_rfl) ?_) | (refine Rng.mk (by omega) ?_) | (refine Split.pos (by omega) ?_) | (refine Split.neg (by omega) ?_) | (refine Split.mk (fun h => ?_) (fun h => ?_)) | (refine Need.mk (by omega) ?_) | (refine Ints.ln (by assumption) ?_) | (refine Mat.ln (by assumption) ?_) | (refine Ints.ln (Mat.row (by assumption) _ (by omega)) ?_) | (refine Ints.ix (by assumption) (by omega) ?_) | (refine Mat.ix (by assumption) (by omega) ?_) | (refine Ints.ix (Mat.row (by assumption) _ (by omega)) (by omega) ?_) | (refine Ints.ix (c := 0) (by assumption) (by omega) ?_) | (refine Mat.ix (c := 0) (by assumption) (by omega) ?_) | (refine Ints.ix (c := 0) (Mat.row (by assumption) _ (by omega)) (by omega) ?_) | (refine Ints.ixI (by assumption) (by omega) ?_) | (refine Mat.ixI (by assumption) (by omega) ?_) | (refine Ints.ixI (Mat.row (by assumption) _ (by omega)) (by omega) ?_) | (refine Ints.ld (by assumption) (by omega) ?_) | (refine Mat.ld (by assumption) (by omega) ?_) | (refine Ints.ld (Mat.row (by assumption) _ (by omega)) (by omega) ?_) | (refine At.ld (by assumption) rfl ?_) | (refine At.ldN (by assumption) rfl ?_) | (refine Prs.ln (by assumption) ?_) | (refine Trs.ln (by assumption) ?_) | (refine Prs.ix (by assumption) (by omega) ?_) | (refine Trs.ix (by assumption) (by omega) ?_) | (refine Prs.ldN (by assumption) (by omega) ?_) | (refine Trs.ldN (by assumption) (by omega) ?_) | (refine At.ldN (Blk.at (by assumption)) rfl ?_) | (refine At.ld (Blk.at (by assumption)) rfl ?_) | (refine IxA.mk (by omega) ?_) | (refine Sl.ln (Own.sl (by assumption)) ?_) | (refine Ints.ix (Own.sl (by assumption)) (by omega) ?_) | (refine Ints.ixI (Own.sl (by assumption)) (by omega) ?_) | (refine Ints.ld (Own.sl (by assumption)) (by omega) ?_))
      have HW__1 := HW
      conv => whnf
      refine VE.alloc eArc fun xb w4 E4 hb_xb Hk => ?_
      replace HW := HW.ext E4
      have EL1 := E4
      conv => whnf
      refine Blk.all Hk (by kernel_rfl) (by first | decide | simp) rfl rfl (by intro v hv; simp at hv; rcases hv with rfl | rfl | rfl | rfl | rfl <;> rfl) fun w5 G5 Hk' => ?_
      have E5 : Ext w3 w5 := EL1.new G5 fun i hi hk => by omega
      replace Hk := Hk'
      replace HW := HW__1.ext E5
      replace EL1 := E5
      have HK := HW.blk
      repeat' ((conv => whnf); first | (refine Dr.quiet tyOk (by kernel_rfl) ?_) | (refine Rng.mk (by omega) ?_) | (refine Split.pos (by omega) ?_) | (refine Split.neg (by omega) ?_) | (refine Split.mk (fun h => ?_) (fun h => ?_)) | (refine Need.mk (by omega) ?_) | (refine Ints.ln (by assumption) ?_) | (refine Mat.ln (by assumption) ?_) | (refine Ints.ln (Mat.row (by assumption) _ (by omega)) ?_) | (refine Ints.ix (by assumption) (by omega) ?_) | (refine Mat.ix (by assumption) (by omega) ?_) | (refine Ints.ix (Mat.row (by assumption) _ (by omega)) (by omega) ?_) | (refine Ints.ix (c := 0) (by assumption) (by omega) ?_) | (refine Mat.ix (c := 0) (by assumption) (by omega) ?_) | (refine Ints.ix (c := 0) (Mat.row (by assumption) _ (by omega)) (by omega) ?_) | (refine Ints.ixI (by assumption) (by omega) ?_) | (refine Mat.ixI (by assumption) (by omega) ?_) | (refine Ints.ixI (Mat.row (by assumption) _ (by omega)) (by omega) ?_) | (refine Ints.ld (by assumption) (by omega) ?_) | (refine Mat.ld (by assumption) (by omega) ?_) | (refine Ints.ld (Mat.row (by assumption) _ (by omega)) (by omega) ?_) | (refine At.ld (by assumption) rfl ?_) | (refine At.ldN (by assumption) rfl ?_) | (refine Prs.ln (by assumption) ?_) | (refine Trs.ln (by assumption) ?_) | (refine Prs.ix (by assumption) (by omega) ?_) | (refine Trs.ix (by assumption) (by omega) ?_) | (refine Prs.ldN (by assumption) (by omega) ?_) | (refine Trs.ldN (by assumption) (by omega) ?_) | (refine At.ldN (Blk.at (by assumption)) rfl ?_) | (refine At.ld (Blk.at (by assumption)) rfl ?_) | (refine IxA.mk (by omega) ?_) | (refine Sl.ln (Own.sl (by assumption)) ?_) | (refine Ints.ix (Own.sl (by assumption)) (by omega) ?_) | (refine Ints.ixI (Own.sl (by assumption)) (by omega) ?_) | (refine Ints.ld (Own.sl (by assumption)) (by omega) ?_))
      refine WS.stK2 HW (y := c + 1) (by omega) fun w8 G8 HW2 => ?_
      have Hk2 := Blk.two Hk HK (by omega) G8
      have HK := HW2.blk
      have HFI : Ints w8 fv F := Own.sl HW2.hf
      have HV := HA0.ext HW2.ex
      repeat' ((conv => whnf); first | (refine Dr.plan 7 [] (.q 0 (.q 1 (.q 2 (.q 3 (.e 4 (.q 5 (.e 6 (.q 7 .nil) .nil)) .nil))))) tyOk rfl (by kernel_rfl) ?_) | (refine Dr.plan 39 [12, 15] (.q 0 (.q 4 (.q 5 (.q 6 (.q 7 (.q 8 (.q 9 (.q 10 (.q 11 (.e 1 (.e 2 (.e 3 (.e 12 (.q 13 (.e 14 (.e 15 .nil .nil) .nil)) .nil) (.e 12 (.q 13 (.e 3 (.e 14 (.e 15 .nil .nil) .nil) .nil)) .nil)) (.e 12 (.q 13 (.e 2 (.e 3 (.e 14 (.e 15 .nil .nil) .nil) .nil) .nil)) .nil)) (.e 12 (.q 13 (.e 1 (.e 2 (.e 3 (.e 14 (.e 15 .nil .nil) .nil) .nil) .nil) .nil)) .nil))))))))))) tyOk rfl (by kernel_rfl) ?_) | (refine Dr.quiet tyOk (by kernel_rfl) ?_) | (refine And.intro ?_ ?_) | (refine Rng.mk (by omega) ?_) | (refine Split.pos (by omega) ?_) | (refine Split.neg (by omega) ?_) | (refine Split.mk (fun h => ?_) (fun h => ?_)) | (refine Need.mk (by omega) ?_) | (refine Ints.ln (by assumption) ?_) | (refine Mat.ln (by assumption) ?_) | (refine Ints.ln (Mat.row (by assumption) _ (by omega)) ?_) | (refine Ints.ix (by assumption) (by omega) ?_) | (refine Mat.ix (by assumption) (by omega) ?_) | (refine Ints.ix (Mat.row (by assumption) _ (by omega)) (by omega) ?_) | (refine Ints.ix (c := 0) (by assumption) (by omega) ?_) | (refine Mat.ix (c := 0) (by assumption) (by omega) ?_) | (refine Ints.ix (c := 0) (Mat.row (by assumption) _ (by omega)) (by omega) ?_) | (refine Ints.ixI (by assumption) (by omega) ?_) | (refine Mat.ixI (by assumption) (by omega) ?_) | (refine Ints.ixI (Mat.row (by assumption) _ (by omega)) (by omega) ?_) | (refine Ints.ld (by assumption) (by omega) ?_) | (refine Mat.ld (by assumption) (by omega) ?_) | (refine Ints.ld (Mat.row (by assumption) _ (by omega)) (by omega) ?_) | (refine At.ld (by assumption) rfl ?_) | (refine At.ldN (by assumption) rfl ?_) | (refine Prs.ln (by assumption) ?_) | (refine Trs.ln (by assumption) ?_) | (refine Prs.ix (by assumption) (by omega) ?_) | (refine Trs.ix (by assumption) (by omega) ?_) | (refine Prs.ldN (by assumption) (by omega) ?_) | (refine Trs.ldN (by assumption) (by omega) ?_) | (refine At.ldN (Blk.at (by assumption)) rfl ?_) | (refine At.ld (Blk.at (by assumption)) rfl ?_) | (refine IxA.mk (by omega) ?_) | (refine Sl.ln (Own.sl (by assumption)) ?_) | (refine Ints.ix (Own.sl (by assumption)) (by omega) ?_) | (refine Ints.ixI (Own.sl (by assumption)) (by omega) ?_) | (refine Ints.ld (Own.sl (by assumption)) (by omega) ?_))
      all_goals
        conv => whnf
        refine VC.rc (push_rc hk hf ht hcl (by omega) hG.fw.1 HA0 HW2) ?_
        rintro _ w9 G9 ⟨x, F2, zu2, Z2, st2, rfl, HW3, hx2, hP2, hn2⟩
        have HK := HW3.blk
        have hF2l := hP2.fl.1
        have HFI : Ints w9 fv F2 := Own.sl HW3.hf
        repeat' ((conv => whnf); first | (refine Dr.quiet tyOk (by kernel_rfl) ?_) | (refine Rng.mk (by omega) ?_) | (refine Split.pos (by omega) ?_) | (refine Split.neg (by omega) ?_) | (refine Split.mk (fun h => ?_) (fun h => ?_)) | (refine Need.mk (by omega) ?_) | (refine Ints.ln (by assumption) ?_) | (refine Mat.ln (by assumption) ?_) | (refine Ints.ln (Mat.row (by assumption) _ (by omega)) ?_) | (refine Ints.ix (by assumption) (by omega) ?_) | (refine Mat.ix (by assumption) (by omega) ?_) | (refine Ints.ix (Mat.row (by assumption) _ (by omega)) (by omega) ?_) | (refine Ints.ix (c := 0) (by assumption) (by omega) ?_) | (refine Mat.ix (c := 0) (by assumption) (by omega) ?_) | (refine Ints.ix (c := 0) (Mat.row (by assumption) _ (by omega)) (by omega) ?_) | (refine Ints.ixI (by assumption) (by omega) ?_) | (refine Mat.ixI (by assumption) (by omega) ?_) | (refine Ints.ixI (Mat.row (by assumption) _ (by omega)) (by omega) ?_) | (refine Ints.ld (by assumption) (by omega) ?_) | (refine Mat.ld (by assumption) (by omega) ?_) | (refine Ints.ld (Mat.row (by assumption) _ (by omega)) (by omega) ?_) | (refine At.ld (by assumption) rfl ?_) | (refine At.ldN (by assumption) rfl ?_) | (refine Prs.ln (by assumption) ?_) | (refine Trs.ln (by assumption) ?_) | (refine Prs.ix (by assumption) (by omega) ?_) | (refine Trs.ix (by assumption) (by omega) ?_) | (refine Prs.ldN (by assumption) (by omega) ?_) | (refine Trs.ldN (by assumption) (by omega) ?_) | (refine At.ldN (Blk.at (by assumption)) rfl ?_) | (refine At.ld (Blk.at (by assumption)) rfl ?_) | (refine IxA.mk (by omega) ?_) | (refine Sl.ln (Own.sl (by assumption)) ?_) | (refine Ints.ix (Own.sl (by assumption)) (by omega) ?_) | (refine Ints.ixI (Own.sl (by assumption)) (by omega) ?_) | (refine Ints.ld (Own.sl (by assumption)) (by omega) ?_))
        refine WS.stF HW3 (by omega) fun w10 G10 HW4 => ?_
        repeat' ((conv => whnf); first | (refine Dr.quiet tyOk (by kernel_rfl) ?_) | (refine Rng.mk (by omega) ?_) | (refine Split.pos (by omega) ?_) | (refine Split.neg (by omega) ?_) | (refine Split.mk (fun h => ?_) (fun h => ?_)) | (refine Need.mk (by omega) ?_) | (refine Ints.ln (by assumption) ?_) | (refine Mat.ln (by assumption) ?_) | (refine Ints.ln (Mat.row (by assumption) _ (by omega)) ?_) | (refine Ints.ix (by assumption) (by omega) ?_) | (refine Mat.ix (by assumption) (by omega) ?_) | (refine Ints.ix (Mat.row (by assumption) _ (by omega)) (by omega) ?_) | (refine Ints.ix (c := 0) (by assumption) (by omega) ?_) | (refine Mat.ix (c := 0) (by assumption) (by omega) ?_) | (refine Ints.ix (c := 0) (Mat.row (by assumption) _ (by omega)) (by omega) ?_) | (refine Ints.ixI (by assumption) (by omega) ?_) | (refine Mat.ixI (by assumption) (by omega) ?_) | (refine Ints.ixI (Mat.row (by assumption) _ (by omega)) (by omega) ?_) | (refine Ints.ld (by assumption) (by omega) ?_) | (refine Mat.ld (by assumption) (by omega) ?_) | (refine Ints.ld (Mat.row (by assumption) _ (by omega)) (by omega) ?_) | (refine At.ld (by assumption) rfl ?_) | (refine At.ldN (by assumption) rfl ?_) | (refine Prs.ln (by assumption) ?_) | (refine Trs.ln (by assumption) ?_) | (refine Prs.ix (by assumption) (by omega) ?_) | (refine Trs.ix (by assumption) (by omega) ?_) | (refine Prs.ldN (by assumption) (by omega) ?_) | (refine Trs.ldN (by assumption) (by omega) ?_) | (refine At.ldN (Blk.at (by assumption)) rfl ?_) | (refine At.ld (Blk.at (by assumption)) rfl ?_) | (refine IxA.mk (by omega) ?_) | (refine Sl.ln (Own.sl (by assumption)) ?_) | (refine Ints.ix (Own.sl (by assumption)) (by omega) ?_) | (refine Ints.ixI (Own.sl (by assumption)) (by omega) ?_) | (refine Ints.ld (Own.sl (by assumption)) (by omega) ?_))
        refine ⟨_, (by omega : A.length - (c + 1) < A.length - c), rfl, c + 1, by omega, rfl, rfl, ⟨_, _, _, _, HW4, hG.step hk hcl hP2 hx2 hn2⟩⟩
    · obtain rfl : c = A.length := by omega
      have HK := HW.blk
      have hd := hG.done hk
      repeat' ((conv => whnf); first | (refine Dr.quiet tyOk (by kernel_rfl) ?_) | (refine Rng.mk (by omega) ?_) | (refine Split.pos (by omega) ?_) | (refine Split.neg (by omega) ?_) | (refine Split.mk (fun h => ?_) (fun h => ?_)) | (refine Need.mk (by omega) ?_) | (refine Ints.ln (by assumption) ?_) | (refine Mat.ln (by assumption) ?_) | (refine Ints.ln (Mat.row (by assumption) _ (by omega)) ?_) | (refine Ints.ix (by assumption) (by omega) ?_) | (refine Mat.ix (by assumption) (by omega) ?_) | (refine Ints.ix (Mat.row (by assumption) _ (by omega)) (by omega) ?_) | (refine Ints.ix (c := 0) (by assumption) (by omega) ?_) | (refine Mat.ix (c := 0) (by assumption) (by omega) ?_) | (refine Ints.ix (c := 0) (Mat.row (by assumption) _ (by omega)) (by omega) ?_) | (refine Ints.ixI (by assumption) (by omega) ?_) | (refine Mat.ixI (by assumption) (by omega) ?_) | (refine Ints.ixI (Mat.row (by assumption) _ (by omega)) (by omega) ?_) | (refine Ints.ld (by assumption) (by omega) ?_) | (refine Mat.ld (by assumption) (by omega) ?_) | (refine Ints.ld (Mat.row (by assumption) _ (by omega)) (by omega) ?_) | (refine At.ld (by assumption) rfl ?_) | (refine At.ldN (by assumption) rfl ?_) | (refine Prs.ln (by assumption) ?_) | (refine Trs.ln (by assumption) ?_) | (refine Prs.ix (by assumption) (by omega) ?_) | (refine Trs.ix (by assumption) (by omega) ?_) | (refine Prs.ldN (by assumption) (by omega) ?_) | (refine Trs.ldN (by assumption) (by omega) ?_) | (refine At.ldN (Blk.at (by assumption)) rfl ?_) | (refine At.ld (Blk.at (by assumption)) rfl ?_) | (refine IxA.mk (by omega) ?_) | (refine Sl.ln (Own.sl (by assumption)) ?_) | (refine Ints.ix (Own.sl (by assumption)) (by omega) ?_) | (refine Ints.ixI (Own.sl (by assumption)) (by omega) ?_) | (refine Ints.ld (Own.sl (by assumption)) (by omega) ?_))
      rw [hd]
      exact ⟨EE.trans HW.ex, Own.base HW.hf hz2, mx_of hk hG0 hP hn hG⟩
end Go.Proofs.Ytpdldifklgpikaa
set_option linter.unusedVariables false
set_option linter.unusedSimpArgs false
namespace Go.Proofs.Ytpdldifklgpikaa
open Go.Eng
set_option maxRecDepth 100000
set_option maxHeartbeats 4000000

open Classical in noncomputable def mxL (n : Int) (A : List T3) : List Int := if netE n A = 0 then gf n.toNat A else []
open Classical in noncomputable def lsL (n : Int) (A : List T3) : List Bool := if netE n A = 0 then rchL n.toNat A (gf n.toNat A) else []
theorem mxL_ok {N : Nat} {A : List T3} (h : netE (N : Int) A = 0) : mxL (N : Int) A = gf N A := by unfold mxL; rw [if_pos h, Int.toNat_natCast]
theorem lsL_ok {N : Nat} {A : List T3} (h : netE (N : Int) A = 0) : lsL (N : Int) A = rchL N A (gf N A) := by unfold lsL; rw [if_pos h, Int.toNat_natCast]
theorem mxL_no {n : Int} {A : List T3} (h : ¬ netE n A = 0) : mxL n A = [] := by unfold mxL; rw [if_neg h]
theorem lsL_no {n : Int} {A : List T3} (h : ¬ netE n A = 0) : lsL n A = [] := by unfold lsL; rw [if_neg h]

theorem vV_ok {N : Nat} {A : List T3} {f : List Int} (hE : netE (N : Int) A = 0) (hW : isW N A f) : vV (N : Int) A f = -bal A f 0 A.length := by unfold vV; rw [if_pos hE, Int.toNat_natCast]; exact wV_ok hW
theorem cE_ok {N : Nat} {A : List T3} {s : List Bool} (hE : netE (N : Int) A = 0) (hS : sdOk N s) : cE (N : Int) A s = 0 := by unfold cE; rw [if_pos hE, Int.toNat_natCast, if_pos hS]
theorem cV_ok {N : Nat} {A : List T3} {s : List Bool} (hE : netE (N : Int) A = 0) (hS : sdOk N s) : cV (N : Int) A s = cutTo A s A.length := by unfold cV; rw [if_pos hE, Int.toNat_natCast]; exact cutV_ok hS

theorem gMax_rc {w : World} {n : Int} {sv : Value} {A : List T3} (HA : Trs w sv A) :
    RC Try.prog 11 [.agg #[.int .i64 n, sv]] w NoB (fun u w' => ∃ v, u = .tuple #[v, .int .i64 (netE n A)] ∧ OI w' v (mxL n A) ∧ (netE n A = 0 → Mx n.toNat A)) := by
  refine RC.mk tyOk Try.func11 rfl (by kernel_rfl) fun w1 E1 => ?_
  replace HA := HA.ext E1
  have EE := Ext.refl w1
  refine Bx.agg fun b2 w2 E2 hb2 Hb _ => ?_
  replace HA := HA.ext E2
  replace EE := EE.ext E2
  have cn := gnet_pc (n := n) HA
  by_cases hE : netE n A = 0
  · obtain ⟨N, rfl, hk⟩ := netOk hE
    rw [mxL_ok hE]
    rw [hE] at cn ⊢
    repeat' ((conv => whnf); first | (refine Dr.quiet tyOk (by kernel_rfl) ?_) | (refine At.ldN Hb rfl ?_) | (refine VC.pure cn ?_) | (refine Rng.mk (by omega) ?_) | (refine Split.pos (by omega) ?_) | (refine Split.neg (by omega) ?_) | (refine Split.mk (fun h => ?_) (fun h => ?_)) | (refine Need.mk (by omega) ?_) | (refine Ints.ln (by assumption) ?_) | (refine Mat.ln (by assumption) ?_) | (refine Ints.ln (Mat.row (by assumption) _ (by omega)) ?_) | (refine Ints.ix (by assumption) (by omega) ?_) | (refine Mat.ix (by assumption) (by omega) ?_) | (refine Ints.ix (Mat.row (by assumption) _ (by omega)) (by omega) ?_) | (refine Ints.ix (c := 0) (by assumption) (by omega) ?_) | (refine Mat.ix (c := 0) (by assumption) (by omega) ?_) | (refine Ints.ix (c := 0) (Mat.row (by assumption) _ (by omega)) (by omega) ?_) | (refine Ints.ixI (by assumption) (by omega) ?_) | (refine Mat.ixI (by assumption) (by omega) ?_) | (refine Ints.ixI (Mat.row (by assumption) _ (by omega)) (by omega) ?_) | (refine Ints.ld (by assumption) (by omega) ?_) | (refine Mat.ld (by assumption) (by omega) ?_) | (refine Ints.ld (Mat.row (by assumption) _ (by omega)) (by omega) ?_) | (refine At.ld (by assumption) rfl ?_) | (refine At.ldN (by assumption) rfl ?_) | (refine Prs.ln (by assumption) ?_) | (refine Trs.ln (by assumption) ?_) | (refine Prs.ix (by assumption) (by omega) ?_) | (refine Trs.ix (by assumption) (by omega) ?_) | (refine Prs.ldN (by assumption) (by omega) ?_) | (refine Trs.ldN (by assumption) (by omega) ?_) | (refine At.ldN (Blk.at (by assumption)) rfl ?_) | (refine At.ld (Blk.at (by assumption)) rfl ?_) | (refine IxA.mk (by omega) ?_) | (refine Sl.ln (Own.sl (by assumption)) ?_) | (refine Ints.ix (Own.sl (by assumption)) (by omega) ?_) | (refine Ints.ixI (Own.sl (by assumption)) (by omega) ?_) | (refine Ints.ld (Own.sl (by assumption)) (by omega) ?_))
    conv => whnf
    refine VC.rc (greatest_rc HA hk) ?_
    rintro v w3 E3 ⟨HV, hM⟩
    replace HA := HA.ext E3
    replace EE := EE.ext E3
    replace Hb := Hb.ext E3
    repeat' ((conv => whnf); first | (refine Dr.quiet tyOk (by kernel_rfl) ?_) | (refine Rng.mk (by omega) ?_) | (refine Split.pos (by omega) ?_) | (refine Split.neg (by omega) ?_) | (refine Split.mk (fun h => ?_) (fun h => ?_)) | (refine Need.mk (by omega) ?_) | (refine Ints.ln (by assumption) ?_) | (refine Mat.ln (by assumption) ?_) | (refine Ints.ln (Mat.row (by assumption) _ (by omega)) ?_) | (refine Ints.ix (by assumption) (by omega) ?_) | (refine Mat.ix (by assumption) (by omega) ?_) | (refine Ints.ix (Mat.row (by assumption) _ (by omega)) (by omega) ?_) | (refine Ints.ix (c := 0) (by assumption) (by omega) ?_) | (refine Mat.ix (c := 0) (by assumption) (by omega) ?_) | (refine Ints.ix (c := 0) (Mat.row (by assumption) _ (by omega)) (by omega) ?_) | (refine Ints.ixI (by assumption) (by omega) ?_) | (refine Mat.ixI (by assumption) (by omega) ?_) | (refine Ints.ixI (Mat.row (by assumption) _ (by omega)) (by omega) ?_) | (refine Ints.ld (by assumption) (by omega) ?_) | (refine Mat.ld (by assumption) (by omega) ?_) | (refine Ints.ld (Mat.row (by assumption) _ (by omega)) (by omega) ?_) | (refine At.ld (by assumption) rfl ?_) | (refine At.ldN (by assumption) rfl ?_) | (refine Prs.ln (by assumption) ?_) | (refine Trs.ln (by assumption) ?_) | (refine Prs.ix (by assumption) (by omega) ?_) | (refine Trs.ix (by assumption) (by omega) ?_) | (refine Prs.ldN (by assumption) (by omega) ?_) | (refine Trs.ldN (by assumption) (by omega) ?_) | (refine At.ldN (Blk.at (by assumption)) rfl ?_) | (refine At.ld (Blk.at (by assumption)) rfl ?_) | (refine IxA.mk (by omega) ?_) | (refine Sl.ln (Own.sl (by assumption)) ?_) | (refine Ints.ix (Own.sl (by assumption)) (by omega) ?_) | (refine Ints.ixI (Own.sl (by assumption)) (by omega) ?_) | (refine Ints.ld (Own.sl (by assumption)) (by omega) ?_))
    exact ⟨EE, _, rfl, Own.base HV (Nat.zero_le _), fun _ => by rw [Int.toNat_natCast]; exact hM⟩
  · rw [mxL_no hE]
    repeat' ((conv => whnf); first | (refine Dr.quiet tyOk (by kernel_rfl) ?_) | (refine At.ldN Hb rfl ?_) | (refine VC.pure cn ?_) | (refine Rng.mk (by omega) ?_) | (refine Split.pos (by omega) ?_) | (refine Split.neg (by omega) ?_) | (refine Split.mk (fun h => ?_) (fun h => ?_)) | (refine Need.mk (by omega) ?_) | (refine Ints.ln (by assumption) ?_) | (refine Mat.ln (by assumption) ?_) | (refine Ints.ln (Mat.row (by assumption) _ (by omega)) ?_) | (refine Ints.ix (by assumption) (by omega) ?_) | (refine Mat.ix (by assumption) (by omega) ?_) | (refine Ints.ix (Mat.row (by assumption) _ (by omega)) (by omega) ?_) | (refine Ints.ix (c := 0) (by assumption) (by omega) ?_) | (refine Mat.ix (c := 0) (by assumption) (by omega) ?_) | (refine Ints.ix (c := 0) (Mat.row (by assumption) _ (by omega)) (by omega) ?_) | (refine Ints.ixI (by assumption) (by omega) ?_) | (refine Mat.ixI (by assumption) (by omega) ?_) | (refine Ints.ixI (Mat.row (by assumption) _ (by omega)) (by omega) ?_) | (refine Ints.ld (by assumption) (by omega) ?_) | (refine Mat.ld (by assumption) (by omega) ?_) | (refine Ints.ld (Mat.row (by assumption) _ (by omega)) (by omega) ?_) | (refine At.ld (by assumption) rfl ?_) | (refine At.ldN (by assumption) rfl ?_) | (refine Prs.ln (by assumption) ?_) | (refine Trs.ln (by assumption) ?_) | (refine Prs.ix (by assumption) (by omega) ?_) | (refine Trs.ix (by assumption) (by omega) ?_) | (refine Prs.ldN (by assumption) (by omega) ?_) | (refine Trs.ldN (by assumption) (by omega) ?_) | (refine At.ldN (Blk.at (by assumption)) rfl ?_) | (refine At.ld (Blk.at (by assumption)) rfl ?_) | (refine IxA.mk (by omega) ?_) | (refine Sl.ln (Own.sl (by assumption)) ?_) | (refine Ints.ix (Own.sl (by assumption)) (by omega) ?_) | (refine Ints.ixI (Own.sl (by assumption)) (by omega) ?_) | (refine Ints.ld (Own.sl (by assumption)) (by omega) ?_))
    exact ⟨EE, _, rfl, Own.nil, fun h => absurd h hE⟩
theorem gLeast_rc {w : World} {n : Int} {sv : Value} {A : List T3} (HA : Trs w sv A) :
    RC Try.prog 13 [.agg #[.int .i64 n, sv]] w NoB (fun u w' => ∃ v, u = .tuple #[v, .int .i64 (netE n A)] ∧ OZ 0 w' v (lsL n A)) := by
  refine RC.mk tyOk Try.func13 rfl (by kernel_rfl) fun w1 E1 => ?_
  replace HA := HA.ext E1
  have EE := Ext.refl w1
  refine Bx.agg fun b2 w2 E2 hb2 Hb _ => ?_
  replace HA := HA.ext E2
  replace EE := EE.ext E2
  have cn := gnet_pc (n := n) HA
  by_cases hE : netE n A = 0
  · obtain ⟨N, rfl, hk⟩ := netOk hE
    rw [lsL_ok hE]
    rw [hE] at cn ⊢
    repeat' ((conv => whnf); first | (refine Dr.plan 10 [] (.q 0 (.q 1 (.e 2 (.e 3 (.q 4 (.q 5 .nil)) .nil) .nil))) tyOk rfl (by kernel_rfl) ?_) | (refine Dr.quiet tyOk (by kernel_rfl) ?_) | (refine At.ldN Hb rfl ?_) | (refine VC.pure cn ?_) | (refine Rng.mk (by omega) ?_) | (refine Split.pos (by omega) ?_) | (refine Split.neg (by omega) ?_) | (refine Split.mk (fun h => ?_) (fun h => ?_)) | (refine Need.mk (by omega) ?_) | (refine Ints.ln (by assumption) ?_) | (refine Mat.ln (by assumption) ?_) | (refine Ints.ln (Mat.row (by assumption) _ (by omega)) ?_) | (refine Ints.ix (by assumption) (by omega) ?_) | (refine Mat.ix (by assumption) (by omega) ?_) | (refine Ints.ix (Mat.row (by assumption) _ (by omega)) (by omega) ?_) | (refine Ints.ix (c := 0) (by assumption) (by omega) ?_) | (refine Mat.ix (c := 0) (by assumption) (by omega) ?_) | (refine Ints.ix (c := 0) (Mat.row (by assumption) _ (by omega)) (by omega) ?_) | (refine Ints.ixI (by assumption) (by omega) ?_) | (refine Mat.ixI (by assumption) (by omega) ?_) | (refine Ints.ixI (Mat.row (by assumption) _ (by omega)) (by omega) ?_) | (refine Ints.ld (by assumption) (by omega) ?_) | (refine Mat.ld (by assumption) (by omega) ?_) | (refine Ints.ld (Mat.row (by assumption) _ (by omega)) (by omega) ?_) | (refine At.ld (by assumption) rfl ?_) | (refine At.ldN (by assumption) rfl ?_) | (refine Prs.ln (by assumption) ?_) | (refine Trs.ln (by assumption) ?_) | (refine Prs.ix (by assumption) (by omega) ?_) | (refine Trs.ix (by assumption) (by omega) ?_) | (refine Prs.ldN (by assumption) (by omega) ?_) | (refine Trs.ldN (by assumption) (by omega) ?_) | (refine At.ldN (Blk.at (by assumption)) rfl ?_) | (refine At.ld (Blk.at (by assumption)) rfl ?_) | (refine IxA.mk (by omega) ?_) | (refine Sl.ln (Own.sl (by assumption)) ?_) | (refine Ints.ix (Own.sl (by assumption)) (by omega) ?_) | (refine Ints.ixI (Own.sl (by assumption)) (by omega) ?_) | (refine Ints.ld (Own.sl (by assumption)) (by omega) ?_))
    conv => whnf
    refine VCX.rc (greatest_rc HA hk) ?_
    rintro v w3 E3 ⟨HV, hM⟩
    replace HA := HA.ext E3
    replace EE := EE.ext E3
    replace Hb := Hb.ext E3
    repeat' ((conv => whnf); first | (refine Dr.plan 10 [] (.q 0 (.q 1 (.e 2 (.e 3 (.q 4 (.q 5 .nil)) .nil) .nil))) tyOk rfl (by kernel_rfl) ?_) | (refine Dr.quiet tyOk (by kernel_rfl) ?_) | (refine At.ldN Hb rfl ?_) | (refine Rng.mk (by omega) ?_) | (refine Split.pos (by omega) ?_) | (refine Split.neg (by omega) ?_) | (refine Split.mk (fun h => ?_) (fun h => ?_)) | (refine Need.mk (by omega) ?_) | (refine Ints.ln (by assumption) ?_) | (refine Mat.ln (by assumption) ?_) | (refine Ints.ln (Mat.row (by assumption) _ (by omega)) ?_) | (refine Ints.ix (by assumption) (by omega) ?_) | (refine Mat.ix (by assumption) (by omega) ?_) | (refine Ints.ix (Mat.row (by assumption) _ (by omega)) (by omega) ?_) | (refine Ints.ix (c := 0) (by assumption) (by omega) ?_) | (refine Mat.ix (c := 0) (by assumption) (by omega) ?_) | (refine Ints.ix (c := 0) (Mat.row (by assumption) _ (by omega)) (by omega) ?_) | (refine Ints.ixI (by assumption) (by omega) ?_) | (refine Mat.ixI (by assumption) (by omega) ?_) | (refine Ints.ixI (Mat.row (by assumption) _ (by omega)) (by omega) ?_) | (refine Ints.ld (by assumption) (by omega) ?_) | (refine Mat.ld (by assumption) (by omega) ?_) | (refine Ints.ld (Mat.row (by assumption) _ (by omega)) (by omega) ?_) | (refine At.ld (by assumption) rfl ?_) | (refine At.ldN (by assumption) rfl ?_) | (refine Prs.ln (by assumption) ?_) | (refine Trs.ln (by assumption) ?_) | (refine Prs.ix (by assumption) (by omega) ?_) | (refine Trs.ix (by assumption) (by omega) ?_) | (refine Prs.ldN (by assumption) (by omega) ?_) | (refine Trs.ldN (by assumption) (by omega) ?_) | (refine At.ldN (Blk.at (by assumption)) rfl ?_) | (refine At.ld (Blk.at (by assumption)) rfl ?_) | (refine IxA.mk (by omega) ?_) | (refine Sl.ln (Own.sl (by assumption)) ?_) | (refine Ints.ix (Own.sl (by assumption)) (by omega) ?_) | (refine Ints.ixI (Own.sl (by assumption)) (by omega) ?_) | (refine Ints.ld (Own.sl (by assumption)) (by omega) ?_))
    conv => whnf
    refine VCX.rc (greach_rc HA (Own.sl HV) hk hM.is.1.1) ?_
    rintro q w4 E4 HQ
    replace HA := HA.ext E4
    replace EE := EE.ext E4
    replace Hb := Hb.ext E4
    replace HV := HV.ext E4
    repeat' ((conv => whnf); first | (refine Dr.quiet tyOk (by kernel_rfl) ?_) | (refine Rng.mk (by omega) ?_) | (refine Split.pos (by omega) ?_) | (refine Split.neg (by omega) ?_) | (refine Split.mk (fun h => ?_) (fun h => ?_)) | (refine Need.mk (by omega) ?_) | (refine Ints.ln (by assumption) ?_) | (refine Mat.ln (by assumption) ?_) | (refine Ints.ln (Mat.row (by assumption) _ (by omega)) ?_) | (refine Ints.ix (by assumption) (by omega) ?_) | (refine Mat.ix (by assumption) (by omega) ?_) | (refine Ints.ix (Mat.row (by assumption) _ (by omega)) (by omega) ?_) | (refine Ints.ix (c := 0) (by assumption) (by omega) ?_) | (refine Mat.ix (c := 0) (by assumption) (by omega) ?_) | (refine Ints.ix (c := 0) (Mat.row (by assumption) _ (by omega)) (by omega) ?_) | (refine Ints.ixI (by assumption) (by omega) ?_) | (refine Mat.ixI (by assumption) (by omega) ?_) | (refine Ints.ixI (Mat.row (by assumption) _ (by omega)) (by omega) ?_) | (refine Ints.ld (by assumption) (by omega) ?_) | (refine Mat.ld (by assumption) (by omega) ?_) | (refine Ints.ld (Mat.row (by assumption) _ (by omega)) (by omega) ?_) | (refine At.ld (by assumption) rfl ?_) | (refine At.ldN (by assumption) rfl ?_) | (refine Prs.ln (by assumption) ?_) | (refine Trs.ln (by assumption) ?_) | (refine Prs.ix (by assumption) (by omega) ?_) | (refine Trs.ix (by assumption) (by omega) ?_) | (refine Prs.ldN (by assumption) (by omega) ?_) | (refine Trs.ldN (by assumption) (by omega) ?_) | (refine At.ldN (Blk.at (by assumption)) rfl ?_) | (refine At.ld (Blk.at (by assumption)) rfl ?_) | (refine IxA.mk (by omega) ?_) | (refine Sl.ln (Own.sl (by assumption)) ?_) | (refine Ints.ix (Own.sl (by assumption)) (by omega) ?_) | (refine Ints.ixI (Own.sl (by assumption)) (by omega) ?_) | (refine Ints.ld (Own.sl (by assumption)) (by omega) ?_))
    exact ⟨EE, _, rfl, Own.base HQ (Nat.zero_le _)⟩
  · rw [lsL_no hE]
    repeat' ((conv => whnf); first | (refine Dr.quiet tyOk (by kernel_rfl) ?_) | (refine At.ldN Hb rfl ?_) | (refine VC.pure cn ?_) | (refine Rng.mk (by omega) ?_) | (refine Split.pos (by omega) ?_) | (refine Split.neg (by omega) ?_) | (refine Split.mk (fun h => ?_) (fun h => ?_)) | (refine Need.mk (by omega) ?_) | (refine Ints.ln (by assumption) ?_) | (refine Mat.ln (by assumption) ?_) | (refine Ints.ln (Mat.row (by assumption) _ (by omega)) ?_) | (refine Ints.ix (by assumption) (by omega) ?_) | (refine Mat.ix (by assumption) (by omega) ?_) | (refine Ints.ix (Mat.row (by assumption) _ (by omega)) (by omega) ?_) | (refine Ints.ix (c := 0) (by assumption) (by omega) ?_) | (refine Mat.ix (c := 0) (by assumption) (by omega) ?_) | (refine Ints.ix (c := 0) (Mat.row (by assumption) _ (by omega)) (by omega) ?_) | (refine Ints.ixI (by assumption) (by omega) ?_) | (refine Mat.ixI (by assumption) (by omega) ?_) | (refine Ints.ixI (Mat.row (by assumption) _ (by omega)) (by omega) ?_) | (refine Ints.ld (by assumption) (by omega) ?_) | (refine Mat.ld (by assumption) (by omega) ?_) | (refine Ints.ld (Mat.row (by assumption) _ (by omega)) (by omega) ?_) | (refine At.ld (by assumption) rfl ?_) | (refine At.ldN (by assumption) rfl ?_) | (refine Prs.ln (by assumption) ?_) | (refine Trs.ln (by assumption) ?_) | (refine Prs.ix (by assumption) (by omega) ?_) | (refine Trs.ix (by assumption) (by omega) ?_) | (refine Prs.ldN (by assumption) (by omega) ?_) | (refine Trs.ldN (by assumption) (by omega) ?_) | (refine At.ldN (Blk.at (by assumption)) rfl ?_) | (refine At.ld (Blk.at (by assumption)) rfl ?_) | (refine IxA.mk (by omega) ?_) | (refine Sl.ln (Own.sl (by assumption)) ?_) | (refine Ints.ix (Own.sl (by assumption)) (by omega) ?_) | (refine Ints.ixI (Own.sl (by assumption)) (by omega) ?_) | (refine Ints.ld (Own.sl (by assumption)) (by omega) ?_))
    exact ⟨EE, _, rfl, Own.nil⟩

section
open Classical
theorem noway_side {N : Nat} {A : List T3} {g : List Int} (hk : NetOk N A) (h : NoWay A g 0 ((N - 1 : Nat) : Int) 0) : ∃ s : List Bool, sdOk N s ∧ ∀ j, j < A.length → ∀ u v : Int, s.getD u.toNat false = true → Edg A g u v j → s.getD v.toNat false = true := by
  obtain ⟨S, h0, h1, hc⟩ := h
  have h2 := hk.n2
  have hg : ∀ v : Nat, v < N → (mk N fun v : Nat => tf (S (v : Int))).getD v false = tf (S (v : Int)) := fun v hv => mk_get false hv
  refine ⟨mk N fun v : Nat => tf (S (v : Int)), ⟨mk_len _ _, by rw [hg 0 (by omega)]; exact tf_t h0, by rw [hg _ (by omega)]; exact tf_f h1⟩, fun j hj u v hu he => ?_⟩
  have hr := edg_rng hk hj he
  rw [hg _ (by omega)] at hu ⊢
  rw [show ((u.toNat : Nat) : Int) = u by omega] at hu
  rw [show ((v.toNat : Nat) : Int) = v by omega]
  exact tf_t (hc j (Nat.zero_le _) hj u v (of_tf hu) he)
theorem rch_not {N : Nat} {A : List T3} {f g : List Int} (hk : NetOk N A) (hf : isW N A f) (hg : isW N A g) (e : bal A g 0 A.length = bal A f 0 A.length) (h : NoWay A g 0 ((N - 1 : Nat) : Int) 0) : ¬ Rch A f ((N - 1 : Nat) : Int) := by
  obtain ⟨s, hs, hc⟩ := noway_side hk h
  have h1 := (cut_weak hk hg hs).2.2 hc
  intro hr
  have h2 := rch_sub hk hf hs (by rw [← e]; exact h1) hr
  rw [Int.toNat_natCast, hs.2.2] at h2
  cases h2
theorem mx_rch {N : Nat} {A : List T3} {f : List Int} (hk : NetOk N A) (hM : Mx N A) (ha : A.length < 200) (hf : isW N A f) : Rch A f ((N - 1 : Nat) : Int) ↔ bal A (gf N A) 0 A.length < bal A f 0 A.length := by
  have hle := hM.is.2.1 f hf
  constructor
  · intro hr
    refine Classical.byContradiction fun hn => ?_
    obtain ⟨g, hg, he, hw⟩ := hM.cut ha
    exact rch_not hk hf hg (by omega) hw hr
  · intro hlt
    refine Classical.byContradiction fun hn => ?_
    have := most_flow hk hf hM.is.1 (noway_of hn)
    omega
theorem mx_proves {N : Nat} {A : List T3} (hk : NetOk N A) (hM : Mx N A) (ha : A.length < 200) : sdOk N (rchL N A (gf N A)) ∧ - bal A (gf N A) 0 A.length = cutTo A (rchL N A (gf N A)) A.length :=
  rch_proves hk hM.is.1 fun h => by have := (mx_rch hk hM ha hM.is.1).1 h; omega
/-! ### given networks -/
def nwB (A : List T3) (f : List Int) (S : List Bool) (s t : Int) (k : Nat) : Bool :=
  S.getD s.toNat false && !S.getD t.toNat false && (List.range A.length).all fun j => decide (j < k) || ((!(S.getD (frm A j).toNat false) || !decide (f.getD j 0 < cpy A j) || S.getD (too A j).toNat false) && (!(S.getD (too A j).toNat false) || !decide (0 < f.getD j 0) || S.getD (frm A j).toNat false))
theorem nw_of {A : List T3} {f : List Int} {S : List Bool} {s t : Int} {k : Nat} (h : nwB A f S s t k = true) : NoWay A f s t k := by
  simp only [nwB, Bool.and_eq_true, List.all_eq_true] at h
  refine ⟨fun v => S.getD v.toNat false = true, h.1.1, fun h2 => ?_, fun j hj hl u v hu he => ?_⟩
  · have h3 := h.1.2; rw [h2] at h3; cases h3
  · have h3 := h.2 j (List.mem_range.2 hl)
    rw [decide_eq_false (show ¬ j < k by omega), Bool.false_or, Bool.and_eq_true] at h3
    rcases he with ⟨rfl, rfl, hlt⟩ | ⟨rfl, rfl, hlt⟩
    · have h4 := h3.1
      rw [hu, decide_eq_true hlt] at h4; simpa using h4
    · have h4 := h3.2
      rw [hu, decide_eq_true hlt] at h4; simpa using h4
def isWB (N : Nat) (A : List T3) (f : List Int) : Bool := decide (f.length = A.length) && ((List.range A.length).all fun i => decide (0 ≤ f.getD i 0) && decide (f.getD i 0 ≤ cpy A i)) && (List.range (N - 2)).all fun v => decide (bal A f ((v + 1 : Nat) : Int) A.length = 0)
theorem isW_of {N : Nat} {A : List T3} {f : List Int} (h : isWB N A f = true) : isW N A f := by
  simp only [isWB, Bool.and_eq_true, List.all_eq_true, decide_eq_true_eq] at h
  refine ⟨⟨h.1.1, fun i hi => h.1.2 i (List.mem_range.2 (by omega))⟩, fun v h1 h2 => ?_⟩
  have := h.2 (v - 1) (List.mem_range.2 (by omega))
  rwa [show v - 1 + 1 = v by omega] at this
/-- a flow with the sets that prove it -/
def gfB (N : Nat) (A : List T3) (f : List Int) (c : List Bool) (cs : List (List Bool)) : Bool :=
  isWB N A f && nwB A f c 0 ((N - 1 : Nat) : Int) 0 && (List.range A.length).all fun i => decide (f.getD i 0 = 0) || nwB A f (cs.getD i []) (frm A i) (too A i) (i + 1)
theorem gf_ex {N : Nat} {A : List T3} {f : List Int} {c : List Bool} {cs : List (List Bool)} (hk : NetOk N A) (h : gfB N A f c cs = true) : gf N A = f := by
  simp only [gfB, Bool.and_eq_true, List.all_eq_true, Bool.or_eq_true, decide_eq_true_eq] at h
  have hW := isW_of h.1.1
  exact gf_is (isGf_of hk hW (fun g hg => most_flow hk hW hg (nw_of h.1.2)) fun i hi => ⟨f, hW, rfl, fun _ _ => rfl, (h.2 i (List.mem_range.2 hi)).imp id nw_of⟩)
def netB (n : Int) (A : List T3) : Bool := decide (2 ≤ n) && decide (n ≤ 40) && decide (A.length ≤ 200) && (List.range A.length).all fun i => decide (0 ≤ frm A i) && decide (frm A i < n) && decide (0 ≤ too A i) && decide (too A i < n) && decide (frm A i ≠ too A i) && decide (0 ≤ cpy A i) && decide (cpy A i ≤ 1000000)
theorem net_of {n : Int} {A : List T3} (h : netB n A = true) : netE n A = 0 := by
  simp only [netB, Bool.and_eq_true, List.all_eq_true, decide_eq_true_eq] at h
  refine netE_ok (by omega) ?_
  rintro (h2 | ⟨i, hi, hb⟩)
  · omega
  · have := h.2 i (List.mem_range.2 hi)
    unfold badX at hb
    unfold frm too cpy at this
    omega
theorem netOk_of {N : Nat} {A : List T3} (h : netB (N : Int) A = true) : NetOk N A := by
  obtain ⟨M, e, hk⟩ := netOk (net_of h)
  rw [show N = M by omega]; exact hk
/-- what is reached, told by a list that is shut, and the ways to its nodes -/
theorem rch_ex {N : Nat} {A : List T3} {f : List Int} {M : List Bool} (hk : NetOk N A) (hl : M.length = N) (h0 : M.getD 0 false = true) (hr : ∀ v, v < N → M.getD v false = true → Rch A f (v : Int)) (hc : ((List.range A.length).all fun j => ((!(M.getD (frm A j).toNat false) || !decide (f.getD j 0 < cpy A j) || M.getD (too A j).toNat false) && (!(M.getD (too A j).toNat false) || !decide (0 < f.getD j 0) || M.getD (frm A j).toNat false))) = true) : rchL N A f = M := by
  have hcl : ∀ j, j < A.length → ∀ u v : Int, M.getD u.toNat false = true → Edg A f u v j → M.getD v.toNat false = true := fun j hj u v hu he => by
    have h3 := List.all_eq_true.1 hc j (List.mem_range.2 hj)
    rw [Bool.and_eq_true] at h3
    rcases he with ⟨rfl, rfl, hlt⟩ | ⟨rfl, rfl, hlt⟩
    · have h4 := h3.1
      rw [hu, decide_eq_true hlt] at h4; simpa using h4
    · have h4 := h3.2
      rw [hu, decide_eq_true hlt] at h4; simpa using h4
  have hsub : ∀ v : Int, Rch A f v → M.getD v.toNat false = true := fun v hv => by
    induction hv with
    | z => exact h0
    | s _ hi hed ih => exact hcl _ hi _ _ ih hed
  refine ext_getD false (by rw [rchL_len, hl]) fun i hi => ?_
  rw [rchL_len] at hi
  rw [rch_get hi]
  by_cases h : M.getD i false = true
  · rw [h, tf_t (hr i hi h)]
  · rw [tf_f (fun h2 => h (by have := hsub _ h2; rwa [Int.toNat_natCast] at this))]
    simpa using h
end
end Go.Proofs.Ytpdldifklgpikaa
set_option linter.unusedVariables false
set_option linter.unusedSimpArgs false
namespace Go.Proofs.Ytpdldifklgpikaa
open Go.Eng
set_option maxRecDepth 100000
set_option maxHeartbeats 4000000

abbrev OA (B : Nat) (w : World) (v : Value) (l : List T3) : Prop := Go.Eng.Own B 56 3 w v l.length (flat3 l)
theorem eNet : Elem Try.prog 24 (.agg #[.int .i64 0, .slice none 0 0]) 2 32 := by unfold Elem; kernel_rfl
def exA (F : Int) : List T3 := [(0, 1, F), (0, 2, 2), (1, 2, 1), (1, 3, 2), (2, 3, 3)]
theorem ex3_ok : netE ((4 : Nat) : Int) (exA 3) = 0 := net_of (by decide +kernel)
theorem ex10_ok : netE ((4 : Nat) : Int) (exA 10) = 0 := net_of (by decide +kernel)
theorem ex3_net : NetOk 4 (exA 3) := netOk_of (by decide +kernel)
theorem ex10_net : NetOk 4 (exA 10) := netOk_of (by decide +kernel)
theorem ex3_gf : gf 4 (exA 3) = [3, 2, 1, 2, 3] := gf_ex ex3_net (c := [true, false, false, false]) (cs := [[true, false, false, false], [true, false, false, false], [false, true, false, false], [false, true, false, false], [false, false, true, false]]) (by decide +kernel)
theorem ex10_gf : gf 4 (exA 10) = [3, 2, 1, 2, 3] := gf_ex ex10_net (c := [true, true, false, false]) (cs := [[true, false, false, false], [true, false, false, false], [false, true, false, false], [false, true, false, false], [false, false, true, false]]) (by decide +kernel)
theorem ex3_rch : rchL 4 (exA 3) [3, 2, 1, 2, 3] = [true, false, false, false] := rch_ex ex3_net rfl rfl (fun v hv h => by
  match v, hv, h with
  | 0, _, _ => exact Rch.z
  | 1, _, h => exact absurd h (by decide)
  | 2, _, h => exact absurd h (by decide)
  | 3, _, h => exact absurd h (by decide)) (by decide +kernel)
theorem ex10_rch : rchL 4 (exA 10) [3, 2, 1, 2, 3] = [true, true, false, false] := rch_ex ex10_net rfl rfl (fun v hv h => by
  match v, hv, h with
  | 0, _, _ => exact Rch.z
  | 1, _, _ => exact Rch.s (i := 0) Rch.z (by decide) (.inl ⟨rfl, rfl, by decide⟩)
  | 2, _, h => exact absurd h (by decide)
  | 3, _, h => exact absurd h (by decide)) (by decide +kernel)
theorem ex3_isW : isW 4 (exA 3) [3, 2, 1, 2, 3] := isW_of (by decide +kernel)

theorem example_rc {w : World} {F : Int} : RC Try.prog 31 [.int .i64 F] w NoB (fun u w' => ∃ sv, u = .agg #[.int .i64 4, sv] ∧ OA 0 w' sv (exA F)) := by
  refine RC.mk tyOk Try.func31 rfl (by kernel_rfl) fun w1 E1 => ?_
  have EE := Ext.refl w1
  have EE__1 := EE
  conv => whnf
  refine VE.alloc eNet fun b w2 E2 hb_b Hk => ?_
  replace EE := EE.ext E2
  have EL1 := E2
  conv => whnf
  refine VS.sparseR (ps := [(0, .int .i64 (0)), (1, .int .i64 (1)), (2, .int .i64 (F))]) #[.int .i64 (0), .int .i64 (1), .int .i64 (F)] Try.underlying56 eArc (by decide +kernel) (by intro p hp; simp only [List.mem_cons, List.not_mem_nil, or_false] at hp; rcases hp with rfl | rfl | rfl <;> first | exact ⟨by kernel_rfl, by simp, rfl⟩) rfl ?_
  conv => whnf
  refine VS.sparseR (ps := [(0, .int .i64 (0)), (1, .int .i64 (2)), (2, .int .i64 (2))]) #[.int .i64 (0), .int .i64 (2), .int .i64 (2)] Try.underlying56 eArc (by decide +kernel) (by intro p hp; simp only [List.mem_cons, List.not_mem_nil, or_false] at hp; rcases hp with rfl | rfl | rfl <;> first | exact ⟨by kernel_rfl, by simp, rfl⟩) rfl ?_
  conv => whnf
  refine VS.sparseR (ps := [(0, .int .i64 (1)), (1, .int .i64 (2)), (2, .int .i64 (1))]) #[.int .i64 (1), .int .i64 (2), .int .i64 (1)] Try.underlying56 eArc (by decide +kernel) (by intro p hp; simp only [List.mem_cons, List.not_mem_nil, or_false] at hp; rcases hp with rfl | rfl | rfl <;> first | exact ⟨by kernel_rfl, by simp, rfl⟩) rfl ?_
  conv => whnf
  refine VS.sparseR (ps := [(0, .int .i64 (1)), (1, .int .i64 (3)), (2, .int .i64 (2))]) #[.int .i64 (1), .int .i64 (3), .int .i64 (2)] Try.underlying56 eArc (by decide +kernel) (by intro p hp; simp only [List.mem_cons, List.not_mem_nil, or_false] at hp; rcases hp with rfl | rfl | rfl <;> first | exact ⟨by kernel_rfl, by simp, rfl⟩) rfl ?_
  conv => whnf
  refine VS.sparseR (ps := [(0, .int .i64 (2)), (1, .int .i64 (3)), (2, .int .i64 (3))]) #[.int .i64 (2), .int .i64 (3), .int .i64 (3)] Try.underlying56 eArc (by decide +kernel) (by intro p hp; simp only [List.mem_cons, List.not_mem_nil, or_false] at hp; rcases hp with rfl | rfl | rfl <;> first | exact ⟨by kernel_rfl, by simp, rfl⟩) rfl ?_
  conv => whnf
  refine VE.litA [[i64v (0), i64v (1), i64v (F)], [i64v (0), i64v (2), i64v (2)], [i64v (1), i64v (2), i64v (1)], [i64v (1), i64v (3), i64v (2)], [i64v (2), i64v (3), i64v (3)]] Try.underlying22 eArc (by simp) (by simp) (by simp) fun sv w3 E3 HA _ => ?_
  replace HA : OA 0 w3 sv [(0, 1, F), (0, 2, 2), (1, 2, 1), (1, 3, 2), (2, 3, 3)] := HA 0 (Nat.zero_le _)
  replace EE := EE.ext E3
  replace EL1 := EL1.ext E3
  replace Hk := Hk.ext E3
  conv => whnf
  refine VS.sparseR (ps := [(0, .int .i64 (4)), (1, sv)]) #[.int .i64 (4), sv] Try.underlying24 eNet (by decide +kernel) (by intro p hp; simp only [List.mem_cons, List.not_mem_nil, or_false] at hp; rcases hp with rfl | rfl <;> first | exact ⟨by kernel_rfl, by simp, rfl⟩ | exact ⟨by kernel_rfl, by simp, (Sl.cells (Own.sl HA)).1⟩) rfl ?_
  conv => whnf
  refine Blk.all Hk (by kernel_rfl) (by decide) rfl rfl (by intro v hv; simp at hv; rcases hv with rfl | rfl; rfl; exact (Sl.cells (Own.sl HA)).2) fun w6 G6 Hk6 => ?_
  have EE6 := EL1.new G6 fun i hi hk => by omega
  replace HA := Own.blk HA Hk (by decide) G6
  repeat' ((conv => whnf); first | (refine Dr.quiet tyOk (by kernel_rfl) ?_) | (refine Rng.mk (by omega) ?_) | (refine Split.pos (by omega) ?_) | (refine Split.neg (by omega) ?_) | (refine Split.mk (fun h => ?_) (fun h => ?_)) | (refine Need.mk (by omega) ?_) | (refine Ints.ln (by assumption) ?_) | (refine Mat.ln (by assumption) ?_) | (refine Ints.ln (Mat.row (by assumption) _ (by omega)) ?_) | (refine Ints.ix (by assumption) (by omega) ?_) | (refine Mat.ix (by assumption) (by omega) ?_) | (refine Ints.ix (Mat.row (by assumption) _ (by omega)) (by omega) ?_) | (refine Ints.ix (c := 0) (by assumption) (by omega) ?_) | (refine Mat.ix (c := 0) (by assumption) (by omega) ?_) | (refine Ints.ix (c := 0) (Mat.row (by assumption) _ (by omega)) (by omega) ?_) | (refine Ints.ixI (by assumption) (by omega) ?_) | (refine Mat.ixI (by assumption) (by omega) ?_) | (refine Ints.ixI (Mat.row (by assumption) _ (by omega)) (by omega) ?_) | (refine Ints.ld (by assumption) (by omega) ?_) | (refine Mat.ld (by assumption) (by omega) ?_) | (refine Ints.ld (Mat.row (by assumption) _ (by omega)) (by omega) ?_) | (refine At.ld (by assumption) rfl ?_) | (refine At.ldN (by assumption) rfl ?_) | (refine Prs.ln (by assumption) ?_) | (refine Trs.ln (by assumption) ?_) | (refine Prs.ix (by assumption) (by omega) ?_) | (refine Trs.ix (by assumption) (by omega) ?_) | (refine Prs.ldN (by assumption) (by omega) ?_) | (refine Trs.ldN (by assumption) (by omega) ?_) | (refine At.ldN (Blk.at (by assumption)) rfl ?_) | (refine At.ld (Blk.at (by assumption)) rfl ?_) | (refine IxA.mk (by omega) ?_) | (refine Sl.ln (Own.sl (by assumption)) ?_) | (refine Ints.ix (Own.sl (by assumption)) (by omega) ?_) | (refine Ints.ixI (Own.sl (by assumption)) (by omega) ?_) | (refine Ints.ld (Own.sl (by assumption)) (by omega) ?_))
  exact ⟨EE__1.ext EE6, sv, rfl, HA⟩

theorem alive25_pc {w : World} : PC Try.prog 27 [] w (.bool true) := by
  refine PC.mk tyOk Try.func27 rfl (by kernel_rfl) fun w1 E1 => ?_
  have EE := Ext.refl w1
  conv => whnf
  refine VC.rc (example_rc) ?_
  rintro _ w2 E2 ⟨g1, rfl, HA⟩
  replace EE := EE.ext E2
  conv => whnf
  refine VC.rc (gMax_rc (n := ((4 : Nat) : Int)) (Own.sl HA)) ?_
  rintro _ w3 E3 ⟨fv, rfl, HF, hM⟩
  replace EE := EE.ext E3
  replace HA := HA.ext E3
  rw [mxL_ok ex3_ok, ex3_gf] at HF
  rw [ex3_ok]
  repeat' ((conv => whnf); first | (refine Dr.quiet tyOk (by kernel_rfl) ?_) | (refine Rng.mk (by omega) ?_) | (refine Split.pos (by omega) ?_) | (refine Split.neg (by omega) ?_) | (refine Split.mk (fun h => ?_) (fun h => ?_)) | (refine Need.mk (by omega) ?_) | (refine Ints.ln (by assumption) ?_) | (refine Mat.ln (by assumption) ?_) | (refine Ints.ln (Mat.row (by assumption) _ (by omega)) ?_) | (refine Ints.ix (by assumption) (by omega) ?_) | (refine Mat.ix (by assumption) (by omega) ?_) | (refine Ints.ix (Mat.row (by assumption) _ (by omega)) (by omega) ?_) | (refine Ints.ix (c := 0) (by assumption) (by omega) ?_) | (refine Mat.ix (c := 0) (by assumption) (by omega) ?_) | (refine Ints.ix (c := 0) (Mat.row (by assumption) _ (by omega)) (by omega) ?_) | (refine Ints.ixI (by assumption) (by omega) ?_) | (refine Mat.ixI (by assumption) (by omega) ?_) | (refine Ints.ixI (Mat.row (by assumption) _ (by omega)) (by omega) ?_) | (refine Ints.ld (by assumption) (by omega) ?_) | (refine Mat.ld (by assumption) (by omega) ?_) | (refine Ints.ld (Mat.row (by assumption) _ (by omega)) (by omega) ?_) | (refine At.ld (by assumption) rfl ?_) | (refine At.ldN (by assumption) rfl ?_) | (refine Prs.ln (by assumption) ?_) | (refine Trs.ln (by assumption) ?_) | (refine Prs.ix (by assumption) (by omega) ?_) | (refine Trs.ix (by assumption) (by omega) ?_) | (refine Prs.ldN (by assumption) (by omega) ?_) | (refine Trs.ldN (by assumption) (by omega) ?_) | (refine At.ldN (Blk.at (by assumption)) rfl ?_) | (refine At.ld (Blk.at (by assumption)) rfl ?_) | (refine IxA.mk (by omega) ?_) | (refine Sl.ln (Own.sl (by assumption)) ?_) | (refine Ints.ix (Own.sl (by assumption)) (by omega) ?_) | (refine Ints.ixI (Own.sl (by assumption)) (by omega) ?_) | (refine Ints.ld (Own.sl (by assumption)) (by omega) ?_))
  conv => whnf
  refine VC.rc (example_rc) ?_
  rintro _ w4 E4 ⟨g2, rfl, HA⟩
  replace EE := EE.ext E4
  replace HF := HF.ext E4
  have c1 := gvalue_pc (n := ((4 : Nat) : Int)) (Own.sl HA) (Own.sl HF)
  rw [vE_ok ex3_ok ex3_isW, vV_ok ex3_ok ex3_isW, show -bal (exA 3) [3, 2, 1, 2, 3] 0 (exA 3).length = 5 by decide +kernel] at c1
  repeat' ((conv => whnf); first | (refine Dr.quiet tyOk (by kernel_rfl) ?_) | (refine VC.pure c1 ?_) | (refine Rng.mk (by omega) ?_) | (refine Split.pos (by omega) ?_) | (refine Split.neg (by omega) ?_) | (refine Split.mk (fun h => ?_) (fun h => ?_)) | (refine Need.mk (by omega) ?_) | (refine Ints.ln (by assumption) ?_) | (refine Mat.ln (by assumption) ?_) | (refine Ints.ln (Mat.row (by assumption) _ (by omega)) ?_) | (refine Ints.ix (by assumption) (by omega) ?_) | (refine Mat.ix (by assumption) (by omega) ?_) | (refine Ints.ix (Mat.row (by assumption) _ (by omega)) (by omega) ?_) | (refine Ints.ix (c := 0) (by assumption) (by omega) ?_) | (refine Mat.ix (c := 0) (by assumption) (by omega) ?_) | (refine Ints.ix (c := 0) (Mat.row (by assumption) _ (by omega)) (by omega) ?_) | (refine Ints.ixI (by assumption) (by omega) ?_) | (refine Mat.ixI (by assumption) (by omega) ?_) | (refine Ints.ixI (Mat.row (by assumption) _ (by omega)) (by omega) ?_) | (refine Ints.ld (by assumption) (by omega) ?_) | (refine Mat.ld (by assumption) (by omega) ?_) | (refine Ints.ld (Mat.row (by assumption) _ (by omega)) (by omega) ?_) | (refine At.ld (by assumption) rfl ?_) | (refine At.ldN (by assumption) rfl ?_) | (refine Prs.ln (by assumption) ?_) | (refine Trs.ln (by assumption) ?_) | (refine Prs.ix (by assumption) (by omega) ?_) | (refine Trs.ix (by assumption) (by omega) ?_) | (refine Prs.ldN (by assumption) (by omega) ?_) | (refine Trs.ldN (by assumption) (by omega) ?_) | (refine At.ldN (Blk.at (by assumption)) rfl ?_) | (refine At.ld (Blk.at (by assumption)) rfl ?_) | (refine IxA.mk (by omega) ?_) | (refine Sl.ln (Own.sl (by assumption)) ?_) | (refine Ints.ix (Own.sl (by assumption)) (by omega) ?_) | (refine Ints.ixI (Own.sl (by assumption)) (by omega) ?_) | (refine Ints.ld (Own.sl (by assumption)) (by omega) ?_))
  conv => whnf
  refine VC.rc (example_rc) ?_
  rintro _ w5 E5 ⟨g3, rfl, HA⟩
  replace EE := EE.ext E5
  replace HF := HF.ext E5
  conv => whnf
  refine VC.rc (gLeast_rc (n := ((4 : Nat) : Int)) (Own.sl HA)) ?_
  rintro _ w6 E6 ⟨qv, rfl, HS⟩
  replace EE := EE.ext E6
  replace HF := HF.ext E6
  replace HA := HA.ext E6
  rw [lsL_ok ex3_ok, ex3_gf, ex3_rch] at HS
  rw [ex3_ok]
  repeat' ((conv => whnf); first | (refine Dr.quiet tyOk (by kernel_rfl) ?_) | (refine Rng.mk (by omega) ?_) | (refine Split.pos (by omega) ?_) | (refine Split.neg (by omega) ?_) | (refine Split.mk (fun h => ?_) (fun h => ?_)) | (refine Need.mk (by omega) ?_) | (refine Ints.ln (by assumption) ?_) | (refine Mat.ln (by assumption) ?_) | (refine Ints.ln (Mat.row (by assumption) _ (by omega)) ?_) | (refine Ints.ix (by assumption) (by omega) ?_) | (refine Mat.ix (by assumption) (by omega) ?_) | (refine Ints.ix (Mat.row (by assumption) _ (by omega)) (by omega) ?_) | (refine Ints.ix (c := 0) (by assumption) (by omega) ?_) | (refine Mat.ix (c := 0) (by assumption) (by omega) ?_) | (refine Ints.ix (c := 0) (Mat.row (by assumption) _ (by omega)) (by omega) ?_) | (refine Ints.ixI (by assumption) (by omega) ?_) | (refine Mat.ixI (by assumption) (by omega) ?_) | (refine Ints.ixI (Mat.row (by assumption) _ (by omega)) (by omega) ?_) | (refine Ints.ld (by assumption) (by omega) ?_) | (refine Mat.ld (by assumption) (by omega) ?_) | (refine Ints.ld (Mat.row (by assumption) _ (by omega)) (by omega) ?_) | (refine At.ld (by assumption) rfl ?_) | (refine At.ldN (by assumption) rfl ?_) | (refine Prs.ln (by assumption) ?_) | (refine Trs.ln (by assumption) ?_) | (refine Prs.ix (by assumption) (by omega) ?_) | (refine Trs.ix (by assumption) (by omega) ?_) | (refine Prs.ldN (by assumption) (by omega) ?_) | (refine Trs.ldN (by assumption) (by omega) ?_) | (refine At.ldN (Blk.at (by assumption)) rfl ?_) | (refine At.ld (Blk.at (by assumption)) rfl ?_) | (refine IxA.mk (by omega) ?_) | (refine Sl.ln (Own.sl (by assumption)) ?_) | (refine Ints.ix (Own.sl (by assumption)) (by omega) ?_) | (refine Ints.ixI (Own.sl (by assumption)) (by omega) ?_) | (refine Ints.ld (Own.sl (by assumption)) (by omega) ?_))
  conv => whnf
  refine VC.rc (example_rc) ?_
  rintro _ w7 E7 ⟨g4, rfl, HA⟩
  replace EE := EE.ext E7
  replace HF := HF.ext E7
  replace HS := HS.ext E7
  conv => whnf
  refine VC.rc (gLeast_rc (n := ((4 : Nat) : Int)) (Own.sl HA)) ?_
  rintro _ w8 E8 ⟨tv, rfl, HT⟩
  replace EE := EE.ext E8
  replace HF := HF.ext E8
  replace HS := HS.ext E8
  replace HA := HA.ext E8
  rw [lsL_ok ex10_ok, ex10_gf, ex10_rch] at HT
  rw [ex10_ok]
  repeat' ((conv => whnf); first | (refine Dr.quiet tyOk (by kernel_rfl) ?_) | (refine Rng.mk (by omega) ?_) | (refine Split.pos (by omega) ?_) | (refine Split.neg (by omega) ?_) | (refine Split.mk (fun h => ?_) (fun h => ?_)) | (refine Need.mk (by omega) ?_) | (refine Ints.ln (by assumption) ?_) | (refine Mat.ln (by assumption) ?_) | (refine Ints.ln (Mat.row (by assumption) _ (by omega)) ?_) | (refine Ints.ix (by assumption) (by omega) ?_) | (refine Mat.ix (by assumption) (by omega) ?_) | (refine Ints.ix (Mat.row (by assumption) _ (by omega)) (by omega) ?_) | (refine Ints.ix (c := 0) (by assumption) (by omega) ?_) | (refine Mat.ix (c := 0) (by assumption) (by omega) ?_) | (refine Ints.ix (c := 0) (Mat.row (by assumption) _ (by omega)) (by omega) ?_) | (refine Ints.ixI (by assumption) (by omega) ?_) | (refine Mat.ixI (by assumption) (by omega) ?_) | (refine Ints.ixI (Mat.row (by assumption) _ (by omega)) (by omega) ?_) | (refine Ints.ld (by assumption) (by omega) ?_) | (refine Mat.ld (by assumption) (by omega) ?_) | (refine Ints.ld (Mat.row (by assumption) _ (by omega)) (by omega) ?_) | (refine At.ld (by assumption) rfl ?_) | (refine At.ldN (by assumption) rfl ?_) | (refine Prs.ln (by assumption) ?_) | (refine Trs.ln (by assumption) ?_) | (refine Prs.ix (by assumption) (by omega) ?_) | (refine Trs.ix (by assumption) (by omega) ?_) | (refine Prs.ldN (by assumption) (by omega) ?_) | (refine Trs.ldN (by assumption) (by omega) ?_) | (refine At.ldN (Blk.at (by assumption)) rfl ?_) | (refine At.ld (Blk.at (by assumption)) rfl ?_) | (refine IxA.mk (by omega) ?_) | (refine Sl.ln (Own.sl (by assumption)) ?_) | (refine Ints.ix (Own.sl (by assumption)) (by omega) ?_) | (refine Ints.ixI (Own.sl (by assumption)) (by omega) ?_) | (refine Ints.ld (Own.sl (by assumption)) (by omega) ?_))
  conv => whnf
  refine VC.rc (example_rc) ?_
  rintro _ w9 E9 ⟨g5, rfl, HA⟩
  replace EE := EE.ext E9
  replace HF := HF.ext E9
  replace HS := HS.ext E9
  replace HT := HT.ext E9
  have c2 := gCut_pc (n := ((4 : Nat) : Int)) (Own.sl HA) (Own.sl HT)
  have hsd : sdOk 4 [true, true, false, false] := ⟨rfl, rfl, rfl⟩
  rw [cE_ok ex10_ok hsd, cV_ok ex10_ok hsd, show cutTo (exA 10) [true, true, false, false] (exA 10).length = 5 by decide +kernel] at c2
  repeat' ((conv => whnf); first | (refine Dr.quiet tyOk (by kernel_rfl) ?_) | (refine VC.pure c2 ?_) | (refine Rng.mk (by omega) ?_) | (refine Split.pos (by omega) ?_) | (refine Split.neg (by omega) ?_) | (refine Split.mk (fun h => ?_) (fun h => ?_)) | (refine Need.mk (by omega) ?_) | (refine Ints.ln (by assumption) ?_) | (refine Mat.ln (by assumption) ?_) | (refine Ints.ln (Mat.row (by assumption) _ (by omega)) ?_) | (refine Ints.ix (by assumption) (by omega) ?_) | (refine Mat.ix (by assumption) (by omega) ?_) | (refine Ints.ix (Mat.row (by assumption) _ (by omega)) (by omega) ?_) | (refine Ints.ix (c := 0) (by assumption) (by omega) ?_) | (refine Mat.ix (c := 0) (by assumption) (by omega) ?_) | (refine Ints.ix (c := 0) (Mat.row (by assumption) _ (by omega)) (by omega) ?_) | (refine Ints.ixI (by assumption) (by omega) ?_) | (refine Mat.ixI (by assumption) (by omega) ?_) | (refine Ints.ixI (Mat.row (by assumption) _ (by omega)) (by omega) ?_) | (refine Ints.ld (by assumption) (by omega) ?_) | (refine Mat.ld (by assumption) (by omega) ?_) | (refine Ints.ld (Mat.row (by assumption) _ (by omega)) (by omega) ?_) | (refine At.ld (by assumption) rfl ?_) | (refine At.ldN (by assumption) rfl ?_) | (refine Prs.ln (by assumption) ?_) | (refine Trs.ln (by assumption) ?_) | (refine Prs.ix (by assumption) (by omega) ?_) | (refine Trs.ix (by assumption) (by omega) ?_) | (refine Prs.ldN (by assumption) (by omega) ?_) | (refine Trs.ldN (by assumption) (by omega) ?_) | (refine At.ldN (Blk.at (by assumption)) rfl ?_) | (refine At.ld (Blk.at (by assumption)) rfl ?_) | (refine IxA.mk (by omega) ?_) | (refine Sl.ln (Own.sl (by assumption)) ?_) | (refine Ints.ix (Own.sl (by assumption)) (by omega) ?_) | (refine Ints.ixI (Own.sl (by assumption)) (by omega) ?_) | (refine Ints.ld (Own.sl (by assumption)) (by omega) ?_))
  conv => whnf
  refine VE.litI [3, 2, 1, 2, 3] Try.underlying26 eInt (by first | decide | simp) fun x1 w10 E10 X1 _ => ?_
  replace X1 := X1 0 (Nat.zero_le _)
  replace EE := EE.ext E10
  replace HF := HF.ext E10
  replace HS := HS.ext E10
  replace HT := HT.ext E10
  replace HA := HA.ext E10
  have c3 := sameints_pc (Own.sl HF) (Own.sl X1)
  rw [tf_t rfl] at c3
  repeat' ((conv => whnf); first | (refine Dr.quiet tyOk (by kernel_rfl) ?_) | (refine VC.pure c3 ?_) | (refine Rng.mk (by omega) ?_) | (refine Split.pos (by omega) ?_) | (refine Split.neg (by omega) ?_) | (refine Split.mk (fun h => ?_) (fun h => ?_)) | (refine Need.mk (by omega) ?_) | (refine Ints.ln (by assumption) ?_) | (refine Mat.ln (by assumption) ?_) | (refine Ints.ln (Mat.row (by assumption) _ (by omega)) ?_) | (refine Ints.ix (by assumption) (by omega) ?_) | (refine Mat.ix (by assumption) (by omega) ?_) | (refine Ints.ix (Mat.row (by assumption) _ (by omega)) (by omega) ?_) | (refine Ints.ix (c := 0) (by assumption) (by omega) ?_) | (refine Mat.ix (c := 0) (by assumption) (by omega) ?_) | (refine Ints.ix (c := 0) (Mat.row (by assumption) _ (by omega)) (by omega) ?_) | (refine Ints.ixI (by assumption) (by omega) ?_) | (refine Mat.ixI (by assumption) (by omega) ?_) | (refine Ints.ixI (Mat.row (by assumption) _ (by omega)) (by omega) ?_) | (refine Ints.ld (by assumption) (by omega) ?_) | (refine Mat.ld (by assumption) (by omega) ?_) | (refine Ints.ld (Mat.row (by assumption) _ (by omega)) (by omega) ?_) | (refine At.ld (by assumption) rfl ?_) | (refine At.ldN (by assumption) rfl ?_) | (refine Prs.ln (by assumption) ?_) | (refine Trs.ln (by assumption) ?_) | (refine Prs.ix (by assumption) (by omega) ?_) | (refine Trs.ix (by assumption) (by omega) ?_) | (refine Prs.ldN (by assumption) (by omega) ?_) | (refine Trs.ldN (by assumption) (by omega) ?_) | (refine At.ldN (Blk.at (by assumption)) rfl ?_) | (refine At.ld (Blk.at (by assumption)) rfl ?_) | (refine IxA.mk (by omega) ?_) | (refine Sl.ln (Own.sl (by assumption)) ?_) | (refine Ints.ix (Own.sl (by assumption)) (by omega) ?_) | (refine Ints.ixI (Own.sl (by assumption)) (by omega) ?_) | (refine Ints.ld (Own.sl (by assumption)) (by omega) ?_))
  conv => whnf
  refine VE.litV [.bool true, .bool false, .bool false, .bool false] Try.underlying32 eBool (by intro v hv; simp only [List.mem_cons, List.not_mem_nil, or_false] at hv; rcases hv with rfl | rfl | rfl | rfl <;> rfl) (by simp) fun x2 w11 E11 X2 _ => ?_
  replace X2 : OZ 0 w11 x2 [true, false, false, false] := X2 0 (Nat.zero_le _)
  replace EE := EE.ext E11
  replace HF := HF.ext E11
  replace HS := HS.ext E11
  replace HT := HT.ext E11
  replace HA := HA.ext E11
  replace X1 := X1.ext E11
  have c4 := samebools_pc (Own.sl HS) (Own.sl X2) rfl
  repeat' ((conv => whnf); first | (refine Dr.quiet tyOk (by kernel_rfl) ?_) | (refine VC.pure c4 ?_) | (refine Rng.mk (by omega) ?_) | (refine Split.pos (by omega) ?_) | (refine Split.neg (by omega) ?_) | (refine Split.mk (fun h => ?_) (fun h => ?_)) | (refine Need.mk (by omega) ?_) | (refine Ints.ln (by assumption) ?_) | (refine Mat.ln (by assumption) ?_) | (refine Ints.ln (Mat.row (by assumption) _ (by omega)) ?_) | (refine Ints.ix (by assumption) (by omega) ?_) | (refine Mat.ix (by assumption) (by omega) ?_) | (refine Ints.ix (Mat.row (by assumption) _ (by omega)) (by omega) ?_) | (refine Ints.ix (c := 0) (by assumption) (by omega) ?_) | (refine Mat.ix (c := 0) (by assumption) (by omega) ?_) | (refine Ints.ix (c := 0) (Mat.row (by assumption) _ (by omega)) (by omega) ?_) | (refine Ints.ixI (by assumption) (by omega) ?_) | (refine Mat.ixI (by assumption) (by omega) ?_) | (refine Ints.ixI (Mat.row (by assumption) _ (by omega)) (by omega) ?_) | (refine Ints.ld (by assumption) (by omega) ?_) | (refine Mat.ld (by assumption) (by omega) ?_) | (refine Ints.ld (Mat.row (by assumption) _ (by omega)) (by omega) ?_) | (refine At.ld (by assumption) rfl ?_) | (refine At.ldN (by assumption) rfl ?_) | (refine Prs.ln (by assumption) ?_) | (refine Trs.ln (by assumption) ?_) | (refine Prs.ix (by assumption) (by omega) ?_) | (refine Trs.ix (by assumption) (by omega) ?_) | (refine Prs.ldN (by assumption) (by omega) ?_) | (refine Trs.ldN (by assumption) (by omega) ?_) | (refine At.ldN (Blk.at (by assumption)) rfl ?_) | (refine At.ld (Blk.at (by assumption)) rfl ?_) | (refine IxA.mk (by omega) ?_) | (refine Sl.ln (Own.sl (by assumption)) ?_) | (refine Ints.ix (Own.sl (by assumption)) (by omega) ?_) | (refine Ints.ixI (Own.sl (by assumption)) (by omega) ?_) | (refine Ints.ld (Own.sl (by assumption)) (by omega) ?_))
  conv => whnf
  refine VE.litV [.bool true, .bool true, .bool false, .bool false] Try.underlying32 eBool (by intro v hv; simp only [List.mem_cons, List.not_mem_nil, or_false] at hv; rcases hv with rfl | rfl | rfl | rfl <;> rfl) (by simp) fun x3 w12 E12 X3 _ => ?_
  replace X3 : OZ 0 w12 x3 [true, true, false, false] := X3 0 (Nat.zero_le _)
  replace EE := EE.ext E12
  replace HF := HF.ext E12
  replace HS := HS.ext E12
  replace HT := HT.ext E12
  replace HA := HA.ext E12
  replace X1 := X1.ext E12
  replace X2 := X2.ext E12
  have c5 := samebools_pc (Own.sl HT) (Own.sl X3) rfl
  repeat' ((conv => whnf); first | (refine Dr.quiet tyOk (by kernel_rfl) ?_) | (refine VC.pure c5 ?_) | (refine Rng.mk (by omega) ?_) | (refine Split.pos (by omega) ?_) | (refine Split.neg (by omega) ?_) | (refine Split.mk (fun h => ?_) (fun h => ?_)) | (refine Need.mk (by omega) ?_) | (refine Ints.ln (by assumption) ?_) | (refine Mat.ln (by assumption) ?_) | (refine Ints.ln (Mat.row (by assumption) _ (by omega)) ?_) | (refine Ints.ix (by assumption) (by omega) ?_) | (refine Mat.ix (by assumption) (by omega) ?_) | (refine Ints.ix (Mat.row (by assumption) _ (by omega)) (by omega) ?_) | (refine Ints.ix (c := 0) (by assumption) (by omega) ?_) | (refine Mat.ix (c := 0) (by assumption) (by omega) ?_) | (refine Ints.ix (c := 0) (Mat.row (by assumption) _ (by omega)) (by omega) ?_) | (refine Ints.ixI (by assumption) (by omega) ?_) | (refine Mat.ixI (by assumption) (by omega) ?_) | (refine Ints.ixI (Mat.row (by assumption) _ (by omega)) (by omega) ?_) | (refine Ints.ld (by assumption) (by omega) ?_) | (refine Mat.ld (by assumption) (by omega) ?_) | (refine Ints.ld (Mat.row (by assumption) _ (by omega)) (by omega) ?_) | (refine At.ld (by assumption) rfl ?_) | (refine At.ldN (by assumption) rfl ?_) | (refine Prs.ln (by assumption) ?_) | (refine Trs.ln (by assumption) ?_) | (refine Prs.ix (by assumption) (by omega) ?_) | (refine Trs.ix (by assumption) (by omega) ?_) | (refine Prs.ldN (by assumption) (by omega) ?_) | (refine Trs.ldN (by assumption) (by omega) ?_) | (refine At.ldN (Blk.at (by assumption)) rfl ?_) | (refine At.ld (Blk.at (by assumption)) rfl ?_) | (refine IxA.mk (by omega) ?_) | (refine Sl.ln (Own.sl (by assumption)) ?_) | (refine Ints.ix (Own.sl (by assumption)) (by omega) ?_) | (refine Ints.ixI (Own.sl (by assumption)) (by omega) ?_) | (refine Ints.ld (Own.sl (by assumption)) (by omega) ?_))
  exact ⟨rfl, EE⟩
end Go.Proofs.Ytpdldifklgpikaa
