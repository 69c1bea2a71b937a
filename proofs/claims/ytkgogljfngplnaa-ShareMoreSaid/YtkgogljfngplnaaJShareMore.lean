/- The statement ShareMore. -/
import Derived.Test.YtkgogljfngplnaaJ4
import Derived.Test.YtkgogljfngplnaaRows
set_option linter.unusedVariables false
set_option linter.unusedSimpArgs false
namespace Go.Proofs.Ytkgogljfngplnaa
open Go.Eng

/-- the sum of the first c numbers -/
def sB (f : Nat → Int) : Nat → Int
  | 0 => 0
  | c + 1 => sB f c + f c
theorem mn_sum {f : Nat → Int} : ∀ {c : Nat}, mnTo f c * ((c + 1 : Nat) : Int) ≤ sB f (c + 1)
  | 0 => by simp [mnTo, sB]
  | c + 1 => by
    have ih := mn_sum (f := f) (c := c)
    have e : sB f (c + 1 + 1) = sB f (c + 1) + f (c + 1) := rfl
    rw [e]
    have h1 : mnTo f (c + 1) ≤ mnTo f c := by simp only [mnTo]; omega
    have h2 : mnTo f (c + 1) ≤ f (c + 1) := by simp only [mnTo]; omega
    have h3 := Int.mul_le_mul_of_nonneg_right h1 (Int.natCast_nonneg (c + 1))
    have e2 : ((c + 1 + 1 : Nat) : Int) = ((c + 1 : Nat) : Int) + 1 := by omega
    rw [e2, Int.mul_add, Int.mul_one]
    omega
theorem sB_pick {r : Int} {k : Nat} : ∀ {c : Nat}, sB (fun b : Nat => if (k : Int) = (b : Int) then r else 0) c = if k < c then r else 0
  | 0 => rfl
  | c + 1 => by
    have ih := sB_pick (r := r) (k := k) (c := c)
    simp only [sB]
    rw [ih]
    by_cases h : k = c
    · subst h; simp
    · rw [if_neg (show ¬ (k : Int) = (c : Int) by omega)]
      by_cases h2 : k < c
      · rw [if_pos h2, if_pos (by omega)]; omega
      · rw [if_neg h2, if_neg (by omega)]; omega
theorem sB_add {f g : Nat → Int} : ∀ {c : Nat}, sB (fun b => f b + g b) c = sB f c + sB g c
  | 0 => rfl
  | c + 1 => by have := sB_add (f := f) (g := g) (c := c); simp only [sB]; omega
theorem sB_zero {f : Nat → Int} : ∀ {c : Nat}, (∀ b, b < c → f b = 0) → sB f c = 0
  | 0, _ => rfl
  | c + 1, h => by simp only [sB]; rw [sB_zero (fun b hb => h b (by omega)), h c (by omega)]; rfl
theorem sB_worth {l r : List Int} {n : Nat} (h : rng l n) : ∀ {c : Nat}, c ≤ l.length → sB (fun b : Nat => worth l r b c) n = sumTo r c
  | 0, _ => sB_zero fun b _ => rfl
  | c + 1, hc => by
    have ih := sB_worth (r := r) h (c := c) (by omega)
    have hk := h c (by omega)
    have e : sB (fun b : Nat => worth l r b (c + 1)) n = sB (fun b : Nat => worth l r b c + if l.getD c 0 = (b : Int) then r.getD c 0 else 0) n := rfl
    rw [e, sB_add, ih]
    obtain ⟨k, hk2⟩ : ∃ k : Nat, l.getD c 0 = (k : Int) := ⟨(l.getD c 0).toNat, by omega⟩
    rw [hk2, sB_pick, if_pos (by omega)]
    rfl
theorem leastP_sum {r l : List Int} {n : Nat} (h : rng l n) (hn : 1 ≤ n) : leastP r l n * (n : Int) ≤ sumTo r l.length := by
  have h1 := mn_sum (f := fun b : Nat => worth l r b l.length) (c := n - 1)
  rw [show n - 1 + 1 = n by omega, sB_worth h (Nat.le_refl _)] at h1
  exact h1
theorem lexlt_tri : ∀ {a b : List Int}, a.length = b.length → a = b ∨ lexlt a b ∨ lexlt b a
  | [], [], _ => .inl rfl
  | [], _ :: _, h => by simp at h
  | _ :: _, [], h => by simp at h
  | x :: a, y :: b, h => by
    rcases Int.lt_trichotomy x y with e | e | e
    · exact .inr (.inl (.inl e))
    · subst e
      rcases lexlt_tri (a := a) (b := b) (by simpa using h) with e | e | e
      · subst e; exact .inl rfl
      · exact .inr (.inl (.inr ⟨rfl, e⟩))
      · exact .inr (.inr (.inr ⟨rfl, e⟩))
    · exact .inr (.inr (.inl e))
theorem shB_top {rr : List (List Int)} {i n : Nat} (h : chk rr = 0) (hn : 1 ≤ n) : top (fun l => leastP (rr.getD i []) l n) (lsts n (mOf rr) (n ^ mOf rr)) (shB rr i n).2 ∧ (shB rr i n).1 = leastP (rr.getD i []) (shB rr i n).2 n := by
  have hgd := gd_of_chk h
  have hm := hgd.m10
  rw [shB_all h hn]
  have hb : ∀ y, y ∈ lsts n (mOf rr) (n ^ mOf rr) → -1 < leastP (rr.getD i []) y n := fun y hy => by
    have := leastP_bd (n := n) (fun j => hgd.val i j) (show y.length ≤ 10 by rw [((lsts_mem hn).1 hy).1]; exact hm)
    have h2 : 0 ≤ leastP (rr.getD i []) y n := this.1
    omega
  have hne : lsts n (mOf rr) (n ^ mOf rr) ≠ [] := by
    have hT : 0 < n ^ mOf rr := Nat.pow_pos (by omega)
    have : digs n (mOf rr) 0 ∈ lsts n (mOf rr) (n ^ mOf rr) := List.mem_map.2 ⟨0, List.mem_range.2 hT, rfl⟩
    intro e; rw [e] at this; simp at this
  obtain ⟨x, hx, e⟩ := bst_top (f := fun l => leastP (rr.getD i []) l n) (lsts_pair hn) hb hne
  rw [e]; exact ⟨hx, rfl⟩
/-- a partition of the goods -/
def isP (l : List Int) (m n : Nat) : Prop := l.length = m ∧ rng l n
theorem shB_is {rr : List (List Int)} {i n : Nat} (h : chk rr = 0) (hn : 1 ≤ n) : isP (shB rr i n).2 (mOf rr) n := (lsts_mem hn).1 (shB_top h hn).1.1
theorem shB_ge {rr : List (List Int)} {i n : Nat} (h : chk rr = 0) (hn : 1 ≤ n) {l : List Int} (hl : isP l (mOf rr) n) : leastP (rr.getD i []) l n ≤ (shB rr i n).1 := by
  rw [(shB_top h hn).2]; exact (shB_top h hn).1.2.1 l ((lsts_mem hn).2 hl)
theorem shB_first {rr : List (List Int)} {i n : Nat} (h : chk rr = 0) (hn : 1 ≤ n) {l : List Int} (hl : isP l (mOf rr) n) (he : leastP (rr.getD i []) l n = (shB rr i n).1) : l = (shB rr i n).2 ∨ lexlt (shB rr i n).2 l := by
  have ht := (shB_top (i := i) h hn)
  rcases lexlt_tri (a := l) (b := (shB rr i n).2) (by rw [hl.1, (shB_is h hn).1]) with e | e | e
  · exact .inl e
  · have h2 : leastP (rr.getD i []) l n < leastP (rr.getD i []) (shB rr i n).2 n := ht.1.2.2 l ((lsts_mem hn).2 hl) e
    rw [he, ht.2] at h2; omega
  · exact .inr e
theorem shB_sum {rr : List (List Int)} {i n : Nat} (h : chk rr = 0) (hi : i < rr.length) (hn : 1 ≤ n) : (shB rr i n).1 * (n : Int) ≤ allv rr i := by
  have hp := shB_is (i := i) h hn
  have hrow := (gd_of_chk h).row i hi
  rw [(shB_top h hn).2]
  have := leastP_sum (r := rr.getD i []) hp.2 hn
  unfold allv
  rw [hrow]
  rw [hp.1] at this
  exact this
end Go.Proofs.Ytkgogljfngplnaa
set_option linter.unusedVariables false
set_option linter.unusedSimpArgs false
namespace Go.Proofs.Ytkgogljfngplnaa
open Go.Eng

theorem mnTo_mono {f g : Nat → Int} : ∀ {c : Nat}, (∀ i, i ≤ c → f i ≤ g i) → mnTo f c ≤ mnTo g c
  | 0, h => h 0 (Nat.le_refl _)
  | c + 1, h => by
    have h1 := mnTo_mono (c := c) (fun i hi => h i (by omega))
    have h2 := h (c + 1) (Nat.le_refl _)
    simp only [mnTo]; omega
theorem mnTo_plus {f : Nat → Int} {d : Int} : ∀ {c : Nat}, mnTo (fun i => f i + d) c = mnTo f c + d
  | 0 => rfl
  | c + 1 => by have := mnTo_plus (f := f) (d := d) (c := c); simp only [mnTo]; omega

/-- bundle n into the first one -/
def mg (n : Nat) (x : Int) : Int := if x = n then 0 else x
theorem worth_mg {l r : List Int} {n b : Nat} (hr : ∀ j, 0 ≤ r.getD j 0) (hb : b < n) : ∀ {c : Nat}, c ≤ l.length → worth l r b c ≤ worth (l.map (mg n)) r b c
  | 0, _ => Int.le_refl _
  | c + 1, h => by
    have ih := worth_mg (l := l) hr hb (c := c) (by omega)
    simp only [worth]
    rw [map_getD (by omega)]
    have h1 := hr c
    by_cases e : l.getD c 0 = (b : Int)
    · rw [if_pos e, if_pos (by unfold mg; rw [if_neg (by omega)]; exact e)]; omega
    · rw [if_neg e]; split <;> omega
theorem shB_more {rr : List (List Int)} {i n : Nat} (h : chk rr = 0) (hn : 1 ≤ n) : (shB rr i (n + 1)).1 ≤ (shB rr i n).1 := by
  have hgd := gd_of_chk h
  have hp := shB_is (i := i) h (show 1 ≤ n + 1 by omega)
  have hq : isP ((shB rr i (n + 1)).2.map (mg n)) (mOf rr) n := ⟨by rw [List.length_map]; exact hp.1, fun k hk => by
    rw [List.length_map] at hk
    rw [map_getD hk]
    have := hp.2 k hk
    unfold mg; split <;> omega⟩
  refine Int.le_trans ?_ (shB_ge h hn hq)
  rw [(shB_top h (show 1 ≤ n + 1 by omega)).2]
  unfold leastP
  rw [List.length_map]
  obtain ⟨k, hk, e⟩ := mnTo_at (fun b : Nat => worth ((shB rr i (n + 1)).2.map (mg n)) (rr.getD i []) b (shB rr i (n + 1)).2.length) (n - 1)
  rw [e]
  have h1 := mnTo_le (f := fun b : Nat => worth (shB rr i (n + 1)).2 (rr.getD i []) b (shB rr i (n + 1)).2.length) (c := n + 1 - 1) (i := k) (by omega)
  refine Int.le_trans h1 ?_
  exact worth_mg (fun j => (hgd.val i j).1) (by omega) (Nat.le_refl _)

/-- a good that is worth more to an agent -/
def rrU (rr : List (List Int)) (i g : Nat) (more : Int) : List (List Int) := rr.set i ((rr.getD i []).set g ((rr.getD i []).getD g 0 + more))
theorem rrU_len (rr : List (List Int)) (i g : Nat) (m : Int) : (rrU rr i g m).length = rr.length := by simp [rrU]
theorem rrU_row {rr : List (List Int)} {i g j : Nat} {m : Int} (hi : i < rr.length) : (rrU rr i g m).getD j [] = if j = i then (rr.getD i []).set g ((rr.getD i []).getD g 0 + m) else rr.getD j [] := by
  unfold rrU
  rw [List.getD_eq_getElem?_getD, List.getElem?_set]
  by_cases e : i = j
  · subst e; rw [if_pos rfl, if_pos hi, if_pos rfl]; rfl
  · rw [if_neg e, if_neg (fun h => e h.symm), List.getD_eq_getElem?_getD]
theorem rrU_rlen {rr : List (List Int)} {i g j : Nat} {m : Int} (hi : i < rr.length) : ((rrU rr i g m).getD j []).length = (rr.getD j []).length := by
  rw [rrU_row hi]; split
  · rename_i e; subst e; simp
  · rfl
theorem rrU_mOf {rr : List (List Int)} {i g : Nat} {m : Int} (hi : i < rr.length) : mOf (rrU rr i g m) = mOf rr := rrU_rlen hi
theorem rrU_chk {rr : List (List Int)} {i g : Nat} {m : Int} (h : chk rr = 0) (hi : i < rr.length) (hg : g < mOf rr) (h0 : 0 ≤ m) (h1 : (rr.getD i []).getD g 0 + m ≤ 1000) : chk (rrU rr i g m) = 0 := by
  obtain ⟨hb, hx⟩ := chk_zero h
  have hgd := gd_of_chk h
  have hm : mOf rr = (rr.getD 0 []).length := rfl
  refine chk_ok ?_ ?_
  · rintro (h2 | ⟨k, hk, h2⟩)
    · rw [rrU_len] at h2; exact hb (.inl h2)
    · rw [rrU_len] at hk; rw [rrU_rlen hi] at h2; exact hb (.inr ⟨k, hk, h2⟩)
  · rintro (h2 | ⟨k, hk, h2⟩)
    · rw [rrU_len] at h2; exact hx (.inl h2)
    · rw [rrU_len] at hk
      rcases h2 with h2 | ⟨j, hj, h2⟩
      · rw [rrU_rlen hi, rrU_rlen hi] at h2; exact hx (.inr ⟨k, hk, .inl h2⟩)
      · rw [rrU_rlen hi] at hj
        have hv : val (rrU rr i g m) k j = if k = i ∧ j = g then (rr.getD i []).getD g 0 + m else val rr k j := by
          unfold val
          rw [rrU_row hi]
          by_cases e : k = i
          · subst e
            rw [if_pos rfl, set_get (by rw [hgd.row k hi]; exact hg)]
            by_cases e2 : j = g
            · rw [if_pos e2, if_pos ⟨rfl, e2⟩]
            · rw [if_neg e2, if_neg (fun h => e2 h.2)]
          · rw [if_neg e, if_neg (fun h => e h.1)]
        have h3 := hgd.val k j
        have h4 : 0 ≤ (rr.getD i []).getD g 0 := (hgd.val i g).1
        rw [hv] at h2
        split at h2 <;> omega
theorem worth_up {l r : List Int} {g b : Nat} {m : Int} (hg : g < r.length) (h0 : 0 ≤ m) : ∀ c : Nat, worth l r b c ≤ worth l (r.set g (r.getD g 0 + m)) b c ∧ worth l (r.set g (r.getD g 0 + m)) b c ≤ worth l r b c + if g < c then m else 0
  | 0 => by simp [worth]
  | c + 1 => by
    have ih := worth_up (l := l) (b := b) hg h0 c
    simp only [worth]
    rw [set_get hg]
    by_cases e : c = g
    · subst e
      rw [if_pos rfl, if_pos (show c < c + 1 by omega)]
      rw [if_neg (show ¬ c < c by omega)] at ih
      by_cases e2 : l.getD c 0 = (b : Int)
      · rw [if_pos e2, if_pos e2]; omega
      · rw [if_neg e2, if_neg e2]; omega
    · rw [if_neg e]
      by_cases h : g < c
      · rw [if_pos (show g < c + 1 by omega)]; rw [if_pos h] at ih; omega
      · rw [if_neg (show ¬ g < c + 1 by omega)]; rw [if_neg h] at ih; omega
theorem leastP_up {l r : List Int} {g n : Nat} {m : Int} (hg : g < r.length) (h0 : 0 ≤ m) : leastP r l n ≤ leastP (r.set g (r.getD g 0 + m)) l n ∧ leastP (r.set g (r.getD g 0 + m)) l n ≤ leastP r l n + m := by
  refine ⟨mnTo_mono fun b _ => (worth_up hg h0 _).1, ?_⟩
  unfold leastP
  rw [← mnTo_plus]
  refine mnTo_mono fun b _ => ?_
  have := (worth_up (l := l) (b := b) hg h0 l.length).2
  split at this <;> omega
theorem shB_up {rr : List (List Int)} {i g n : Nat} {m : Int} (h : chk rr = 0) (hi : i < rr.length) (hg : g < mOf rr) (h0 : 0 ≤ m) (h1 : (rr.getD i []).getD g 0 + m ≤ 1000) (hn : 1 ≤ n) :
    (shB rr i n).1 ≤ (shB (rrU rr i g m) i n).1 ∧ (shB (rrU rr i g m) i n).1 ≤ (shB rr i n).1 + m := by
  have h2 := rrU_chk h hi hg h0 h1
  have hrow := (gd_of_chk h).row i hi
  have hgl : g < (rr.getD i []).length := by rw [hrow]; exact hg
  have hr : (rrU rr i g m).getD i [] = (rr.getD i []).set g ((rr.getD i []).getD g 0 + m) := by rw [rrU_row hi, if_pos rfl]
  have hp := shB_is (i := i) h hn
  have hq := shB_is (i := i) h2 hn
  rw [rrU_mOf hi] at hq
  constructor
  · have h3 := shB_ge (i := i) h2 hn (l := (shB rr i n).2) (by rw [rrU_mOf hi]; exact hp)
    rw [hr] at h3
    rw [(shB_top h hn).2]
    exact Int.le_trans (leastP_up hgl h0).1 h3
  · have h3 := shB_ge (i := i) h hn hq
    rw [(shB_top h2 hn).2, hr]
    have := (leastP_up (l := (shB (rrU rr i g m) i n).2) (n := n) hgl h0).2
    omega
end Go.Proofs.Ytkgogljfngplnaa
set_option linter.unusedVariables false
set_option linter.unusedSimpArgs false
namespace Go.Proofs.Ytkgogljfngplnaa
open Go.Eng
set_option maxRecDepth 100000
set_option maxHeartbeats 4000000

theorem Blk.nerow2 {w : World} {b : Nat} {T : TypeId} {ys : List Value} {B : Nat} {e : TypeId} {s n : Nat} {v : Value} {xs : List Value} (hk : Blk w b T ys) (h : Go.Eng.Own B e s w v n xs) (he : e ≠ T) : ¬ v.ownBlock = some b := fun hb => by
  rcases h.2 with ⟨rfl, _⟩ | ⟨g, cap, cur, rfl, _, hc, _⟩
  · simp [Value.ownBlock] at hb
  · simp [Value.ownBlock] at hb
    subst hb
    unfold Blk at hk
    rw [hk] at hc
    simp at hc
    exact he hc.2.symm

theorem sharemore_pc {w : World} {gv : Value} {vs : List Value} {rr : List (List Int)} {ag k gd mo : Int} (Hg : Mat w gv vs rr) : PC Try.prog 6 [.agg #[gv], .int .i64 ag, .int .i64 k, .int .i64 gd, .int .i64 mo] w (.bool true) := by
  refine PC.mk tyOk Try.func6 rfl (by kernel_rfl) fun w1 E1 => ?_
  replace Hg := Hg.ext E1
  have EE := Ext.refl w1
  refine Bx.agg fun b2 w2 E2 hb2 Hb _ => ?_
  replace Hg := Hg.ext E2
  replace EE := EE.ext E2
  have i0 : Ints w2 (.slice none 0 0) [] := Own.sl (B := 0) (e := 3) Own.nil
  have cf := fit20_pc Hg i0
  by_cases hf : ¬ great rr [] ∧ chk rr = 0
  · rw [tf_t hf] at cf
    have hck := hf.2
    have hgd := gd_of_chk hck
    have hn6 := hgd.n6
    have hm10 := hgd.m10
    have hmO : mOf rr = (rr.getD 0 []).length := rfl
    by_cases hbad : ag < 0 ∨ (rr.length : Int) ≤ ag ∨ k < 1 ∨ 5 < k
    · repeat' ((conv => whnf); first | (refine Dr.quiet tyOk (by kernel_rfl) ?_) | (refine VC.pure alive20_pc ?_) | (refine VC.pure cf ?_) | (refine Rng.mk (by omega) ?_) | (refine Split.pos (by omega) ?_) | (refine Split.neg (by omega) ?_) | (refine Split.mk (fun h => ?_) (fun h => ?_)) | (refine Need.mk (by omega) ?_) | (refine Ints.ln (by assumption) ?_) | (refine Mat.ln (by assumption) ?_) | (refine Ints.ln (Mat.row (by assumption) _ (by omega)) ?_) | (refine Ints.ix (by assumption) (by omega) ?_) | (refine Mat.ix (by assumption) (by omega) ?_) | (refine Ints.ix (Mat.row (by assumption) _ (by omega)) (by omega) ?_) | (refine Ints.ix (c := 0) (by assumption) (by omega) ?_) | (refine Mat.ix (c := 0) (by assumption) (by omega) ?_) | (refine Ints.ix (c := 0) (Mat.row (by assumption) _ (by omega)) (by omega) ?_) | (refine Ints.ixI (by assumption) (by omega) ?_) | (refine Mat.ixI (by assumption) (by omega) ?_) | (refine Ints.ixI (Mat.row (by assumption) _ (by omega)) (by omega) ?_) | (refine Ints.ld (by assumption) (by omega) ?_) | (refine Mat.ld (by assumption) (by omega) ?_) | (refine Ints.ld (Mat.row (by assumption) _ (by omega)) (by omega) ?_) | (refine At.ld (by assumption) rfl ?_) | (refine At.ldN (by assumption) rfl ?_) | (refine Prs.ln (by assumption) ?_) | (refine Trs.ln (by assumption) ?_) | (refine Prs.ix (by assumption) (by omega) ?_) | (refine Trs.ix (by assumption) (by omega) ?_) | (refine Prs.ldN (by assumption) (by omega) ?_) | (refine Trs.ldN (by assumption) (by omega) ?_) | (refine At.ldN (Blk.at (by assumption)) rfl ?_) | (refine At.ld (Blk.at (by assumption)) rfl ?_) | (refine IxA.mk (by omega) ?_) | (refine Sl.ln (Own.sl (by assumption)) ?_) | (refine Ints.ix (Own.sl (by assumption)) (by omega) ?_) | (refine Ints.ixI (Own.sl (by assumption)) (by omega) ?_) | (refine Ints.ld (Own.sl (by assumption)) (by omega) ?_))
      all_goals exact ⟨rfl, EE⟩
    · obtain ⟨i, rfl⟩ : ∃ i : Nat, ag = (i : Int) := ⟨ag.toNat, by omega⟩
      obtain ⟨n, rfl⟩ : ∃ n : Nat, k = (n : Int) := ⟨k.toNat, by omega⟩
      have hi : i < rr.length := by omega
      have hn1 : 1 ≤ n := by omega
      have hrow := hgd.row i hi
      have hb1 : ¬ badO rr (i : Int) (n : Int) := by unfold badO; omega
      have hb2 : ¬ badO rr (i : Int) (((n + 1 : Nat)) : Int) := by unfold badO; omega
      have hmore := shB_more (i := i) hck hn1
      repeat' ((conv => whnf); first | (refine Dr.quiet tyOk (by kernel_rfl) ?_) | (refine VC.pure alive20_pc ?_) | (refine VC.pure cf ?_) | (refine Rng.mk (by omega) ?_) | (refine Split.pos (by omega) ?_) | (refine Split.neg (by omega) ?_) | (refine Split.mk (fun h => ?_) (fun h => ?_)) | (refine Need.mk (by omega) ?_) | (refine Ints.ln (by assumption) ?_) | (refine Mat.ln (by assumption) ?_) | (refine Ints.ln (Mat.row (by assumption) _ (by omega)) ?_) | (refine Ints.ix (by assumption) (by omega) ?_) | (refine Mat.ix (by assumption) (by omega) ?_) | (refine Ints.ix (Mat.row (by assumption) _ (by omega)) (by omega) ?_) | (refine Ints.ix (c := 0) (by assumption) (by omega) ?_) | (refine Mat.ix (c := 0) (by assumption) (by omega) ?_) | (refine Ints.ix (c := 0) (Mat.row (by assumption) _ (by omega)) (by omega) ?_) | (refine Ints.ixI (by assumption) (by omega) ?_) | (refine Mat.ixI (by assumption) (by omega) ?_) | (refine Ints.ixI (Mat.row (by assumption) _ (by omega)) (by omega) ?_) | (refine Ints.ld (by assumption) (by omega) ?_) | (refine Mat.ld (by assumption) (by omega) ?_) | (refine Ints.ld (Mat.row (by assumption) _ (by omega)) (by omega) ?_) | (refine At.ld (by assumption) rfl ?_) | (refine At.ldN (by assumption) rfl ?_) | (refine Prs.ln (by assumption) ?_) | (refine Trs.ln (by assumption) ?_) | (refine Prs.ix (by assumption) (by omega) ?_) | (refine Trs.ix (by assumption) (by omega) ?_) | (refine Prs.ldN (by assumption) (by omega) ?_) | (refine Trs.ldN (by assumption) (by omega) ?_) | (refine At.ldN (Blk.at (by assumption)) rfl ?_) | (refine At.ld (Blk.at (by assumption)) rfl ?_) | (refine IxA.mk (by omega) ?_) | (refine Sl.ln (Own.sl (by assumption)) ?_) | (refine Ints.ix (Own.sl (by assumption)) (by omega) ?_) | (refine Ints.ixI (Own.sl (by assumption)) (by omega) ?_) | (refine Ints.ld (Own.sl (by assumption)) (by omega) ?_))
      conv => whnf
      refine VC.rc (sof_rc (ag := (i : Int)) (k := (n : Int)) Hg) ?_
      rintro _ w3 E3 ⟨pv, rfl, HP⟩
      replace Hg := Hg.ext E3
      replace EE := EE.ext E3
      replace Hb := Hb.ext E3
      rw [ofR, ofE_ok hck hb1, if_pos rfl, Int.toNat_natCast, Int.toNat_natCast]
      repeat' ((conv => whnf); first | (refine Dr.quiet tyOk (by kernel_rfl) ?_) | (refine Rng.mk (by omega) ?_) | (refine Split.pos (by omega) ?_) | (refine Split.neg (by omega) ?_) | (refine Split.mk (fun h => ?_) (fun h => ?_)) | (refine Need.mk (by omega) ?_) | (refine Ints.ln (by assumption) ?_) | (refine Mat.ln (by assumption) ?_) | (refine Ints.ln (Mat.row (by assumption) _ (by omega)) ?_) | (refine Ints.ix (by assumption) (by omega) ?_) | (refine Mat.ix (by assumption) (by omega) ?_) | (refine Ints.ix (Mat.row (by assumption) _ (by omega)) (by omega) ?_) | (refine Ints.ix (c := 0) (by assumption) (by omega) ?_) | (refine Mat.ix (c := 0) (by assumption) (by omega) ?_) | (refine Ints.ix (c := 0) (Mat.row (by assumption) _ (by omega)) (by omega) ?_) | (refine Ints.ixI (by assumption) (by omega) ?_) | (refine Mat.ixI (by assumption) (by omega) ?_) | (refine Ints.ixI (Mat.row (by assumption) _ (by omega)) (by omega) ?_) | (refine Ints.ld (by assumption) (by omega) ?_) | (refine Mat.ld (by assumption) (by omega) ?_) | (refine Ints.ld (Mat.row (by assumption) _ (by omega)) (by omega) ?_) | (refine At.ld (by assumption) rfl ?_) | (refine At.ldN (by assumption) rfl ?_) | (refine Prs.ln (by assumption) ?_) | (refine Trs.ln (by assumption) ?_) | (refine Prs.ix (by assumption) (by omega) ?_) | (refine Trs.ix (by assumption) (by omega) ?_) | (refine Prs.ldN (by assumption) (by omega) ?_) | (refine Trs.ldN (by assumption) (by omega) ?_) | (refine At.ldN (Blk.at (by assumption)) rfl ?_) | (refine At.ld (Blk.at (by assumption)) rfl ?_) | (refine IxA.mk (by omega) ?_) | (refine Sl.ln (Own.sl (by assumption)) ?_) | (refine Ints.ix (Own.sl (by assumption)) (by omega) ?_) | (refine Ints.ixI (Own.sl (by assumption)) (by omega) ?_) | (refine Ints.ld (Own.sl (by assumption)) (by omega) ?_))
      conv => whnf
      refine VC.rc (sof_rc (ag := (i : Int)) (k := ((n + 1 : Nat) : Int)) Hg) ?_
      rintro _ w4 E4 ⟨qv, rfl, HQ⟩
      replace Hg := Hg.ext E4
      replace EE := EE.ext E4
      replace Hb := Hb.ext E4
      replace HP := HP.ext E4
      rw [ofR, ofE_ok hck hb2, if_pos rfl, Int.toNat_natCast, Int.toNat_natCast]
      have hv : ∀ j, 0 ≤ (rr.getD i []).getD j 0 ∧ (rr.getD i []).getD j 0 ≤ 1000 := fun j => hgd.val i j
      by_cases hgb : gd < 0 ∨ ((rr.getD 0 []).length : Int) ≤ gd
      · repeat' ((conv => whnf); first | (refine Dr.quiet tyOk (by kernel_rfl) ?_) | (refine Rng.mk (by omega) ?_) | (refine Split.pos (by omega) ?_) | (refine Split.neg (by omega) ?_) | (refine Split.mk (fun h => ?_) (fun h => ?_)) | (refine Need.mk (by omega) ?_) | (refine Ints.ln (by assumption) ?_) | (refine Mat.ln (by assumption) ?_) | (refine Ints.ln (Mat.row (by assumption) _ (by omega)) ?_) | (refine Ints.ix (by assumption) (by omega) ?_) | (refine Mat.ix (by assumption) (by omega) ?_) | (refine Ints.ix (Mat.row (by assumption) _ (by omega)) (by omega) ?_) | (refine Ints.ix (c := 0) (by assumption) (by omega) ?_) | (refine Mat.ix (c := 0) (by assumption) (by omega) ?_) | (refine Ints.ix (c := 0) (Mat.row (by assumption) _ (by omega)) (by omega) ?_) | (refine Ints.ixI (by assumption) (by omega) ?_) | (refine Mat.ixI (by assumption) (by omega) ?_) | (refine Ints.ixI (Mat.row (by assumption) _ (by omega)) (by omega) ?_) | (refine Ints.ld (by assumption) (by omega) ?_) | (refine Mat.ld (by assumption) (by omega) ?_) | (refine Ints.ld (Mat.row (by assumption) _ (by omega)) (by omega) ?_) | (refine At.ld (by assumption) rfl ?_) | (refine At.ldN (by assumption) rfl ?_) | (refine Prs.ln (by assumption) ?_) | (refine Trs.ln (by assumption) ?_) | (refine Prs.ix (by assumption) (by omega) ?_) | (refine Trs.ix (by assumption) (by omega) ?_) | (refine Prs.ldN (by assumption) (by omega) ?_) | (refine Trs.ldN (by assumption) (by omega) ?_) | (refine At.ldN (Blk.at (by assumption)) rfl ?_) | (refine At.ld (Blk.at (by assumption)) rfl ?_) | (refine IxA.mk (by omega) ?_) | (refine Sl.ln (Own.sl (by assumption)) ?_) | (refine Ints.ix (Own.sl (by assumption)) (by omega) ?_) | (refine Ints.ixI (Own.sl (by assumption)) (by omega) ?_) | (refine Ints.ld (Own.sl (by assumption)) (by omega) ?_))
        all_goals exact ⟨rfl, EE⟩
      · obtain ⟨g, rfl⟩ : ∃ g : Nat, gd = (g : Int) := ⟨gd.toNat, by omega⟩
        have hg : g < mOf rr := by omega
        have hvg := hv g
        by_cases hmb : mo < 0 ∨ 1000 - (rr.getD i []).getD g 0 < mo
        · repeat' ((conv => whnf); first | (refine Dr.quiet tyOk (by kernel_rfl) ?_) | (refine Rng.mk (by omega) ?_) | (refine Split.pos (by omega) ?_) | (refine Split.neg (by omega) ?_) | (refine Split.mk (fun h => ?_) (fun h => ?_)) | (refine Need.mk (by omega) ?_) | (refine Ints.ln (by assumption) ?_) | (refine Mat.ln (by assumption) ?_) | (refine Ints.ln (Mat.row (by assumption) _ (by omega)) ?_) | (refine Ints.ix (by assumption) (by omega) ?_) | (refine Mat.ix (by assumption) (by omega) ?_) | (refine Ints.ix (Mat.row (by assumption) _ (by omega)) (by omega) ?_) | (refine Ints.ix (c := 0) (by assumption) (by omega) ?_) | (refine Mat.ix (c := 0) (by assumption) (by omega) ?_) | (refine Ints.ix (c := 0) (Mat.row (by assumption) _ (by omega)) (by omega) ?_) | (refine Ints.ixI (by assumption) (by omega) ?_) | (refine Mat.ixI (by assumption) (by omega) ?_) | (refine Ints.ixI (Mat.row (by assumption) _ (by omega)) (by omega) ?_) | (refine Ints.ld (by assumption) (by omega) ?_) | (refine Mat.ld (by assumption) (by omega) ?_) | (refine Ints.ld (Mat.row (by assumption) _ (by omega)) (by omega) ?_) | (refine At.ld (by assumption) rfl ?_) | (refine At.ldN (by assumption) rfl ?_) | (refine Prs.ln (by assumption) ?_) | (refine Trs.ln (by assumption) ?_) | (refine Prs.ix (by assumption) (by omega) ?_) | (refine Trs.ix (by assumption) (by omega) ?_) | (refine Prs.ldN (by assumption) (by omega) ?_) | (refine Trs.ldN (by assumption) (by omega) ?_) | (refine At.ldN (Blk.at (by assumption)) rfl ?_) | (refine At.ld (Blk.at (by assumption)) rfl ?_) | (refine IxA.mk (by omega) ?_) | (refine Sl.ln (Own.sl (by assumption)) ?_) | (refine Ints.ix (Own.sl (by assumption)) (by omega) ?_) | (refine Ints.ixI (Own.sl (by assumption)) (by omega) ?_) | (refine Ints.ld (Own.sl (by assumption)) (by omega) ?_))
          all_goals exact ⟨rfl, EE⟩
        · have hup := shB_up (n := n) hck hi hg (by omega : 0 ≤ mo) (by omega) hn1
          have hck2 := rrU_chk (m := mo) hck hi hg (by omega) (by omega)
          repeat' ((conv => whnf); first | (refine Dr.quiet tyOk (by kernel_rfl) ?_) | (refine Rng.mk (by omega) ?_) | (refine Split.pos (by omega) ?_) | (refine Split.neg (by omega) ?_) | (refine Split.mk (fun h => ?_) (fun h => ?_)) | (refine Need.mk (by omega) ?_) | (refine Ints.ln (by assumption) ?_) | (refine Mat.ln (by assumption) ?_) | (refine Ints.ln (Mat.row (by assumption) _ (by omega)) ?_) | (refine Ints.ix (by assumption) (by omega) ?_) | (refine Mat.ix (by assumption) (by omega) ?_) | (refine Ints.ix (Mat.row (by assumption) _ (by omega)) (by omega) ?_) | (refine Ints.ix (c := 0) (by assumption) (by omega) ?_) | (refine Mat.ix (c := 0) (by assumption) (by omega) ?_) | (refine Ints.ix (c := 0) (Mat.row (by assumption) _ (by omega)) (by omega) ?_) | (refine Ints.ixI (by assumption) (by omega) ?_) | (refine Mat.ixI (by assumption) (by omega) ?_) | (refine Ints.ixI (Mat.row (by assumption) _ (by omega)) (by omega) ?_) | (refine Ints.ld (by assumption) (by omega) ?_) | (refine Mat.ld (by assumption) (by omega) ?_) | (refine Ints.ld (Mat.row (by assumption) _ (by omega)) (by omega) ?_) | (refine At.ld (by assumption) rfl ?_) | (refine At.ldN (by assumption) rfl ?_) | (refine Prs.ln (by assumption) ?_) | (refine Trs.ln (by assumption) ?_) | (refine Prs.ix (by assumption) (by omega) ?_) | (refine Trs.ix (by assumption) (by omega) ?_) | (refine Prs.ldN (by assumption) (by omega) ?_) | (refine Trs.ldN (by assumption) (by omega) ?_) | (refine At.ldN (Blk.at (by assumption)) rfl ?_) | (refine At.ld (Blk.at (by assumption)) rfl ?_) | (refine IxA.mk (by omega) ?_) | (refine Sl.ln (Own.sl (by assumption)) ?_) | (refine Ints.ix (Own.sl (by assumption)) (by omega) ?_) | (refine Ints.ixI (Own.sl (by assumption)) (by omega) ?_) | (refine Ints.ld (Own.sl (by assumption)) (by omega) ?_))
          have Hg__1 := Hg
          have EE__1 := EE
          have Hb__1 := Hb
          have HP__1 := HP
          have HQ__1 := HQ
          refine VC.rc (twin2_rc Hg (by omega) (fun j hj => by have := hgd.row j hj; omega)) ?_
          rintro tv w20 E20 ⟨us, HO⟩
          replace Hg := Hg.ext E20
          replace EE := EE.ext E20
          replace Hb := Hb.ext E20
          replace HP := HP.ext E20
          replace HQ := HQ.ext E20
          have EL1 : Ext w4 w20 := E20
          have HPM := HO.om
          conv => whnf
          refine VS.field1 Try.underlying24 eGoods (by kernel_rfl) rfl (Sl.cells (Own.sl HPM.top)).1 ?_
          have Hg__2 := Hg
          have EE__2 := EE
          have Hb__2 := Hb
          have HP__2 := HP
          have HQ__2 := HQ
          have EL1__2 := EL1
          have HO__2 := HO
          have HPM__2 := HPM
          conv => whnf
          refine VE.alloc eGoods fun bk w21 E21 hb_bk Hk => ?_
          replace Hg := Hg.ext E21
          replace EE := EE.ext E21
          replace Hb := Hb.ext E21
          replace HP := HP.ext E21
          replace HQ := HQ.ext E21
          replace EL1 := EL1.ext E21
          replace HO := HO.ext E21
          replace HPM := HPM.ext E21
          have EL2 := E21
          conv => whnf
          refine Blk.all Hk (by kernel_rfl) (by decide) rfl rfl (by intro v hv; simp at hv; subst hv; exact (Sl.cells (Own.sl HPM.top)).2) fun w22 G22 Hk' => ?_
          have E22 : Ext w20 w22 := EL2.new G22 fun i hi hk => by omega
          replace Hk := Hk'.at
          replace Hg := Hg__2.ext E22
          replace EE := EE__2.ext E22
          replace Hb := Hb__2.ext E22
          replace HP := HP__2.ext E22
          replace HQ := HQ__2.ext E22
          replace EL1 := EL1__2.ext E22
          replace HO := HO__2.ext E22
          replace HPM := HPM__2.ext E22
          replace EL2 := E22
          have HKB := Hk'
          have HM0 := HO.mat
          have hri := hrow
          repeat' ((conv => whnf); first | (refine Dr.quiet tyOk (by kernel_rfl) ?_) | (refine Rng.mk (by omega) ?_) | (refine Split.pos (by omega) ?_) | (refine Split.neg (by omega) ?_) | (refine Split.mk (fun h => ?_) (fun h => ?_)) | (refine Need.mk (by omega) ?_) | (refine Ints.ln (by assumption) ?_) | (refine Mat.ln (by assumption) ?_) | (refine Ints.ln (Mat.row (by assumption) _ (by omega)) ?_) | (refine Ints.ix (by assumption) (by omega) ?_) | (refine Mat.ix (by assumption) (by omega) ?_) | (refine Ints.ix (Mat.row (by assumption) _ (by omega)) (by omega) ?_) | (refine Ints.ix (c := 0) (by assumption) (by omega) ?_) | (refine Mat.ix (c := 0) (by assumption) (by omega) ?_) | (refine Ints.ix (c := 0) (Mat.row (by assumption) _ (by omega)) (by omega) ?_) | (refine Ints.ixI (by assumption) (by omega) ?_) | (refine Mat.ixI (by assumption) (by omega) ?_) | (refine Ints.ixI (Mat.row (by assumption) _ (by omega)) (by omega) ?_) | (refine Ints.ld (by assumption) (by omega) ?_) | (refine Mat.ld (by assumption) (by omega) ?_) | (refine Ints.ld (Mat.row (by assumption) _ (by omega)) (by omega) ?_) | (refine At.ld (by assumption) rfl ?_) | (refine At.ldN (by assumption) rfl ?_) | (refine Prs.ln (by assumption) ?_) | (refine Trs.ln (by assumption) ?_) | (refine Prs.ix (by assumption) (by omega) ?_) | (refine Trs.ix (by assumption) (by omega) ?_) | (refine Prs.ldN (by assumption) (by omega) ?_) | (refine Trs.ldN (by assumption) (by omega) ?_) | (refine At.ldN (Blk.at (by assumption)) rfl ?_) | (refine At.ld (Blk.at (by assumption)) rfl ?_) | (refine IxA.mk (by omega) ?_) | (refine Sl.ln (Own.sl (by assumption)) ?_) | (refine Ints.ix (Own.sl (by assumption)) (by omega) ?_) | (refine Ints.ixI (Own.sl (by assumption)) (by omega) ?_) | (refine Ints.ld (Own.sl (by assumption)) (by omega) ?_))
          refine OMD.st HO hi (by omega) fun w40 G40 HO40 => ?_
          have E40 : Ext w4 w40 := Own.keep (HO.row i hi) EL1 (Nat.le_refl _) G40
          replace HKB := Blk.gr HKB G40 (Blk.nerow2 HKB (HO.row i hi) (by decide))
          have Hg := Hg__1.ext E40
          have Hb := Hb__1.ext E40
          have EE := EE__1.ext E40
          have HM : Mat w40 tv us (rrU rr i g mo) := HO40.mat
          have Hk := Blk.at HKB
          have hb3 : ¬ badO (rrU rr i g mo) (i : Int) (n : Int) := by unfold badO; rw [rrU_len]; omega
          repeat' ((conv => whnf); first | (refine Dr.quiet tyOk (by kernel_rfl) ?_) | (refine Rng.mk (by omega) ?_) | (refine Split.pos (by omega) ?_) | (refine Split.neg (by omega) ?_) | (refine Split.mk (fun h => ?_) (fun h => ?_)) | (refine Need.mk (by omega) ?_) | (refine Ints.ln (by assumption) ?_) | (refine Mat.ln (by assumption) ?_) | (refine Ints.ln (Mat.row (by assumption) _ (by omega)) ?_) | (refine Ints.ix (by assumption) (by omega) ?_) | (refine Mat.ix (by assumption) (by omega) ?_) | (refine Ints.ix (Mat.row (by assumption) _ (by omega)) (by omega) ?_) | (refine Ints.ix (c := 0) (by assumption) (by omega) ?_) | (refine Mat.ix (c := 0) (by assumption) (by omega) ?_) | (refine Ints.ix (c := 0) (Mat.row (by assumption) _ (by omega)) (by omega) ?_) | (refine Ints.ixI (by assumption) (by omega) ?_) | (refine Mat.ixI (by assumption) (by omega) ?_) | (refine Ints.ixI (Mat.row (by assumption) _ (by omega)) (by omega) ?_) | (refine Ints.ld (by assumption) (by omega) ?_) | (refine Mat.ld (by assumption) (by omega) ?_) | (refine Ints.ld (Mat.row (by assumption) _ (by omega)) (by omega) ?_) | (refine At.ld (by assumption) rfl ?_) | (refine At.ldN (by assumption) rfl ?_) | (refine Prs.ln (by assumption) ?_) | (refine Trs.ln (by assumption) ?_) | (refine Prs.ix (by assumption) (by omega) ?_) | (refine Trs.ix (by assumption) (by omega) ?_) | (refine Prs.ldN (by assumption) (by omega) ?_) | (refine Trs.ldN (by assumption) (by omega) ?_) | (refine At.ldN (Blk.at (by assumption)) rfl ?_) | (refine At.ld (Blk.at (by assumption)) rfl ?_) | (refine IxA.mk (by omega) ?_) | (refine Sl.ln (Own.sl (by assumption)) ?_) | (refine Ints.ix (Own.sl (by assumption)) (by omega) ?_) | (refine Ints.ixI (Own.sl (by assumption)) (by omega) ?_) | (refine Ints.ld (Own.sl (by assumption)) (by omega) ?_))
          conv => whnf
          refine VC.rc (sof_rc (ag := (i : Int)) (k := (n : Int)) HM) ?_
          rintro _ w41 E41 ⟨zv, rfl, HZ⟩
          replace Hg := Hg.ext E41
          replace Hb := Hb.ext E41
          replace EE := EE.ext E41
          replace HM := HM.ext E41
          replace Hk := Hk.ext E41
          rw [ofR, ofE_ok hck2 hb3, if_pos rfl, Int.toNat_natCast, Int.toNat_natCast]
          have hbdx := shB_bd (i := i) hck hn1
          repeat' ((conv => whnf); first | (refine Dr.quiet tyOk (by kernel_rfl) ?_) | (refine Rng.mk (by omega) ?_) | (refine Split.pos (by omega) ?_) | (refine Split.neg (by omega) ?_) | (refine Split.mk (fun h => ?_) (fun h => ?_)) | (refine Need.mk (by omega) ?_) | (refine Ints.ln (by assumption) ?_) | (refine Mat.ln (by assumption) ?_) | (refine Ints.ln (Mat.row (by assumption) _ (by omega)) ?_) | (refine Ints.ix (by assumption) (by omega) ?_) | (refine Mat.ix (by assumption) (by omega) ?_) | (refine Ints.ix (Mat.row (by assumption) _ (by omega)) (by omega) ?_) | (refine Ints.ix (c := 0) (by assumption) (by omega) ?_) | (refine Mat.ix (c := 0) (by assumption) (by omega) ?_) | (refine Ints.ix (c := 0) (Mat.row (by assumption) _ (by omega)) (by omega) ?_) | (refine Ints.ixI (by assumption) (by omega) ?_) | (refine Mat.ixI (by assumption) (by omega) ?_) | (refine Ints.ixI (Mat.row (by assumption) _ (by omega)) (by omega) ?_) | (refine Ints.ld (by assumption) (by omega) ?_) | (refine Mat.ld (by assumption) (by omega) ?_) | (refine Ints.ld (Mat.row (by assumption) _ (by omega)) (by omega) ?_) | (refine At.ld (by assumption) rfl ?_) | (refine At.ldN (by assumption) rfl ?_) | (refine Prs.ln (by assumption) ?_) | (refine Trs.ln (by assumption) ?_) | (refine Prs.ix (by assumption) (by omega) ?_) | (refine Trs.ix (by assumption) (by omega) ?_) | (refine Prs.ldN (by assumption) (by omega) ?_) | (refine Trs.ldN (by assumption) (by omega) ?_) | (refine At.ldN (Blk.at (by assumption)) rfl ?_) | (refine At.ld (Blk.at (by assumption)) rfl ?_) | (refine IxA.mk (by omega) ?_) | (refine Sl.ln (Own.sl (by assumption)) ?_) | (refine Ints.ix (Own.sl (by assumption)) (by omega) ?_) | (refine Ints.ixI (Own.sl (by assumption)) (by omega) ?_) | (refine Ints.ld (Own.sl (by assumption)) (by omega) ?_))
          exact ⟨rfl, EE⟩
  · rw [tf_f hf] at cf
    repeat' ((conv => whnf); first | (refine Dr.quiet tyOk (by kernel_rfl) ?_) | (refine VC.pure alive20_pc ?_) | (refine VC.pure cf ?_) | (refine Rng.mk (by omega) ?_) | (refine Split.pos (by omega) ?_) | (refine Split.neg (by omega) ?_) | (refine Split.mk (fun h => ?_) (fun h => ?_)) | (refine Need.mk (by omega) ?_) | (refine Ints.ln (by assumption) ?_) | (refine Mat.ln (by assumption) ?_) | (refine Ints.ln (Mat.row (by assumption) _ (by omega)) ?_) | (refine Ints.ix (by assumption) (by omega) ?_) | (refine Mat.ix (by assumption) (by omega) ?_) | (refine Ints.ix (Mat.row (by assumption) _ (by omega)) (by omega) ?_) | (refine Ints.ix (c := 0) (by assumption) (by omega) ?_) | (refine Mat.ix (c := 0) (by assumption) (by omega) ?_) | (refine Ints.ix (c := 0) (Mat.row (by assumption) _ (by omega)) (by omega) ?_) | (refine Ints.ixI (by assumption) (by omega) ?_) | (refine Mat.ixI (by assumption) (by omega) ?_) | (refine Ints.ixI (Mat.row (by assumption) _ (by omega)) (by omega) ?_) | (refine Ints.ld (by assumption) (by omega) ?_) | (refine Mat.ld (by assumption) (by omega) ?_) | (refine Ints.ld (Mat.row (by assumption) _ (by omega)) (by omega) ?_) | (refine At.ld (by assumption) rfl ?_) | (refine At.ldN (by assumption) rfl ?_) | (refine Prs.ln (by assumption) ?_) | (refine Trs.ln (by assumption) ?_) | (refine Prs.ix (by assumption) (by omega) ?_) | (refine Trs.ix (by assumption) (by omega) ?_) | (refine Prs.ldN (by assumption) (by omega) ?_) | (refine Trs.ldN (by assumption) (by omega) ?_) | (refine At.ldN (Blk.at (by assumption)) rfl ?_) | (refine At.ld (Blk.at (by assumption)) rfl ?_) | (refine IxA.mk (by omega) ?_) | (refine Sl.ln (Own.sl (by assumption)) ?_) | (refine Ints.ix (Own.sl (by assumption)) (by omega) ?_) | (refine Ints.ixI (Own.sl (by assumption)) (by omega) ?_) | (refine Ints.ld (Own.sl (by assumption)) (by omega) ?_))
    exact ⟨rfl, EE⟩

open Go.ChangeShapes Go.WideShapes Go.ChangeAt Go.RowKit Go.Eng in
theorem shareMore_lifted (os : Os) (started : os.Started) (H : Type) (enc : TypeId × Value → H) :
    ReturnsInHanded {} Try.checked os 6 .any (Rows.shareMoreSpec.pre6 enc Try.prog Try.f6 Rows.shareMoreRow.domain false) (Rows.shareMoreSpec.post enc Try.prog Try.f6 false true false false) := by
  refine returnsInHanded_of_change (C := Try.checked) own started (by kernel_rfl) Try.func6
    (ChangeSpec.witness6 (enc := enc) (C := Try.checked) false ⟨#[], #[.agg #[.slice none 0 0], .int .i64 0, .int .i64 0, .int .i64 0, .int .i64 0], []⟩ 8 (by kernel_rfl) (by kernel_rfl) (by kernel_rfl) (by kernel_rfl)) ?_
  intro W base args ds gs before hval0 hW hcnd _
  have hval : ∀ (j : Nat) t v, Try.f6.params[j]? = some t → args[j]? = some v → Value.okWide Try.prog W .any base t v := hval0
  have hW' := hW
  obtain ⟨p, q, hA0, hV, e0, hfz, hnd⟩ := hW
  have hA : DataW.TrodAll enc Try.prog W 0 (fun _ => true) true Try.f6.params.toList args.toList ds p := hA0
  rw [Try.params6] at hA hval
  clear hfz hnd hV e0 hval0
  obtain ⟨v0, vs0, d0, ds0, p0, q0, e0, rfl, f0, h0, t0⟩ := trodAll_cons hA
  obtain ⟨v1, vs1, d1, ds1, p1, q1, e1, rfl, f1, h1, t1⟩ := trodAll_cons t0
  subst e1
  obtain ⟨v2, vs2, d2, ds2, p2, q2, e2, rfl, f2, h2, t2⟩ := trodAll_cons t1
  subst e2
  obtain ⟨v3, vs3, d3, ds3, p3, q3, e3, rfl, f3, h3, t3⟩ := trodAll_cons t2
  subst e3
  obtain ⟨v4, vs4, d4, ds4, p4, q4, e4, rfl, f4, h4, t4⟩ := trodAll_cons t3
  subst e4
  obtain ⟨ee, rfl, _⟩ := trodAll_nil t4
  subst ee
  obtain rfl : args = #[v0, v1, v2, v3, v4] := Array.toList_inj.1 (by simpa using e0)
  obtain ⟨g0, s0, r0, rfl, H0, R0⟩ := open_G Try.underlying24 rfl (by kernel_rfl) (by kernel_rfl) Try.underlying22 Try.underlying27 Try.underlying3 (by kernel_rfl) (by kernel_rfl) (hval 0 24 _ rfl rfl) h0
  obtain ⟨n1, rfl, R1⟩ := open_I Try.underlying3 (hval 1 3 _ rfl rfl) h1
  obtain ⟨n2, rfl, R2⟩ := open_I Try.underlying3 (hval 2 3 _ rfl rfl) h2
  obtain ⟨n3, rfl, R3⟩ := open_I Try.underlying3 (hval 3 3 _ rfl rfl) h3
  obtain ⟨n4, rfl, R4⟩ := open_I Try.underlying3 (hval 4 3 _ rfl rfl) h4
  exact law_calls laidOut (by rw [Try.params6]; intro t ht; revert t; decide +kernel) rfl Try.underlying4 rfl ⟨rfl, rfl, rfl⟩ hW' (sharemore_pc H0)

theorem shareMore_holds : Rows.ShareMoreSaid :=
  OpenClaim.holds_of_wide 6 Try.f6 rfl rfl rfl rfl rfl rfl rfl ⟨rfl, rfl, rfl, rfl, rfl⟩ rfl rfl rfl rfl rfl (by kernel_rfl) Try.func6 (by kernel_rfl)
    (of_decide_eq_true (by kernel_rfl)) (by unfold Func.isWrapper; first | (rw [if_pos (by decide +kernel)]; kernel_rfl) | (rw [if_neg (by decide +kernel)]; exact ⟨rfl, rfl⟩))
    (fun os started H enc _ => shareMore_lifted os started H enc)
end Go.Proofs.Ytkgogljfngplnaa
